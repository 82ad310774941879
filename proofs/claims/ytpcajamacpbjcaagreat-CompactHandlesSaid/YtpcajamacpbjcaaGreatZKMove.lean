/- Texts laid together: Fwr SameP Same2 To Put HdM. -/
import Derived.Test.YtpcajamacpbjcaaGreatZKHeap
import Derived.Test.YtpcajamacpbjcaaGreatZKHead
import Derived.Laws.OwnMore
namespace Go.Proofs.YtpcajamacpbjcaaGreat
open Lib (hid)
open Go.RowKit
def zpe (m:Int × Int):List Value:=[.int .i64 m.1,.int .i64 m.2]
theorem zt2 (m:Int × Int):(zpe m).length=2:=rfl
def RdM (w:World) (B:Nat) (A:Option Addr) (l:List (Int × Int)):Prop:=Rd w B A (l.flatMap zpe)
theorem RdM.at_ {w:World} {B:Nat} {A:Option Addr} {l:List (Int × Int)} (h:RdM w B A l) {k:Nat} (hk:k<l.length) :
  ∃ b off,A=some ⟨b,off,none⟩∧b<B∧w.cell? ⟨b,off+k * 2,none⟩=some (.int .i64 l[k].1)∧w.cell? ⟨b,off+k * 2+1,none⟩=some (.int .i64 l[k].2):=by
 obtain ⟨b,off,e,hb,hc⟩:=Rd.at_flat zt2 h (by omega) hk
 exact ⟨b,off,e,hb,hc 0 (by omega),hc 1 (by omega)⟩
theorem zE5:(Tryz.prog.info? 275).map (fun i=>(i.zero,i.size,i.bytes))=some (some (.agg #[.int .i64 0,.int .i64 0]),2,16):=by kernel_rfl
def zwn (ws:List Nat) (f s:Int) (e:Ending) (w':World):Prop:=∃ A c,e=.returned (.tuple #[.slice A (zhn ws f s).length c,.int .i64 (zbi ws f s)])∧RdM w' w'.heap.size A (zhn ws f s)∧(zhn ws f s).length≤c
theorem zkd {ws:List Nat} {f s r:Int} {w':World} (hr:zbi ws f s=r) (h0:r≠0):zwn ws f s (.returned (.tuple #[.slice none 0 0,.int .i64 r])) w':=by
 subst hr
 have:zhn ws f s=[]:=by simp[zhn,h0]
 exact ⟨none,0,by rw[this];rfl,by rw[this];exact Rd.nil_,by rw[this];simp⟩
theorem zLe {n:Nat} {f s:Int} (h:zgy n f s=true) :
   ((f % 2 != 0)=true∧(f.tmod 2 != 0)=true) ∨
   ((
     f % 2 != 0)=false∧(f.tmod 2 != 0)=false)∧(((s % 2 != 0)=true∧(s.tmod 2 != 0)=true) ∨
     ((s % 2 != 0)=false∧(s.tmod 2 != 0)=false)∧(s<128∨128≤s∧f<s∨(128≤s∧s≤f)∧(n:Int)<f)):=by
 rw[zju] at h
 rw[zpj,zpj]
 by_cases h1:f % 2=0
 · have e1:(f % 2 != 0)=false:=by rw[bne_eq_false_iff_eq];exact h1
   rw[e1]
   refine .inr ⟨⟨rfl,rfl⟩,?_⟩
   by_cases h2:s % 2=0
   · have e2:(s % 2 != 0)=false:=by rw[bne_eq_false_iff_eq];exact h2
     rw[e2]
     refine .inr ⟨⟨rfl,rfl⟩,?_⟩
     omega
   · have e2:(s % 2 != 0)=true:=by rw[bne_iff_ne];exact h2
     rw[e2];exact .inl ⟨rfl,rfl⟩
 · have e1:(f % 2 != 0)=true:=by rw[bne_iff_ne];exact h1
   rw[e1];exact .inl ⟨rfl,rfl⟩
theorem zAf {ws:List Nat} {f s:Int} (h:zah (ws.length:Int)=false):zbi ws f s=8:=by
 unfold zbi;rw[ze3,h];rfl
theorem zCr {ws:List Nat} {f s:Int} (h:zah (ws.length:Int)=true) (h2:zgy ws.length f s=true):zbi ws f s=2:=by
 unfold zbi;rw[ze3,h,h2];rfl
theorem zyc {ws:List Nat} {f s:Int} (h:zah (ws.length:Int)=true) (h2:zgy ws.length f s=false) (h3:blocks ws f.toNat=none):zbi ws f s=50:=by
 unfold zbi zk2;rw[ze3,h,h2,h3];rfl
theorem zAn {ws:List Nat} {f s:Int} (h:zah (ws.length:Int)=true) (h2:zgy ws.length f s=false) {l:List Bk} (h3:blocks ws f.toNat=some l) (h4:zbz ws l s=false):zbi ws f s=50:=by
 rw[zg6 (by rw[ze3];exact h) h2 h3,h4];rfl
theorem zG8 {ws:List Nat} {f s:Int} (h:zah (ws.length:Int)=true) (h2:zgy ws.length f s=false) {l:List Bk} (h3:blocks ws f.toNat=some l) (h4:zbz ws l s=true):zbi ws f s=0∧zhn ws f s=zal l s:=by
 have h0:zbi ws f s=0:=by rw[zg6 (by rw[ze3];exact h) h2 h3,if_pos h4]
 exact ⟨h0,by unfold zhn;rw[if_pos h0,h3]⟩
theorem zqa {n:Nat} {f s:Int} (h:zgy n f s=false):ze0 n f=false:=by
 have:=zgb h
 simp only[ze0,Bool.or_eq_false_iff,decide_eq_false_iff_not,bne_eq_false_iff_eq];omega
theorem zIw {ws:List Nat} {l:List Bk} {s:Int} (hst:zd4 l s=0) {k:Nat} (hk:k<l.length) (h:zbz ws (l.take k) s=true) :
   (zds ws l[k]=false→zbz ws l s=false) ∧
   (zds ws l[k]=true→zax l[k]=true→l[k].next≠zbp l[k] (zat (l.take k) s)→zbz ws l s=false) ∧
   (zds ws l[k]=true→zax l[k]=true→l[k].next=zbp l[k] (zat (l.take k) s)→zbz ws (l.take (k+1)) s=true∧zal (l.take (k+1)) s=zal (l.take k) s++[(l[k].at_,((zbp l[k] (zat (l.take k) s):Nat):Int))]) ∧
   (zds ws l[k]=true→zax l[k]=false→zbz ws (l.take (k+1)) s=true∧zal (l.take (k+1)) s=zal (l.take k) s):=by
 obtain ⟨h1,h2,h3,_⟩:=zei hst
 have hb:=zj0 h1 (Nat.le_of_lt hk) h2 h3
 have e1:=zol (ws:=ws) hk s
 have e2:=zwx hk s
 rw[h,Bool.true_and] at e1
 have hw:zax l[k]=true→zbp l[k] (zat (l.take k) s)=(zat (l.take k) s).toNat:=fun hl=>by unfold zbp;rw[if_pos hl]
 refine ⟨fun hf => ?_,fun hf hl hn => ?_,fun hf hl hn => ?_,fun hf hl => ?_⟩
 · refine zso (k:=k+1) ?_
   rw[e1,hf];rfl
 · refine zso (k:=k+1) ?_
   rw[hw hl] at hn
   rw[e1,hf,hl,show ((l[k].next:Int) == zat (l.take k) s)=false by rw[beq_eq_false_iff_ne];omega];rfl
 · rw[hw hl] at hn ⊢
   rw[e1,e2,hf,hl,show ((l[k].next:Int) == zat (l.take k) s)=true by rw[beq_iff_eq];omega,Int.toNat_of_nonneg (by omega)]
   exact ⟨rfl,rfl⟩
 · rw[e1,e2,hf,hl]
   exact ⟨rfl,by simp⟩
theorem zlk (l:List Bk):∀ s,(zal l s).length≤l.length:=by
 induction l with
 | nil=>intro s;exact Nat.le_refl _
 | cons b l ih =>
  intro s
  simp only[zal]
  split
  · have:=ih (s+b.size);simp only[List.length_cons];omega
  · have:=ih s;simp only[List.length_cons];omega
set_option maxRecDepth 100000 in
set_option maxHeartbeats 4000000 in
theorem zqn (A:Option Addr) (ws:List Nat) (c n:Nat) (f s:Int) (w:World) (hn:ws.length=n) (hm:n≤9223372036854775807) (hf : -9223372036854775808≤f∧f≤9223372036854775807) (hs : -9223372036854775808≤s∧s≤9223372036854775807) (hr:RdW w w.heap.size A ws) (ho:∀ x ∈ ws,x<18446744073709551616) :
   Calls Tryz.prog 161 #[.slice A n c,.int .i64 f,.int .i64 s] w fun e w'=>zwn ws f s e w'∧Below w.heap.size w w':=by
 subst hn
 have HR:=hid hr
 have HO:=hid ho
 obtain ⟨f1,f2⟩:=hf
 obtain ⟨s1,s2⟩:=hs
 clear hr ho
 cases hs:zah (ws.length:Int)
 · have HI:=hid (zbw hs)
   have HE:=hid (zAf (f:=f) (s:=s) hs)
   clear hs
   go_enter Tryz.func161,Tryz.ntmps161
   go_wp2_with fail
   refine (zay A ws.length c w hm).mono ?_
   rintro e w1 ⟨rfl,rfl⟩
   rw[HI.out]
   go_wp2_with fail
   go_ret2
   exact ⟨zkd HE.out (by omega),Below.refl _ _⟩
 · have HI:=hid (zbc hs)
   obtain ⟨hb1,hb2,hb3⟩:=zf5 ws hs
   have HS:=hid hs
   clear hs hb3
   cases hbad:zgy ws.length f s
   · have HARG:=hid hbad
     obtain ⟨a1,a2,a3,a4,a5⟩:=zgb hbad
     obtain ⟨i,rfl⟩:=Int.eq_ofNat_of_zero_le (show 0≤f by omega)
     obtain ⟨u,rfl⟩:=Int.eq_ofNat_of_zero_le (show 0≤s by omega)
     have HFE:=hid (fun l (h:blocks ws i=some l)=>zci HS.out (zqa HARG.out) (l:=l) (by rw[Int.toNat_natCast];exact h))
     have HFN:=hid (fun (h:blocks ws i=none)=>zeh HS.out (zqa HARG.out) (by rw[Int.toNat_natCast];exact h))
     have HST:=hid (fun l (h:blocks ws i=some l)=>zjo (ws:=ws) (i:=i) (l:=l) (by omega) h (by omega) (by omega) (by omega) (s:=(u:Int)) (by omega) (by omega) (by omega))
     have HLE:=hid (fun l (h:blocks ws i=some l)=>(zbs (ws:=ws) (by omega) i l h (by omega) (by omega) (by omega)).1)
     have HTY:=hid (fun l (h:blocks ws i=some l) k (hk:k<l.length) h1=>zgp (ws:=ws) h (by omega) (k:=k) hk h1)
     have HFR:=hid (zlm A ws c ws.length (i:Int) w rfl hm HR.out HO.out)
     unfold zph at HFR
     have e1:((i:Int) % 2 != 0)=false:=by rw[bne_eq_false_iff_eq];exact a1
     have e2:((u:Int) % 2 != 0)=false:=by rw[bne_eq_false_iff_eq];exact a2
     have d1:decide ((u:Int)<128)=false:=by rw[decide_eq_false_iff_not];omega
     have d2:decide ((i:Int)<(u:Int))=false:=by rw[decide_eq_false_iff_not];omega
     have d2n:decide (i<u)=false:=by rw[decide_eq_false_iff_not];omega
     have d3:decide ((ws.length:Int)<(i:Int))=false:=by rw[decide_eq_false_iff_not];omega
     have d3n:decide (ws.length<i)=false:=by rw[decide_eq_false_iff_not];omega
     have u0:(0:Int)≤(u:Int):=by omega
     have i0':(0:Int)≤(i:Int):=by omega
     clear hbad a1 a2
     cases hbl:blocks ws i with
     | none =>
      have HE:=hid (zyc HS.out HARG.out (by rw[Int.toNat_natCast];exact hbl))
      rw[HFN.out hbl] at HFR
      obtain ⟨l,hl⟩:∃ l,za5 ws (i:Int)=l:=⟨_,rfl⟩
      rw[hl] at HFR
      clear hbl hl
      go_enter Tryz.func161,Tryz.ntmps161
      go_wp2_with fail
      refine (zay A ws.length c w hm).mono ?_
      rintro e w1 ⟨rfl,rfl⟩
      rw[HI.out]
      go_wp2_with fail
      refine HFR.out.mono ?_
      rintro e w1 ⟨⟨A1,c1,rfl,-,-⟩,hB1⟩
      go_wp2_with fail
      go_ret2
      exact ⟨zkd HE.out (by omega),hB1⟩
     | some l =>
      have HSO:=hid hbl
      have HG3:=hid (HST.out l hbl)
      have hlen:=HLE.out l hbl
      obtain ⟨g1,g2⟩:=HFE.out l hbl
      rw[g1,g2] at HFR
      have HPL:=hid (fun (A2:Option Addr) (c2:Nat) (W:World) (h:RdB W W.heap.size A2 l)=>zvg A2 l c2 l.length (u:Int) W rfl (by omega) h (by omega))
      unfold zA6 at HPL
      rw[HG3.out] at HPL
      clear hbl g1 g2
      obtain ⟨i2,hi,hz0,hz1,hz2⟩:=info_parts zE5
      have HJ:=hid hi
      have HJ0:=hid hz0
      have HJ1:=hid hz1
      have HJ2:=hid hz2
      clear hi hz0 hz1 hz2
      go_enter Tryz.func161,Tryz.ntmps161
      go_wp2_with fail
      refine (zay A ws.length c w hm).mono ?_
      rintro e w1 ⟨rfl,rfl⟩
      rw[HI.out]
      go_wp2_with fail
      refine HFR.out.mono ?_
      rintro e w2 ⟨⟨A1,c1,rfl,hrd,-⟩,hB2⟩
      have hz2:=hB2.size
      have HRD:=hid hrd
      clear hrd
      go_wp2_with fail
      refine (HPL.out A1 c1 _ HRD.out).mono ?_
      rintro e w3 ⟨⟨A2,c2,rfl,hrp,-⟩,hB3⟩
      have hb3:=hB2.trans (hB3.mono hz2)
      have hz3:=hb3.size
      have HRP:=hid hrp
      have HRD3:=hid (HRD.out.up hB3 hB3.size)
      have HR3:=hid (HR.out.up hb3 hz3)
      clear hrp HRD
      obtain ⟨pl,hpl⟩:∃ pl,zic l (u:Int)=pl:=⟨_,rfl⟩
      rw[hpl] at HRP ⊢
      have hpll:pl.length=l.length:=by rw[←hpl];simp[zic,HG3.out,zc4]
      have HPA:=hid (fun k (hk:k<l.length)=>zvk HG3.out hk)
      rw[hpl] at HPA
      rw[hpll]
      clear hpl hpll
      go_wp2_with fail
      go_loopw [13,61] (fun v i wr=>∃ k:Nat,k≤l.length∧i=.int .i64 k∧Hid (zbz ws (l.take k) (u:Int)=true)∧wr.ownsRow w3.heap.size 275 2 v (zal (l.take k) (u:Int)).length ((zal (l.take k) (u:Int)).flatMap zpe)∧Below w3.heap.size w3 wr) (fun _ i _=>l.length - (intOf i).toNat)
      case atStart=>exact ⟨0,Nat.zero_le _,rfl,rfl,World.ownsRow_nil _ _ _ _,Below.refl _ _⟩
      case round =>
       obtain ⟨k,hk,rfl,HAL,hown,hB⟩:=hrel
       have hz:=hB.size
       by_cases hlt:k<l.length
       · obtain ⟨b,off,rfl,hbw,q0,q1,q2,q3,q4,q5⟩:=RdB.at_ (HRD3.out.below hB) hlt
         obtain ⟨hkp,hp1,hp2⟩:=HPA.out k hlt
         obtain ⟨b2,off2,rfl,hbw2,p0⟩:=RdI.at_ (HRP.out.below hB) hkp
         rw[hp1] at p0
         have HMS:=hid (zIw (ws:=ws) HG3.out hlt HAL.out)
         have HTK:=hid (HTY.out l HSO.out k hlt)
         have HBAD:=hid (fun h=>zAn HS.out HARG.out (l:=l) (by rw[Int.toNat_natCast];exact HSO.out) h)
         have hml:=zlk (l.take k) (u:Int)
         rw[List.length_take] at hml
         obtain ⟨m,hm2⟩:∃ m,zal (l.take k) (u:Int)=m:=⟨_,rfl⟩
         rw[hm2] at hown HMS hml
         obtain ⟨v,hv⟩:∃ v,zbp l[k] (zat (l.take k) (u:Int))=v:=⟨_,rfl⟩
         rw[hv] at hp2 p0 HMS
         obtain ⟨x,hx⟩:∃ x,l[k]=x:=⟨_,rfl⟩
         rw[hx] at q0 q1 q2 q3 q4 q5 HMS HTK
         obtain ⟨xa,xs,xk,xt,xm,xn⟩:=x
         dsimp only at q0 q1 q2 q3 q4 q5 HTK
         have hlm:(k:Int)<(l.length:Int):=by omega
         have hml2:m.length≤2048:=by omega
         have hv2:(v:Int)≤2048:=by omega
         have hv0:(0:Int)≤(v:Int):=by omega
         have hk0:(0:Int)≤(k:Int):=by omega
         have hwv:IntKind.u64.wrap (v:Int)=(v:Int):=IntWalk.u64_in _ (by omega)
         clear hx hm2 hml hv hp1
         by_cases hk1:xk=1
         · obtain ⟨t0,t8⟩:=HTK.out hk1
           obtain ⟨t,rfl⟩:=Int.eq_ofNat_of_zero_le t0
           subst hk1
           have HT:=hid (fun W (h:RdW W W.heap.size A ws)=>zDf A ws c ws.length t xa xs 1 xm xn W rfl (by omega) hb1 (by omega) h HO.out)
           have hfx:zds ws ⟨xa,xs,1,(t:Int),xm,xn⟩=zc2 ws ⟨xa,xs,1,(t:Int),xm,xn⟩:=rfl
           have hlx:zax ⟨xa,xs,1,(t:Int),xm,xn⟩=xm:=rfl
           rw[hfx,hlx] at HMS
           obtain ⟨q,hq⟩:∃ q,zc2 ws ⟨xa,xs,1,(t:Int),xm,xn⟩=q:=⟨_,rfl⟩
           rw[hq] at HMS HT
           clear hq hfx hlx HTK
           cases q
           · have HE:=hid (HBAD.out (HMS.out.1 rfl))
             clear HMS
             go_wp2_with fail
             obtain ⟨wn,hwn⟩:∃ wn,wr.alloc (.cells #[.int .i64 xa,.int .i64 xs,.int .i64 1,.int .i64 (t:Int),.bool xm,.int .u64 (xn:Int)] 55)=wn:=⟨_,rfl⟩
             have bx:=Bx.new wr 55 #[.int .i64 xa,.int .i64 xs,.int .i64 1,.int .i64 (t:Int),.bool xm,.int .u64 (xn:Int)]
             have hBn:=hB.alloc hz (.cells #[.int .i64 xa,.int .i64 xs,.int .i64 1,.int .i64 (t:Int),.bool xm,.int .u64 (xn:Int)] 55)
             have hownn:=hown.alloc (.cells #[.int .i64 xa,.int .i64 xs,.int .i64 1,.int .i64 (t:Int),.bool xm,.int .u64 (xn:Int)] 55)
             have hswn:(wr.alloc (.cells #[.int .i64 xa,.int .i64 xs,.int .i64 1,.int .i64 (t:Int),.bool xm,.int .u64 (xn:Int)] 55)).heap.size=wr.heap.size+1:=by simp
             have p0n:=(World.cell?_alloc_lt wr (.cells #[.int .i64 xa,.int .i64 xs,.int .i64 1,.int .i64 (t:Int),.bool xm,.int .u64 (xn:Int)] 55) ⟨b2,off2+k,none⟩ (by dsimp only;omega)).trans p0
             rw[hwn] at bx hBn hownn hswn p0n ⊢
             clear hwn
             have HRn:=hid (HR3.out.up hBn hBn.size)
             have HBN:=hid hBn
             have HOWN:=hid hownn
             have BX:=hid bx
             obtain ⟨x0,x1,x2,x3,x4,x5,-,hgg⟩:=bx.c6
             have hg2:b2<wn.heap.size:=by omega
             clear hBn hownn bx hown q0 q1 q2 q3 q4 q5 p0
             refine wp_region_held_drew (S:=fun X:World=>X.cell? ⟨wr.heap.size,0,none⟩=some (.int .i64 xa)∧X.cell? ⟨wr.heap.size,1,none⟩=some (.int .i64 xs)∧X.cell? ⟨wr.heap.size,2,none⟩=some (.int .i64 1)∧X.cell? ⟨wr.heap.size,3,none⟩=some (.int .i64 (t:Int))∧X.cell? ⟨wr.heap.size,4,none⟩=some (.bool xm)∧X.cell? ⟨wr.heap.size,5,none⟩=some (.int .u64 (xn:Int))∧X.cell? ⟨b2,off2+k,none⟩=some (.int .i64 (v:Int))) (by kernel_rfl) ⟨x0,x1,x2,x3,x4,x5,p0n⟩ (fun hHeld => ?_)
             show wpAnyH _ _ _ _ _ 18 #[false,false,false,false,false,false,false,false,false,false,false,false,false,false,false,false,false,false] _ _
             refine wpAnyH_take (i:=0) (v:=.slice A ws.length c) rfl (by kernel_rfl) (by kernel_rfl) (by kernel_rfl) (fun _ _ _ h=>h) (Or.inl ⟨by kernel_rfl,?_⟩) (by assumption) ?_
             · intro X hX
               (try dsimp only at hX)
               go_simp
             dsimp only[Act.put,List.getElem_toArray,List.getElem_cons_zero,List.getElem_cons_succ,List.setIfInBounds_toArray,List.set_cons_zero,List.set_cons_succ]
             refine wpAnyH_take (i:=1) (v:=.agg #[.int .i64 xa,.int .i64 xs,.int .i64 1,.int .i64 (t:Int),.bool xm,.int .u64 (xn:Int)]) rfl (by kernel_rfl) (by kernel_rfl) (by kernel_rfl) (fun _ _ _ h=>h) (Or.inl ⟨by kernel_rfl,?_⟩) (by assumption) ?_
             · intro X hX
               (try dsimp only at hX)
               go_simp
             dsimp only[Act.put,List.getElem_toArray,List.getElem_cons_zero,List.getElem_cons_succ,List.setIfInBounds_toArray,List.set_cons_zero,List.set_cons_succ]
             refine wpAnyH_ready (rs:=[2]) (by kernel_rfl) (by simp) ?_
             refine AllReadyH.cons rfl (fun K hK => ?_) AllReadyH.nil
             go_simp
             refine (HT.out wn.drew (show RdW wn.drew wn.drew.heap.size A ws from HRn.out)).mono ?_
             rintro e w5 ⟨rfl,hB5⟩
             go_simp
             have HB5:=hid hB5
             refine hK.out _ _ ⟨(hB5.cell (p:=⟨wr.heap.size,0,none⟩) hgg).trans x0,(hB5.cell (p:=⟨wr.heap.size,1,none⟩) hgg).trans x1,(hB5.cell (p:=⟨wr.heap.size,2,none⟩) hgg).trans x2,(hB5.cell (p:=⟨wr.heap.size,3,none⟩) hgg).trans x3,(hB5.cell (p:=⟨wr.heap.size,4,none⟩) hgg).trans x4,(hB5.cell (p:=⟨wr.heap.size,5,none⟩) hgg).trans x5,(hB5.cell (p:=⟨b2,off2+k,none⟩) hg2).trans p0n⟩ (fun HS1 => ?_)
             clear hK K
             refine wpAnyH_take (i:=3) (v:=.bool true) rfl (by kernel_rfl) (by kernel_rfl) (by kernel_rfl) (fun _ _ _ h=>h) (Or.inl ⟨by kernel_rfl,?_⟩) (by assumption) ?_
             · intro X hX
               (try dsimp only at hX)
               go_simp
             dsimp only[Act.put,List.getElem_toArray,List.getElem_cons_zero,List.getElem_cons_succ,List.setIfInBounds_toArray,List.set_cons_zero,List.set_cons_succ]
             refine wpAnyH_take (i:=4) (v:=.bool true) rfl (by kernel_rfl) (by kernel_rfl) (by kernel_rfl) (fun _ _ _ h=>h) (Or.inl ⟨by kernel_rfl,?_⟩) (by assumption) ?_
             · intro X hX
               (try dsimp only at hX)
               go_simp
             dsimp only[Act.put,List.getElem_toArray,List.getElem_cons_zero,List.getElem_cons_succ,List.setIfInBounds_toArray,List.set_cons_zero,List.set_cons_succ]
             refine wpAnyH_take (i:=5) (v:=undef) rfl (by kernel_rfl) (by kernel_rfl) (by kernel_rfl) (fun _ _ _ h=>h) (Or.inr ⟨by kernel_rfl,rfl⟩) (by assumption) ?_
             dsimp only[Act.put,List.getElem_toArray,List.getElem_cons_zero,List.getElem_cons_succ,List.setIfInBounds_toArray,List.set_cons_zero,List.set_cons_succ]
             refine wpAnyH_take (i:=6) (v:=undef) rfl (by kernel_rfl) (by kernel_rfl) (by kernel_rfl) (fun _ _ _ h=>h) (Or.inr ⟨by kernel_rfl,rfl⟩) (by assumption) ?_
             dsimp only[Act.put,List.getElem_toArray,List.getElem_cons_zero,List.getElem_cons_succ,List.setIfInBounds_toArray,List.set_cons_zero,List.set_cons_succ]
             refine wpAnyH_take (i:=7) (v:=undef) rfl (by kernel_rfl) (by kernel_rfl) (by kernel_rfl) (fun _ _ _ h=>h) (Or.inr ⟨by kernel_rfl,rfl⟩) (by assumption) ?_
             dsimp only[Act.put,List.getElem_toArray,List.getElem_cons_zero,List.getElem_cons_succ,List.setIfInBounds_toArray,List.set_cons_zero,List.set_cons_succ]
             refine wpAnyH_take (i:=8) (v:=undef) rfl (by kernel_rfl) (by kernel_rfl) (by kernel_rfl) (fun _ _ _ h=>h) (Or.inr ⟨by kernel_rfl,rfl⟩) (by assumption) ?_
             dsimp only[Act.put,List.getElem_toArray,List.getElem_cons_zero,List.getElem_cons_succ,List.setIfInBounds_toArray,List.set_cons_zero,List.set_cons_succ]
             refine wpAnyH_take (i:=9) (v:=undef) rfl (by kernel_rfl) (by kernel_rfl) (by kernel_rfl) (fun _ _ _ h=>h) (Or.inr ⟨by kernel_rfl,rfl⟩) (by assumption) ?_
             dsimp only[Act.put,List.getElem_toArray,List.getElem_cons_zero,List.getElem_cons_succ,List.setIfInBounds_toArray,List.set_cons_zero,List.set_cons_succ]
             refine wpAnyH_take (i:=10) (v:=undef) rfl (by kernel_rfl) (by kernel_rfl) (by kernel_rfl) (fun _ _ _ h=>h) (Or.inr ⟨by kernel_rfl,rfl⟩) (by assumption) ?_
             dsimp only[Act.put,List.getElem_toArray,List.getElem_cons_zero,List.getElem_cons_succ,List.setIfInBounds_toArray,List.set_cons_zero,List.set_cons_succ]
             refine wpAnyH_take (i:=11) (v:=undef) rfl (by kernel_rfl) (by kernel_rfl) (by kernel_rfl) (fun _ _ _ h=>h) (Or.inr ⟨by kernel_rfl,rfl⟩) (by assumption) ?_
             dsimp only[Act.put,List.getElem_toArray,List.getElem_cons_zero,List.getElem_cons_succ,List.setIfInBounds_toArray,List.set_cons_zero,List.set_cons_succ]
             refine wpAnyH_take (i:=12) (v:=undef) rfl (by kernel_rfl) (by kernel_rfl) (by kernel_rfl) (fun _ _ _ h=>h) (Or.inr ⟨by kernel_rfl,rfl⟩) (by assumption) ?_
             dsimp only[Act.put,List.getElem_toArray,List.getElem_cons_zero,List.getElem_cons_succ,List.setIfInBounds_toArray,List.set_cons_zero,List.set_cons_succ]
             refine wpAnyH_take (i:=13) (v:=undef) rfl (by kernel_rfl) (by kernel_rfl) (by kernel_rfl) (fun _ _ _ h=>h) (Or.inr ⟨by kernel_rfl,rfl⟩) (by assumption) ?_
             dsimp only[Act.put,List.getElem_toArray,List.getElem_cons_zero,List.getElem_cons_succ,List.setIfInBounds_toArray,List.set_cons_zero,List.set_cons_succ]
             refine wpAnyH_take (i:=14) (v:=undef) rfl (by kernel_rfl) (by kernel_rfl) (by kernel_rfl) (fun _ _ _ h=>h) (Or.inr ⟨by kernel_rfl,rfl⟩) (by assumption) ?_
             dsimp only[Act.put,List.getElem_toArray,List.getElem_cons_zero,List.getElem_cons_succ,List.setIfInBounds_toArray,List.set_cons_zero,List.set_cons_succ]
             refine wpAnyH_take (i:=15) (v:=undef) rfl (by kernel_rfl) (by kernel_rfl) (by kernel_rfl) (fun _ _ _ h=>h) (Or.inr ⟨by kernel_rfl,rfl⟩) (by assumption) ?_
             dsimp only[Act.put,List.getElem_toArray,List.getElem_cons_zero,List.getElem_cons_succ,List.setIfInBounds_toArray,List.set_cons_zero,List.set_cons_succ]
             refine wpAnyH_take (i:=16) (v:=undef) rfl (by kernel_rfl) (by kernel_rfl) (by kernel_rfl) (fun _ _ _ h=>h) (Or.inr ⟨by kernel_rfl,rfl⟩) (by assumption) ?_
             dsimp only[Act.put,List.getElem_toArray,List.getElem_cons_zero,List.getElem_cons_succ,List.setIfInBounds_toArray,List.set_cons_zero,List.set_cons_succ]
             refine wpAnyH_take (i:=17) (v:=.bool true) rfl (by kernel_rfl) (by kernel_rfl) (by kernel_rfl) (fun _ _ _ h=>h) (Or.inl ⟨by kernel_rfl,?_⟩) (by assumption) ?_
             · intro X hX
               (try dsimp only at hX)
               go_simp
             dsimp only[Act.put,List.getElem_toArray,List.getElem_cons_zero,List.getElem_cons_succ,List.setIfInBounds_toArray,List.set_cons_zero,List.set_cons_succ]
             refine wpAnyH_done (by kernel_rfl) ?_ _
             obtain ⟨m0,m1,m2,m3,m4,m5,m6⟩:=HS1
             clear hHeld hB5 x0 x1 x2 x3 x4 x5 p0n
             go_simp
             go_wp2_with fail
             go_ret2
             exact ⟨zkd HE.out (by omega),hb3.trans ((HBN.out.trans ((Below.refl _ _).drew.trans (HB5.out.mono HBN.out.size))).mono hz3)⟩
           · cases xm
             · have HY:=hid (HMS.out.2.2.2 rfl rfl)
               clear HMS
               go_wp2_with fail
               obtain ⟨wn,hwn⟩:∃ wn,wr.alloc (.cells #[.int .i64 xa,.int .i64 xs,.int .i64 1,.int .i64 (t:Int),.bool false,.int .u64 (xn:Int)] 55)=wn:=⟨_,rfl⟩
               have bx:=Bx.new wr 55 #[.int .i64 xa,.int .i64 xs,.int .i64 1,.int .i64 (t:Int),.bool false,.int .u64 (xn:Int)]
               have hBn:=hB.alloc hz (.cells #[.int .i64 xa,.int .i64 xs,.int .i64 1,.int .i64 (t:Int),.bool false,.int .u64 (xn:Int)] 55)
               have hownn:=hown.alloc (.cells #[.int .i64 xa,.int .i64 xs,.int .i64 1,.int .i64 (t:Int),.bool false,.int .u64 (xn:Int)] 55)
               have hswn:(wr.alloc (.cells #[.int .i64 xa,.int .i64 xs,.int .i64 1,.int .i64 (t:Int),.bool false,.int .u64 (xn:Int)] 55)).heap.size=wr.heap.size+1:=by simp
               have p0n:=(World.cell?_alloc_lt wr (.cells #[.int .i64 xa,.int .i64 xs,.int .i64 1,.int .i64 (t:Int),.bool false,.int .u64 (xn:Int)] 55) ⟨b2,off2+k,none⟩ (by dsimp only;omega)).trans p0
               rw[hwn] at bx hBn hownn hswn p0n ⊢
               clear hwn
               have HRn:=hid (HR3.out.up hBn hBn.size)
               have HBN:=hid hBn
               have HOWN:=hid hownn
               have BX:=hid bx
               obtain ⟨x0,x1,x2,x3,x4,x5,-,hgg⟩:=bx.c6
               have hg2:b2<wn.heap.size:=by omega
               clear hBn hownn bx hown q0 q1 q2 q3 q4 q5 p0
               refine wp_region_held_drew (S:=fun X:World=>X.cell? ⟨wr.heap.size,0,none⟩=some (.int .i64 xa)∧X.cell? ⟨wr.heap.size,1,none⟩=some (.int .i64 xs)∧X.cell? ⟨wr.heap.size,2,none⟩=some (.int .i64 1)∧X.cell? ⟨wr.heap.size,3,none⟩=some (.int .i64 (t:Int))∧X.cell? ⟨wr.heap.size,4,none⟩=some (.bool false)∧X.cell? ⟨wr.heap.size,5,none⟩=some (.int .u64 (xn:Int))∧X.cell? ⟨b2,off2+k,none⟩=some (.int .i64 (v:Int))) (by kernel_rfl) ⟨x0,x1,x2,x3,x4,x5,p0n⟩ (fun hHeld => ?_)
               show wpAnyH _ _ _ _ _ 18 #[false,false,false,false,false,false,false,false,false,false,false,false,false,false,false,false,false,false] _ _
               refine wpAnyH_take (i:=0) (v:=.slice A ws.length c) rfl (by kernel_rfl) (by kernel_rfl) (by kernel_rfl) (fun _ _ _ h=>h) (Or.inl ⟨by kernel_rfl,?_⟩) (by assumption) ?_
               · intro X hX
                 (try dsimp only at hX)
                 go_simp
               dsimp only[Act.put,List.getElem_toArray,List.getElem_cons_zero,List.getElem_cons_succ,List.setIfInBounds_toArray,List.set_cons_zero,List.set_cons_succ]
               refine wpAnyH_take (i:=1) (v:=.agg #[.int .i64 xa,.int .i64 xs,.int .i64 1,.int .i64 (t:Int),.bool false,.int .u64 (xn:Int)]) rfl (by kernel_rfl) (by kernel_rfl) (by kernel_rfl) (fun _ _ _ h=>h) (Or.inl ⟨by kernel_rfl,?_⟩) (by assumption) ?_
               · intro X hX
                 (try dsimp only at hX)
                 go_simp
               dsimp only[Act.put,List.getElem_toArray,List.getElem_cons_zero,List.getElem_cons_succ,List.setIfInBounds_toArray,List.set_cons_zero,List.set_cons_succ]
               refine wpAnyH_ready (rs:=[2]) (by kernel_rfl) (by simp) ?_
               refine AllReadyH.cons rfl (fun K hK => ?_) AllReadyH.nil
               go_simp
               refine (HT.out wn.drew (show RdW wn.drew wn.drew.heap.size A ws from HRn.out)).mono ?_
               rintro e w5 ⟨rfl,hB5⟩
               go_simp
               have HB5:=hid hB5
               refine hK.out _ _ ⟨(hB5.cell (p:=⟨wr.heap.size,0,none⟩) hgg).trans x0,(hB5.cell (p:=⟨wr.heap.size,1,none⟩) hgg).trans x1,(hB5.cell (p:=⟨wr.heap.size,2,none⟩) hgg).trans x2,(hB5.cell (p:=⟨wr.heap.size,3,none⟩) hgg).trans x3,(hB5.cell (p:=⟨wr.heap.size,4,none⟩) hgg).trans x4,(hB5.cell (p:=⟨wr.heap.size,5,none⟩) hgg).trans x5,(hB5.cell (p:=⟨b2,off2+k,none⟩) hg2).trans p0n⟩ (fun HS1 => ?_)
               clear hK K
               refine wpAnyH_take (i:=3) (v:=.bool false) rfl (by kernel_rfl) (by kernel_rfl) (by kernel_rfl) (fun _ _ _ h=>h) (Or.inl ⟨by kernel_rfl,?_⟩) (by assumption) ?_
               · intro X hX
                 (try dsimp only at hX)
                 go_simp
               dsimp only[Act.put,List.getElem_toArray,List.getElem_cons_zero,List.getElem_cons_succ,List.setIfInBounds_toArray,List.set_cons_zero,List.set_cons_succ]
               refine wpAnyH_take (i:=4) (v:=.bool false) rfl (by kernel_rfl) (by kernel_rfl) (by kernel_rfl) (fun _ _ _ h=>h) (Or.inl ⟨by kernel_rfl,?_⟩) (by assumption) ?_
               · intro X hX
                 (try dsimp only at hX)
                 go_simp
               dsimp only[Act.put,List.getElem_toArray,List.getElem_cons_zero,List.getElem_cons_succ,List.setIfInBounds_toArray,List.set_cons_zero,List.set_cons_succ]
               refine wpAnyH_take (i:=5) (v:=.pointer (some ⟨wr.heap.size,4,none⟩)) rfl (by kernel_rfl) (by kernel_rfl) (by kernel_rfl) (fun _ _ _ h=>h) (Or.inl ⟨by kernel_rfl,?_⟩) (by assumption) ?_
               · intro X hX
                 (try dsimp only at hX)
                 go_simp
               dsimp only[Act.put,List.getElem_toArray,List.getElem_cons_zero,List.getElem_cons_succ,List.setIfInBounds_toArray,List.set_cons_zero,List.set_cons_succ]
               refine wpAnyH_take (i:=6) (v:=.bool false) rfl (by kernel_rfl) (by kernel_rfl) (by kernel_rfl) (fun _ _ _ h=>h) (Or.inl ⟨by kernel_rfl,?_⟩) (by assumption) ?_
               · intro X hX
                 (try dsimp only at hX)
                 go_simp
               dsimp only[Act.put,List.getElem_toArray,List.getElem_cons_zero,List.getElem_cons_succ,List.setIfInBounds_toArray,List.set_cons_zero,List.set_cons_succ]
               refine wpAnyH_take (i:=7) (v:=.bool false) rfl (by kernel_rfl) (by kernel_rfl) (by kernel_rfl) (fun _ _ _ h=>h) (Or.inl ⟨by kernel_rfl,?_⟩) (by assumption) ?_
               · intro X hX
                 (try dsimp only at hX)
                 go_simp
               dsimp only[Act.put,List.getElem_toArray,List.getElem_cons_zero,List.getElem_cons_succ,List.setIfInBounds_toArray,List.set_cons_zero,List.set_cons_succ]
               refine wpAnyH_take (i:=8) (v:=undef) rfl (by kernel_rfl) (by kernel_rfl) (by kernel_rfl) (fun _ _ _ h=>h) (Or.inr ⟨by kernel_rfl,rfl⟩) (by assumption) ?_
               dsimp only[Act.put,List.getElem_toArray,List.getElem_cons_zero,List.getElem_cons_succ,List.setIfInBounds_toArray,List.set_cons_zero,List.set_cons_succ]
               refine wpAnyH_take (i:=9) (v:=undef) rfl (by kernel_rfl) (by kernel_rfl) (by kernel_rfl) (fun _ _ _ h=>h) (Or.inr ⟨by kernel_rfl,rfl⟩) (by assumption) ?_
               dsimp only[Act.put,List.getElem_toArray,List.getElem_cons_zero,List.getElem_cons_succ,List.setIfInBounds_toArray,List.set_cons_zero,List.set_cons_succ]
               refine wpAnyH_take (i:=10) (v:=undef) rfl (by kernel_rfl) (by kernel_rfl) (by kernel_rfl) (fun _ _ _ h=>h) (Or.inr ⟨by kernel_rfl,rfl⟩) (by assumption) ?_
               dsimp only[Act.put,List.getElem_toArray,List.getElem_cons_zero,List.getElem_cons_succ,List.setIfInBounds_toArray,List.set_cons_zero,List.set_cons_succ]
               refine wpAnyH_take (i:=11) (v:=undef) rfl (by kernel_rfl) (by kernel_rfl) (by kernel_rfl) (fun _ _ _ h=>h) (Or.inr ⟨by kernel_rfl,rfl⟩) (by assumption) ?_
               dsimp only[Act.put,List.getElem_toArray,List.getElem_cons_zero,List.getElem_cons_succ,List.setIfInBounds_toArray,List.set_cons_zero,List.set_cons_succ]
               refine wpAnyH_take (i:=12) (v:=undef) rfl (by kernel_rfl) (by kernel_rfl) (by kernel_rfl) (fun _ _ _ h=>h) (Or.inr ⟨by kernel_rfl,rfl⟩) (by assumption) ?_
               dsimp only[Act.put,List.getElem_toArray,List.getElem_cons_zero,List.getElem_cons_succ,List.setIfInBounds_toArray,List.set_cons_zero,List.set_cons_succ]
               refine wpAnyH_take (i:=13) (v:=undef) rfl (by kernel_rfl) (by kernel_rfl) (by kernel_rfl) (fun _ _ _ h=>h) (Or.inr ⟨by kernel_rfl,rfl⟩) (by assumption) ?_
               dsimp only[Act.put,List.getElem_toArray,List.getElem_cons_zero,List.getElem_cons_succ,List.setIfInBounds_toArray,List.set_cons_zero,List.set_cons_succ]
               refine wpAnyH_take (i:=14) (v:=undef) rfl (by kernel_rfl) (by kernel_rfl) (by kernel_rfl) (fun _ _ _ h=>h) (Or.inr ⟨by kernel_rfl,rfl⟩) (by assumption) ?_
               dsimp only[Act.put,List.getElem_toArray,List.getElem_cons_zero,List.getElem_cons_succ,List.setIfInBounds_toArray,List.set_cons_zero,List.set_cons_succ]
               refine wpAnyH_take (i:=15) (v:=undef) rfl (by kernel_rfl) (by kernel_rfl) (by kernel_rfl) (fun _ _ _ h=>h) (Or.inr ⟨by kernel_rfl,rfl⟩) (by assumption) ?_
               dsimp only[Act.put,List.getElem_toArray,List.getElem_cons_zero,List.getElem_cons_succ,List.setIfInBounds_toArray,List.set_cons_zero,List.set_cons_succ]
               refine wpAnyH_take (i:=16) (v:=.bool false) rfl (by kernel_rfl) (by kernel_rfl) (by kernel_rfl) (fun _ _ _ h=>h) (Or.inl ⟨by kernel_rfl,?_⟩) (by assumption) ?_
               · intro X hX
                 (try dsimp only at hX)
                 go_simp
               dsimp only[Act.put,List.getElem_toArray,List.getElem_cons_zero,List.getElem_cons_succ,List.setIfInBounds_toArray,List.set_cons_zero,List.set_cons_succ]
               refine wpAnyH_take (i:=17) (v:=.bool false) rfl (by kernel_rfl) (by kernel_rfl) (by kernel_rfl) (fun _ _ _ h=>h) (Or.inl ⟨by kernel_rfl,?_⟩) (by assumption) ?_
               · intro X hX
                 (try dsimp only at hX)
                 go_simp
               dsimp only[Act.put,List.getElem_toArray,List.getElem_cons_zero,List.getElem_cons_succ,List.setIfInBounds_toArray,List.set_cons_zero,List.set_cons_succ]
               refine wpAnyH_done (by kernel_rfl) ?_ _
               obtain ⟨m0,m1,m2,m3,m4,m5,m6⟩:=HS1
               clear hHeld hB5 x0 x1 x2 x3 x4 x5 p0n
               go_simp
               go_wp2_with fail
               go_roundw
               case rel=>exact ⟨k+1,by omega,by go_num,HY.out.1,by rw[HY.out.2];exact zak (show (wn.drew).ownsRow _ _ _ _ _ _ from HOWN.out) HB5.out (Nat.le_refl _),HBN.out.trans ((Below.refl _ _).drew.trans (HB5.out.mono HBN.out.size))⟩
               case measure=>simp[intOf];omega
             · by_cases hnv:xn=v
               · have hnb:((xn:Int) != (v:Int))=false:=by rw[bne_eq_false_iff_eq];omega
                 have HNB:=hid (zqr hown)
                 have HY:=hid (HMS.out.2.2.1 rfl rfl hnv)
                 clear HMS hnv
                 go_wp2_with fail
                 obtain ⟨wn,hwn⟩:∃ wn,wr.alloc (.cells #[.int .i64 xa,.int .i64 xs,.int .i64 1,.int .i64 (t:Int),.bool true,.int .u64 (xn:Int)] 55)=wn:=⟨_,rfl⟩
                 have bx:=Bx.new wr 55 #[.int .i64 xa,.int .i64 xs,.int .i64 1,.int .i64 (t:Int),.bool true,.int .u64 (xn:Int)]
                 have hBn:=hB.alloc hz (.cells #[.int .i64 xa,.int .i64 xs,.int .i64 1,.int .i64 (t:Int),.bool true,.int .u64 (xn:Int)] 55)
                 have hownn:=hown.alloc (.cells #[.int .i64 xa,.int .i64 xs,.int .i64 1,.int .i64 (t:Int),.bool true,.int .u64 (xn:Int)] 55)
                 have hswn:(wr.alloc (.cells #[.int .i64 xa,.int .i64 xs,.int .i64 1,.int .i64 (t:Int),.bool true,.int .u64 (xn:Int)] 55)).heap.size=wr.heap.size+1:=by simp
                 have p0n:=(World.cell?_alloc_lt wr (.cells #[.int .i64 xa,.int .i64 xs,.int .i64 1,.int .i64 (t:Int),.bool true,.int .u64 (xn:Int)] 55) ⟨b2,off2+k,none⟩ (by dsimp only;omega)).trans p0
                 rw[hwn] at bx hBn hownn hswn p0n ⊢
                 clear hwn
                 have HRn:=hid (HR3.out.up hBn hBn.size)
                 have HBN:=hid hBn
                 have HOWN:=hid hownn
                 have BX:=hid bx
                 obtain ⟨x0,x1,x2,x3,x4,x5,-,hgg⟩:=bx.c6
                 have hg2:b2<wn.heap.size:=by omega
                 clear hBn hownn bx hown q0 q1 q2 q3 q4 q5 p0
                 refine wp_region_held_drew (S:=fun X:World=>X.cell? ⟨wr.heap.size,0,none⟩=some (.int .i64 xa)∧X.cell? ⟨wr.heap.size,1,none⟩=some (.int .i64 xs)∧X.cell? ⟨wr.heap.size,2,none⟩=some (.int .i64 1)∧X.cell? ⟨wr.heap.size,3,none⟩=some (.int .i64 (t:Int))∧X.cell? ⟨wr.heap.size,4,none⟩=some (.bool true)∧X.cell? ⟨wr.heap.size,5,none⟩=some (.int .u64 (xn:Int))∧X.cell? ⟨b2,off2+k,none⟩=some (.int .i64 (v:Int))) (by kernel_rfl) ⟨x0,x1,x2,x3,x4,x5,p0n⟩ (fun hHeld => ?_)
                 show wpAnyH _ _ _ _ _ 18 #[false,false,false,false,false,false,false,false,false,false,false,false,false,false,false,false,false,false] _ _
                 refine wpAnyH_take (i:=0) (v:=.slice A ws.length c) rfl (by kernel_rfl) (by kernel_rfl) (by kernel_rfl) (fun _ _ _ h=>h) (Or.inl ⟨by kernel_rfl,?_⟩) (by assumption) ?_
                 · intro X hX
                   (try dsimp only at hX)
                   go_simp
                 dsimp only[Act.put,List.getElem_toArray,List.getElem_cons_zero,List.getElem_cons_succ,List.setIfInBounds_toArray,List.set_cons_zero,List.set_cons_succ]
                 refine wpAnyH_take (i:=1) (v:=.agg #[.int .i64 xa,.int .i64 xs,.int .i64 1,.int .i64 (t:Int),.bool true,.int .u64 (xn:Int)]) rfl (by kernel_rfl) (by kernel_rfl) (by kernel_rfl) (fun _ _ _ h=>h) (Or.inl ⟨by kernel_rfl,?_⟩) (by assumption) ?_
                 · intro X hX
                   (try dsimp only at hX)
                   go_simp
                 dsimp only[Act.put,List.getElem_toArray,List.getElem_cons_zero,List.getElem_cons_succ,List.setIfInBounds_toArray,List.set_cons_zero,List.set_cons_succ]
                 refine wpAnyH_ready (rs:=[2]) (by kernel_rfl) (by simp) ?_
                 refine AllReadyH.cons rfl (fun K hK => ?_) AllReadyH.nil
                 go_simp
                 refine (HT.out wn.drew (show RdW wn.drew wn.drew.heap.size A ws from HRn.out)).mono ?_
                 rintro e w5 ⟨rfl,hB5⟩
                 go_simp
                 have HB5:=hid hB5
                 refine hK.out _ _ ⟨(hB5.cell (p:=⟨wr.heap.size,0,none⟩) hgg).trans x0,(hB5.cell (p:=⟨wr.heap.size,1,none⟩) hgg).trans x1,(hB5.cell (p:=⟨wr.heap.size,2,none⟩) hgg).trans x2,(hB5.cell (p:=⟨wr.heap.size,3,none⟩) hgg).trans x3,(hB5.cell (p:=⟨wr.heap.size,4,none⟩) hgg).trans x4,(hB5.cell (p:=⟨wr.heap.size,5,none⟩) hgg).trans x5,(hB5.cell (p:=⟨b2,off2+k,none⟩) hg2).trans p0n⟩ (fun HS1 => ?_)
                 clear hK K
                 refine wpAnyH_take (i:=3) (v:=.bool false) rfl (by kernel_rfl) (by kernel_rfl) (by kernel_rfl) (fun _ _ _ h=>h) (Or.inl ⟨by kernel_rfl,?_⟩) (by assumption) ?_
                 · intro X hX
                   (try dsimp only at hX)
                   go_simp
                 dsimp only[Act.put,List.getElem_toArray,List.getElem_cons_zero,List.getElem_cons_succ,List.setIfInBounds_toArray,List.set_cons_zero,List.set_cons_succ]
                 refine wpAnyH_take (i:=4) (v:=.bool false) rfl (by kernel_rfl) (by kernel_rfl) (by kernel_rfl) (fun _ _ _ h=>h) (Or.inl ⟨by kernel_rfl,?_⟩) (by assumption) ?_
                 · intro X hX
                   (try dsimp only at hX)
                   go_simp
                 dsimp only[Act.put,List.getElem_toArray,List.getElem_cons_zero,List.getElem_cons_succ,List.setIfInBounds_toArray,List.set_cons_zero,List.set_cons_succ]
                 refine wpAnyH_take (i:=5) (v:=.pointer (some ⟨wr.heap.size,4,none⟩)) rfl (by kernel_rfl) (by kernel_rfl) (by kernel_rfl) (fun _ _ _ h=>h) (Or.inl ⟨by kernel_rfl,?_⟩) (by assumption) ?_
                 · intro X hX
                   (try dsimp only at hX)
                   go_simp
                 dsimp only[Act.put,List.getElem_toArray,List.getElem_cons_zero,List.getElem_cons_succ,List.setIfInBounds_toArray,List.set_cons_zero,List.set_cons_succ]
                 refine wpAnyH_take (i:=6) (v:=.bool true) rfl (by kernel_rfl) (by kernel_rfl) (by kernel_rfl) (fun _ _ _ h=>h) (Or.inl ⟨by kernel_rfl,?_⟩) (by assumption) ?_
                 · intro X hX
                   (try dsimp only at hX)
                   go_simp
                 dsimp only[Act.put,List.getElem_toArray,List.getElem_cons_zero,List.getElem_cons_succ,List.setIfInBounds_toArray,List.set_cons_zero,List.set_cons_succ]
                 refine wpAnyH_take (i:=7) (v:=.bool true) rfl (by kernel_rfl) (by kernel_rfl) (by kernel_rfl) (fun _ _ _ h=>h) (Or.inl ⟨by kernel_rfl,?_⟩) (by assumption) ?_
                 · intro X hX
                   (try dsimp only at hX)
                   go_simp
                 dsimp only[Act.put,List.getElem_toArray,List.getElem_cons_zero,List.getElem_cons_succ,List.setIfInBounds_toArray,List.set_cons_zero,List.set_cons_succ]
                 refine wpAnyH_take (i:=8) (v:=.pointer (some ⟨wr.heap.size,5,none⟩)) rfl (by kernel_rfl) (by kernel_rfl) (by kernel_rfl) (fun _ _ _ h=>h) (Or.inl ⟨by kernel_rfl,?_⟩) (by assumption) ?_
                 · intro X hX
                   (try dsimp only at hX)
                   go_simp
                 dsimp only[Act.put,List.getElem_toArray,List.getElem_cons_zero,List.getElem_cons_succ,List.setIfInBounds_toArray,List.set_cons_zero,List.set_cons_succ]
                 refine wpAnyH_take (i:=9) (v:=.int .u64 (xn:Int)) rfl (by kernel_rfl) (by kernel_rfl) (by kernel_rfl) (fun _ _ _ h=>h) (Or.inl ⟨by kernel_rfl,?_⟩) (by assumption) ?_
                 · intro X hX
                   (try dsimp only at hX)
                   go_simp
                 dsimp only[Act.put,List.getElem_toArray,List.getElem_cons_zero,List.getElem_cons_succ,List.setIfInBounds_toArray,List.set_cons_zero,List.set_cons_succ]
                 refine wpAnyH_take (i:=10) (v:=.slice (some ⟨b2,off2,none⟩) l.length c2) rfl (by kernel_rfl) (by kernel_rfl) (by kernel_rfl) (fun _ _ _ h=>h) (Or.inl ⟨by kernel_rfl,?_⟩) (by assumption) ?_
                 · intro X hX
                   (try dsimp only at hX)
                   go_simp
                 dsimp only[Act.put,List.getElem_toArray,List.getElem_cons_zero,List.getElem_cons_succ,List.setIfInBounds_toArray,List.set_cons_zero,List.set_cons_succ]
                 refine wpAnyH_take (i:=11) (v:=.int .i64 (k:Int)) rfl (by kernel_rfl) (by kernel_rfl) (by kernel_rfl) (fun _ _ _ h=>h) (Or.inl ⟨by kernel_rfl,?_⟩) (by assumption) ?_
                 · intro X hX
                   (try dsimp only at hX)
                   go_simp
                 dsimp only[Act.put,List.getElem_toArray,List.getElem_cons_zero,List.getElem_cons_succ,List.setIfInBounds_toArray,List.set_cons_zero,List.set_cons_succ]
                 refine wpAnyH_take (i:=12) (v:=.pointer (some ⟨b2,off2+k,none⟩)) rfl (by kernel_rfl) (by kernel_rfl) (by kernel_rfl) (fun _ _ _ h=>h) (Or.inl ⟨by kernel_rfl,?_⟩) (by assumption) ?_
                 · intro X hX
                   (try dsimp only at hX)
                   go_simp
                 dsimp only[Act.put,List.getElem_toArray,List.getElem_cons_zero,List.getElem_cons_succ,List.setIfInBounds_toArray,List.set_cons_zero,List.set_cons_succ]
                 refine wpAnyH_take (i:=13) (v:=.int .i64 (v:Int)) rfl (by kernel_rfl) (by kernel_rfl) (by kernel_rfl) (fun _ _ _ h=>h) (Or.inl ⟨by kernel_rfl,?_⟩) (by assumption) ?_
                 · intro X hX
                   (try dsimp only at hX)
                   go_simp
                 dsimp only[Act.put,List.getElem_toArray,List.getElem_cons_zero,List.getElem_cons_succ,List.setIfInBounds_toArray,List.set_cons_zero,List.set_cons_succ]
                 refine wpAnyH_take (i:=14) (v:=.int .u64 (v:Int)) rfl (by kernel_rfl) (by kernel_rfl) (by kernel_rfl) (fun _ _ _ h=>h) (Or.inl ⟨by kernel_rfl,?_⟩) (by assumption) ?_
                 · intro X hX
                   (try dsimp only at hX)
                   go_simp
                 dsimp only[Act.put,List.getElem_toArray,List.getElem_cons_zero,List.getElem_cons_succ,List.setIfInBounds_toArray,List.set_cons_zero,List.set_cons_succ]
                 refine wpAnyH_take (i:=15) (v:=.bool false) rfl (by kernel_rfl) (by kernel_rfl) (by kernel_rfl) (fun _ _ _ h=>h) (Or.inl ⟨by kernel_rfl,?_⟩) (by assumption) ?_
                 · intro X hX
                   (try dsimp only at hX)
                   go_simp
                 dsimp only[Act.put,List.getElem_toArray,List.getElem_cons_zero,List.getElem_cons_succ,List.setIfInBounds_toArray,List.set_cons_zero,List.set_cons_succ]
                 refine wpAnyH_take (i:=16) (v:=.bool false) rfl (by kernel_rfl) (by kernel_rfl) (by kernel_rfl) (fun _ _ _ h=>h) (Or.inl ⟨by kernel_rfl,?_⟩) (by assumption) ?_
                 · intro X hX
                   (try dsimp only at hX)
                   go_simp
                 dsimp only[Act.put,List.getElem_toArray,List.getElem_cons_zero,List.getElem_cons_succ,List.setIfInBounds_toArray,List.set_cons_zero,List.set_cons_succ]
                 refine wpAnyH_take (i:=17) (v:=.bool false) rfl (by kernel_rfl) (by kernel_rfl) (by kernel_rfl) (fun _ _ _ h=>h) (Or.inl ⟨by kernel_rfl,?_⟩) (by assumption) ?_
                 · intro X hX
                   (try dsimp only at hX)
                   go_simp
                 dsimp only[Act.put,List.getElem_toArray,List.getElem_cons_zero,List.getElem_cons_succ,List.setIfInBounds_toArray,List.set_cons_zero,List.set_cons_succ]
                 refine wpAnyH_done (by kernel_rfl) ?_ _
                 obtain ⟨m0,m1,m2,m3,m4,m5,m6⟩:=HS1
                 clear hHeld hB5 x0 x1 x2 x3 x4 x5 p0n
                 go_simp
                 go_wp2_with fail
                 have hB5':=HBN.out.trans ((Below.refl _ _).drew.trans (HB5.out.mono HBN.out.size))
                 have hown5:=zak (show (wn.drew).ownsRow _ _ _ _ _ _ from HOWN.out) HB5.out (Nat.le_refl _)
                 have hz5:=hB5'.size
                 have hneP:=zez HOWN.out hbw2
                 have hneB:some wr.heap.size≠Value.ownBlock u13:=HNB.out
                 have hg5:wr.heap.size<w5.heap.size:=by have:=HB5.out.size;have:wn.drew.heap.size=wn.heap.size:=rfl;omega
                 have hp5:b2<w5.heap.size:=by omega
                 have hm1:m.length+1≤maxLen:=by unfold maxLen;omega
                 have hm2:(m.length+1) * 16≤140737488355328:=by omega
                 have HSN5:=hid hB5'
                 clear hB5' m1 m2 m3 m4 m5
                 first
                   | (go_region_held3 (fun X:World=>X.cell? ⟨wr.heap.size,0,none⟩=some (.int .i64 xa)∧X.cell? ⟨b2,off2+k,none⟩=some (.int .i64 (v:Int)))
                    (first | go_keep | (
                     go_split_ands
                     refine ⟨?_,?_⟩
                     · (rw[hgrow.cell_far _ (by simp;omega) hneB];assumption)
                     · (rw[hgrow.cell_far _ (by simp;omega) hneP];assumption)))
                    ((refine step_append_lies _ (by rfl) _ _ _ (by rfl) w3.heap.size 275 i2 _ 2 16 Tryz.underlying223 HJ.out HJ0.out HJ1.out HJ2.out rfl (by omega) u13 m.length (m.flatMap zpe) (by rfl) ((show (w5.drew).ownsRow _ _ _ _ _ _ from hown5).alloc _) ⟨w5.heap.size,0,none⟩ 1 1 [.int .i64 xa,.int .i64 (v:Int)] (by rfl) (by rfl) (World.news_of_block (cs:=#[.int .i64 xa,.int .i64 (v:Int)]) (t:=275) (fr:=(0,0)) (heap_alloc_new w5.drew _)) (by simp[Value.oneCell']) (by omega) hm1 hm2 (by simp;omega) (w5.heap.size+1) (by simp) ?_;intro gg cap w6 hown1 hgrow hat hlt6)))
                   | fail
                 go_wp2_with fail
                 go_roundw
                 case rel=>exact ⟨k+1,by omega,by go_num,HY.out.1,by rw[HY.out.2,List.length_append,zb6];exact hown1,zaw (w:=w3) (wr:=w5.drew) (HSN5.out.trans (Below.refl _ _).drew) hz5 (show (w5.drew).ownsRow _ _ _ _ _ _ from hown5) hgrow⟩
                 case measure=>simp[intOf];omega
               · have hnb:((xn:Int) != (v:Int))=true:=by rw[bne_iff_ne];omega
                 have HE:=hid (HBAD.out (HMS.out.2.1 rfl rfl hnv))
                 clear HMS hnv
                 go_wp2_with fail
                 obtain ⟨wn,hwn⟩:∃ wn,wr.alloc (.cells #[.int .i64 xa,.int .i64 xs,.int .i64 1,.int .i64 (t:Int),.bool true,.int .u64 (xn:Int)] 55)=wn:=⟨_,rfl⟩
                 have bx:=Bx.new wr 55 #[.int .i64 xa,.int .i64 xs,.int .i64 1,.int .i64 (t:Int),.bool true,.int .u64 (xn:Int)]
                 have hBn:=hB.alloc hz (.cells #[.int .i64 xa,.int .i64 xs,.int .i64 1,.int .i64 (t:Int),.bool true,.int .u64 (xn:Int)] 55)
                 have hownn:=hown.alloc (.cells #[.int .i64 xa,.int .i64 xs,.int .i64 1,.int .i64 (t:Int),.bool true,.int .u64 (xn:Int)] 55)
                 have hswn:(wr.alloc (.cells #[.int .i64 xa,.int .i64 xs,.int .i64 1,.int .i64 (t:Int),.bool true,.int .u64 (xn:Int)] 55)).heap.size=wr.heap.size+1:=by simp
                 have p0n:=(World.cell?_alloc_lt wr (.cells #[.int .i64 xa,.int .i64 xs,.int .i64 1,.int .i64 (t:Int),.bool true,.int .u64 (xn:Int)] 55) ⟨b2,off2+k,none⟩ (by dsimp only;omega)).trans p0
                 rw[hwn] at bx hBn hownn hswn p0n ⊢
                 clear hwn
                 have HRn:=hid (HR3.out.up hBn hBn.size)
                 have HBN:=hid hBn
                 have HOWN:=hid hownn
                 have BX:=hid bx
                 obtain ⟨x0,x1,x2,x3,x4,x5,-,hgg⟩:=bx.c6
                 have hg2:b2<wn.heap.size:=by omega
                 clear hBn hownn bx hown q0 q1 q2 q3 q4 q5 p0
                 refine wp_region_held_drew (S:=fun X:World=>X.cell? ⟨wr.heap.size,0,none⟩=some (.int .i64 xa)∧X.cell? ⟨wr.heap.size,1,none⟩=some (.int .i64 xs)∧X.cell? ⟨wr.heap.size,2,none⟩=some (.int .i64 1)∧X.cell? ⟨wr.heap.size,3,none⟩=some (.int .i64 (t:Int))∧X.cell? ⟨wr.heap.size,4,none⟩=some (.bool true)∧X.cell? ⟨wr.heap.size,5,none⟩=some (.int .u64 (xn:Int))∧X.cell? ⟨b2,off2+k,none⟩=some (.int .i64 (v:Int))) (by kernel_rfl) ⟨x0,x1,x2,x3,x4,x5,p0n⟩ (fun hHeld => ?_)
                 show wpAnyH _ _ _ _ _ 18 #[false,false,false,false,false,false,false,false,false,false,false,false,false,false,false,false,false,false] _ _
                 refine wpAnyH_take (i:=0) (v:=.slice A ws.length c) rfl (by kernel_rfl) (by kernel_rfl) (by kernel_rfl) (fun _ _ _ h=>h) (Or.inl ⟨by kernel_rfl,?_⟩) (by assumption) ?_
                 · intro X hX
                   (try dsimp only at hX)
                   go_simp
                 dsimp only[Act.put,List.getElem_toArray,List.getElem_cons_zero,List.getElem_cons_succ,List.setIfInBounds_toArray,List.set_cons_zero,List.set_cons_succ]
                 refine wpAnyH_take (i:=1) (v:=.agg #[.int .i64 xa,.int .i64 xs,.int .i64 1,.int .i64 (t:Int),.bool true,.int .u64 (xn:Int)]) rfl (by kernel_rfl) (by kernel_rfl) (by kernel_rfl) (fun _ _ _ h=>h) (Or.inl ⟨by kernel_rfl,?_⟩) (by assumption) ?_
                 · intro X hX
                   (try dsimp only at hX)
                   go_simp
                 dsimp only[Act.put,List.getElem_toArray,List.getElem_cons_zero,List.getElem_cons_succ,List.setIfInBounds_toArray,List.set_cons_zero,List.set_cons_succ]
                 refine wpAnyH_ready (rs:=[2]) (by kernel_rfl) (by simp) ?_
                 refine AllReadyH.cons rfl (fun K hK => ?_) AllReadyH.nil
                 go_simp
                 refine (HT.out wn.drew (show RdW wn.drew wn.drew.heap.size A ws from HRn.out)).mono ?_
                 rintro e w5 ⟨rfl,hB5⟩
                 go_simp
                 have HB5:=hid hB5
                 refine hK.out _ _ ⟨(hB5.cell (p:=⟨wr.heap.size,0,none⟩) hgg).trans x0,(hB5.cell (p:=⟨wr.heap.size,1,none⟩) hgg).trans x1,(hB5.cell (p:=⟨wr.heap.size,2,none⟩) hgg).trans x2,(hB5.cell (p:=⟨wr.heap.size,3,none⟩) hgg).trans x3,(hB5.cell (p:=⟨wr.heap.size,4,none⟩) hgg).trans x4,(hB5.cell (p:=⟨wr.heap.size,5,none⟩) hgg).trans x5,(hB5.cell (p:=⟨b2,off2+k,none⟩) hg2).trans p0n⟩ (fun HS1 => ?_)
                 clear hK K
                 refine wpAnyH_take (i:=3) (v:=.bool false) rfl (by kernel_rfl) (by kernel_rfl) (by kernel_rfl) (fun _ _ _ h=>h) (Or.inl ⟨by kernel_rfl,?_⟩) (by assumption) ?_
                 · intro X hX
                   (try dsimp only at hX)
                   go_simp
                 dsimp only[Act.put,List.getElem_toArray,List.getElem_cons_zero,List.getElem_cons_succ,List.setIfInBounds_toArray,List.set_cons_zero,List.set_cons_succ]
                 refine wpAnyH_take (i:=4) (v:=.bool false) rfl (by kernel_rfl) (by kernel_rfl) (by kernel_rfl) (fun _ _ _ h=>h) (Or.inl ⟨by kernel_rfl,?_⟩) (by assumption) ?_
                 · intro X hX
                   (try dsimp only at hX)
                   go_simp
                 dsimp only[Act.put,List.getElem_toArray,List.getElem_cons_zero,List.getElem_cons_succ,List.setIfInBounds_toArray,List.set_cons_zero,List.set_cons_succ]
                 refine wpAnyH_take (i:=5) (v:=.pointer (some ⟨wr.heap.size,4,none⟩)) rfl (by kernel_rfl) (by kernel_rfl) (by kernel_rfl) (fun _ _ _ h=>h) (Or.inl ⟨by kernel_rfl,?_⟩) (by assumption) ?_
                 · intro X hX
                   (try dsimp only at hX)
                   go_simp
                 dsimp only[Act.put,List.getElem_toArray,List.getElem_cons_zero,List.getElem_cons_succ,List.setIfInBounds_toArray,List.set_cons_zero,List.set_cons_succ]
                 refine wpAnyH_take (i:=6) (v:=.bool true) rfl (by kernel_rfl) (by kernel_rfl) (by kernel_rfl) (fun _ _ _ h=>h) (Or.inl ⟨by kernel_rfl,?_⟩) (by assumption) ?_
                 · intro X hX
                   (try dsimp only at hX)
                   go_simp
                 dsimp only[Act.put,List.getElem_toArray,List.getElem_cons_zero,List.getElem_cons_succ,List.setIfInBounds_toArray,List.set_cons_zero,List.set_cons_succ]
                 refine wpAnyH_take (i:=7) (v:=.bool true) rfl (by kernel_rfl) (by kernel_rfl) (by kernel_rfl) (fun _ _ _ h=>h) (Or.inl ⟨by kernel_rfl,?_⟩) (by assumption) ?_
                 · intro X hX
                   (try dsimp only at hX)
                   go_simp
                 dsimp only[Act.put,List.getElem_toArray,List.getElem_cons_zero,List.getElem_cons_succ,List.setIfInBounds_toArray,List.set_cons_zero,List.set_cons_succ]
                 refine wpAnyH_take (i:=8) (v:=.pointer (some ⟨wr.heap.size,5,none⟩)) rfl (by kernel_rfl) (by kernel_rfl) (by kernel_rfl) (fun _ _ _ h=>h) (Or.inl ⟨by kernel_rfl,?_⟩) (by assumption) ?_
                 · intro X hX
                   (try dsimp only at hX)
                   go_simp
                 dsimp only[Act.put,List.getElem_toArray,List.getElem_cons_zero,List.getElem_cons_succ,List.setIfInBounds_toArray,List.set_cons_zero,List.set_cons_succ]
                 refine wpAnyH_take (i:=9) (v:=.int .u64 (xn:Int)) rfl (by kernel_rfl) (by kernel_rfl) (by kernel_rfl) (fun _ _ _ h=>h) (Or.inl ⟨by kernel_rfl,?_⟩) (by assumption) ?_
                 · intro X hX
                   (try dsimp only at hX)
                   go_simp
                 dsimp only[Act.put,List.getElem_toArray,List.getElem_cons_zero,List.getElem_cons_succ,List.setIfInBounds_toArray,List.set_cons_zero,List.set_cons_succ]
                 refine wpAnyH_take (i:=10) (v:=.slice (some ⟨b2,off2,none⟩) l.length c2) rfl (by kernel_rfl) (by kernel_rfl) (by kernel_rfl) (fun _ _ _ h=>h) (Or.inl ⟨by kernel_rfl,?_⟩) (by assumption) ?_
                 · intro X hX
                   (try dsimp only at hX)
                   go_simp
                 dsimp only[Act.put,List.getElem_toArray,List.getElem_cons_zero,List.getElem_cons_succ,List.setIfInBounds_toArray,List.set_cons_zero,List.set_cons_succ]
                 refine wpAnyH_take (i:=11) (v:=.int .i64 (k:Int)) rfl (by kernel_rfl) (by kernel_rfl) (by kernel_rfl) (fun _ _ _ h=>h) (Or.inl ⟨by kernel_rfl,?_⟩) (by assumption) ?_
                 · intro X hX
                   (try dsimp only at hX)
                   go_simp
                 dsimp only[Act.put,List.getElem_toArray,List.getElem_cons_zero,List.getElem_cons_succ,List.setIfInBounds_toArray,List.set_cons_zero,List.set_cons_succ]
                 refine wpAnyH_take (i:=12) (v:=.pointer (some ⟨b2,off2+k,none⟩)) rfl (by kernel_rfl) (by kernel_rfl) (by kernel_rfl) (fun _ _ _ h=>h) (Or.inl ⟨by kernel_rfl,?_⟩) (by assumption) ?_
                 · intro X hX
                   (try dsimp only at hX)
                   go_simp
                 dsimp only[Act.put,List.getElem_toArray,List.getElem_cons_zero,List.getElem_cons_succ,List.setIfInBounds_toArray,List.set_cons_zero,List.set_cons_succ]
                 refine wpAnyH_take (i:=13) (v:=.int .i64 (v:Int)) rfl (by kernel_rfl) (by kernel_rfl) (by kernel_rfl) (fun _ _ _ h=>h) (Or.inl ⟨by kernel_rfl,?_⟩) (by assumption) ?_
                 · intro X hX
                   (try dsimp only at hX)
                   go_simp
                 dsimp only[Act.put,List.getElem_toArray,List.getElem_cons_zero,List.getElem_cons_succ,List.setIfInBounds_toArray,List.set_cons_zero,List.set_cons_succ]
                 refine wpAnyH_take (i:=14) (v:=.int .u64 (v:Int)) rfl (by kernel_rfl) (by kernel_rfl) (by kernel_rfl) (fun _ _ _ h=>h) (Or.inl ⟨by kernel_rfl,?_⟩) (by assumption) ?_
                 · intro X hX
                   (try dsimp only at hX)
                   go_simp
                 dsimp only[Act.put,List.getElem_toArray,List.getElem_cons_zero,List.getElem_cons_succ,List.setIfInBounds_toArray,List.set_cons_zero,List.set_cons_succ]
                 refine wpAnyH_take (i:=15) (v:=.bool true) rfl (by kernel_rfl) (by kernel_rfl) (by kernel_rfl) (fun _ _ _ h=>h) (Or.inl ⟨by kernel_rfl,?_⟩) (by assumption) ?_
                 · intro X hX
                   (try dsimp only at hX)
                   go_simp
                 dsimp only[Act.put,List.getElem_toArray,List.getElem_cons_zero,List.getElem_cons_succ,List.setIfInBounds_toArray,List.set_cons_zero,List.set_cons_succ]
                 refine wpAnyH_take (i:=16) (v:=.bool true) rfl (by kernel_rfl) (by kernel_rfl) (by kernel_rfl) (fun _ _ _ h=>h) (Or.inl ⟨by kernel_rfl,?_⟩) (by assumption) ?_
                 · intro X hX
                   (try dsimp only at hX)
                   go_simp
                 dsimp only[Act.put,List.getElem_toArray,List.getElem_cons_zero,List.getElem_cons_succ,List.setIfInBounds_toArray,List.set_cons_zero,List.set_cons_succ]
                 refine wpAnyH_take (i:=17) (v:=.bool true) rfl (by kernel_rfl) (by kernel_rfl) (by kernel_rfl) (fun _ _ _ h=>h) (Or.inl ⟨by kernel_rfl,?_⟩) (by assumption) ?_
                 · intro X hX
                   (try dsimp only at hX)
                   go_simp
                 dsimp only[Act.put,List.getElem_toArray,List.getElem_cons_zero,List.getElem_cons_succ,List.setIfInBounds_toArray,List.set_cons_zero,List.set_cons_succ]
                 refine wpAnyH_done (by kernel_rfl) ?_ _
                 obtain ⟨m0,m1,m2,m3,m4,m5,m6⟩:=HS1
                 clear hHeld hB5 x0 x1 x2 x3 x4 x5 p0n
                 go_simp
                 go_wp2_with fail
                 go_ret2
                 exact ⟨zkd HE.out (by omega),hb3.trans ((HBN.out.trans ((Below.refl _ _).drew.trans (HB5.out.mono HBN.out.size))).mono hz3)⟩
         · have hk2:(xk != 1)=true:=by rw[bne_iff_ne];exact hk1
           have hfx:zds ws ⟨xa,xs,xk,xt,xm,xn⟩=true:=zd3 hk1
           have hlx:zax ⟨xa,xs,xk,xt,xm,xn⟩=false:=by
             unfold zax
             show (xk == 1 && xm)=false
             rw[show (xk == 1)=false by rw[beq_eq_false_iff_ne];exact hk1];rfl
           have HY:=hid (HMS.out.2.2.2 hfx hlx)
           clear hk1 hfx hlx HMS
           go_wp2_with fail
           go_roundw
           case rel=>exact ⟨k+1,by omega,by go_num,HY.out.1,by rw[HY.out.2];exact hown.alloc _,hB.alloc hz _⟩
           case measure=>simp[intOf];omega
       · have HP:=hid (zG8 HS.out HARG.out (l:=l) (by rw[Int.toNat_natCast];exact HSO.out) (by have:=HAL.out;rwa [List.take_of_length_le (by omega)] at this))
         rw[List.take_of_length_le (by omega)] at hown
         obtain ⟨A4,c4,rfl,hle,hrd4⟩:=zir hown
         have HRD4:=hid hrd4
         have HLE4:=hid hle
         clear hrd4 hown hle
         go_wp2_with fail
         go_ret2
         exact ⟨⟨A4,c4,by rw[HP.out.1,HP.out.2];rfl,by rw[HP.out.2];exact HRD4.out,by rw[HP.out.2];exact HLE4.out⟩,hb3.trans (hB.mono hz3)⟩
   · have HE:=hid (zCr HS.out hbad)
     have hways:=zLe hbad
     clear hbad
     rcases hways with ⟨g1,g2⟩|⟨⟨g1,g2⟩,⟨g3,g4⟩|⟨⟨g3,g4⟩,g5|⟨g5,g6⟩|⟨⟨g5,g6⟩,g7⟩⟩⟩
     all_goals
      go_enter Tryz.func161,Tryz.ntmps161
      go_wp2_with fail
      refine (zay A ws.length c w hm).mono ?_
      rintro e w1 ⟨rfl,rfl⟩
      rw[HI.out]
      go_wp2_with fail
      all_goals
       go_ret2
       exact ⟨zkd HE.out (by omega),Below.refl _ _⟩
end Go.Proofs.YtpcajamacpbjcaaGreat
namespace Go.Proofs.YtpcajamacpbjcaaGreat
open Lib (hid)
open Go.RowKit
theorem zq5 {α:Type} {a b:List α} {k:Nat} (ha:k<a.length) (hb:k<b.length) (h:a.take k=b.take k) (h1:a[k]=b[k]):a.take (k+1)=b.take (k+1):=by
 rw[List.take_succ_eq_append_getElem ha,List.take_succ_eq_append_getElem hb,h,h1]
theorem zvn {α:Type} [DecidableEq α] {a b:List α} (hl:a.length=b.length) (h:a.take a.length=b.take a.length):decide (a=b)=true:=by
 rw[List.take_length,List.take_of_length_le (by omega)] at h
 rw[decide_eq_true_iff];exact h
theorem zzh {α:Type} [DecidableEq α] {a b:List α} {k:Nat} (ha:k<a.length) (hb:k<b.length) (h1:a[k]≠b[k]):decide (a=b)=false:=by
 rw[decide_eq_false_iff_not]
 rintro rfl
 exact h1 rfl
theorem zu0 {α:Type} [DecidableEq α] {a b:List α} (h:a.length≠b.length):decide (a=b)=false:=by
 rw[decide_eq_false_iff_not]
 rintro rfl
 exact h rfl
end Go.Proofs.YtpcajamacpbjcaaGreat
namespace Go.Proofs.YtpcajamacpbjcaaGreat
open Lib (hid)
open Go.RowKit
end Go.Proofs.YtpcajamacpbjcaaGreat
namespace Go.Proofs.YtpcajamacpbjcaaGreat
open Lib (hid)
open Go.RowKit
def zHe (w:World) (xs:List Nat) (e:Ending) (w':World):Prop:=∃ g c,e=.returned (.slice (some ⟨g,0,none⟩) xs.length c)∧w'.ownsRow w.heap.size 53 1 (.slice (some ⟨g,0,none⟩) xs.length c) xs.length (xs.flatMap zaj)∧Below w.heap.size w w'
theorem zpd:(Tryz.prog.info? 53).map (fun i=>(i.zero,i.size,i.bytes))=some (some (.int .u64 0),1,8):=by kernel_rfl
theorem zsn (ws:List Nat) (a v:Nat):(ws.set a v).flatMap zaj=(ws.flatMap zaj).set a (.int .u64 (v:Int)):=by
 have:=ze9 zaj 1 zbe ws a 0 (by omega) v (.int .u64 (v:Int)) (fun y _=>rfl)
 simpa using this
theorem zh1 (ws:List Nat):(ws.flatMap zaj).length=ws.length:=by
 rw[zcw zaj 1 zbe];omega
theorem zq1 (ws:List Nat) (k:Nat) (h:k<ws.length):(ws.flatMap zaj)[k]? = some (.int .u64 (ws[k]:Int)):=by
 have:=zhf zaj 1 zbe ws k 0 h (by omega)
 simpa [zaj] using this
theorem zl8 {w:World} {H n:Nat} {e:TypeId} {sz:Nat} {v:Value} {xs:List Value} (h:w.ownsRow H e sz v n xs) (hn:0<n):∃ g c,v=.slice (some ⟨g,0,none⟩) n c:=by
 obtain ⟨g,c,h1,_⟩:=h.form hn
 exact ⟨g,c,h1⟩
theorem zpw {w:World} {H:Nat} {e:TypeId} {sz n g c:Nat} {xs:List Value} (h:w.ownsRow H e sz (.slice (some ⟨g,0,none⟩) n c) n xs):H≤g:=by
 rcases h.2 with ⟨h',_⟩|⟨g',cap',cur,h',hb,_⟩
 · simp at h'
 · simp only[Value.slice.injEq,Option.some.injEq,Addr.mk.injEq,and_true,true_and] at h'
   omega
theorem zJs {ws:List Nat} {f s:Int} (h:zbi ws f s≠0):(zhn ws f s).length=0:=by simp[zhn,h]
theorem zEn (ws:List Nat) (f s:Int):(zhn ws f s).length≤2048:=by
 by_cases h:zbi ws f s=0
 · obtain ⟨h1,h2,l,h3,h4,h5⟩:=zb8 h
   rw[h5]
   have hb:=zl3 h1
   have ha:=zgb h2
   have h6:=(zbs (by omega) _ _ h3 (by omega) (by omega) (by omega)).1
   have h7:=zlk l s
   omega
 · rw[zJs h];omega
def zEf (l:List (Int × Int)) (a:Int) (k:Nat):Prop:=ze2 l a=ze2 (l.drop k) a
theorem zC3 {l:List (Int × Int)} {a:Int} {k:Nat} (hk:k<l.length) (h:zEf l a k) (h1:l[k].1≠a):zEf l a (k+1):=by
 unfold zEf at h ⊢
 rw[h,List.drop_eq_getElem_cons hk]
 simp[ze2,h1]
theorem zKn {l:List (Int × Int)} {a:Int} {k:Nat} (hk:k<l.length) (h:zEf l a k) (h1:l[k].1=a):ze2 l a=some l[k].2:=by
 unfold zEf at h
 rw[h,List.drop_eq_getElem_cons hk]
 simp[ze2,h1]
theorem zEw {l:List (Int × Int)} {a:Int} (h:zEf l a l.length):ze2 l a=none:=by
 unfold zEf at h
 rw[h,List.drop_length];rfl
set_option maxRecDepth 100000 in
set_option maxHeartbeats 2000000 in
theorem fwTo_c (A:Option Addr) (l:List (Int × Int)) (c n H:Nat) (a:Int) (w:World) (hn:l.length=n) (hm:n≤1000000) (hr:RdM w H A l) (hH:H≤w.heap.size) :
  Calls Tryz.prog 284 #[.slice A n c,.int .i64 a] w fun e w'=>e=.returned (.tuple #[.int .i64 ((ze2 l a).getD 0),.bool (ze2 l a).isSome])∧Below w.heap.size w w':=by
 subst hn
 have HR:=hid (hr.more hH)
 have HE:Hid (∀ k (h:k<l.length),zEf l a k→l[k].1=a→ze2 l a=some l[k].2):=hid fun k h h1 h2=>zKn h h1 h2
 have HN:Hid (zEf l a l.length→ze2 l a=none):=hid zEw
 obtain ⟨q,hq⟩:∃ q,ze2 l a=q:=⟨_,rfl⟩
 rw[hq] at HE HN ⊢
 clear hr hH hq
 go_enter Tryz.func284,Tryz.ntmps284
 go_wp2_with fail
 go_loopw [10] (fun i wr=>∃ k:Nat,k≤l.length∧i=.int .i64 k∧Hid (zEf l a k)∧Below w.heap.size w wr) (fun i _=>l.length - (intOf i).toNat)
 case atStart=>exact ⟨0,Nat.zero_le _,rfl,rfl,Below.refl _ _⟩
 case round =>
  obtain ⟨k,hk,rfl,HT,hB⟩:=hrel
  have hz:=hB.size
  by_cases hlt:k<l.length
  · obtain ⟨b,off,rfl,hb,p0,p1⟩:=RdM.at_ (Rd.below HR.out hB) hlt
    have HS:=hid (fun h=>zC3 hlt HT.out h)
    have HE2:=hid (fun h=>HE.out k hlt HT.out h)
    obtain ⟨x,hx⟩:∃ x,l[k]=x:=⟨_,rfl⟩
    rw[hx] at p0 p1 HS HE2
    obtain ⟨x1,x2⟩:=x
    dsimp only at p0 p1 HS HE2
    have hk1:(k:Int)<(l.length:Int):=by omega
    clear hx
    by_cases hxa:x1=a
    · have e1:(x1 == a)=true:=by rw[beq_iff_eq];exact hxa
      have HY:=hid (HE2.out hxa)
      clear hxa
      go_wp2_with fail
      go_ret2
      exact ⟨by rw[HY.out];rfl,hB.alloc hz _⟩
    · have e1:(x1 == a)=false:=by rw[beq_eq_false_iff_ne];exact hxa
      have HY:=hid (HS.out hxa)
      clear hxa
      go_wp2_with fail
      go_roundw
      case rel=>exact ⟨k+1,by omega,by go_num,HY.out,hB.alloc hz _⟩
      case measure=>simp[intOf];omega
  · have HY:=hid (HN.out (by have:=HT.out;rwa [show k=l.length by omega] at this))
    go_wp2_with fail
    go_ret2
    exact ⟨by rw[HY.out];rfl,hB⟩
end Go.Proofs.YtpcajamacpbjcaaGreat
namespace Go.Proofs.YtpcajamacpbjcaaGreat
open Lib (hid)
open Go.RowKit
theorem zB0 {ws:List Nat} {E:List En} {k:Nat} (hk:k<E.length):zag ws (E.take (k+1))=if 0≤E[k].a∧E[k].a<(ws.length:Int) then (zag ws (E.take k)).set E[k].a.toNat E[k].v else zag ws (E.take k):=by
 rw[List.take_succ_eq_append_getElem hk,zea]
 simp only[zag,zau]
theorem zo7 (E:List En):∀ (ws:List Nat),(∀ x ∈ ws,x<18446744073709551616)→(∀ e ∈ E,e.v<18446744073709551616)→∀ x ∈ zag ws E,x<18446744073709551616:=by
 induction E with
 | nil=>intro ws h _;exact h
 | cons e E ih =>
  intro ws h h2
  simp only[zag]
  refine ih _ ?_ (fun x hx=>h2 x (by simp[hx]))
  split
  · intro x hx
    rcases List.mem_or_eq_of_mem_set hx with h3|h3
    · exact h x h3
    · have:=h2 e (by simp);omega
  · exact h
end Go.Proofs.YtpcajamacpbjcaaGreat
namespace Go.Proofs.YtpcajamacpbjcaaGreat
open Lib (hid)
open Go.RowKit
def zg0 (x:Nat) (m:Bool):Bk:={ zaf x with mark:=m }
def zf1 (x:Nat) (m:Bool):Nat:=if zar x=true then zht (zg0 x m) else 0
def znw (x:Nat) (m:Bool):Int:=if zar x=true then zhr (zg0 x m) else 50
set_option maxRecDepth 100000 in
set_option maxHeartbeats 2000000 in
theorem zob (x:Nat) (m:Bool) (w:World) (hx:x<18446744073709551616):Calls Tryz.prog 205 #[.int .u64 (x:Int),.bool m] w fun e w'=>e=.returned (.tuple #[.int .u64 (zf1 x m:Nat),.int .i64 (znw x m)])∧Below w.heap.size w w':=by
 have HSP:=hid (znq x w hx)
 have hraw:(zaf x).val=.agg #[.int .i64 0,.int .i64 ((x / 65536 % 65536:Nat):Int),.int .i64 ((x % 256:Nat):Int),.int .i64 ((x / 512 % 128:Nat):Int),.bool (x / 256 % 2 == 1),.int .u64 0]:=rfl
 have hrem:(zg0 x m).val=.agg #[.int .i64 0,.int .i64 ((x / 65536 % 65536:Nat):Int),.int .i64 ((x % 256:Nat):Int),.int .i64 ((x / 512 % 128:Nat):Int),.bool m,.int .u64 0]:=rfl
 cases hs:zar x
 · have HV:=hid (show zf1 x m=0∧znw x m=50 by simp[zf1,znw,hs])
   rw[(zln hs).1,(zln hs).2] at HSP
   unfold zlv Bk.val at HSP
   dsimp only at HSP
   clear hs hraw hrem hx
   go_enter Tryz.func205,Tryz.ntmps205
   go_wp2_with fail
   refine HSP.out.mono ?_
   rintro e w1 ⟨rfl,hB1⟩
   go_wp2_with fail
   go_ret2
   exact ⟨by rw[HV.out.1,HV.out.2];rfl,hB1.alloc hB1.size _⟩
 · have HV:=hid (show zf1 x m=zht (zg0 x m)∧znw x m=zhr (zg0 x m) by simp[zf1,znw,hs])
   have HW:=hid (fun W=>zqb (zg0 x m) W)
   rw[(zlq hs).1,(zlq hs).2,hraw] at HSP
   rw[hrem] at HW
   obtain ⟨S,hS⟩:∃ S,((x / 65536 % 65536:Nat):Int)=S:=⟨_,rfl⟩
   obtain ⟨K,hK⟩:∃ K,((x % 256:Nat):Int)=K:=⟨_,rfl⟩
   obtain ⟨T,hT⟩:∃ T,((x / 512 % 128:Nat):Int)=T:=⟨_,rfl⟩
   obtain ⟨M,hM⟩:∃ M,(x / 256 % 2 == 1)=M:=⟨_,rfl⟩
   obtain ⟨V,hV⟩:∃ V,zht (zg0 x m)=V:=⟨_,rfl⟩
   obtain ⟨R,hR⟩:∃ R,zhr (zg0 x m)=R:=⟨_,rfl⟩
   rw[hS,hK,hT,hM] at HSP
   rw[hS,hK,hT,hV,hR] at HW
   rw[hV,hR] at HV
   clear hs hraw hrem hx hS hK hT hM hV hR
   go_enter Tryz.func205,Tryz.ntmps205
   go_wp2_with fail
   refine HSP.out.mono ?_
   rintro e w1 ⟨rfl,hB1⟩
   have hz1:=hB1.size
   go_wp2_with fail
   refine (HW.out _).mono ?_
   rintro e w2 ⟨rfl,hB2⟩
   have hb2:=(hB1.alloc hz1 (.cells #[.int .i64 0,.int .i64 S,.int .i64 K,.int .i64 T,.bool m,.int .u64 0] 55)).trans (hB2.mono (by simp;omega))
   go_wp2_with fail
   go_ret2
   exact ⟨by rw[HV.out.1,HV.out.2];rfl,hb2⟩
end Go.Proofs.YtpcajamacpbjcaaGreat
