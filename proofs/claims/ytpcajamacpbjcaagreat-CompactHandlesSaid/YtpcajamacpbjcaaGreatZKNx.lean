/- Texts laid together: Fin RsN RsA. -/
import Derived.Test.YtpcajamacpbjcaaGreatZKRs
import Derived.Test.YtpcajamacpbjcaaGreatZKHeap
import Derived.Test.YtpcajamacpbjcaaGreatZKRch
import Derived.Laws.OwnMore
import Derived.Test.YtpcajamacpbjcaaGreatZKStg2
namespace Go.Proofs.YtpcajamacpbjcaaGreat
open Lib (hid)
open Go.RowKit
set_option maxRecDepth 100000 in
set_option maxHeartbeats 4000000 in
theorem fEnd_c (A:Option Addr) (ws:List Nat) (c n:Nat) (w:World) (hn:ws.length=n) (hm:n≤9223372036854775807) (hc:n≤c) (hr:RdW w w.heap.size A ws) (ho:∀ x ∈ ws,x<18446744073709551616) :
   Calls Tryz.prog 104 #[.slice A n c] w fun e w'=>e=.returned (.tuple #[.int .i64 (zfa ws:Nat),.int .i64 (zew ws)])∧Below w.heap.size w w':=by
 subst hn
 have HR:=hid hr
 have HCK:=hid (fun W (h:RdW W W.heap.size A ws)=>zmx A ws c ws.length W rfl hm hc h ho)
 have HLN:=hid (fun W (h:RdW W W.heap.size A ws)=>zvf A ws c ws.length W rfl hm hc h ho)
 have HLF:=hid (fun W (h:RdW W W.heap.size A ws)=>zIr A ws c ws.length W rfl hm hc h ho)
 clear hr ho
 by_cases h0:zao ws=0
 · have hln:=zjw h0
   have hlv:lnV ws=phV (wd ws 16) (wd ws 17) (wd ws 18):=by simp[lnV,hln]
   have HV1:=hid (fun h2 h3=>zEl h0 h2 h3)
   have HV2:=hid (fun h2=>zGt h0 h2)
   have HTO:Hid (zew ws=6→zfa ws=0):=hid fun h=>by simp[zfa,h]
   rw[h0] at HCK HLF
   rw[hln,hlv] at HLN
   unfold phV at HLN
   obtain ⟨x,hx⟩:∃ x,wd ws 16=x:=⟨_,rfl⟩
   obtain ⟨y,hy⟩:∃ y,wd ws 17=y:=⟨_,rfl⟩
   obtain ⟨z,hz⟩:∃ z,wd ws 18=z:=⟨_,rfl⟩
   obtain ⟨N,hN⟩:∃ N,lfN ws=N:=⟨_,rfl⟩
   rw[hx,hy,hz] at HLN
   rw[hx,hN] at HV1 HV2
   rw[hz] at HV1
   rw[hN] at HLF
   have hways:(x=4∧N=0)∨(x=4∧N≠0)∨x≠4:=by omega
   clear h0 hln hlv hx hy hz hN
   rcases hways with ⟨x4,n0⟩|⟨x4,n0⟩|x4
   · have HV:=hid (HV1.out x4 n0)
     subst x4 n0
     simp only[Int.cast_ofNat_Int] at HLN HLF
     clear HV1 HV2
     go_enter Tryz.func104,Tryz.ntmps104
     go_wp2_with fail
     refine (HCK.out _ HR.out).mono ?_
     rintro e w1 ⟨rfl,hB1⟩
     have HB1:=hid hB1
     have HR1:=hid (HR.out.up hB1 hB1.size)
     clear hB1
     go_wp2_with fail
     refine (HLN.out _ HR1.out).mono ?_
     rintro e w2 ⟨rfl,hB2⟩
     have HB2:=hid ((HB1.out.trans (hB2.mono HB1.out.size)).alloc (by have:=hB2.size;have:=HB1.out.size;omega) (.cells #[.int .i64 4,.int .i64 (y:Int),.int .i64 (z:Int)] 107))
     have HR2:=hid (HR.out.up HB2.out HB2.out.size)
     have BX2:=hid (Bx.new w2 107 #[.int .i64 4,.int .i64 (y:Int),.int .i64 (z:Int)])
     clear hB2
     go_wp2_with fail
     refine (HLF.out _ HR2.out).mono ?_
     rintro e w3 ⟨rfl,hB3⟩
     have bx3:=BX2.out.up hB3 BX2.out.lt
     obtain ⟨p0,p1,p2,-⟩:=bx3.c3
     have HB3:=hid (HB2.out.trans (hB3.mono HB2.out.size))
     clear hB3 bx3
     go_wp2_with fail
     go_ret2
     exact ⟨by rw[HV.out.1,HV.out.2];rfl,HB3.out⟩
   all_goals
     have HV:=hid (HV2.out (by omega))
     have HT0:=hid (HTO.out HV.out)
     have hxw:(x=4∧((x:Int) != 4)=false∧(x != 4)=false∧decide ((0:Int)<(N:Int))=true∧decide (0<N)=true)∨((x:Int) != 4)=true∧(x != 4)=true:=by
      by_cases h:x=4
      · left;exact ⟨h,by rw[bne_eq_false_iff_eq];omega,by rw[bne_eq_false_iff_eq];exact h,by rw[decide_eq_true_iff];omega,by rw[decide_eq_true_iff];omega⟩
      · right;exact ⟨by rw[bne_iff_ne];omega,by rw[bne_iff_ne];exact h⟩
     clear HV1 HV2 HTO
     (try clear n0)
     clear x4
     rcases hxw with ⟨-,hx1,hx2,hx3,hx4⟩|⟨hx1,hx2⟩
     all_goals
      go_enter Tryz.func104,Tryz.ntmps104
      go_wp2_with fail
      refine (HCK.out _ HR.out).mono ?_
      rintro e w1 ⟨rfl,hB1⟩
      have HB1:=hid hB1
      have HR1:=hid (HR.out.up hB1 hB1.size)
      clear hB1
      go_wp2_with fail
      refine (HLN.out _ HR1.out).mono ?_
      rintro e w2 ⟨rfl,hB2⟩
      have HB2:=hid ((HB1.out.trans (hB2.mono HB1.out.size)).alloc (by have:=hB2.size;have:=HB1.out.size;omega) (.cells #[.int .i64 (x:Int),.int .i64 (y:Int),.int .i64 (z:Int)] 107))
      have HR2:=hid (HR.out.up HB2.out HB2.out.size)
      have BX2:=hid (Bx.new w2 107 #[.int .i64 (x:Int),.int .i64 (y:Int),.int .i64 (z:Int)])
      clear hB2
      go_wp2_with fail
      refine (HLF.out _ HR2.out).mono ?_
      rintro e w3 ⟨rfl,hB3⟩
      have bx3:=BX2.out.up hB3 BX2.out.lt
      obtain ⟨p0,p1,p2,-⟩:=bx3.c3
      have HB3:=hid (HB2.out.trans (hB3.mono HB2.out.size))
      clear hB3 bx3
      go_wp2_with fail
      go_ret2
      exact ⟨by rw[HV.out,HT0.out];rfl,HB3.out⟩
 · have HV:=hid (zG4 (ws:=ws) rfl h0)
   have HT0:Hid (zfa ws=0):=hid (by simp[zfa,HV.out,h0])
   obtain ⟨r,hr⟩:∃ r,zao ws=r:=⟨_,rfl⟩
   rw[hr] at HCK h0 HV
   have hrn:(r != 0)=true:=by rw[bne_iff_ne];exact h0
   clear h0 hr
   go_enter Tryz.func104,Tryz.ntmps104
   go_wp2_with fail
   refine (HCK.out _ HR.out).mono ?_
   rintro e w1 ⟨rfl,hB1⟩
   go_wp2_with fail
   go_ret2
   exact ⟨by rw[HV.out,HT0.out];rfl,hB1⟩
theorem Ch.atE {w:World} {B:Nat} {A:Option Addr} {l:List Ch} (h:Rd w B A (l.flatMap Ch.cells)) {k:Nat} (hk:k<l.length):∃ b off,A=some ⟨b,off,none⟩∧b<B∧w.cell? ⟨b,off+k,none⟩=some (.slice l[k].A l[k].l.length l[k].c):=RdC.at_ h hk
def zp6 (l:List Ch):List En:=l.flatMap Ch.l
set_option maxRecDepth 100000 in
set_option maxHeartbeats 2000000 in
theorem zE2 (A:Option Addr) (l:List Ch) (c n H:Nat) (w:World) (hn:l.length=n) (hlen:∀ k,(zp6 (l.take k)).length≤1000) (hsm:∀ x ∈ l,x.l.length≤1000) (hm:n≤1000) (hr:Rd w H A (l.flatMap Ch.cells)) (he:∀ x ∈ l,RdE w H x.A x.l∧(x.A=none→x.c=0)) (hH:H≤w.heap.size) :
  Calls Tryz.prog 106 #[.slice A n c] w fun e w'=>(∃ v,e=.returned v∧w'.ownsRow w.heap.size 89 2 v (zp6 l).length ((zp6 l).flatMap En.cells))∧Below w.heap.size w w':=by
 subst hn
 have HR:=hid (hr.more hH)
 have HEE:Hid (∀ k (h:k<l.length),RdE w w.heap.size l[k].A l[k].l∧(l[k].A=none→l[k].c=0)):=hid fun k h=>⟨(he _ (List.getElem_mem h)).1.more hH,(he _ (List.getElem_mem h)).2⟩
 have HSM:Hid (∀ k (h:k<l.length),l[k].l.length≤1000):=hid fun k h=>hsm _ (List.getElem_mem h)
 have HLE:=hid hlen
 have HTK:Hid (∀ k (h:k<l.length),zp6 (l.take (k+1))=zp6 (l.take k)++l[k].l):=hid fun k h=>by unfold zp6;rw[List.take_succ_eq_append_getElem h,List.flatMap_append];simp
 clear hr he hH hlen hsm
 obtain ⟨i0,hi,hz0,hz1,hz2⟩:=info_parts zdn
 have HI:=hid hi
 have HZ0:=hid hz0
 have HZ1:=hid hz1
 have HZ2:=hid hz2
 clear hi hz0 hz1 hz2
 go_enter Tryz.func106,Tryz.ntmps106
 go_wp2_with fail
 go_loopw [3,8] (fun v i wr=>∃ k:Nat,k≤l.length∧i=.int .i64 k∧wr.ownsRow w.heap.size 89 2 v (zp6 (l.take k)).length ((zp6 (l.take k)).flatMap En.cells)∧Below w.heap.size w wr) (fun _ i _=>l.length - (intOf i).toNat)
 case atStart=>exact ⟨0,Nat.zero_le _,rfl,World.ownsRow_nil _ _ _ _,Below.refl _ _⟩
 case round =>
  obtain ⟨k,hk,rfl,hown,hB⟩:=hrel
  have hz:=hB.size
  by_cases hlt:k<l.length
  · obtain ⟨b,off,rfl,hb,p0⟩:=Ch.atE (Rd.below HR.out hB) hlt
    obtain ⟨he1,he2⟩:=HEE.out k hlt
    have hsm:=HSM.out k hlt
    have hle:=HLE.out k
    have HTS:=hid (HTK.out k hlt)
    obtain ⟨x,hx⟩:∃ x,l[k]=x:=⟨_,rfl⟩
    rw[hx] at p0 he1 he2 hsm HTS
    obtain ⟨xA,xc,xl⟩:=x
    dsimp only at p0 he1 he2 hsm HTS
    obtain ⟨m,hm2⟩:∃ m,zp6 (l.take k)=m:=⟨_,rfl⟩
    rw[hm2] at hown HTS hle
    have hk1:(k:Int)<(l.length:Int):=by omega
    have hk0:(0:Int)≤(k:Int):=by omega
    have HE1:=hid (Rd.below he1 hB)
    have HXL:=hid (zcw En.cells 2 En.len xl)
    clear hx hm2 he1 he2
    go_wp2_with (at_builtin;refine zb2 _ (by rfl) _ _ 26 rfl w.heap.size 89 i0 _ 2 16 Tryz.underlying26 HI.out HZ0.out HZ1.out HZ2.out rfl (by decide) _ _ _ (by rfl) hown w.heap.size xA xl.length _ (xl.flatMap En.cells) (by rfl) HXL.out HE1.out (zd2 En.one _) (by unfold maxLen;omega) (by omega) hz ?_;intro v1 wa hown1 hg1;have hB1:=zcm hB hz hown hg1)
    go_roundw
    case rel=>exact ⟨k+1,by omega,by go_num,by rw[HTS.out,List.length_append,List.flatMap_append];exact hown1,hB1⟩
    case measure=>simp[intOf];omega
  · rw[List.take_of_length_le (by omega)] at hown
    go_wp2_with fail
    go_ret
    exact ⟨⟨_,rfl,hown⟩,hB⟩
def lnE (k:Nat):List En:=(List.range 3).map fun i=>(⟨if i<k then ((16+i:Nat):Int) else 0,0⟩:En)
theorem zKk (k:Nat):(lnE k).length=3:=by simp[lnE]
theorem zGn {k:Nat} (hk:k<3):lnE (k+1)=(lnE k).set k ⟨16+(k:Int),0⟩:=by
 match k,hk with
 | 0,_=>rfl
 | 1,_=>rfl
 | 2,_=>rfl
theorem zJp {k:Nat} (hk:k<3):(lnE k)[k]? = some ⟨0,0⟩:=by
 match k,hk with
 | 0,_=>rfl
 | 1,_=>rfl
 | 2,_=>rfl
theorem zKu (l:List En) (k:Nat) (x:En) (a:Int) (hk:l[k]? = some x):(l.set k ⟨a,x.v⟩).flatMap En.cells=(l.flatMap En.cells).set (k * 2) (.int .i64 a):=
 ze9 En.cells 2 En.len l k 0 (by omega) ⟨a,x.v⟩ (.int .i64 a) (fun y hy=>by rw[hk] at hy;cases hy;rfl)
theorem zHc:(madeCells #[Value.int .i64 0,.int .u64 0] (3 * 2)).toList=(lnE 0).flatMap En.cells:=by kernel_rfl
set_option maxRecDepth 100000 in
set_option maxHeartbeats 4000000 in
theorem zw9 (A:Option Addr) (ws:List Nat) (c n:Nat) (w:World) (hn:ws.length=n) (hm:n≤9223372036854775807) (hc:n≤c) (hr:RdW w w.heap.size A ws) (ho:∀ x ∈ ws,x<18446744073709551616) :
   Calls Tryz.prog 57 #[.slice A n c] w fun e w'=>zhc w.heap.size (zew ws) (zdx ws) e w'∧Below w.heap.size w w':=by
 subst hn
 have HC:=hid (fEnd_c A ws c ws.length w rfl hm hc hr ho)
 clear hr ho
 by_cases h0:zew ws=0
 · obtain ⟨hs,-,-,-,h5,h6,-,h8⟩:=zg9 h0
   have hb:=(zad _).1 hs
   have hi:=(za7 _).1 h5
   rw[←h8] at hi h6
   have HFH:=hid (fun h=>zs1 h0 h)
   have HE:=hid h0
   have HOUT:Hid (zdx ws=phE 0 0 0++(if zfa ws=ws.length then [] else [⟨(zfa ws:Int),zcg (zc3 (ws.length - zfa ws))⟩,⟨((zfa ws+1:Nat):Int),0⟩])):=hid (by simp[zdx,h0])
   rw[h0] at HC
   obtain ⟨t,ht⟩:∃ t,zfa ws=t:=⟨_,rfl⟩
   rw[ht] at HC HFH HOUT hi h6
   have hlen:ws.length≤2048:=by omega
   have ht1:t≤2048:=hi.2.1
   obtain ⟨i0,hi0,hz0,hz1,hz2⟩:=info_parts zdn
   have HIE:=hid (And.intro hi0 (And.intro hz0 (And.intro hz1 hz2)))
   clear ht h0 h8 h5 hs hb hi hi0 hz0 hz1 hz2
   go_enter Tryz.func57,Tryz.ntmps57
   go_wp2_with fail
   refine HC.out.mono ?_
   rintro e w1 ⟨rfl,hB1⟩
   obtain ⟨W0,hmk,hown0,hg0⟩:=run_make_full (P:=Tryz.prog) w1 w1.heap.size 26 89 i0 (.agg #[.int .i64 0,.int .u64 0]) 2 Tryz.underlying26 HIE.out.1 HIE.out.2.1 HIE.out.2.2.1 .i64 .i64 3 (by rw[HIE.out.2.2.2];omega) (by unfold maxLen;omega) (Nat.le_refl _)
   have hown1:W0.ownsRow w1.heap.size 89 2 (.slice (some ⟨w1.heap.size,0,none⟩) 3 3) 3 ((lnE 0).flatMap En.cells):=by
    rw[←zHc];exact hown0
   have HOW:=hid hown1
   have HB1:=hid hB1
   have HBW:=hid ((Below.refl w1.heap.size w1).grown hg0 (Nat.le_refl _) (fun k hk=>by cases hk))
   simp only[Int.cast_ofNat_Int] at hmk
   clear hown0 hg0 hown1 hB1
   go_wp2_with fail
   clear hmk
   go_loopw [19] (fun i wr=>∃ k:Nat,k≤3∧i=.int .i64 k∧wr.ownsRow w1.heap.size 89 2 (.slice (some ⟨w1.heap.size,0,none⟩) 3 3) 3 ((lnE k).flatMap En.cells)∧Below w1.heap.size w1 wr) (fun i _=>3 - (intOf i).toNat)
   case atStart=>exact ⟨0,Nat.zero_le _,rfl,HOW.out,HBW.out⟩
   case round =>
    obtain ⟨k,hk,rfl,hown,hB⟩:=hrel
    have hz:=hB.size
    by_cases hlt:k<3
    · have HS:=hid (show (lnE (k+1)).flatMap En.cells=((lnE k).flatMap En.cells).set (k * 2) (.int .i64 (16+(k:Int))) by
        rw[zGn hlt];exact zKu _ _ ⟨0,0⟩ _ (zJp hlt))
      obtain ⟨u0,hu0⟩:∃ u0,((lnE k).flatMap En.cells)[k * 2]? = some u0:=⟨_,List.getElem?_eq_getElem (by rw[zcw En.cells 2 En.len,zKk];omega)⟩
      have d0:=(hown.cellAt (k * 2) (by omega)).trans hu0
      have e0:=hown.frozenAt (k * 2)
      have HOWN:=hid hown
      have hk1:(k:Int)<3:=by omega
      have hk0:(0:Int)≤(k:Int):=by omega
      clear hu0 hown
      go_wp2_with fail
      go_roundw
      case rel=>exact ⟨k+1,by omega,by go_num,by rw[HS.out];exact (HOWN.out.stored (k * 2) _).1,hB.setCell (p:=⟨w1.heap.size,k * 2,none⟩) (Nat.le_refl _) _⟩
      case measure=>simp[intOf];omega
    · obtain rfl:k=3:=by omega
      rw[show lnE 3=phE 0 0 0 from rfl] at hown
      have HOWN:=hid hown
      clear hown
      by_cases hte:t=ws.length
      · have he1:((t:Int) == (ws.length:Int))=true:=by rw[beq_iff_eq];omega
        have he1n:(t == ws.length)=true:=by rw[beq_iff_eq];exact hte
        have HO:=hid (show zdx ws=phE 0 0 0 by rw[HOUT.out,if_pos hte,List.append_nil])
        clear hte HOUT
        go_wp2_with fail
        go_ret2
        exact ⟨⟨some ⟨w1.heap.size,0,none⟩,3,by rw[HO.out,HE.out];rfl,by rw[HO.out];exact zbf HOWN.out HB1.out.size⟩,HB1.out.trans (hB.mono HB1.out.size)⟩
      · have he1:((t:Int) == (ws.length:Int))=false:=by rw[beq_eq_false_iff_ne];omega
        have he1n:(t == ws.length)=false:=by rw[beq_eq_false_iff_ne];exact hte
        have HO:=hid (show zdx ws=phE 0 0 0++[⟨(t:Int),zcg (zc3 (ws.length - t))⟩,⟨((t+1:Nat):Int),0⟩] by rw[HOUT.out,if_neg hte])
        have hfh:=HFH.out hte
        have HWD:=hid (fun W=>zqb (zc3 (ws.length - t)) W)
        rw[show zht (zc3 (ws.length - t))=zcg (zc3 (ws.length - t)) by simp[zht,hfh],zg7 hfh] at HWD
        rw[show (zc3 (ws.length - t)).val=.agg #[.int .i64 0,.int .i64 ((ws.length - t:Nat):Int),.int .i64 2,.int .i64 0,.bool false,.int .u64 0] from rfl] at HWD
        have hws:IntKind.i64.wrap ((ws.length:Int) - (t:Int))=((ws.length - t:Nat):Int):=by rw[IntWalk.i64_in _ (by omega)];omega
        have hwt:IntKind.i64.wrap ((t:Int)+1)=(t:Int)+1:=IntWalk.i64_in _ (by omega)
        obtain ⟨hw,hhw⟩:∃ hw,zcg (zc3 (ws.length - t))=hw:=⟨_,rfl⟩
        rw[hhw] at HWD HO
        have HBz:=hid (HB1.out.trans (hB.mono HB1.out.size))
        clear hte HOUT HFH hfh hhw
        go_wp2_with fail
        refine (HWD.out _).mono ?_
        rintro e w4 ⟨rfl,hB4⟩
        have HB4:=hid (HBz.out.trans (hB4.mono HBz.out.size))
        have HL4:=hid (zak HOWN.out hB4 (Nat.le_refl _))
        clear hB4
        go_wp2_with fail
        have x0:=Bx.new w4 89 #[.int .i64 (t:Int),.int .u64 (hw:Int),.int .i64 ((t:Int)+1),.int .u64 0]
        have x1:=Bx.new (w4.alloc (.cells #[.int .i64 (t:Int),.int .u64 (hw:Int),.int .i64 ((t:Int)+1),.int .u64 0] 89)) 26 #[.slice (some ⟨w1.heap.size,0,none⟩) 3 3,.slice (some ⟨w4.heap.size,0,none⟩) 2 2]
        simp only[World.size_alloc] at x1
        have hBZ:=(HB4.out.alloc HB4.out.size (.cells #[.int .i64 (t:Int),.int .u64 (hw:Int),.int .i64 ((t:Int)+1),.int .u64 0] 89)).alloc (zcq HB4.out.size) (.cells #[.slice (some ⟨w1.heap.size,0,none⟩) 3 3,.slice (some ⟨w4.heap.size,0,none⟩) 2 2] 26)
        have hLZ:=(HL4.out.alloc (.cells #[.int .i64 (t:Int),.int .u64 (hw:Int),.int .i64 ((t:Int)+1),.int .u64 0] 89)).alloc (.cells #[.slice (some ⟨w1.heap.size,0,none⟩) 3 3,.slice (some ⟨w4.heap.size,0,none⟩) 2 2] 26)
        replace x0:=x0.alloc (.cells #[.slice (some ⟨w1.heap.size,0,none⟩) 3 3,.slice (some ⟨w4.heap.size,0,none⟩) 2 2] 26)
        obtain ⟨Z,hZ⟩:∃ Z,(w4.alloc (.cells #[.int .i64 (t:Int),.int .u64 (hw:Int),.int .i64 ((t:Int)+1),.int .u64 0] 89)).alloc (.cells #[.slice (some ⟨w1.heap.size,0,none⟩) 3 3,.slice (some ⟨w4.heap.size,0,none⟩) 2 2] 26)=Z:=⟨_,rfl⟩
        rw[hZ] at x0 x1 hBZ hLZ ⊢
        clear hZ
        have hcz:=Int.natCast_add t 1
        have HJ:=zE2 (some ⟨w4.heap.size+1,0,none⟩) [⟨some ⟨w1.heap.size,0,none⟩,3,phE 0 0 0⟩,⟨some ⟨w4.heap.size,0,none⟩,2,[⟨(t:Int),hw⟩,⟨((t+1:Nat):Int),0⟩]⟩] 2 2 Z.heap.size Z rfl (fun k=>by
         match k with
         | 0=>show (0:Nat)≤1000;omega
         | 1=>show (3:Nat)≤1000;omega
         | k+2=>rw[List.take_of_length_le (by simp)];show (5:Nat)≤1000;omega) (fun x hx=>by
         simp only[List.mem_cons,List.not_mem_nil,or_false] at hx
         rcases hx with rfl|rfl
         · show (3:Nat)≤1000;omega
         · show (2:Nat)≤1000;omega) (by omega) (show Rd Z _ _ _ from Rd.of_box x1 x1.lt) (fun x hx=>by
         simp only[List.mem_cons,List.not_mem_nil,or_false] at hx
         rcases hx with rfl|rfl
         · exact ⟨Rd.of_own hLZ,fun h=>by cases h⟩
         · refine ⟨?_,fun h=>by cases h⟩
           have:=Rd.of_box x0 x0.lt
           show Rd Z _ _ [.int .i64 (t:Int),.int .u64 (hw:Int),.int .i64 ((t+1:Nat):Int),.int .u64 ((0:Nat):Int)]
           rw[hcz];exact this) (Nat.le_refl _)
        have HJJ:=hid HJ
        have HBZ:=hid hBZ
        clear HJ x0 x1 hBZ hLZ hcz
        refine HJJ.out.mono ?_
        rintro e w5 ⟨⟨v,rfl,hown5⟩,hB5⟩
        obtain ⟨A5,c5,rfl,hle5,hrd5⟩:=zir hown5
        have HW5:=hid (zbf hown5 HBZ.out.size)
        have HB5:=hid (HBZ.out.trans (hB5.mono HBZ.out.size))
        clear hown5 hrd5 hle5 hB5
        go_wp2_with fail
        go_ret2
        exact ⟨⟨A5,c5,by rw[HO.out,HE.out];rfl,by rw[HO.out];exact HW5.out⟩,HB5.out⟩
 · have ho:zdx ws=[]:=by simp[zdx,h0]
   have HO:=hid ho
   obtain ⟨r,hr⟩:∃ r,zew ws=r:=⟨_,rfl⟩
   have HE:=hid hr
   rw[hr] at HC h0
   have hrn:(r != 0)=true:=by rw[bne_iff_ne];exact h0
   obtain ⟨t,ht⟩:∃ t,zfa ws=t:=⟨_,rfl⟩
   rw[ht] at HC
   clear h0 hr ht ho
   go_enter Tryz.func57,Tryz.ntmps57
   go_wp2_with fail
   refine HC.out.mono ?_
   rintro e w1 ⟨rfl,hB1⟩
   go_wp2_with fail
   go_ret2
   exact ⟨zbv HE.out HO.out,hB1⟩
end Go.Proofs.YtpcajamacpbjcaaGreat
namespace Go.Proofs.YtpcajamacpbjcaaGreat
open Lib (hid)
open Go.RowKit
def NxRes (H:Nat) (r:Int) (d:Bool) (E:List En) (e:Ending) (w':World):Prop:=∃ A c,e=.returned (.tuple #[.slice A E.length c,.bool d,.int .i64 r])∧w'.ownsRow H 89 2 (.slice A E.length c) E.length (E.flatMap En.cells)
set_option maxRecDepth 100000 in
set_option maxHeartbeats 8000000 in
theorem zIi (A:Option Addr) (ws:List Nat) (c n:Nat) (w:World) (hn:ws.length=n) (hm:n≤9223372036854775807) (hc:n≤c) (hr:RdW w w.heap.size A ws) (ho:∀ x ∈ ws,x<18446744073709551616) :
   Calls Tryz.prog 54 #[.slice A n c] w fun e w'=>NxRes w.heap.size (zc8 ws).1 (zc8 ws).2.1 (zc8 ws).2.2 e w'∧Below w.heap.size w w':=by
 subst hn
 have HR:=hid hr
 have HON:=hid (zJ7 A ws c ws.length w rfl hm hc hr ho)
 have HLN:=hid (fun W (h:RdW W W.heap.size A ws)=>zvf A ws c ws.length W rfl hm hc h ho)
 have HCH:=hid (fun W (h:RdW W W.heap.size A ws)=>zw9 A ws c ws.length W rfl hm hc h ho)
 unfold zhc at HON HCH
 by_cases h6:(zac ws).1=6
 · have hck:=zH6 h6
   obtain ⟨hpr,hs,hl,-⟩:=zck hck
   have hb:=(zad _).1 hs
   obtain ⟨⟨l1,l2,l3⟩,-⟩:=(zbn ws).1 hl
   have hln:=zjw hck
   have hlv:lnV ws=phV (wd ws 16) (wd ws 17) (wd ws 18):=by simp[lnV,hln]
   rw[hlv,hln] at HLN
   unfold phV at HLN
   rw[h6] at HON
   obtain ⟨E,hE⟩:∃ E,(zac ws).2=E:=⟨_,rfl⟩
   rw[hE] at HON
   by_cases h0:wd ws 16=0
   · have HV:=hid (show zc8 ws=(0,true,[]) by unfold zc8;rw[if_pos h6,if_pos h0])
     rw[h0] at HLN
     generalize wd ws 17=F at HLN
     generalize wd ws 18=T at HLN
     clear hr ho h6 h0 hck hpr hs hl hln hlv hE hb l1 l2 l3
     go_enter Tryz.func54,Tryz.ntmps54
     go_wp2_with fail
     refine HON.out.mono ?_
     rintro e w1 ⟨⟨A1,c1,rfl,-⟩,hB1⟩
     have HB1:=hid hB1
     have HR1:=hid (HR.out.up hB1 hB1.size)
     clear hB1
     go_wp2_with fail
     refine (HLN.out _ HR1.out).mono ?_
     rintro e w2 ⟨rfl,hB2⟩
     have HB2:=hid (HB1.out.trans (hB2.mono HB1.out.size))
     clear hB2
     go_wp2_with fail
     go_ret3
     exact ⟨⟨none,0,by rw[HV.out];rfl,by rw[HV.out];exact World.ownsRow_nil _ _ _ _⟩,HB2.out.alloc HB2.out.size _⟩
   · have HV:=hid (show zc8 ws=(zew ws,false,zdx ws) by unfold zc8;rw[if_pos h6,if_neg h0])
     generalize wd ws 17=F at HLN l2
     generalize wd ws 18=T at HLN l3
     generalize zew ws=r at HCH HV
     generalize zdx ws=Z at HCH HV
     generalize wd ws 16=P at HLN h0 l1
     have p1:((P:Int) == 0)=false:=by rw[beq_eq_false_iff_ne];omega
     have p2:(P == 0)=false:=by rw[beq_eq_false_iff_ne];exact h0
     have p3:decide (P=0)=false:=by rw[decide_eq_false_iff_not];exact h0
     clear hr ho h6 hck hpr hs hl hln hlv hE hb l1 l2 l3
     go_enter Tryz.func54,Tryz.ntmps54
     go_wp2_with fail
     refine HON.out.mono ?_
     rintro e w1 ⟨⟨A1,c1,rfl,-⟩,hB1⟩
     have HB1:=hid hB1
     have HR1:=hid (HR.out.up hB1 hB1.size)
     clear hB1
     go_wp2_with fail
     refine (HLN.out _ HR1.out).mono ?_
     rintro e w2 ⟨rfl,hB2⟩
     have hb2:=HB1.out.trans (hB2.mono HB1.out.size)
     have HBN:=hid (hb2.alloc hb2.size (.cells #[.int .i64 (P:Int),.int .i64 (F:Int),.int .i64 (T:Int)] 107))
     have HRN:=hid (HR.out.up HBN.out HBN.out.size)
     clear hB2 hb2
     go_wp2_with fail
     refine (HCH.out _ HRN.out).mono ?_
     rintro e w3 ⟨⟨A3,c3,rfl,hown3⟩,hB3⟩
     have HB3:=hid (HBN.out.trans (hB3.mono HBN.out.size))
     have HO3:=hid (zbf hown3 HBN.out.size)
     clear hB3 hown3
     go_wp2_with fail
     go_ret3
     exact ⟨⟨A3,c3,by rw[HV.out];rfl,by rw[HV.out];exact HO3.out⟩,HB3.out⟩
 · have HV:=hid (show zc8 ws=((zac ws).1,false,(zac ws).2) by unfold zc8;rw[if_neg h6])
   generalize (zac ws).2=E at HON HV
   generalize (zac ws).1=r at HON HV h6
   have p1:((r:Int) == 6)=false:=by rw[beq_eq_false_iff_ne];exact h6
   have p2:((r:Int) != 6)=true:=by rw[bne_iff_ne];exact h6
   clear hr ho h6
   go_enter Tryz.func54,Tryz.ntmps54
   go_wp2_with fail
   refine HON.out.mono ?_
   rintro e w1 ⟨⟨A1,c1,rfl,hown1⟩,hB1⟩
   have HO1:=hid hown1
   clear hown1
   go_wp2_with fail
   go_ret3
   exact ⟨⟨A1,c1,by rw[HV.out];rfl,by rw[HV.out];exact HO1.out⟩,hB1⟩
end Go.Proofs.YtpcajamacpbjcaaGreat
namespace Go.Proofs.YtpcajamacpbjcaaGreat
open Lib (hid)
open Go.RowKit
def zKq (ws:List Nat) (H:Nat) (e:Ending) (w':World):Prop:=∃ (L:List Ch) (B:Option Addr) (d:Nat) (vx:Value),e=.returned (.tuple #[.slice B L.length d,vx,.int .i64 (zgv ws).1])∧L.map Ch.l=(zgv ws).2.1∧OwnC w' H B d L ∧
 ((zgv ws).1=0→∃ g c,vx=.slice (some ⟨g,0,none⟩) ws.length c∧(zgv ws).2.2.length=ws.length∧w'.ownsRow H 53 1 (.slice (some ⟨g,0,none⟩) ws.length c) ws.length ((zgv ws).2.2.flatMap zaj))∧((zgv ws).1≠0→vx=.slice none 0 0)
theorem zu1 {ws:List Nat} {H:Nat} {r:Int} {w':World} (h:zgv ws=(r,[],[])) (h0:r≠0):zKq ws H (.returned (.tuple #[.slice none 0 0,.slice none 0 0,.int .i64 r])) w':=by
 refine ⟨[],none,0,.slice none 0 0,by rw[h];rfl,by rw[h];rfl,⟨World.ownsRow_nil _ _ _ _,fun x hx=>by simp at hx⟩,fun h1 => ?_,fun _=>rfl⟩
 rw[h] at h1
 exact absurd h1 h0
set_option maxRecDepth 100000 in
set_option maxHeartbeats 16000000 in
theorem rAll_c (A:Option Addr) (ws:List Nat) (c n:Nat) (w:World) (hn:ws.length=n) (hm:n≤9223372036854775807) (hc:n≤c) (hr:RdW w w.heap.size A ws) (ho:∀ x ∈ ws,x<18446744073709551616) :
   Calls Tryz.prog 18 #[.slice A n c] w fun e w'=>zKq ws w.heap.size e w'∧Below w.heap.size w w':=by
 subst hn
 have HR:=hid hr
 have HCK:=hid (zmx A ws c ws.length w rfl hm hc hr ho)
 by_cases h0:zao ws=0
 · obtain ⟨-,hs,-,-⟩:=zck h0
   have hb:=(zad _).1 hs
   have HSA:=hid (show zgv ws=rsE ws by unfold zgv;rw[if_pos h0])
   rw[h0] at HCK
   have HP0:=hid (fun W (h:RdW W W.heap.size A ws)=>zDk A none ws [] c 0 ws.length 0 W.heap.size W rfl rfl hs (by omega) (fun e he=>absurd he (by simp)) h Rd.nil_ (Nat.le_refl _))
   unfold OwnV at HP0
   simp only[zag] at HP0
   have HPT:=hid (fun A2 B x E c d W (hx:x.length=ws.length) (hE:Small ws.length E) (h:RdW W W.heap.size A2 x) (h2:RdE W W.heap.size B E)=>zDk A2 B x E c d ws.length E.length W.heap.size W hx rfl hs hE.le (fun e he=>by have:=hE.ins e he;omega) h h2 (Nat.le_refl _))
   unfold OwnV at HPT
   have HON:=hid (fun A2 x c2 W (hx:x.length=ws.length) (hc2:ws.length≤c2) (hox:∀ v ∈ x,v<18446744073709551616) (h:RdW W W.heap.size A2 x)=>zIi A2 x c2 ws.length W hx hm hc2 h hox)
   unfold NxRes at HON
   have HST:=hid (zhe ho)
   have HO:=hid ho
   have hlen:ws.length≤2048:=by omega
   have h16:16<ws.length:=by omega
   have hmz:rzM ws≤3000:=by have:=zHn hs;omega
   obtain ⟨i0,hi,hz0,hz1,hz2⟩:=info_parts zCl
   have HI:=hid hi
   have HZ0:=hid hz0
   have HZ1:=hid hz1
   have HZ2:=hid hz2
   clear hi hz0 hz1 hz2
   clear h0 hs hb hr ho
   go_enter Tryz.func18,Tryz.ntmps18
   go_wp2_with fail
   refine HCK.out.mono ?_
   rintro e w1 ⟨rfl,hB1⟩
   have HB1:=hid hB1
   have HR1:=hid (HR.out.up hB1 hB1.size)
   clear hB1
   go_wp2_with fail
   refine (HP0.out _ HR1.out).mono ?_
   rintro e w2 ⟨g2,c2,rfl,hown2,hB2⟩
   have HB2:=hid (HB1.out.trans (hB2.mono HB1.out.size))
   have HO2:=hid (zbf hown2 HB1.out.size)
   clear hown2 hB2
   go_wp2_with fail
   go_loopg [6,8] (rzM ws+1) (fun gk vx vo wr=>∃ (x:List Nat) (L:List Ch) (g cx:Nat),vx=.slice (some ⟨g,0,none⟩) ws.length cx∧x.length=ws.length∧Hid (∀ v ∈ x,v<18446744073709551616)∧Hid (rzM x<gk)∧Hid (zk3 ws (L.map Ch.l) x)∧L.length+gk≤rzM ws+1∧wr.ownsRow w.heap.size 53 1 (.slice (some ⟨g,0,none⟩) ws.length cx) ws.length (x.flatMap zaj)∧wr.ownsRow w.heap.size 26 1 vo L.length (L.flatMap Ch.cells)∧Hid (∀ y ∈ L,wr.ownsRow w.heap.size 89 2 (.slice y.A y.l.length y.c) y.l.length (y.l.flatMap En.cells))∧Below w.heap.size w wr)
   case atStart=>exact ⟨ws,[],g2,c2,rfl,rfl,HO.out,Nat.lt_succ_self _,HST.out,by simp,HO2.out,World.ownsRow_nil _ _ _ _,fun y hy=>absurd hy (by simp),HB2.out⟩
   case round =>
    obtain ⟨x,L,g,cx,rfl,hxl,HOX,HMZ,HCO,hLg,hownX,hownL,HLS,hB⟩:=hrel
    have hz:=hB.size
    have hcap:=zfo hownX
    have HOX2:=hid hownX
    have HOL:=hid hownL
    have HB:=hid hB
    have HXL:=hid hxl
    have HCP:=hid hcap
    have HHZ:=hid hz
    have HOx:=hid (HON.out (some ⟨g,0,none⟩) x cx wr hxl hcap HOX.out (Rd.of_own hownX))
    have HST:=hid (fun h hd=>zyo HCO.out HOX.out h hd)
    have HEN:=hid (fun h hd=>zCf HCO.out h hd)
    have HBD:=hid (fun h=>zDe HCO.out h)
    have HSM:=hid (fun h hd=>zyd HOX.out h hd)
    obtain ⟨r,hr⟩:∃ r,(zc8 x).1=r:=⟨_,rfl⟩
    obtain ⟨dn,hdn⟩:∃ r,(zc8 x).2.1=r:=⟨_,rfl⟩
    obtain ⟨E,hE⟩:∃ E,(zc8 x).2.2=E:=⟨_,rfl⟩
    rw[hr,hdn,hE] at HOx
    rw[hr] at HEN HBD HST HSM
    rw[hdn] at HEN HST HSM
    rw[hE] at HST HSM
    clear hr hE hdn hownX hownL hB hxl hcap hz
    by_cases hr0:r=0
    · subst hr0
      cases dn with
      | true =>
       have HV:=hid (HEN.out rfl rfl)
       go_wp2_with fail
       refine HOx.out.mono ?_
       rintro e w3 ⟨⟨A3,c3,rfl,-⟩,hB3⟩
       have HB3:=hid (HB.out.trans (hB3.mono HB.out.size))
       have HX3:=hid (zak HOX2.out hB3 (Nat.le_refl _))
       have HL3:=hid (zak HOL.out hB3 (Nat.le_refl _))
       have HS3:=hid (fun y hy=>zak (HLS.out y hy) hB3 (Nat.le_refl _))
       clear hB3
       obtain ⟨Bv,dv,rfl⟩:=zbb HL3.out
       go_wp2_with fail
       go_ret3
       exact ⟨⟨L,Bv,dv,_,by rw[HSA.out,HV.out];rfl,by rw[HSA.out,HV.out],⟨HL3.out,HS3.out⟩,fun _=>⟨g,cx,rfl,by rw[HSA.out,HV.out];exact HXL.out,by rw[HSA.out,HV.out];exact HX3.out⟩,fun h=>absurd (by rw[HSA.out,HV.out]) h⟩,HB3.out⟩
      | false =>
       have hst:=HST.out rfl rfl
       obtain ⟨hsm,hlt,hdc⟩:=HSM.out rfl rfl
       rw[HXL.out] at hsm
       have HPX:=hid (fun A2 B c d W h h2=>HPT.out A2 B x E c d W HXL.out hsm h h2)
       have hyl:(zag x E).length=ws.length:=by rw[zau];exact HXL.out
       rw[hyl] at HPX
       obtain ⟨y,hy⟩:∃ y,zag x E=y:=⟨_,rfl⟩
       rw[hy] at hst hlt hdc HPX hyl
       have HST2:=hid hst
       have HLT2:=hid hlt
       have HDC2:=hid hdc
       have HYL:=hid hyl
       have hEl:E.length≤32:=hsm.le
       clear hst hsm hlt hdc hyl hy
       go_wp2_with fail
       refine HOx.out.mono ?_
       rintro e w3 ⟨⟨A3,c3,rfl,hown3⟩,hB3⟩
       have HB3:=hid (HB.out.trans (hB3.mono HB.out.size))
       have HX3:=hid (zak HOX2.out hB3 (Nat.le_refl _))
       have HL3:=hid (zak HOL.out hB3 (Nat.le_refl _))
       have HS3:=hid (fun y hy=>zak (HLS.out y hy) hB3 (Nat.le_refl _))
       have HE3:=hid (zbf hown3 HHZ.out)
       have hz3:=HB3.out.size
       clear hB3 hown3
       go_wp2_with (at_builtin;refine wpList_append_own _ rfl _ _ 34 rfl w.heap.size 26 i0 _ 1 24 Tryz.underlying34 HI.out HZ0.out HZ1.out HZ2.out rfl (by decide) _ _ _ rfl (HL3.out.alloc _) ⟨_,0,none⟩ 1 1 [.slice A3 E.length c3] rfl rfl (zcl _ _ _) (by simp[Value.oneCell']) (by unfold maxLen;omega) (by omega) (by simp;omega) ?_;intro v1 w4 hown1 hg1 _;have hB4:=zaw HB3.out hz3 HL3.out hg1;have HX4:=hid (zda (HX3.out.alloc _) hg1 (zi8 HX3.out HL3.out (by decide)));have HE4:=hid (zda (HE3.out.alloc _) hg1 (zi8 HE3.out HL3.out (by decide)));have HS4:=hid (fun y hy=>zda ((HS3.out y hy).alloc _) hg1 (zi8 (HS3.out y hy) HL3.out (by decide)));have HB4:=hid hB4;have HL4:=hid hown1;clear hB4 hown1 hg1)
       refine (HPX.out _ _ _ _ _ (Rd.of_own HX4.out) (Rd.of_own HE4.out)).mono ?_
       rintro e w5 ⟨g5,c5,rfl,hown5,hB5⟩
       have HB5:=hid (HB4.out.trans (hB5.mono HB4.out.size))
       have HX5:=hid (zbf hown5 HB4.out.size)
       have HL5:=hid (zak HL4.out hB5 (Nat.le_refl _))
       have HE5:=hid (zak HE4.out hB5 (Nat.le_refl _))
       have HS5:=hid (fun y hy=>zak (HS4.out y hy) hB5 (Nat.le_refl _))
       clear hown5 hB5
       go_wp2_with fail
       have hmzx:=HMZ.out
       go_roundg (rzM x)
       case rel =>
        refine ⟨y,L++[⟨A3,c3,E⟩],g5,c5,rfl,HYL.out,HLT2.out,HDC2.out,?_,?_,HX5.out,?_,?_,HB5.out⟩
        · rw[List.map_append];exact HST2.out
        · rw[List.length_append];show L.length+1+_≤_;omega
        · have h5:=HL5.out
          rw[List.length_append,List.flatMap_append]
          exact h5
        · intro z hz
          rcases List.mem_append.1 hz with h6|h6
          · exact HS5.out z h6
          · rw[List.mem_singleton] at h6
            subst h6
            exact HE5.out
       case measure=>exact hmzx
    · have HV:=hid (HBD.out hr0)
      have hne:(r != 0)=true:=by rw[bne_iff_ne];exact hr0
      have HR0:=hid hr0
      clear hr0
      go_wp2_with fail
      refine HOx.out.mono ?_
      rintro e w3 ⟨⟨A3,c3,rfl,-⟩,hB3⟩
      have HB3:=hid (HB.out.trans (hB3.mono HB.out.size))
      clear hB3
      go_wp2_with fail
      go_ret3
      exact ⟨zu1 (by rw[HSA.out,HV.out]) HR0.out,HB3.out⟩
 · have HV:=hid (show zgv ws=(zao ws,[],[]) by unfold zgv;rw[if_neg h0])
   have hne:(zao ws != 0)=true:=by rw[bne_iff_ne];exact h0
   have HH0:=hid h0
   obtain ⟨r,hr2⟩:∃ r,zao ws=r:=⟨_,rfl⟩
   rw[hr2] at HCK HV hne HH0
   clear hr ho h0 hr2
   go_enter Tryz.func18,Tryz.ntmps18
   go_wp2_with fail
   refine HCK.out.mono ?_
   rintro e w1 ⟨rfl,hB1⟩
   go_wp2_with fail
   go_ret3
   exact ⟨zu1 HV.out HH0.out,hB1⟩
end Go.Proofs.YtpcajamacpbjcaaGreat
