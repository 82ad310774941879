/- Texts laid together: BrkC BrkI PlA PlB. -/
import Derived.Test.YtpcajamacpbjcaaGreatZKPlain
import Derived.RangeFuncNested
import Derived.RangeFuncBound
import Derived.RangeFuncCalls
import Derived.RangeFuncLeaves
import Derived.Shelf.Abstract
import Derived.Shelf.RegionOpen
import Derived.OwnWalkIn
import Derived.TacticsInMore
import Derived.LoopNIn
import Derived.LoopIn
import Derived.Deep.RegionHeld3
import Derived.OrdersIn
import Derived.Deep.DrawnRows
import Derived.Laws.EntriesVeiled
namespace Go.Proofs.YtpcajamacpbjcaaGreat
open Lib (hid)
open Go.RowKit
set_option maxRecDepth 100000 in
set_option maxHeartbeats 1600000 in
theorem zK4 (A:Option Addr) (l:List Bk) (c n:Nat) (w:World) (hn:l.length=n) (hm:n≤9223372036854775807) (hr:RdB w w.heap.size A l) :
   Calls Tryz.prog 282 #[.slice A n c] w fun e w'=>e=.returned (.int .i64 (zb4 l))∧Below w.heap.size w w':=by
 subst hn
 have HR:=hid hr
 clear hr
 by_cases h:1024<l.length
 · have HE:=hid (zs4 h)
   go_enter Tryz.func282,Tryz.ntmps282
   go_wp2_with fail
   go_ret
   exact ⟨by rw[HE.out];rfl,Below.refl _ _⟩
 · have hle:l.length≤1024:=by omega
   clear h
   have d1:decide ((1024:Int)<(l.length:Int))=false:=by rw[decide_eq_false_iff_not];omega
   go_enter Tryz.func282,Tryz.ntmps282
   go_wp2_with fail
   go_loopw [3,13] (fun nx i wr=>∃ k:Nat,k≤l.length∧i=.int .i64 k∧nx=.int .i64 (zdm l k)∧zcu l k=true∧Below w.heap.size w wr) (fun _ i _=>l.length - (intOf i).toNat)
   case atStart=>exact ⟨0,Nat.zero_le _,rfl,rfl,rfl,Below.refl _ _⟩
   case round =>
    obtain ⟨k,hk,rfl,rfl,hok,hB⟩:=hrel
    have HOK:=hid hok
    have hz:=hB.size
    obtain ⟨nb1,nb2⟩:=zo3 hok
    clear hok
    by_cases hlt:k<l.length
    · obtain ⟨b,off,rfl,hb,h0,h1,h2,h3,h4,h5⟩:=HR.out.at_ hlt
      replace h0:=(hB.cell (p:=⟨b,off+k * 6,none⟩) hb).trans h0
      replace h1:=(hB.cell (p:=⟨b,off+k * 6+1,none⟩) hb).trans h1
      replace h2:=(hB.cell (p:=⟨b,off+k * 6+2,none⟩) hb).trans h2
      replace h3:=(hB.cell (p:=⟨b,off+k * 6+3,none⟩) hb).trans h3
      replace h4:=(hB.cell (p:=⟨b,off+k * 6+4,none⟩) hb).trans h4
      replace h5:=(hB.cell (p:=⟨b,off+k * 6+5,none⟩) hb).trans h5
      have E:=hid (zbt l k hlt)
      have hnx1:zdm l (k+1)=(gk l k).at_+(gk l k).size:=rfl
      rw[E.out] at hnx1
      generalize hx:l[k]=x at *
      have HX:=hid hx
      clear hx
      obtain ⟨xa,xs,xk,xt,xm,xn⟩:=x
      dsimp only at *
      have HNX1:=hid hnx1
      clear hnx1
      generalize hnx:zdm l k=nx at *
      have HNX:=hid hnx
      clear hnx
      have HBAD:Hid (∀ w':World,¬ ((xk=1∨xk=2)∧2≤xs∧xs≤2048∧xs % 2=0∧128≤xa∧xa % 2=0∧xa≤2048 - xs∧(k=0∨xa=nx))→Below w.heap.size w w'→Ending.returned (.int .i64 8)=.returned (.int .i64 (zb4 l))∧Below w.heap.size w w'):=
        fun _ h1 h2=>⟨by rw[zyw (zDy E.out HNX.out h1) hlt],h2⟩
      have HGOOD:Hid (((xk=1∨xk=2)∧2≤xs∧xs≤2048∧xs % 2=0∧128≤xa∧xa % 2=0∧xa≤2048 - xs∧(k=0∨xa=nx))→zcu l (k+1)=true):=fun h=>ztq E.out HNX.out HOK.out h
      by_cases hk0:k=0
      · have hkb:((k:Int) == 0)=true:=by rw[beq_iff_eq];omega
        have HK0:=hid hk0
        have HN0:=hid (show nx=128 by rw[←HNX.out,hk0];rfl)
        have hnx0:=HN0.out
        subst hnx0
        clear hk0 nb1 nb2
        by_cases hmx:128≤xa
        · have hif:(if (128:Int)<xa then xa else 128)=xa:=by split <;> omega
          go_wp2_with fail
          all_goals first
           | (go_ret;exact HBAD.out _ (by omega) (hB.alloc hz _))
           | (
             go_roundw
             case rel=>exact ⟨k+1,by omega,by go_num,by rw[HNX1.out],HGOOD.out (by have:=HK0.out;omega),hB.alloc hz _⟩
             case measure=>simp[intOf];omega)
        · have hif:(if (128:Int)<xa then xa else 128)=128:=by rw[if_neg (by omega)]
          go_wp2_with fail
          all_goals (go_ret;exact HBAD.out _ (by omega) (hB.alloc hz _))
      · have hkb:((k:Int) == 0)=false:=by rw[beq_eq_false_iff_ne];omega
        have HK0:=hid hk0
        clear hk0
        go_wp2_with fail
        all_goals first
          | (go_ret;exact HBAD.out _ (by have:=HK0.out;omega) (hB.alloc hz _))
          | (
            go_roundw
            case rel=>exact ⟨k+1,by omega,by go_num,by rw[HNX1.out];first | go_num | (congr 1;omega),HGOOD.out (by have:=HK0.out;omega),hB.alloc hz _⟩
            case measure=>simp[intOf];omega)
    · have:k=l.length:=by omega
      subst this
      have HE:=hid (zr1 hle HOK.out)
      go_wp2_with fail
      go_ret
      exact ⟨by rw[HE.out];rfl,hB⟩
end Go.Proofs.YtpcajamacpbjcaaGreat
namespace Go.Proofs.YtpcajamacpbjcaaGreat
open Lib (hid)
open Go.RowKit Go.Shelf
attribute [local go_sem] Oper.semAt_some
abbrev Idx (l:List Bk):={ k:Nat // k<l.length }
def lp (l:List Bk):Nat→List (Idx l)
 | 0=>[]
 | k+1=>if h:k<l.length∧zax (gk l k)=true then lp l k++[⟨k,h.1⟩] else lp l k
theorem lp_len (l:List Bk) (k:Nat):(lp l k).length≤k:=by
 induction k with
 | zero=>simp[lp]
 | succ k ih=>simp only[lp];split <;> (try simp only[List.length_append,List.length_cons,List.length_nil]) <;> omega
theorem zvj {l:List Bk} {k:Nat} (h:k<l.length) (hb:zax (gk l k)=true):lp l (k+1)=lp l k++[⟨k,h⟩]:=by
 simp only[lp];rw[dif_pos ⟨h,hb⟩]
theorem zHb {l:List Bk} {k:Nat} (hb:zax (gk l k)=false):lp l (k+1)=lp l k:=by
 simp only[lp];rw[dif_neg (fun h=>by rw[hb] at h;exact Bool.false_ne_true h.2)]
set_option maxRecDepth 100000 in
set_option maxHeartbeats 2000000 in
theorem zEt (F:Fence) (n:Nat) (hf:F.fn 283) (hro:F.round=none) (hn:1≤n) (l Bs n₀:Nat) (A:Option Addr) (bl:List Bk) (cap:Nat) (hlen:bl.length≤4294967296) (J Jx:List (Idx bl)→World→Prop)
  (hJ:∀ s W o,J s W→J s (W.alloc o))
  (hY:∀ pre x W,J pre W→pre.length<bl.length→YieldAt F (n - 1) Tryz.prog l #[.int .i64 (x.1:Int),(gk bl x.1).val] W fun e W' =>
    (e=.returned (.bool true)∧J (pre++[x]) W'∧Below n₀ W W')∨(e=.returned (.bool false)∧Jx (pre++[x]) W'))
  (W:World) (hn0:n₀≤W.heap.size) (hBs:W.cell? ⟨Bs,0,none⟩=some (.slice A bl.length cap)) (hc:RdB W n₀ A bl) (h0:J [] W) :
  CallsIn F n Tryz.prog 283 #[.func (.yield l) #[] #[],.pointer (some ⟨Bs,0,none⟩)] W fun e W'=>(∃ v,e=.returned v) ∧
    ((∃ ys,ys=lp bl bl.length∧J ys W')∨(∃ pre,(∃ k,pre=lp bl k)∧Jx pre W')):=by
 have HC:=hid hc
 have HY:=hid hY
 have HJ:=hid hJ
 clear hc hY hJ
 refine callsIn_of_wp Tryz.func283 rfl hf ?_ hro
 simp only[Tryz.ntmps283,List.size_toArray,List.length_cons,List.length_nil,Nat.reduceAdd,Nat.reduceSub,Array.replicate_succ,Array.replicate_zero,List.push_toArray,List.append_toArray,List.nil_append,List.cons_append]
 gi_wp2
 gi_loopw [7] (fun i wr=>∃ k:Nat,k≤bl.length∧i=.int .i64 k∧J (lp bl k) wr∧Below n₀ W wr)
  (fun i _=>bl.length - (intOf i).toNat)
 case atStart=>exact ⟨0,Nat.zero_le _,rfl,h0,Below.refl _ _⟩
 case round =>
  obtain ⟨k,hk,rfl,hJs,hnx⟩:=hrel
  have hz:=hnx.size
  by_cases hlt:k<bl.length
  · obtain ⟨b,off,rfl,hb,h0,h1,h2,h3,h4,h5⟩:=HC.out.at_ hlt
    replace h0:=(hnx.cell (p:=⟨b,off+k * 6,none⟩) hb).trans h0
    replace h1:=(hnx.cell (p:=⟨b,off+k * 6+1,none⟩) hb).trans h1
    replace h2:=(hnx.cell (p:=⟨b,off+k * 6+2,none⟩) hb).trans h2
    replace h3:=(hnx.cell (p:=⟨b,off+k * 6+3,none⟩) hb).trans h3
    replace h4:=(hnx.cell (p:=⟨b,off+k * 6+4,none⟩) hb).trans h4
    replace h5:=(hnx.cell (p:=⟨b,off+k * 6+5,none⟩) hb).trans h5
    have hyk:=HY.out (lp bl k) ⟨k,hlt⟩
    dsimp only at hyk
    rw[←zbt bl k hlt] at h0 h1 h2 h3 h4 h5
    have HLP1:Hid (zax (gk bl k)=true→lp bl (k+1)=lp bl k++[⟨k,hlt⟩]):=zvj hlt
    have HLP0:Hid (zax (gk bl k)=false→lp bl (k+1)=lp bl k):=zHb
    have HYK:=hid hyk
    have hpl:=lp_len bl k
    clear hyk
    generalize gk bl k=x at *
    obtain ⟨xa,xs,xk,xt,xm,xn⟩:=x
    dsimp only at *
    cases hlb:zax ⟨xa,xs,xk,xt,xm,xn⟩
    · have HLX:=hid (HLP0.out hlb)
      by_cases hk1:xk=1
      · have hm0:xm=false:=by subst hk1;simpa [zax] using hlb
        subst hk1 hm0
        clear hlb
        gi_wp2
        refine ⟨fun _ h=>(by cases h),?_⟩
        gi_wp2
        go_roundw
        case rel=>exact ⟨k+1,by omega,by go_num,by rw[HLX.out];exact HJ.out _ _ _ hJs,hnx.alloc (by omega) _⟩
        case measure=>simp[intOf];omega
      · have hkb:(xk == 1)=false:=by rw[beq_eq_false_iff_ne];exact hk1
        clear hlb hk1
        gi_wp2
        refine ⟨fun _ h=>(by cases h),?_⟩
        gi_wp2
        go_roundw
        case rel=>exact ⟨k+1,by omega,by go_num,by rw[HLX.out];exact HJ.out _ _ _ hJs,hnx.alloc (by omega) _⟩
        case measure=>simp[intOf];omega
    · have h12:xk=1∧xm=true:=by simpa [zax] using hlb
      obtain ⟨rfl,rfl⟩:=h12
      obtain ⟨fn,tmps,assign,body,hy,hR⟩:=HYK.out (wr.alloc (.cells #[.int .i64 xa,.int .i64 xs,.int .i64 1,.int .i64 xt,.bool true,.int .u64 (xn:Int)] 55)) (HJ.out _ _ _ hJs) (by omega)
      unfold Bk.val at hy
      dsimp only at hy
      gi_wp2
      refine hR.mono ?_
      rintro e W3 (⟨rfl,hJ3,hk3⟩|⟨rfl,hJx3⟩)
      · gi_wp2
        go_roundw
        case rel=>exact ⟨k+1,by omega,by go_num,by rw[HLP1.out hlb];exact hJ3,(hnx.alloc (by omega) _).trans hk3⟩
        case measure=>simp[intOf];omega
      · gi_wp2
        refine bodyPost_ret (results_none rfl _ _ _) rfl ?_
        exact ⟨⟨_,rfl⟩,.inr ⟨_,⟨k+1,(HLP1.out hlb).symm⟩,hJx3⟩⟩
  · obtain rfl:k=bl.length:=by omega
    gi_wp2
    go_end0
    exact ⟨⟨_,rfl⟩,.inl ⟨_,rfl,hJs⟩⟩
set_option maxHeartbeats 1000000 in
theorem zK1 (F:Fence) (n:Nat) (h:F.fn 254) (hro:F.round=none) (A:Option Addr) (len cap:Nat) (w:World) :
  CallsIn F n Tryz.prog 254 #[.slice A len cap] w fun e w'=>e=.returned (.func (.func 283) #[] #[.pointer (some ⟨w.heap.size,0,none⟩)])∧w'=w.alloc (.cells #[.slice A len cap] 48):=by
 refine callsIn_of_wp Tryz.func254 rfl h ?_ hro
 simp only[Tryz.ntmps254,List.size_toArray,List.length_cons,List.length_nil,Nat.reduceAdd,Nat.reduceSub,Array.replicate_succ,Array.replicate_zero,List.push_toArray,List.append_toArray,List.nil_append,List.cons_append]
 gi_wp2
 go_ret
 exact ⟨rfl,rfl⟩
theorem zx7 (F:Fence) (n:Nat) (hf:F.fn 283) (hro:F.round=none) (hn:1≤n) (Bs n₀:Nat) (A:Option Addr) (bl:List Bk) (cap:Nat) (hlen:bl.length≤4294967296) (w:World) (hBs:Bs<w.heap.size) (hn₀:n₀≤w.heap.size)
  (hc:w.cell? ⟨Bs,0,none⟩=some (.slice A bl.length cap)) (hI:RdB w n₀ A bl) :
  SeqStopsK F n Tryz.prog 283 #[.pointer (some ⟨Bs,0,none⟩)] (fun x:Idx bl=>#[.int .i64 (x.1:Int),(gk bl x.1).val]) (Below n₀) (fun ys=>ys=lp bl bl.length) (fun pre=>∃ k,pre=lp bl k) bl.length w:=fun l J Jx W hW hJ _ hY h0 =>
 zEt F n hf hro hn l Bs n₀ A bl cap hlen J Jx (fun s W o hs=>hJ s W _ none hs (World.grownBy_alloc W o none) (fun r e=>by cases e)) hY W (Nat.le_trans hn₀ hW.size) ((hW.cell (p:=⟨Bs,0,none⟩) hBs).trans hc) (hI.below (hW.mono hn₀)) h0
end Go.Proofs.YtpcajamacpbjcaaGreat
namespace Go.Proofs.YtpcajamacpbjcaaGreat
open Lib (hid)
open Go.RowKit Go.Shelf
attribute [local go_sem] Oper.semAt_some
theorem zue:(Tryz.prog.info? 3).map (fun i=>(i.zero,i.size,i.bytes))=some (some (.int .i64 0),1,8):=by kernel_rfl
def Bk.arr (b:Bk):Array Value:=#[.int .i64 b.at_,.int .i64 b.size,.int .i64 b.kind,.int .i64 b.typ,.bool b.mark,.int .u64 (b.next:Int)]
theorem zuy {β:Type} (B:Nat) (t:TypeId) (f:β→Array Value):Own (fun s W=>Bx W B t (f s)):=fun s X Y row hs hg hrow =>
 Bx.grown hs hg (fun e'=>by obtain ⟨o,ho,hc⟩:=hrow B e'.symm;rw[show X.heap[B]? = _ from hs] at ho;cases ho;cases hc)
def zt1 (l:List Bk):List (Idx l)→Int
 | []=>0
 | x :: p=>zt1 l p+(gk l x.1).size
theorem zwk (l:List Bk) (p:List (Idx l)) (x:Idx l):zt1 l (p++[x])=zt1 l p+(gk l x.1).size:=by
 induction p with
 | nil=>simp[zt1]
 | cons y p ih=>simp only[List.cons_append,zt1,ih];omega
theorem szSum_lp {l:List Bk} {k:Nat} (hk:k≤l.length) (s:Int):s+zt1 l (lp l k)=zat (l.take k) s:=by
 induction k with
 | zero=>simp[lp,zt1,zat]
 | succ k ih =>
  have:=ih (by omega)
  rw[zgw (by omega),←zbt l k (by omega)]
  cases hb:zax (gk l k)
  · rw[zHb hb,this];simp
  · rw[zvj (by omega) hb,zwk];simp;omega
theorem zC6 {l:List Bk} (h:zb4 l=0) (x:Idx l):2≤(gk l x.1).size∧(gk l x.1).size≤2048:=by
 have:=(zd7 _).1 (zdr (zc5 h).2 x.2).1
 omega
set_option maxRecDepth 100000 in
set_option maxHeartbeats 800000 in
theorem zrl (A:Option Addr) (l:List Bk) (c n:Nat) (s:Int) (w:World) (hn:l.length=n) (hm:n≤9223372036854775807) (hr:RdB w w.heap.size A l) (hs : -9223372036854775808≤s∧s≤9223372036854775807) :
  Calls Tryz.prog 252 #[.slice A n c,.int .i64 s] w fun e w'=>e=.returned (.int .i64 (zd4 l s))∧Below w.heap.size w w':=by
 subst hn
 have HR:=hid hr
 clear hr
 have HS8:Hid (zb4 l≠0→zd4 l s=zb4 l):=fun h=>zLb h
 have HS2:Hid (zb4 l=0→s<128∨znt l<s∨s % 2≠0→zd4 l s=2):=fun h h2=>zK0 h h2
 have HS0:Hid (zb4 l=0→128≤s∧s≤znt l∧s % 2=0→zd4 l s=0):=fun h h2=>zBh h h2
 obtain ⟨sb1,sb2⟩:=hs
 have hev:Hid (s % 2=0)∧(s % 2 != 0)=false∨Hid (s % 2≠0)∧(s % 2 != 0)=true:=by
  by_cases h:s % 2=0
  · exact .inl ⟨h,by rw[bne_eq_false_iff_eq];exact h⟩
  · exact .inr ⟨h,by rw[bne_iff_ne];exact h⟩
 have hmo:Hid (znt l=2048)∧l.length=0∨0<l.length:=by
  by_cases h:l.length=0
  · exact .inl ⟨by simp[Hid,znt,h],h⟩
  · exact .inr (by omega)
 rcases hev with ⟨HEV,hbv⟩|⟨HEV,hbv⟩
 all_goals
  go_enter Tryz.func252,Tryz.ntmps252
  go_wp2_with fail
  refine (zK4 A l c l.length _ rfl hm HR.out).mono ?_
  rintro e w1 ⟨rfl,hB1⟩
  by_cases hr0:zb4 l=0
  · have HR0:=hid hr0
    rw[hr0]
    clear hr0
    rcases hmo with ⟨HM,hl0⟩|hl
    · have hl:¬ 0<l.length:=by omega
      clear hl0
      go_wp2_with fail
      all_goals
       go_ret
       first
        | exact ⟨by rw[HS2.out HR0.out (by rw[HM.out];have:=HEV.out;omega)];rfl,hB1⟩
        | exact ⟨by rw[HS0.out HR0.out (by rw[HM.out];have:=HEV.out;omega)];rfl,hB1⟩
    · obtain ⟨b,off,rfl,hb,h0,-⟩:=HR.out.at_ hl
      replace h0:=(hB1.cell (p:=⟨b,off+0 * 6,none⟩) hb).trans h0
      have hmost:=hid (show znt l=l[0].at_ by simp only[znt,show l.length≠0 from by omega,if_false];rw[zbt l 0 hl])
      simp only[Nat.zero_mul,Nat.add_zero] at h0
      obtain ⟨mo,hmo⟩:∃ x,l[0].at_=x:=⟨_,rfl⟩
      rw[hmo] at h0
      have HM:=hid (show znt l=mo by rw[hmost.out,hmo])
      have hdd:(0:Int)<(l.length:Int):=by omega
      clear hmo hmost
      go_wp2_with fail
      all_goals
       go_ret
       first
        | exact ⟨by rw[HS2.out HR0.out (by rw[HM.out];have:=HEV.out;omega)];rfl,hB1⟩
        | exact ⟨by rw[HS0.out HR0.out (by rw[HM.out];have:=HEV.out;omega)];rfl,hB1⟩
  · have h8:=hid (HS8.out hr0)
    have hn1:(zb4 l == 0)=false:=by rw[beq_eq_false_iff_ne];exact hr0
    have hn2:(zb4 l != 0)=true:=by rw[bne_iff_ne];exact hr0
    clear hr0
    go_wp2_with fail
    go_ret
    exact ⟨by rw[h8.out];rfl,hB1⟩
def zic (l:List Bk) (s:Int):List Int:=if zd4 l s=0 then zbl l s else []
def zA6 (l:List Bk) (s:Int) (e:Ending) (w':World):Prop:=∃ A c,e=.returned (.tuple #[.slice A (zic l s).length c,.int .i64 (zd4 l s)])∧RdI w' w'.heap.size A (zic l s)∧(zic l s).length≤c
theorem zrf {H n:Nat} {l:List Bk} {s:Int} {v:Value} {w':World} (h0:zd4 l s=0) (hn:l.length=n) (h:w'.ownsRow H 3 1 v n ((zbl l s).flatMap zcf)):zA6 l s (.returned (.tuple #[v,.int .i64 0])) w':=by
 subst hn
 have hl:(zic l s).length=l.length:=by simp[zic,h0,zc4]
 have hc:∃ A c,v=.slice A l.length c∧l.length≤c:=by
  rcases h.2 with ⟨rfl,hnil⟩|⟨g,cap,cur,rfl,_,_,hle,_⟩
  · exact ⟨none,0,by rw[hnil],by omega⟩
  · exact ⟨_,_,rfl,hle⟩
 obtain ⟨A,c,rfl,hle⟩:=hc
 refine ⟨A,c,by rw[hl,h0],?_,by rw[hl];exact hle⟩
 have:=Rd.of_own h
 simpa [RdI,zic,h0] using this
theorem zG5 {l:List Bk} {s r:Int} {w':World} (hr:zd4 l s=r) (h0:r≠0):zA6 l s (.returned (.tuple #[.slice none 0 0,.int .i64 r])) w':=by
 subst hr
 have:zic l s=[]:=by simp[zic,h0]
 exact ⟨none,0,by rw[this];rfl,by rw[this];exact Rd.nil_,by rw[this];simp⟩
end Go.Proofs.YtpcajamacpbjcaaGreat
namespace Go.Proofs.YtpcajamacpbjcaaGreat
open Lib (hid)
open Go.RowKit Go.Shelf
attribute [local go_sem] Oper.semAt_some
def zit (Q:Exit→Act→World→Prop):Exit→Act→World→Prop
 | .normal,a,w=>Q .normal a w
 | _,_,_=>False
theorem zKt {l n:Nat} {P:Program} {ops:Array Oper} {Q:Exit→Act→World→Prop} (hd:∀ o ∈ ops.toList,∀ c,o.op≠.defer c) {i:Nat} {K:Act→World→Prop} {a:Act} {w:World}
   (h:wpOp P ops (zit Q) i K a w):wpOpIn (Fence.wide.inRound l) n P ops Q i K a w:=by
 unfold wpOp at h
 unfold wpOpIn
 split
 · rename_i e
   simpa only[e] using h
 · rename_i o ho
   simp only[ho] at h
   split
   · rename_i hw
     simp only[hw,if_true] at h
     rcases h with h|⟨_,_,_,h⟩
     · refine ⟨fun _ _=>trivial,?_⟩
       have ho2:o ∈ ops.toList:=by
        obtain ⟨hlt,he⟩:=Array.getElem?_eq_some_iff.1 ho
        rw[←he];simp
       rw[Oper.semAt_eq _ _ _ (hd o ho2)]
       unfold Oper.wp at h
       generalize (execOp a.eval o).run P w=r at *
       cases r with
       | ok x w' =>
        cases x <;> simp only[Oper.upon,Oper.uponIn] at h ⊢
        case value u=>exact h
        case skip=>exact h
        case defer d=>exact h
        case enter f args =>
         refine ⟨fun h=>(by cases h),CallsIn.inRound l (callsIn_wide.2 (h.mono fun e w'' he => ?_))⟩
         cases e with
         | returned u=>exact he
         | panicked c=>exact he.elim
         | outgrown=>obtain ⟨_,_,he⟩:=he;exact he.elim
        case row row args =>
         exact ⟨fun h=>(by cases h),fun c cs _=>(let ⟨v,w',q,s⟩:=h c cs;⟨v,w',q,stepsIn_wide.2 s⟩)⟩
       | halt x w' =>
        cases x <;> simp only[Oper.upon,Oper.uponIn] at h ⊢
        case panic u=>exact h.elim
     · exact h.elim
   · rename_i hw
     simp only[hw] at h
     exact ⟨fun _ _=>trivial,h⟩
theorem zv1 {l n:Nat} {P:Program} {md:Region.Mode} {ops:Array Oper} {Q:Exit→Act→World→Prop} (hd:∀ o ∈ ops.toList,∀ c,o.op≠.defer c) :
  ∀ (fuel:Nat) (listed:Array Bool) (a:Act) (w:World),wpAny P md ops (zit Q) fuel listed a w→wpAnyIn (Fence.wide.inRound l) n P md ops Q fuel listed a w
 | 0,_,_,_,h=>h
 | fuel+1,_,_,_,h=>⟨h.1,fun i hi=>wpOpIn_mono (fun a' w' h'=>zv1 hd fuel _ a' w' h') (zKt hd (h.2 i hi))⟩
theorem zrt {l n:Nat} {P:Program} {id:Nat} {ops:Array Oper} {Q:Exit→Act→World→Prop} {a:Act} {w:World} (S:World→Prop) (hm:P.follows .mixedOrders=true) (hd:∀ o ∈ ops.toList,∀ c,o.op≠.defer c)
  (h:wpAnyH P .any ops (zit Q) S ops.size (Array.replicate ops.size false) a w.drew):(Code.region id ops true).wpIn (Fence.wide.inRound l) n P Q a w:=
 wpIn_region_any hm (zv1 hd _ _ _ _ (wpAny_of_held _ _ _ _ h))
set_option maxHeartbeats 400000 in
theorem zLa (u m:Int) (g:Nat) (w:World) (h1:0≤u) (h2:u≤2048) (h3:0≤m) (h4:m≤2200000) (hc:w.cell? ⟨g,0,none⟩=some (.int .i64 m)) (hf:w.frozen? ⟨g,0,none⟩=false) :
  Calls Tryz.prog 253 #[.int .i64 u,.pointer (some ⟨g,0,none⟩)] w fun e w'=>e=.returned (.int .i64 m)∧w.setCell ⟨g,0,none⟩ (.int .i64 (m+u))=w':=by
 go_enter Tryz.func253,Tryz.ntmps253
 go_wp2
 go_ret
 exact ⟨zIv (by omega),rfl⟩
theorem zCs {β:Type} (B:Nat) (t:TypeId) (n:Nat) (f:β→Nat→Value):Own (fun s W=>W.rowIs B t n (f s)):=fun s X Y row hs hg hrow=>by
 obtain ⟨c,hb,h1,h2⟩:=hs
 refine ⟨c,(hg.block B (Array.getElem?_eq_some_iff.1 hb).1 (fun e' => ?_)).trans hb,h1,h2⟩
 obtain ⟨o,ho,hc⟩:=hrow B e'.symm
 rw[hb] at ho
 cases ho;cases hc
def zft (l:List Bk) (s:Int) (pre:List (Idx l)):Int × (Nat→Int):=
 pre.foldl (fun st x=>(st.1+(gk l x.1).size,fun j=>if j=x.1 then st.1 else st.2 j)) (s,fun _=>0)
theorem ziv (l:List Bk) (s:Int) (pre:List (Idx l)) (x:Idx l) :
  zft l s (pre++[x])=((zft l s pre).1+(gk l x.1).size,fun j=>if j=x.1 then (zft l s pre).1 else (zft l s pre).2 j):=by
 simp[zft]
theorem zG9 {l:List Bk} (h:zb4 l=0) (s:Int) (pre:List (Idx l)):s≤(zft l s pre).1∧(zft l s pre).1≤s+2048 * pre.length:=by
 have key:∀ (n:Nat) (pre:List (Idx l)),pre.length=n→s≤(zft l s pre).1∧(zft l s pre).1≤s+2048 * pre.length:=by
  intro n
  induction n with
  | zero=>intro pre hp;rw[List.eq_nil_of_length_eq_zero hp];simp[zft]
  | succ n ih =>
   intro pre hp
   have hne:pre≠[]:=by intro e;subst e;simp at hp
   obtain ⟨q,x,rfl⟩:∃ q x,pre=q++[x]:=⟨pre.dropLast,pre.getLast hne,(List.dropLast_concat_getLast hne).symm⟩
   have:=ih q (by simpa using hp)
   have hx:=zC6 h x
   rw[ziv]
   simp only[List.length_append,List.length_cons,List.length_nil]
   omega
 exact key _ pre rfl
theorem zFe {l:List Bk} (s:Int) {k:Nat} (hk:k≤l.length):(zft l s (lp l k)).1=zat (l.take k) s∧∀ j,j<k→(zft l s (lp l k)).2 j=(zbl (l.take k) s)[j]?.getD 0:=by
 induction k with
 | zero=>simp[lp,zft,zat]
 | succ k ih =>
  obtain ⟨i1,i2⟩:=ih (by omega)
  have hl:(zbl (l.take k) s).length=k:=by rw[zc4,List.length_take];omega
  have hout:∀ {m:Nat},k≤m→m≤l.length→(zft l s (lp l k)).2 m=0:=by
    intro m hm _
    have:∀ (k:Nat),k≤l.length→∀ m,k≤m→(zft l s (lp l k)).2 m=0:=by
      intro k hk
      induction k with
      | zero=>intro m _;rfl
      | succ k ih =>
       intro m hm
       cases hb:zax (gk l k)
       · rw[zHb hb];exact ih (by omega) m (by omega)
       · rw[zvj (by omega) hb,ziv]
         dsimp only
         rw[if_neg (by omega)]
         exact ih (by omega) m (by omega)
    exact this k (by omega) m hm
  rw[zgw (by omega),zj6 (by omega),←zbt l k (by omega)]
  cases hb:zax (gk l k)
  · rw[zHb hb]
    refine ⟨by simp[i1],fun j hj => ?_⟩
    by_cases e:j=k
    · subst e
      rw[hout (Nat.le_refl _) (by omega),List.getElem?_append_right (by omega),hl];simp
    · rw[List.getElem?_append_left (by omega)];exact i2 j (by omega)
  · rw[zvj (by omega) hb,ziv]
    refine ⟨by simp[i1],fun j hj => ?_⟩
    dsimp only
    by_cases e:j=k
    · subst e
      rw[if_pos rfl,List.getElem?_append_right (by omega),hl];simp[i1]
    · rw[if_neg e,List.getElem?_append_left (by omega)];exact i2 j (by omega)
theorem zru {w:World} {B H n:Nat} {t:TypeId} {f:Nat→Value} {xs:List Value} (h:w.rowIs B t n f) (hB:H≤B) (hm:n≤maxLen) (hl:xs.length=n) (hx:∀ i,i<n→xs[i]? = some (f i)) :
   w.ownsRow H t 1 (.slice (some ⟨B,0,none⟩) n n) n xs:=by
 obtain ⟨c,hb,h1,h2⟩:=h
 refine ⟨by omega,.inr ⟨B,n,c,rfl,hB,hb,Nat.le_refl _,hm,by omega,?_⟩⟩
 apply List.ext_getElem?
 intro i
 by_cases hi:i<n
 · rw[List.getElem?_take_of_lt (by omega),hx i hi,←h2 i hi];simp
 · rw[List.getElem?_eq_none (by rw[List.length_take];simp;omega),List.getElem?_eq_none (by omega)]
set_option maxRecDepth 100000 in
set_option maxHeartbeats 4000000 in
theorem zCo (A:Option Addr) (l:List Bk) (c n:Nat) (s:Int) (w:World) (hn:l.length=n) (hm:n≤4294967296) (hr:RdB w w.heap.size A l) (hs : -9223372036854775808≤s∧s≤9223372036854775807) :
   CallsIn Fence.wide 6 Tryz.prog 206 #[.slice A n c,.int .i64 s] w fun e w' =>
    (zd4 l s=0→∃ v,e=.returned (.tuple #[v,.int .i64 0])∧w'.ownsRow w.heap.size 3 1 v n ((zbl l s).flatMap zcf))∧(zd4 l s≠0→e=.returned (.tuple #[.slice none 0 0,.int .i64 (zd4 l s)]))∧Below w.heap.size w w':=by
 subst hn
 have HR:=hid hr
 clear hr
 by_cases h0:zd4 l s=0
 · obtain ⟨hre,hs1,hs2,_⟩:=zei h0
   have hlen:=(zc5 hre).1
   have hmb:=zCg hre
   have hmk:=run_make_row' (P:=Tryz.prog) 42 3 (.int .i64 0) 8 Tryz.underlying42 zue rfl .i64 .i64 l.length (by omega) (by omega)
   have hst:=zrl A l c l.length s (w.alloc (.cells #[.int .i64 s] 3)) rfl (by omega) ((HR.out.alloc (Nat.le_refl _) _).more (by simp)) hs
   rw[h0] at hst
   have HST:=hid hst
   have HRE:=hid hre
   refine CallsIn.mono (R:=fun e w'=>(∃ v,e=.returned (.tuple #[v,.int .i64 0])∧w'.ownsRow w.heap.size 3 1 v l.length ((zbl l s).flatMap zcf))∧Below w.heap.size w w') ?_ (fun e w' h=>⟨fun _=>h.1,fun h'=>absurd h0 h',h.2⟩)
   clear h0 hst hre
   refine callsIn_of_wp_marks Tryz.func206 rfl trivial ?_ rfl
   simp only[Tryz.ntmps206,List.size_toArray,List.length_cons,List.length_nil,Nat.reduceAdd,Nat.reduceSub,Array.replicate_succ,Array.replicate_zero,List.push_toArray,List.append_toArray,List.nil_append,List.cons_append]
   gi_wp2
   refine ⟨trivial,(callsIn_wide.2 HST.out).mono ?_⟩
   rintro e w1 ⟨rfl,hB1⟩
   rw[World.size_alloc] at hB1
   have b0:=Bx.of_new hB1
   have hb1:=zan hB1
   have hz1:=hb1.size
   gi_wp2
   refine ⟨trivial,(zK1 Fence.wide _ trivial rfl A l.length c _).mono ?_⟩
   rintro e w2 ⟨rfl,rfl⟩
   have r0:((w1.alloc (.cells #[.func (.func 253) #[] #[.pointer (some ⟨w.heap.size,0,none⟩)]] 272)).alloc (.cells (madeCells #[.int .i64 0] l.length) 3)).rowIs (w1.heap.size+1) 3 l.length (fun _=>.int .i64 0):=by
    have:=World.rowIs_made (w1.alloc (.cells #[.func (.func 253) #[] #[.pointer (some ⟨w.heap.size,0,none⟩)]] 272)) (.int .i64 0) l.length 3
    rwa [World.size_alloc] at this
   have f0:=Bx.new w1 272 #[.func (.func 253) #[] #[.pointer (some ⟨w.heap.size,0,none⟩)]]
   obtain ⟨wa,hwa⟩:∃ wa,w1.alloc (.cells #[.func (.func 253) #[] #[.pointer (some ⟨w.heap.size,0,none⟩)]] 272)=wa:=⟨_,rfl⟩
   have ba:Bx wa w.heap.size 3 #[.int .i64 s]:=by rw[←hwa];exact b0.alloc _
   have hba:Below w.heap.size w wa:=by rw[←hwa];exact hb1.alloc hz1 _
   have hsa:wa.heap.size=w1.heap.size+1:=by rw[←hwa];simp
   rw[hwa] at r0 f0 ⊢
   clear hwa b0 hb1
   obtain ⟨mc,hmce⟩:∃ mc,madeCells #[Value.int .i64 0] l.length=mc:=⟨_,rfl⟩
   rw[hmce] at r0 ⊢
   have bb:=ba.alloc (.cells mc 3)
   have fb:=f0.alloc (.cells mc 3)
   have hbb:=hba.alloc (by omega) (.cells mc 3)
   have hsb:(wa.alloc (.cells mc 3)).heap.size=w1.heap.size+2:=by simp[hsa]
   obtain ⟨wb,hwb⟩:∃ wb,wa.alloc (.cells mc 3)=wb:=⟨_,rfl⟩
   rw[hwb] at r0 bb fb hbb hsb ⊢
   clear hwb hmce ba f0 hba hsa
   have ob:=Bx.new wb 42 #[.slice (some ⟨w1.heap.size+1,0,none⟩) l.length l.length]
   have b2:=(bb.alloc (.cells #[.slice (some ⟨w1.heap.size+1,0,none⟩) l.length l.length] 42)).alloc (.cells #[.slice A l.length c] 48)
   have f2:=(fb.alloc (.cells #[.slice (some ⟨w1.heap.size+1,0,none⟩) l.length l.length] 42)).alloc (.cells #[.slice A l.length c] 48)
   have r2:=(r0.alloc (.cells #[.slice (some ⟨w1.heap.size+1,0,none⟩) l.length l.length] 42)).alloc (.cells #[.slice A l.length c] 48)
   have o2:=ob.alloc (.cells #[.slice A l.length c] 48)
   have hb2:=(hbb.alloc (by omega) (.cells #[.slice (some ⟨w1.heap.size+1,0,none⟩) l.length l.length] 42)).alloc (by simp;omega) (.cells #[.slice A l.length c] 48)
   have c1:=Bx.new (wb.alloc (.cells #[.slice (some ⟨w1.heap.size+1,0,none⟩) l.length l.length] 42)) 48 #[.slice A l.length c]
   have hsz:((wb.alloc (.cells #[.slice (some ⟨w1.heap.size+1,0,none⟩) l.length l.length] 42)).alloc (.cells #[.slice A l.length c] 48)).heap.size=w1.heap.size+4:=by simp[hsb]
   rw[hsb] at o2
   rw[World.size_alloc,hsb] at c1
   obtain ⟨W0,hW0⟩:∃ W0,(wb.alloc (.cells #[.slice (some ⟨w1.heap.size+1,0,none⟩) l.length l.length] 42)).alloc (.cells #[.slice A l.length c] 48)=W0:=⟨_,rfl⟩
   rw[hW0] at b2 f2 r2 o2 hb2 c1 hsz ⊢
   clear hW0 r0 bb fb hbb ob
   gi_wp2
   refine wpIn_rangeFunc_ownH rfl (show 1≤6 by omega) (gf:=283) (lb:=#[.pointer (some ⟨w1.heap.size+2+1,0,none⟩)]) rfl trivial (enters_of Tryz.func283 (by kernel_rfl) rfl)
    (zx7 Fence.wide 5 trivial rfl (by omega) (w1.heap.size+2+1) w.heap.size A l c (by omega) W0 (by omega) (by omega) (c1.c1).1 ((HR.out).below hb2)) belowK_t (belowK_b (by omega)) (Below.refl _ _) (fun _=>rfl)
    (fun pre W=>(Bx W w.heap.size 3 #[.int .i64 (zft l s pre).1]∧Bx W w1.heap.size 272 #[.func (.func 253) #[] #[.pointer (some ⟨w.heap.size,0,none⟩)]]∧Bx W (w1.heap.size+2) 42 #[.slice (some ⟨w1.heap.size+1,0,none⟩) l.length l.length]∧W.rowIs (w1.heap.size+1) 3 l.length (fun j=>.int .i64 ((zft l s pre).2 j)))∧Below w.heap.size w W)
    (fun _ _ _=>False)
    (OwnFrom.and (OwnFrom.and (Own.from (zuy _ _ _) _) (OwnFrom.and (Own.from (zuy _ _ _) _) (OwnFrom.and (Own.from (zuy _ _ _) _) (Own.from (zCs _ _ _ _) _)))) (ownFrom_below (Nat.le_refl _) (by omega)))
    (fun _ _ _ _ _ hs _ _=>hs)
    ⟨⟨b2,f2,o2,r2⟩,hb2⟩
    (fun x a' W=>∃ Bx',w1.heap.size+2<Bx'∧Bx W Bx' 55 (gk l x.1).arr∧a'={ tmps:=#[.slice A l.length c,.int .i64 s,undef,.pointer (some ⟨w.heap.size,0,none⟩),.slice none 0 0,.int .i64 0,.int .i64 0,.pointer (some ⟨w1.heap.size,0,none⟩),.pointer (some ⟨w1.heap.size+1+1,0,none⟩),.int .i64 (x.1:Int),.pointer (some ⟨Bx',0,none⟩),.slice A l.length c,.int .i64 s,.int .i64 0,.int .i64 0,.bool false,undef,.func (.func 253) #[] #[.pointer (some ⟨w.heap.size,0,none⟩)],.slice A l.length c,.int .i64 (l.length:Int),.slice (some ⟨w1.heap.size+1,0,none⟩) l.length l.length,.slice A l.length c,.func (.func 283) #[] #[.pointer (some ⟨w1.heap.size+2+1,0,none⟩)],.int .i64 (x.1:Int),(gk l x.1).val,undef,undef,undef,undef,undef,undef,undef,undef],defers:=[] })
    (fun x a' _ X Y row hs hg hr=>by obtain ⟨B',h1,h2,h3⟩:=hs;exact ⟨B',h1,zuy B' 55 (fun (_:Unit)=>(gk l x.1).arr) () X Y row h2 hg (fun r e=>(hr r e).2),h3⟩)
    ?assign ?body ?done ?stop
   case assign =>
    rintro l' pre x W K ⟨⟨bS,bF,bO,bR⟩,hB⟩ hK
    have hz:=hB.size
    obtain ⟨y,hy⟩:∃ y,gk l x.1=y:=⟨_,rfl⟩
    rw[hy] at hK ⊢
    obtain ⟨xa,xs,xk,xt,xm,xn⟩:=y
    unfold Bk.arr Bk.val at hK
    unfold Bk.val
    dsimp only at hK ⊢
    have HK:=hid hK
    clear hK hy
    gi_wp2
    exact HK.out _ _ ((KeepsOthers.alloc _ _).from _) ((Below.refl _ W).alloc hz _) ⟨⟨bS.alloc _,bF.alloc _,bO.alloc _,bR.alloc _⟩,hB.alloc hz _⟩ ⟨W.heap.size,bO.lt,Bx.new W _ _,rfl⟩
   case body =>
    rintro l' pre x a' W hl ⟨r,hr⟩ ⟨⟨bS,bF,bO,bR⟩,hB⟩ ⟨B',hB',bX,rfl⟩ hlt
    have hsb:=zG9 HRE.out s pre
    have hxb:=zC6 HRE.out x
    have hsn:=hid (ziv l s pre x)
    have hxl:=x.2
    have g1:W.cell? ⟨B',1,none⟩=some (.int .i64 (gk l x.1).size):=bX.cell 1
    obtain ⟨s1,s2,s3⟩:=bS.c1
    obtain ⟨t1,t2,t3⟩:=bF.c1
    obtain ⟨o1,o2,o3⟩:=bO.c1
    have r1:=bR.frozen x.1
    have mixed:Tryz.prog.follows .mixedOrders=true:=by kernel_rfl
    obtain ⟨q,hq⟩:∃ q,W.cell? ⟨w1.heap.size+1,x.1,none⟩=some (.int .i64 q):=⟨_,bR.cell x.2⟩
    have hxi:(x.1:Int)<(l.length:Int):=by omega
    have hx0:(0:Int)≤(x.1:Int):=by omega
    have hxn:((x.1:Int)).toNat=x.1:=by omega
    obtain ⟨u,hu⟩:∃ u,(gk l x.1).size=u:=⟨_,rfl⟩
    obtain ⟨m,hm2⟩:∃ m,(zft l s pre).1=m:=⟨_,rfl⟩
    rw[hu] at g1 hxb
    rw[hm2] at s1 hsb
    have hmx:m≤2200000:=by omega
    have hm0:0≤m:=by omega
    obtain ⟨hx1,hx2⟩:=hxb
    have bS2:=hid bS
    have bR2:=hid bR
    have bF2:=hid bF
    have bO2:=hid bO
    have HU:=hid hu
    have HM2:=hid hm2
    clear hsb bS bR bF bO hu hm2 hlt
    gi_wp2
    have HS0:(fun X:World=>X.cell? ⟨w1.heap.size+1+1,0,none⟩=some (.slice (some ⟨w1.heap.size+1,0,none⟩) l.length l.length)∧X.cell? ⟨w1.heap.size,0,none⟩=some (.func (.func 253) #[] #[.pointer (some ⟨w.heap.size,0,none⟩)])∧X.cell? ⟨B',1,none⟩=some (.int .i64 u)) W.drew:=⟨o1,t1,g1⟩
    refine zrt (fun X:World=>X.cell? ⟨w1.heap.size+1+1,0,none⟩=some (.slice (some ⟨w1.heap.size+1,0,none⟩) l.length l.length)∧X.cell? ⟨w1.heap.size,0,none⟩=some (.func (.func 253) #[] #[.pointer (some ⟨w.heap.size,0,none⟩)])∧X.cell? ⟨B',1,none⟩=some (.int .i64 u)) mixed (by simp) ?_
    show wpAnyH _ _ _ _ _ 8 #[false,false,false,false,false,false,false,false] _ _
    refine wpAnyH_take (i:=0) (v:=.slice (some ⟨w1.heap.size+1,0,none⟩) l.length l.length) rfl (by kernel_rfl) (by kernel_rfl) (by kernel_rfl) (fun _ _ _ h=>h) (Or.inl ⟨by rfl,?_⟩) HS0 ?_
    · intro X hX
      obtain ⟨q1,q2,q3⟩:=hX
      go_simp
    dsimp only[Act.put,List.setIfInBounds_toArray,List.set_cons_zero,List.set_cons_succ]
    refine wpAnyH_take (i:=1) (v:=.int .i64 (x.1:Int)) rfl (by kernel_rfl) (by kernel_rfl) (by kernel_rfl) (fun _ _ _ h=>h) (Or.inl ⟨by rfl,?_⟩) HS0 ?_
    · intro X hX
      obtain ⟨q1,q2,q3⟩:=hX
      go_simp
    dsimp only[Act.put,List.setIfInBounds_toArray,List.set_cons_zero,List.set_cons_succ]
    refine wpAnyH_take (i:=2) (v:=.func (.func 253) #[] #[.pointer (some ⟨w.heap.size,0,none⟩)]) rfl (by kernel_rfl) (by kernel_rfl) (by kernel_rfl) (fun _ _ _ h=>h) (Or.inl ⟨by rfl,?_⟩) HS0 ?_
    · intro X hX
      obtain ⟨q1,q2,q3⟩:=hX
      go_simp
    dsimp only[Act.put,List.setIfInBounds_toArray,List.set_cons_zero,List.set_cons_succ]
    refine wpAnyH_take (i:=3) (v:=.pointer (some ⟨B',1,none⟩)) rfl (by kernel_rfl) (by kernel_rfl) (by kernel_rfl) (fun _ _ _ h=>h) (Or.inl ⟨by rfl,?_⟩) HS0 ?_
    · intro X hX
      obtain ⟨q1,q2,q3⟩:=hX
      go_simp
    dsimp only[Act.put,List.setIfInBounds_toArray,List.set_cons_zero,List.set_cons_succ]
    refine wpAnyH_take (i:=4) (v:=.int .i64 u) rfl (by kernel_rfl) (by kernel_rfl) (by kernel_rfl) (fun _ _ _ h=>h) (Or.inl ⟨by rfl,?_⟩) HS0 ?_
    · intro X hX
      obtain ⟨q1,q2,q3⟩:=hX
      go_simp
    dsimp only[Act.put,List.setIfInBounds_toArray,List.set_cons_zero,List.set_cons_succ]
    refine wpAnyH_ready (rs:=[5]) (by kernel_rfl) (by simp) ?_
    refine AllReadyH.cons rfl (fun K hK => ?_) AllReadyH.nil
    go_simp
    refine (zLa u m w.heap.size W.drew (by omega) hx2 hm0 hmx s1 s2).mono ?_
    rintro e w' ⟨rfl,rfl⟩
    go_simp
    have hz1':=hB1.size
    rw[World.size_alloc] at hz1'
    have ne:∀ (p:Addr),p.block≠w.heap.size→((W.setCell ⟨w.heap.size,0,none⟩ (.int .i64 (m+u))).drew).cell? p=W.cell? p:=fun p hp=>World.cell?_setCell_other W _ _ _ (by rintro rfl;exact hp rfl)
    refine hK.out _ _ ⟨(ne _ (by dsimp only;omega)).trans o1,(ne _ (by dsimp only;omega)).trans t1,(ne _ (by dsimp only;omega)).trans g1⟩ (fun HS1 => ?_)
    clear hK K
    have hq':=(ne ⟨w1.heap.size+1,x.1,none⟩ (by dsimp only;omega)).trans hq
    have r1':((W.setCell ⟨w.heap.size,0,none⟩ (.int .i64 (m+u))).drew).frozen? ⟨w1.heap.size+1,x.1,none⟩=false:=by show (W.setCell _ _).frozen? _=_;rw[World.frozen?_setCell];exact r1
    have NE:=hid ne
    clear ne
    obtain ⟨V,hV⟩:∃ V,(W.setCell ⟨w.heap.size,0,none⟩ (.int .i64 (m+u))).drew=V:=⟨_,rfl⟩
    have HV:=hid hV
    rw[hV] at hq' r1' HS1 ⊢
    clear hV
    refine wpAnyH_take (i:=6) (v:=.pointer (some ⟨w1.heap.size+1,x.1,none⟩)) rfl (by kernel_rfl) (by kernel_rfl) (by kernel_rfl) (fun _ _ _ h=>h) (Or.inl ⟨by rfl,?_⟩) HS1 ?_
    · intro X hX
      obtain ⟨q1,q2,q3⟩:=hX
      go_simp
    dsimp only[Act.put,List.setIfInBounds_toArray,List.set_cons_zero,List.set_cons_succ]
    refine wpAnyH_ready (rs:=[7]) (by kernel_rfl) (by simp) ?_
    refine AllReadyH.cons rfl (fun K hK => ?_) AllReadyH.nil
    go_simp
    obtain ⟨p1,p2,p3⟩:=HS1
    have ne2:∀ (p:Addr),p.block≠w1.heap.size+1→(V.setCell ⟨w1.heap.size+1,x.1,none⟩ (.int .i64 m)).cell? p=V.cell? p:=fun p hp=>World.cell?_setCell_other _ _ _ _ (by rintro rfl;exact hp rfl)
    refine hK.out _ _ ⟨(ne2 _ (by dsimp only;omega)).trans p1,(ne2 _ (by dsimp only;omega)).trans p2,(ne2 _ (by dsimp only;omega)).trans p3⟩ (fun HS2 => ?_)
    clear hK K
    refine wpAnyH_done (by kernel_rfl) ?_ _
    dsimp only[zit]
    gi_wp2
    have hV:=HV.out
    subst hV
    have E1:(zft l s (pre++[x])).1=m+u:=by rw[hsn.out];show (zft l s pre).1+_=_;rw[HM2.out,HU.out]
    have E2:∀ j,(zft l s (pre++[x])).2 j=if j=x.1 then m else (zft l s pre).2 j:=fun j=>by rw[hsn.out];show (if j=x.1 then (zft l s pre).1 else _)=_;rw[HM2.out]
    have k1:KeepsOthers W ((W.setCell ⟨w.heap.size,0,none⟩ (.int .i64 (m+u))).drew):=(KeepsOthers.setCell _ _ _).trans (KeepsOthers.drew _)
    have b1:Below w.heap.size W ((W.setCell ⟨w.heap.size,0,none⟩ (.int .i64 (m+u))).drew):=((Below.refl _ W).setCell (p:=⟨w.heap.size,0,none⟩) (Nat.le_refl _) _).drew
    refine ⟨(k1.trans (KeepsOthers.setCell _ _ _)).from _,b1.setCell (p:=⟨w1.heap.size+1,x.1,none⟩) (by dsimp only;omega) _,⟨?_,?_,?_,?_⟩,(hB.trans (b1.mono (Nat.le_refl _))).setCell (p:=⟨w1.heap.size+1,x.1,none⟩) (by dsimp only;omega) _⟩
    · rw[E1]
      exact Bx.far (bS2.out.set_ 0 _) (p:=⟨w1.heap.size+1,x.1,none⟩) (by dsimp only;omega) _
    · exact Bx.far (bF2.out.far (p:=⟨w.heap.size,0,none⟩) (by dsimp only;omega) _) (p:=⟨w1.heap.size+1,x.1,none⟩) (by dsimp only;omega) _
    · exact Bx.far (bO2.out.far (p:=⟨w.heap.size,0,none⟩) (by dsimp only;omega) _) (p:=⟨w1.heap.size+1,x.1,none⟩) (by dsimp only;omega) _
    · refine World.rowIs.congr (World.rowIs.set (w:=(W.setCell ⟨w.heap.size,0,none⟩ (.int .i64 (m+u))).drew) (bR2.out.setOther (a:=⟨w.heap.size,0,none⟩) (by dsimp only;omega) _) x.1 (.int .i64 m)) (fun j hj => ?_)
      rw[E2]
      by_cases e:j=x.1
      · rw[if_pos e,if_pos e]
      · rw[if_neg e,if_neg e]
   case done =>
    rintro D zs W hD rfl ⟨⟨bS,bF,bO,bR⟩,hB⟩ hK
    obtain ⟨o1,o2,o3⟩:=bO.c1
    have HP:=(zFe (l:=l) s (Nat.le_refl l.length)).2
    rw[List.take_length] at HP
    have hfm:(zbl l s).flatMap zcf=(zbl l s).map (fun v=>Value.int .i64 v):=by
      generalize zbl l s=ps
      induction ps with
      | nil=>rfl
      | cons a t ih=>rw[List.flatMap_cons,ih];rfl
    gi_wp2
    refine ⟨by simp,.inl ⟨_,_,rfl,run_takeDeferred hK,?_⟩⟩
    refine ⟨_,results_tmp2 rfl _ _ _,⟨_,rfl,zru (bR.of_block (w':=W.putObj D _) (by simp only[World.putObj];rw[Array.getElem?_setIfInBounds_ne (by omega)])) (by omega) (by simp[maxLen];omega) ?_ ?_⟩,hB.trans (belowK_b (w:=w) (Nat.le_refl _) W D _ _ (by omega) hK rfl rfl)⟩
    · rw[hfm,List.length_map,zc4]
    · intro i hi
      rw[hfm,List.getElem?_map,HP i hi,List.getElem?_eq_getElem (by rw[zc4];exact hi)]
      simp
   case stop =>
    rintro D c pre W _ _ h _
    exact h.elim
 · have hst:=zrl A l c l.length s (w.alloc (.cells #[.int .i64 s] 3)) rfl (by omega) ((HR.out.alloc (Nat.le_refl _) _).more (by simp)) hs
   have hn1:(zd4 l s == 0)=false:=by rw[beq_eq_false_iff_ne];exact h0
   have hn2:(zd4 l s != 0)=true:=by rw[bne_iff_ne];exact h0
   have HST:=hid hst
   refine CallsIn.mono (R:=fun e w'=>e=.returned (.tuple #[.slice none 0 0,.int .i64 (zd4 l s)])∧Below w.heap.size w w') ?_ (fun e w' h=>⟨fun h'=>absurd h' h0,fun _=>h.1,h.2⟩)
   clear h0 hst
   generalize zd4 l s=r at *
   refine callsIn_of_wp_marks Tryz.func206 rfl trivial ?_ rfl
   simp only[Tryz.ntmps206,List.size_toArray,List.length_cons,List.length_nil,Nat.reduceAdd,Nat.reduceSub,Array.replicate_succ,Array.replicate_zero,List.push_toArray,List.append_toArray,List.nil_append,List.cons_append]
   gi_wp2
   refine ⟨trivial,(callsIn_wide.2 HST.out).mono ?_⟩
   rintro e w1 ⟨rfl,hB1⟩
   rw[World.size_alloc] at hB1
   gi_wp2
   exact ⟨_,results_tmp2 rfl _ _ _,rfl,zan hB1⟩
theorem zvg (A:Option Addr) (l:List Bk) (c n:Nat) (s:Int) (w:World) (hn:l.length=n) (hm:n≤4294967296) (hr:RdB w w.heap.size A l) (hs : -9223372036854775808≤s∧s≤9223372036854775807) :
  Calls Tryz.prog 206 #[.slice A n c,.int .i64 s] w fun e w'=>zA6 l s e w'∧Below w.heap.size w w':=
 (callsIn_wide.1 (zCo A l c n s w hn hm hr hs)).mono fun e w' h=>by
  obtain ⟨h1,h2,h3⟩:=h
  refine ⟨?_,h3⟩
  by_cases h0:zd4 l s=0
  · obtain ⟨v,rfl,hown⟩:=h1 h0
    exact zrf h0 hn hown
  · rw[h2 h0]
    exact zG5 rfl h0
end Go.Proofs.YtpcajamacpbjcaaGreat
