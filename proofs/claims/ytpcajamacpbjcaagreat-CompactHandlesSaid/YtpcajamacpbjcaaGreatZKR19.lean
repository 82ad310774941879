/- Texts laid together: Tys WaP R18 LyP R19A Seq R19B R19C. -/
import Derived.Test.YtpcajamacpbjcaaGreatZR13T
import Derived.Test.YtpcajamacpbjcaaGreatZKStg2
import Derived.Test.YtpcajamacpbjcaaGreatZKRef15
import Derived.Test.YtpcajamacpbjcaaGreatZKImage
import Derived.Test.YtpcajamacpbjcaaGreatZKRch
import Derived.Test.YtpcajamacpbjcaaGreatZKRefs
import Derived.Test.YtpcajamacpbjcaaGreatZKHead
import Derived.Test.YtpcajamacpbjcaaGreatZKSup
import Derived.RowKit
import Derived.OrdersHeld
import Derived.Deep.RegionHeld
import Derived.BigQuiet
namespace Go.Proofs.YtpcajamacpbjcaaGreat
open Lib (hid)
open Go.RowKit
theorem zoj {w:World} {B:Nat} {A:Option Addr} {l:List Ty} (h:Rd w B A (l.flatMap Ty.cells)) {k:Nat} (hk:k<l.length) :
  ∃ b off,A=some ⟨b,off,none⟩∧b<B∧w.cell? ⟨b,off+k,none⟩=some (.slice l[k].A l[k].l.length l[k].c):=by
 obtain ⟨b,off,e,hb,hc⟩:=Rd.at_flat Ty.len h (by omega) hk
 have:=hc 0 (by omega)
 simp only[Nat.mul_one,Nat.add_zero] at this
 exact ⟨b,off,e,hb,this⟩
def zut (w:World) (H:Nat) (v:Value) (L:List Ty):Prop:=w.ownsRow H 113 1 v L.length (L.flatMap Ty.cells)∧∀ x ∈ L,w.ownsRow H 5 1 (.slice x.A x.l.length x.c) x.l.length (x.l.flatMap zbg)
theorem zBz:(Tryz.prog.info? 113).map (fun i=>(i.zero,i.size,i.bytes))=some (some (.slice none 0 0),1,24):=by kernel_rfl
def zAu (ws:List Nat) (t i:Nat):Bool:=if i<t then zb7 (wd ws (96+2 * i)) (wd ws (96+2 * i+1)) else wd ws (96+2 * i) == 0 && wd ws (96+2 * i+1) == 0
def zxv (ws:List Nat) (t k:Nat):Prop:=∀ i,i<k→zAu ws t i=true
def zgg (ws:List Nat) (t:Nat):Bool:=(List.range 8).all fun i=>zAu ws t i
theorem zfw (ws:List Nat) (t:Nat):zgg ws t=true↔zxv ws t 8:=by
 unfold zgg zxv
 rw[List.all_eq_true]
 exact ⟨fun h i hi=>h i (List.mem_range.2 hi),fun h i hi=>h i (List.mem_range.1 hi)⟩
theorem zo0 {ws:List Nat} {t k:Nat} (h:zxv ws t k) (h1:zAu ws t k=true):zxv ws t (k+1):=fun i hi=>by
 rcases Nat.lt_or_ge i k with h2|h2
 · exact h i h2
 · have:i=k:=by omega
   subst this;exact h1
theorem zqt {ws:List Nat} {t k:Nat} (hk:k<8) (h:zAu ws t k=false):zgg ws t=false:=by
 cases hq:zgg ws t with
 | false=>rfl
 | true=>rw[(zfw ws t).1 hq k hk] at h;cases h
def zfl (ws:List Nat) (t k:Nat):List (List Nat):=(List.range (min t k)).map fun i=>zbd (wd ws (96+2 * i)) (wd ws (96+2 * i+1))
theorem zCn {ws:List Nat} {t k:Nat} (h:k<t):zfl ws t (k+1)=zfl ws t k++[zbd (wd ws (96+2 * k)) (wd ws (96+2 * k+1))]:=by
 unfold zfl
 rw[Nat.min_eq_right (by omega),Nat.min_eq_right (by omega),List.range_succ,List.map_append]
 rfl
theorem zAh {ws:List Nat} {t k:Nat} (h:t≤k):zfl ws t (k+1)=zfl ws t k:=by
 unfold zfl
 rw[Nat.min_eq_left (by omega),Nat.min_eq_left (by omega)]
theorem zp1 (ws:List Nat) (t k:Nat):(zfl ws t k).length=min t k:=by simp[zfl]
theorem zrr {w w' wb:World} {H:Nat} {v v1:Value} {L:List Ty} {x:Ty} (h:∀ y ∈ L,w.ownsRow H 5 1 (.slice y.A y.l.length y.c) y.l.length (y.l.flatMap zbg)) (hx:w.ownsRow H 5 1 (.slice x.A x.l.length x.c) x.l.length (x.l.flatMap zbg))
   (hrow:wb.ownsRow H 113 1 v L.length (L.flatMap Ty.cells)) (hwb:∀ {A:Option Addr} {n c:Nat} {xs:List Value},w.ownsRow H 5 1 (.slice A n c) n xs→wb.ownsRow H 5 1 (.slice A n c) n xs) (hg:wb.grownBy w' v.ownBlock) (h1:w'.ownsRow H 113 1 v1 (L.length+1) (L.flatMap Ty.cells++x.cells)):zut w' H v1 (L++[x]):=by
 refine ⟨by rw[zb6,List.length_append];exact h1,fun y hy => ?_⟩
 rcases List.mem_append.1 hy with hy|hy
 · exact zda (hwb (h y hy)) hg (zi8 (hwb (h y hy)) hrow (by decide))
 · rw[List.mem_singleton] at hy
   subst hy
   exact zda (hwb hx) hg (zi8 (hwb hx) hrow (by decide))
def zKy (ws:List Nat) (t H:Nat) (e:Ending) (w':World):Prop:=∃ v L,e=.returned (.tuple #[v,.bool (zgg ws t)])∧(zgg ws t=true→zut w' H v L∧L.map Ty.l=zfl ws t 8)
set_option maxRecDepth 100000 in
set_option maxHeartbeats 8000000 in
theorem zwi (A:Option Addr) (ws:List Nat) (c n t:Nat) (w:World) (hn:ws.length=n) (h2:256≤n) (hm:n≤2048) (hr:RdW w w.heap.size A ws) (ho:∀ x ∈ ws,x<18446744073709551616) :
  Calls Tryz.prog 211 #[.slice A n c,.int .i64 (t:Int)] w fun e w'=>zKy ws t w.heap.size e w'∧Below w.heap.size w w':=by
 subst hn
 have HR:=hid hr
 have HLT:Hid (∀ k,wd ws k<18446744073709551616):=hid (ze6 ho)
 clear hr ho
 obtain ⟨i2,hi,hz0,hz1,hz2⟩:=info_parts zBz
 have HJ:=hid hi
 have HJ0:=hid hz0
 have HJ1:=hid hz1
 have HJ2:=hid hz2
 clear hi hz0 hz1 hz2
 go_enter Tryz.func211,Tryz.ntmps211
 go_wp2_with fail
 go_loopw [6,7] (fun v i wr=>∃ (k:Nat) (L:List Ty),k≤8∧i=.int .i64 k∧Hid (zxv ws t k)∧Hid (L.map Ty.l=zfl ws t k)∧L.length≤k∧Hid (zut wr w.heap.size v L)∧Below w.heap.size w wr) (fun _ i _=>8 - (intOf i).toNat)
 case atStart=>exact ⟨0,[],Nat.zero_le _,rfl,hid (fun i h=>absurd h (by omega)),hid (by simp[zfl]),Nat.le_refl _,hid ⟨World.ownsRow_nil _ _ _ _,fun x hx=>absurd hx (by simp)⟩,Below.refl _ _⟩
 case round =>
  obtain ⟨k,L,hk,rfl,HOK,HLL,hLk,HOW,hB⟩:=hrel
  have hz:=hB.size
  by_cases hlt:k<8
  · obtain ⟨b,off,rfl,hb,h0⟩:=RdW.at_ (Rd.below HR.out hB) (show 96+2 * k<ws.length by omega)
    obtain ⟨b',off',e',-,h1⟩:=RdW.at_ (Rd.below HR.out hB) (show 96+2 * k+1<ws.length by omega)
    cases e'
    rw[←zcb] at h0 h1
    have HRD:=hid (fun W=>zwz (wd ws (96+2 * k)) (wd ws (96+2 * k+1)) W (HLT.out _))
    have HSU:=hid (fun h=>zo0 HOK.out h)
    have HBD:=hid (fun h=>zqt (ws:=ws) (t:=t) hlt h)
    have HAT:Hid (zAu ws t k=if k<t then zb7 (wd ws (96+2 * k)) (wd ws (96+2 * k+1)) else wd ws (96+2 * k) == 0 && wd ws (96+2 * k+1) == 0):=hid rfl
    have HTL:=hid (fun h=>zCn (ws:=ws) (t:=t) (k:=k) h)
    have HTG:=hid (fun h=>zAh (ws:=ws) (t:=t) (k:=k) h)
    have i1:IntKind.i64.wrap ((2:Int) * (k:Int))=2 * (k:Int):=IntWalk.i64_in _ (by omega)
    have i2':IntKind.i64.wrap ((96:Int)+2 * (k:Int))=((96+2 * k:Nat):Int):=by rw[IntWalk.i64_in _ (by omega)];omega
    have i3:IntKind.i64.wrap (((96+2 * k:Nat):Int)+1)=((96+2 * k+1:Nat):Int):=by rw[IntWalk.i64_in _ (by omega)];omega
    have j1:((96+2 * k:Nat):Int)<(ws.length:Int):=by omega
    have j2:(0:Int)≤((96+2 * k:Nat):Int):=by omega
    have j3:((96+2 * k+1:Nat):Int)<(ws.length:Int):=by omega
    have j4:(0:Int)≤((96+2 * k+1:Nat):Int):=by omega
    have hk1:(k:Int)<8:=by omega
    obtain ⟨p,hp⟩:∃ p,96+2 * k=p:=⟨_,rfl⟩
    rw[hp] at h0 h1 HRD HAT HTL i2' i3 j1 j2 j3 j4
    obtain ⟨q,hq⟩:∃ q,p+1=q:=⟨_,rfl⟩
    rw[hq] at h1 HRD HAT HTL i3 j3 j4
    obtain ⟨x,hx⟩:∃ x,wd ws p=x:=⟨_,rfl⟩
    obtain ⟨y,hy⟩:∃ y,wd ws q=y:=⟨_,rfl⟩
    rw[hx] at h0 HRD HAT HTL
    rw[hy] at h1 HRD HAT HTL
    have HB:=hid hB
    clear hx hy hp hq
    by_cases hkt:k<t
    · have d1:decide ((k:Int)<(t:Int))=true:=by rw[decide_eq_true_iff];omega
      have d1n:decide (k<t)=true:=by rw[decide_eq_true_iff];exact hkt
      have d2:decide ((t:Int)≤(k:Int))=false:=by rw[decide_eq_false_iff_not];omega
      have d2n:decide (t≤k)=false:=by rw[decide_eq_false_iff_not];omega
      cases hty:zb7 x y
      · have HV:=hid (HBD.out (by rw[HAT.out,if_pos hkt,hty]))
        have hkr:zef x y=50:=by unfold zef;rw[hty];rfl
        have hko:zbd x y=[]:=by unfold zbd;rw[hty];rfl
        unfold zlh at HRD
        rw[hkr,hko] at HRD
        clear hty hkr hko HAT HBD HSU HTL HTG hkt
        go_wp2_with fail
        go_region_held3 (fun X:World=>X.cell? ⟨b,off+p,none⟩=some (.int .u64 (x:Int))∧X.cell? ⟨b,off+q,none⟩=some (.int .u64 (y:Int))) (go_keep) (fail)
        go_wp2_with fail
        refine (HRD.out _).mono ?_
        rintro e w3 ⟨⟨A3,c3,rfl,-⟩,hB3⟩
        have hb3:=HB.out.drew.trans (hB3.mono hz)
        clear hB3
        go_wp2_with fail
        go_ret2
        exact ⟨⟨.slice none 0 0,[],by rw[HV.out];rfl,fun h=>by rw[HV.out] at h;cases h⟩,hb3⟩
      · have HV:=hid (HSU.out (by rw[HAT.out,if_pos hkt,hty]))
        have HTN:=hid (HTL.out hkt)
        have hkr:zef x y=0:=by unfold zef;rw[hty];rfl
        unfold zlh at HRD
        rw[hkr] at HRD
        obtain ⟨l,hl⟩:∃ l,zbd x y=l:=⟨_,rfl⟩
        rw[hl] at HRD HTN
        clear hty hkr hl HAT HBD HSU HTL HTG hkt
        go_wp2_with fail
        go_region_held3 (fun X:World=>X.cell? ⟨b,off+p,none⟩=some (.int .u64 (x:Int))∧X.cell? ⟨b,off+q,none⟩=some (.int .u64 (y:Int))) (go_keep) (fail)
        go_wp2_with fail
        refine (HRD.out _).mono ?_
        rintro e w3 ⟨⟨A3,c3,rfl,hown3⟩,hB3⟩
        have hb3:=HB.out.drew.trans (hB3.mono hz)
        have hz3:=hb3.size
        have hrow:=zak (show wr.drew.ownsRow _ _ _ _ _ _ from HOW.out.1) hB3 (Nat.le_refl _)
        have HEL:Hid (∀ y ∈ L,w3.ownsRow w.heap.size 5 1 (.slice y.A y.l.length y.c) y.l.length (y.l.flatMap zbg)):=hid fun y hy=>zak (show wr.drew.ownsRow _ _ _ _ _ _ from HOW.out.2 y hy) hB3 (Nat.le_refl _)
        have HNW:=hid (zbf hown3 (show w.heap.size≤wr.drew.heap.size from hz))
        have HROW:=hid hrow
        have HB3:=hid hb3
        clear hB3 hown3 hb3 HOW
        go_wp2_with (at_builtin;refine wpList_append_own _ rfl _ _ 69 rfl w.heap.size 113 i2 _ 1 24 Tryz.underlying69 HJ.out HJ0.out HJ1.out HJ2.out rfl (by decide) _ _ _ rfl (hrow.alloc _) ⟨_,0,none⟩ 1 1 [.slice A3 l.length c3] rfl rfl (zcl _ _ _) (by simp[Value.oneCell']) (by unfold maxLen;omega) (by omega) (zcq hz3) ?_;intro v1 w6 hown1 hg1 _;have HB6:=hid (zaw HB3.out hz3 hrow hg1);have HN6:=hid (zrr (x:=⟨A3,c3,l⟩) HEL.out HNW.out (HROW.out.alloc _) (fun h=>h.alloc _) hg1 hown1);clear hown1 hg1)
        go_roundw
        case rel=>exact ⟨k+1,L++[⟨A3,c3,l⟩],by omega,by go_num,HV,hid (by rw[List.map_append,HLL.out,HTN.out];rfl),by simp;omega,HN6,HB6.out⟩
        case measure=>simp[intOf];omega
    · have d1:decide ((k:Int)<(t:Int))=false:=by rw[decide_eq_false_iff_not];omega
      have d1n:decide (k<t)=false:=by rw[decide_eq_false_iff_not];exact hkt
      have d2:decide ((t:Int)≤(k:Int))=true:=by rw[decide_eq_true_iff];omega
      have d2n:decide (t≤k)=true:=by rw[decide_eq_true_iff];omega
      have HTN:=hid (HTG.out (by omega))
      have HAT2:Hid (zAu ws t k=(x == 0 && y == 0)):=hid (by rw[HAT.out,if_neg hkt])
      have HKR:=hid (fun W=>(HRD.out W).mono (R':=fun e w'=>(∃ v r,e=.returned (.tuple #[v,.int .i64 r]))∧Below W.heap.size W w') (by rintro e w' ⟨⟨A,c,rfl,-⟩,hB⟩;exact ⟨⟨_,_,rfl⟩,hB⟩))
      clear HRD HAT HTL HTG hkt
      by_cases hx0:x=0
      · subst hx0
        by_cases hy0:y=0
        · subst hy0
          have HV:=hid (HSU.out (by rw[HAT2.out];rfl))
          clear HBD HSU HAT2
          go_wp2_with fail
          go_region_held3 (fun X:World=>X.cell? ⟨b,off+p,none⟩=some (.int .u64 ((0:Nat):Int))∧X.cell? ⟨b,off+q,none⟩=some (.int .u64 ((0:Nat):Int))) (go_keep) (fail)
          go_wp2_with fail
          refine (HKR.out _).mono ?_
          rintro e w3 ⟨⟨v3,r3,rfl⟩,hB3⟩
          have HB3:=hid (HB.out.drew.trans (hB3.mono hz))
          have HO3:Hid (zut w3 w.heap.size u6 L):=hid ⟨zak (show wr.drew.ownsRow _ _ _ _ _ _ from HOW.out.1) hB3 (Nat.le_refl _),fun y hy=>zak (show wr.drew.ownsRow _ _ _ _ _ _ from HOW.out.2 y hy) hB3 (Nat.le_refl _)⟩
          clear hB3
          go_wp2_with fail
          go_roundw
          case rel=>exact ⟨k+1,L,by omega,by go_num,HV,hid (by rw[HLL.out,HTN.out]),by omega,HO3,HB3.out⟩
          case measure=>simp[intOf];omega
        · have HV:=hid (HBD.out (by rw[HAT2.out,show (y == 0)=false by rw[beq_eq_false_iff_ne];exact hy0];rfl))
          have d3:decide ((0:Int)<(y:Int))=true:=by rw[decide_eq_true_iff];omega
          have d3n:decide (0<y)=true:=by rw[decide_eq_true_iff];omega
          clear HBD HSU HAT2 hy0
          go_wp2_with fail
          go_region_held3 (fun X:World=>X.cell? ⟨b,off+p,none⟩=some (.int .u64 ((0:Nat):Int))∧X.cell? ⟨b,off+q,none⟩=some (.int .u64 (y:Int))) (go_keep) (fail)
          go_wp2_with fail
          refine (HKR.out _).mono ?_
          rintro e w3 ⟨⟨v3,r3,rfl⟩,hB3⟩
          have HB3:=hid (HB.out.drew.trans (hB3.mono hz))
          clear hB3
          go_wp2_with fail
          go_ret2
          exact ⟨⟨.slice none 0 0,[],by rw[HV.out];rfl,fun h=>by rw[HV.out] at h;cases h⟩,HB3.out⟩
      · have HV:=hid (HBD.out (by rw[HAT2.out,show (x == 0)=false by rw[beq_eq_false_iff_ne];exact hx0];rfl))
        have d3:decide ((0:Int)<(x:Int))=true:=by rw[decide_eq_true_iff];omega
        have d3n:decide (0<x)=true:=by rw[decide_eq_true_iff];omega
        clear HBD HSU HAT2 hx0
        go_wp2_with fail
        go_region_held3 (fun X:World=>X.cell? ⟨b,off+p,none⟩=some (.int .u64 (x:Int))∧X.cell? ⟨b,off+q,none⟩=some (.int .u64 (y:Int))) (go_keep) (fail)
        go_wp2_with fail
        refine (HKR.out _).mono ?_
        rintro e w3 ⟨⟨v3,r3,rfl⟩,hB3⟩
        have HB3:=hid (HB.out.drew.trans (hB3.mono hz))
        clear hB3
        go_wp2_with fail
        go_ret2
        exact ⟨⟨.slice none 0 0,[],by rw[HV.out];rfl,fun h=>by rw[HV.out] at h;cases h⟩,HB3.out⟩
  · obtain rfl:k=8:=by omega
    have HT:Hid (zgg ws t=true):=hid ((zfw ws t).2 HOK.out)
    go_wp2_with fail
    go_ret2
    exact ⟨⟨_,L,by rw[HT.out];rfl,fun _=>⟨HOW.out,HLL.out⟩⟩,hB⟩
end Go.Proofs.YtpcajamacpbjcaaGreat
namespace Go.Proofs.YtpcajamacpbjcaaGreat
open Lib (hid)
open Go.RowKit
def zmm (l:List Bk) (j:Nat):Bool:=!(j == 0) && ((gk l (j - 1)).kind == 2 && (gk l j).kind == 2)
def ziw (l:List Bk):Bool:=(List.range l.length).all fun j => !zmm l j
def zn2 (l:List Bk) (k:Nat):Prop:=∀ j,j<k→zmm l j=false
theorem zkh (l:List Bk):ziw l=true↔zn2 l l.length:=by
 unfold ziw zn2
 rw[List.all_eq_true]
 constructor
 · intro h j hj
   have:=h j (List.mem_range.2 hj)
   simpa using this
 · intro h j hj
   have:=h j (List.mem_range.1 hj)
   simpa using this
theorem zot (l:List Bk):zn2 l 0:=fun j h=>absurd h (by omega)
theorem zk6 {l:List Bk} {k:Nat} (h:zn2 l k) (h1:zmm l k=false):zn2 l (k+1):=fun j hj=>by
 rcases Nat.lt_or_ge j k with h2|h2
 · exact h j h2
 · have:j=k:=by omega
   subst this;exact h1
theorem zsd {l:List Bk} {k:Nat} (hk:k<l.length) (h:zmm l k=true):ziw l=false:=by
 cases hq:ziw l with
 | false=>rfl
 | true=>have:=(zkh l).1 hq k hk;rw[h] at this;cases this
def zyg (ws:List Nat):Bool:=match blocks ws 128 with | none=>false | some l=>ziw l
theorem zfz {ws:List Nat} {l:List Bk} (h:blocks ws 128=some l):zyg ws=ziw l:=by unfold zyg;rw[h]
theorem znn {ws:List Nat} (h:blocks ws 128=none):zyg ws=false:=by unfold zyg;rw[h]
set_option maxRecDepth 100000 in
set_option maxHeartbeats 4000000 in
theorem zDg (A:Option Addr) (ws:List Nat) (c n:Nat) (w:World) (hn:ws.length=n) (hs:zah (n:Int)=true) (hr:RdW w w.heap.size A ws) (ho:∀ x ∈ ws,x<18446744073709551616) :
  Calls Tryz.prog 153 #[.slice A n c] w fun e w'=>(∃ A k c,e=.returned (.tuple #[.slice A k c,.bool (zyg ws)])∧(zyg ws=true→∃ l,blocks ws 128=some l∧k=l.length∧k≤c∧RdB w' w'.heap.size A l))∧Below w.heap.size w w':=by
 subst hn
 have hb:=(zad _).1 hs
 have HC:=hid (zE8 A ws c ws.length 128 w rfl (by omega) (by omega) (by omega) (by omega) hr ho)
 unfold zFg zsk at HC
 have hlen:∀ l,blocks ws 128=some l→l.length≤1024:=fun l h=>by
  have:=(zbs (by omega) _ _ h (by omega) (by omega) (by omega)).1
  omega
 cases hl:blocks ws 128 with
 | none =>
  rw[hl] at HC
  simp only[Option.getD_none,Option.isSome_none,List.length_nil] at HC
  have HV:=hid (znn hl)
  clear hl hr ho hs hb hlen
  go_enter Tryz.func153,Tryz.ntmps153
  go_wp2_with fail
  refine HC.out.mono ?_
  rintro e w1 ⟨⟨A1,c1,rfl,-,-⟩,hB1⟩
  go_wp2_with fail
  go_loopw [5,6] (fun v i wr=>v=.bool false∧i=.int .i64 1∧wr=w1) (fun _ _ _=>0)
  case atStart=>exact ⟨rfl,rfl,rfl⟩
  case round =>
   obtain ⟨rfl,rfl,rfl⟩:=hrel
   go_wp2_with fail
   go_ret2
   exact ⟨⟨none,0,0,by rw[HV.out];rfl,fun h=>by rw[HV.out] at h;cases h⟩,hB1⟩
 | some l =>
  have hl24:=hlen l hl
  rw[hl] at HC
  simp only[Option.getD_some,Option.isSome_some] at HC
  have HV:=hid (zfz hl)
  clear hl hr ho hs hb hlen
  have HBD:=hid (fun k hk h=>zsd (l:=l) (k:=k) hk h)
  have HOK:=hid (zkh l)
  go_enter Tryz.func153,Tryz.ntmps153
  go_wp2_with fail
  refine HC.out.mono ?_
  rintro e w1 ⟨⟨A1,c1,rfl,hrd,hcl⟩,hB1⟩
  have HRD:=hid hrd
  have HB1:=hid hB1
  have HCL:=hid hcl
  clear hrd hB1 hcl
  go_wp2_with fail
  go_loopw [5,6] (fun v i wr=>∃ (k:Nat) (q:Bool),1≤k∧(k≤l.length∨k=1)∧v=.bool q∧i=.int .i64 k∧wr=w1∧Hid ((q=true→zn2 l k)∧(q=false→ziw l=false))) (fun _ i _=>l.length - (intOf i).toNat)
  case atStart =>
   refine ⟨1,true,Nat.le_refl _,.inr rfl,rfl,rfl,rfl,hid ⟨fun _=>zk6 (zot l) rfl,fun h=>by cases h⟩⟩
  case round =>
   obtain ⟨k,q,hk1,hk,rfl,rfl,rfl,HQ⟩:=hrel
   by_cases hlt:k<l.length
   · obtain ⟨b,off,rfl,hb,-,-,p2,-⟩:=RdB.at_ HRD.out hlt
     obtain ⟨b',off',e',-,-,-,r2,-⟩:=RdB.at_ HRD.out (show k - 1<l.length by omega)
     cases e'
     have HNX:=hid (fun h=>zk6 (HQ.out.1 h))
     have HBK:=hid (HBD.out k hlt)
     have hadj:zmm l k=((l[k - 1].kind == 2) && (l[k].kind == 2)):=by
       unfold zmm
       rw[zbt l k hlt,zbt l (k - 1) (by omega),show (k == 0)=false by rw[beq_eq_false_iff_ne];omega]
       rfl
     have HQ2:=hid HQ.out.2
     obtain ⟨x,hx⟩:∃ x,l[k].kind=x:=⟨_,rfl⟩
     obtain ⟨y,hy⟩:∃ y,l[k - 1].kind=y:=⟨_,rfl⟩
     rw[hx] at p2 hadj
     rw[hy] at r2 hadj
     have i1:IntKind.i64.wrap ((k:Int) - 1)=((k - 1:Nat):Int):=by rw[IntWalk.i64_in _ (by omega)];omega
     have hki:(k:Int)<(l.length:Int):=by omega
     have hk0:(0:Int)≤(k:Int):=by omega
     have hk1i:((k - 1:Nat):Int)<(l.length:Int):=by omega
     have hk10:(0:Int)≤((k - 1:Nat):Int):=by omega
     obtain ⟨m,hm⟩:∃ m,k - 1=m:=⟨_,rfl⟩
     rw[hm] at i1 hk1i hk10 r2
     have HA:=hid hadj
     clear hx hy HQ hm hadj
     by_cases hy2:y=2
     · subst hy2
       by_cases hx2:x=2
       · subst hx2
         have HF:=hid (HBK.out (by rw[HA.out];rfl))
         go_wp2_with fail
         go_roundw
         case rel=>exact ⟨k+1,false,by omega,by omega,rfl,by go_num,trivial,hid ⟨fun h=>(by cases h),fun _=>HF.out⟩⟩
         case measure=>simp[intOf];omega
       · have e1:(x == 2)=false:=by rw[beq_eq_false_iff_ne];exact hx2
         have HF:Hid (zmm l k=false):=hid (by rw[HA.out,e1];rfl)
         clear hx2
         go_wp2_with fail
         go_roundw
         case rel=>exact ⟨k+1,q,by omega,by omega,rfl,by go_num,trivial,hid ⟨fun h=>HNX.out h HF.out,HQ2.out⟩⟩
         case measure=>simp[intOf];omega
     · have e1:(y == 2)=false:=by rw[beq_eq_false_iff_ne];exact hy2
       have HF:Hid (zmm l k=false):=hid (by rw[HA.out,e1];rfl)
       clear hy2
       go_wp2_with fail
       go_roundw
       case rel=>exact ⟨k+1,q,by omega,by omega,rfl,by go_num,trivial,hid ⟨fun h=>HNX.out h HF.out,HQ2.out⟩⟩
       case measure=>simp[intOf];omega
   · have hend:decide ((k:Int)<(l.length:Int))=false:=by rw[decide_eq_false_iff_not];omega
     have hendn:decide (k<l.length)=false:=by rw[decide_eq_false_iff_not];exact hlt
     cases q with
     | true =>
       have HT:Hid (zyg ws=true):=hid (by
         rw[HV.out]
         refine HOK.out.2 fun j hj=>HQ.out.1 rfl j (by omega))
       clear HQ hk1 hk hlt
       go_wp2_with fail
       go_ret2
       exact ⟨⟨A1,l.length,c1,by rw[HT.out];rfl,fun _=>⟨l,rfl,rfl,HCL.out,HRD.out⟩⟩,HB1.out⟩
     | false =>
       have HT:Hid (zyg ws=false):=hid (by rw[HV.out];exact HQ.out.2 rfl)
       clear HQ hk1 hk hlt
       go_wp2_with fail
       go_ret2
       exact ⟨⟨none,0,0,by rw[HT.out];rfl,fun h=>by rw[HT.out] at h;cases h⟩,HB1.out⟩
end Go.Proofs.YtpcajamacpbjcaaGreat
namespace Go.Proofs.YtpcajamacpbjcaaGreat
open Lib (hid)
open Go.RowKit
def zBg (s:Sl):Int:=if znd s=true then 0 else 8
set_option maxRecDepth 100000 in
set_option maxHeartbeats 1000000 in
theorem zxr (g:Int) (u:Bool) (a:Int) (w:World) (h1:0≤g) (h2:g≤2147483647) :
   Calls Tryz.prog 262 #[.agg #[.int .i64 g,.bool u,.int .i64 a]] w fun e w'=>e=.returned (.int .i64 (zBg ⟨g,u,a⟩))∧Below w.heap.size w w':=by
 have hB:=(Below.refl w.heap.size w).alloc (Nat.le_refl _) (.cells #[.int .i64 g,.bool u,.int .i64 a] 52)
 have HB:=hid hB
 have d1:decide (0≤g)=true:=by rw[decide_eq_true_iff];omega
 have d2:decide (g≤2147483647)=true:=by rw[decide_eq_true_iff];omega
 clear hB
 cases u
 · have H:Hid (zBg ⟨g,false,a⟩=if (a == 0)=true then 0 else 8):=hid rfl
   obtain ⟨b,hb⟩:∃ b,(a == 0)=b:=⟨_,rfl⟩
   rw[hb] at H
   cases b
   all_goals
    go_enter Tryz.func262,Tryz.ntmps262
    go_wp2_with fail
    go_ret
    exact ⟨by rw[H.out];rfl,HB.out⟩
 · have H:Hid (zBg ⟨g,true,a⟩=if (decide (0<g) && (decide (128≤a) && decide (a<2048)))=true then 0 else 8):=hid rfl
   have e0:decide (1≤g)=decide (0<g):=by rw[decide_eq_decide];omega
   obtain ⟨b1,e1⟩:∃ b,decide (0<g)=b:=⟨_,rfl⟩
   obtain ⟨b2,e2⟩:∃ b,decide (128≤a)=b:=⟨_,rfl⟩
   obtain ⟨b3,e3⟩:∃ b,decide (a<2048)=b:=⟨_,rfl⟩
   rw[e1] at e0
   rw[e1,e2,e3] at H
   clear h1 h2 e1
   cases b1 <;> cases b2 <;> cases b3
   all_goals
    go_enter Tryz.func262,Tryz.ntmps262
    go_wp2_with fail
    go_ret
    exact ⟨by rw[H.out];rfl,HB.out⟩
set_option maxRecDepth 100000 in
set_option maxHeartbeats 2000000 in
theorem zyt (x:Nat) (w:World) (hx:x<18446744073709551616) :
   Calls Tryz.prog 212 #[.int .u64 (x:Int)] w fun e w'=>e=.returned (.tuple #[(slB x).val,.int .i64 (zw3 x)])∧Below w.heap.size w w':=by
 obtain ⟨r1,r2,r3,r4⟩:=ze8 x
 have HOK:=hid (fun h=>zyn (x:=x) h)
 have HNO:=hid (fun h=>zw7 (x:=x) h)
 have HV1:=hid (fun W=>zhy x 32 31 W hx (by omega))
 have HV2:=hid (fun W=>zhy x 63 1 W hx (by omega))
 have HV3:=hid (fun W=>zhy x 0 32 W hx (by omega))
 have e1:((zbq x 32 31:Nat):Int)=(zdj x).gen:=by unfold zbq zdj;rfl
 have e2:(((zbq x 63 1:Nat):Int) == 1)=(zdj x).used:=by
   have:zbq x 63 1=x / 9223372036854775808:=by unfold zbq;omega
   rw[this]
   show _=(x / 9223372036854775808 == 1)
   rw[Bool.eq_iff_iff,beq_iff_eq,beq_iff_eq];omega
 have e3:((zbq x 0 32:Nat):Int)=(zdj x).at_:=by unfold zbq zdj;simp
 rw[e1] at HV1
 rw[e3] at HV3
 obtain ⟨q,hq⟩:∃ q:Int,((zbq x 63 1:Nat):Int)=q:=⟨_,rfl⟩
 rw[hq] at HV2 e2
 have HC:=hid (fun W=>zxr (zdj x).gen (zdj x).used (zdj x).at_ W r1 r2)
 obtain ⟨s,hs⟩:∃ s,zdj x=s:=⟨_,rfl⟩
 rw[hs] at e2 r1 r2 r3 r4 HOK HNO HV1 HV3 HC
 obtain ⟨g,u,a⟩:=s
 dsimp only at e2 r1 r2 r3 r4 HV1 HV3 HC
 have w1:IntKind.i64.wrap g=g:=IntWalk.i64_in _ (by omega)
 have w2:IntKind.i64.wrap a=a:=IntWalk.i64_in _ (by omega)
 clear e1 e3 hq hs hx
 have x0:=Bx.new w 52 #[.int .i64 0,.bool false,.int .i64 0]
 have hB0:=(Below.refl w.heap.size w).alloc (Nat.le_refl _) (.cells #[.int .i64 0,.bool false,.int .i64 0] 52)
 have X1:=hid (x0.alloc (.cells #[.int .i64 g,.bool u,.int .i64 a] 52))
 have HB1:=hid (hB0.alloc (by simp) (.cells #[.int .i64 g,.bool u,.int .i64 a] 52))
 have x2:=Bx.new (w.alloc (.cells #[.int .i64 0,.bool false,.int .i64 0] 52)) 52 #[.int .i64 g,.bool u,.int .i64 a]
 rw[World.size_alloc] at x2
 have X2:=hid x2
 clear x0 hB0 x2
 cases hok:znd ⟨g,u,a⟩
 · have HV:=hid (HNO.out hok)
   unfold zBg at HC
   rw[hok] at HC
   clear hok HOK HNO
   go_enter Tryz.func212,Tryz.ntmps212
   go_wp2_with fail
   refine (HV1.out _).mono ?_
   rintro e w3 ⟨rfl,rfl⟩
   go_wp2_with fail
   refine (HV2.out _).mono ?_
   rintro e w3 ⟨rfl,rfl⟩
   go_wp2_with fail
   refine (HV3.out _).mono ?_
   rintro e w3 ⟨rfl,rfl⟩
   go_wp2_with fail
   refine (HC.out _).mono ?_
   rintro e w5 ⟨rfl,hB5⟩
   have x5:=X1.out.up hB5 X1.out.lt
   have HB5:=hid (HB1.out.trans (hB5.mono HB1.out.size))
   obtain ⟨p0,p1,p2,f0,f1,f2,hg⟩:=x5.c3
   have X5:=hid x5
   clear x5 hB5
   go_wp2_with fail
   exact bodyPost_ret (v:=.tuple #[.agg #[.int .i64 0,.bool false,.int .i64 0],.int .i64 50]) (zio Tryz.results212 _ (((X5.out.set_ 0 _).set_ 1 _).set_ 2 _) rfl rfl) rfl ⟨by rw[HV.out.1,HV.out.2];rfl,(((HB5.out.setCell (Nat.le_refl _) _).setCell (Nat.le_refl _) _).setCell (Nat.le_refl _) _)⟩
 · have HV:=hid (HOK.out hok)
   unfold zBg at HC
   rw[hok] at HC
   clear hok HOK HNO
   go_enter Tryz.func212,Tryz.ntmps212
   go_wp2_with fail
   refine (HV1.out _).mono ?_
   rintro e w3 ⟨rfl,rfl⟩
   go_wp2_with fail
   refine (HV2.out _).mono ?_
   rintro e w3 ⟨rfl,rfl⟩
   go_wp2_with fail
   refine (HV3.out _).mono ?_
   rintro e w3 ⟨rfl,rfl⟩
   go_wp2_with fail
   refine (HC.out _).mono ?_
   rintro e w5 ⟨rfl,hB5⟩
   have x5:=X1.out.up hB5 X1.out.lt
   have y5:=X2.out.up hB5 X2.out.lt
   have HB5:=hid (HB1.out.trans (hB5.mono HB1.out.size))
   obtain ⟨p0,p1,p2,f0,f1,f2,hg⟩:=x5.c3
   obtain ⟨q0,q1,q2,-,-,-,hg2⟩:=y5.c3
   have X5:=hid x5
   clear x5 y5 hB5
   go_wp2_with fail
   exact bodyPost_ret (v:=.tuple #[.agg #[.int .i64 g,.bool u,.int .i64 a],.int .i64 0]) (zio Tryz.results212 _ (((X5.out.set_ 0 _).set_ 1 _).set_ 2 _) rfl rfl) rfl ⟨by rw[HV.out.1,HV.out.2];rfl,(((HB5.out.setCell (Nat.le_refl _) _).setCell (Nat.le_refl _) _).setCell (Nat.le_refl _) _)⟩
theorem zGp:(Tryz.prog.info? 52).map (fun i=>(i.zero,i.size,i.bytes))=some (some (.agg #[.int .i64 0,.bool false,.int .i64 0]),3,24):=by kernel_rfl
def TlRes (ws:List Nat) (e:Ending) (w':World):Prop:=∃ A n c,e=.returned (.tuple #[.slice A n c,.bool (slsOk ws)])∧(slsOk ws=true→n=16∧n≤c∧RdS w' w'.heap.size A (slL ws))
set_option maxRecDepth 100000 in
set_option maxHeartbeats 4000000 in
theorem zC5 (A:Option Addr) (ws:List Nat) (c n:Nat) (w:World) (hn:ws.length=n) (h2:256≤n) (hm:n≤2048) (hr:RdW w w.heap.size A ws) (ho:∀ x ∈ ws,x<18446744073709551616) :
  Calls Tryz.prog 152 #[.slice A n c] w fun e w'=>TlRes ws e w'∧Below w.heap.size w w':=by
 subst hn
 have HR:=hid hr
 have HLT:Hid (∀ k,wd ws k<18446744073709551616):=hid (ze6 ho)
 clear hr ho
 obtain ⟨i2,hi,hz0,hz1,hz2⟩:=info_parts zGp
 have HJ:=hid hi
 have HJ0:=hid hz0
 have HJ1:=hid hz1
 have HJ2:=hid hz2
 clear hi hz0 hz1 hz2
 go_enter Tryz.func152,Tryz.ntmps152
 go_wp2_with fail
 go_loopw [4,5] (fun v i wr=>∃ k:Nat,k≤16∧i=.int .i64 k∧Hid (znx ws k)∧wr.ownsRow w.heap.size 52 3 v k (((slL ws).take k).flatMap Sl.cells)∧Below w.heap.size w wr) (fun _ i _=>16 - (intOf i).toNat)
 case atStart=>exact ⟨0,Nat.zero_le _,rfl,zo4 ws,World.ownsRow_nil _ _ _ _,Below.refl _ _⟩
 case round =>
  obtain ⟨k,hk,rfl,HOK,hown,hB⟩:=hrel
  have hz:=hB.size
  by_cases hlt:k<16
  · obtain ⟨b,off,rfl,hb,h0⟩:=RdW.at_ (Rd.below HR.out hB) (show 112+k<ws.length by omega)
    rw[←zcb] at h0
    have HSP:=hid (fun W=>zyt (wd ws (112+k)) W (HLT.out _))
    have HSU:=hid (fun h=>zoe HOK.out h)
    have HBD:=hid (fun h=>zrs (ws:=ws) hlt h)
    have hsa:zdj (wd ws (112+k))=slAt ws k:=rfl
    have hkl:k<(slL ws).length:=by rw[zcy];exact hlt
    have HFL:=hid (show ((slL ws).take (k+1)).flatMap Sl.cells=((slL ws).take k).flatMap Sl.cells++(slAt ws k).cells by
      rw[List.take_succ_eq_append_getElem hkl,zb6,zjh])
    have i1:(0:Int)≤112+(k:Int):=by omega
    have i2':(112:Int)+(k:Int)<(ws.length:Int):=by omega
    have n1:((112:Int)+(k:Int)).toNat=112+k:=by omega
    have hk1:(k:Int)<16:=by omega
    have hk0:(0:Int)≤(k:Int):=by omega
    obtain ⟨x,hx⟩:∃ x,wd ws (112+k)=x:=⟨_,rfl⟩
    rw[hx] at h0 HSP hsa
    cases hso:znd (slAt ws k)
    · have HV:=hid (HBD.out hso)
      rw[←hsa] at hso
      rw[(zw7 hso).1,(zw7 hso).2] at HSP
      unfold Sl.val at HSP
      dsimp only at HSP
      clear hx hso hsa HBD HSU hown
      go_wp2_with fail
      refine (HSP.out _).mono ?_
      rintro e w3 ⟨rfl,hB3⟩
      have hB4:=hB.trans (hB3.mono hz)
      have hz4:=hB4.size
      clear hB3
      go_wp2_with fail
      go_ret2
      exact ⟨⟨none,0,0,by rw[HV.out];rfl,fun h=>by rw[HV.out] at h;cases h⟩,hB4.alloc hz4 _⟩
    · have HSU2:=hid (HSU.out hso)
      rw[←hsa] at hso
      rw[(zyn hso).1,(zyn hso).2,hsa] at HSP
      obtain ⟨s,hs2⟩:∃ s,slAt ws k=s:=⟨_,rfl⟩
      rw[hs2] at HSP HFL
      obtain ⟨sg,su,sa⟩:=s
      unfold Sl.val at HSP
      dsimp only at HSP
      clear hx hso hsa hs2 HBD HSU
      go_wp2_with fail
      refine (HSP.out _).mono ?_
      rintro e w3 ⟨rfl,hB3⟩
      have hb3:=hB.trans (hB3.mono hz)
      have hz3:=hb3.size
      have hownw:=zak hown hB3 (Nat.le_refl _)
      clear hB3 hown
      go_wp2_with (at_builtin;refine wpList_append_own _ rfl _ _ 45 rfl w.heap.size 52 i2 _ 3 24 Tryz.underlying45 HJ.out HJ0.out HJ1.out HJ2.out rfl (by decide) _ _ _ rfl ((hownw.alloc _).alloc _) ⟨_,0,none⟩ 1 1 [.int .i64 sg,.bool su,.int .i64 sa] rfl rfl (zk4 _ _ _ (World.size_alloc _ _)) (by simp[Value.oneCell']) (by unfold maxLen;omega) (by omega) (by simp;omega) ?_;intro v1 w6 hown1 hg1 _;have hB6:=zaw (hb3.alloc hz3 (.cells #[.int .i64 sg,.bool su,.int .i64 sa] 52)) (by simp;omega) (hownw.alloc _) hg1)
      go_roundw
      case rel=>exact ⟨k+1,by omega,by go_num,HSU2.out,by rw[HFL.out];exact hown1,hB6⟩
      case measure=>simp[intOf];omega
  · obtain rfl:k=16:=by omega
    have hT:slsOk ws=true:=(zb9 ws).2 HOK.out
    have HT:=hid hT
    rw[List.take_of_length_le (by rw[zcy];exact Nat.le_refl _)] at hown
    obtain ⟨A1,c1,rfl⟩:=zbb hown
    have hc1:16≤c1:=by
      rcases hown.2 with ⟨h1,h2⟩|⟨g,cap,cur,h1,-,-,h2,-⟩
      · cases h2
      · simp only[Value.slice.injEq] at h1;omega
    have HRD:=hid (Rd.of_own hown)
    clear hT hown
    go_wp2_with fail
    go_ret2
    exact ⟨⟨A1,16,c1,by rw[HT.out];rfl,fun _=>⟨rfl,hc1,HRD.out⟩⟩,hB⟩
end Go.Proofs.YtpcajamacpbjcaaGreat
namespace Go.Proofs.YtpcajamacpbjcaaGreat
open Lib (hid)
open Go.RowKit
def zs0 (v:Nat):Bool:=v == 9221120237041090561 || decide (v % 9223372036854775808≤9218868437227405312)
def za1 (l:List Bk):List Bk:=l.filter fun b=>b.kind == 1
def zlx (O:List Bk) (v:Nat):Bool:=O.any fun b=>b.at_ == (v:Int)
def wrF (ws F:List Nat) (O:List Bk) (m r i:Nat):Bool:=if r=10 then F[i]? == some 2 && !zs0 (wd ws (m+2+i)) else F[i]? == some 3 && (decide (0<wd ws (m+2+i)) && !zlx O (wd ws (m+2+i)))
def wrB (ws:List Nat) (T:List (List Nat)) (O:List Bk) (m z ty:Nat) (mk:Bool) (nx r:Nat):Bool:=
 if r=7 then mk || decide (0<nx)
 else if r=8 then !decide (ty<T.length) || za8 (T[ty]?.getD []).length != z
 else if r=9 then decide ((T[ty]?.getD []).length+2<z) && wd ws (m+2+(T[ty]?.getD []).length) != 0
 else (List.range (T[ty]?.getD []).length).any fun i=>wrF ws (T[ty]?.getD []) O m r i
def wrK (ws:List Nat) (T:List (List Nat)) (O:List Bk) (r:Nat) (b:Bk):Bool:=wrB ws T O b.at_.toNat b.size.toNat b.typ.toNat b.mark b.next r
def zev (ws:List Nat) (a:Nat):Bool:=(List.range 8).all fun i=>wd ws (a+i) == 0
def zor (ws:List Nat) (a k:Nat):Prop:=∀ i,i<k→wd ws (a+i)=0
theorem zhu (ws:List Nat) (a:Nat):zev ws a=true↔zor ws a 8:=by
 unfold zev zor
 rw[List.all_eq_true]
 constructor
 · intro h i hi;have:=h i (List.mem_range.2 hi);simpa using this
 · intro h i hi;have:=h i (List.mem_range.1 hi);simpa using this
def zih (O:List Bk) (s:Sl):Bool:=!s.used || zlx O s.at_.toNat
def lay (ws:List Nat):Bool:=match tyN ws,blocks ws 128 with
 | some t,some l=>zev ws 16 && (zev ws 24 && (zgg ws t && (slsOk ws && (ziw l && ((List.range 5).all (fun r=>(za1 l).all fun b => !wrK ws (zfl ws t 8) (za1 l) (7+r) b) && (slL ws).all (zih (za1 l)))))))
 | _,_=>false
def zcz (ws:List Nat):Int:=if zah (ws.length:Int)=true then (if lay ws=true then 0 else 50) else 8
theorem zIt {v:Nat} (h:v≠9221120237041090561):zs0 v=decide (v % 9223372036854775808≤9218868437227405312):=by
 unfold zs0
 rw[show (v == 9221120237041090561)=false by rw[beq_eq_false_iff_ne];exact h]
 rfl
theorem zri {l:List Bk} {k:Nat} (hk:k<l.length):za1 (l.take (k+1))=za1 (l.take k)++(if l[k].kind=1 then [l[k]] else []):=by
 unfold za1
 rw[List.take_succ_eq_append_getElem hk,List.filter_append]
 congr 1
 by_cases h:l[k].kind=1
 · rw[if_pos h];simp[h]
 · rw[if_neg h];simp[h]
theorem zI0 {O:List Bk} {k v:Nat} (hk:k<O.length) (h:O[k].at_=(v:Int)):zlx O v=true:=by
 unfold zlx
 rw[List.any_eq_true]
 exact ⟨_,List.getElem_mem hk,by rw[beq_iff_eq];exact h⟩
theorem zI3 {O:List Bk} {v:Nat} (h:∀ k (hk:k<O.length),O[k].at_≠(v:Int)):zlx O v=false:=by
 unfold zlx
 rw[List.any_eq_false]
 intro b hb
 obtain ⟨k,hk,rfl⟩:=List.getElem_of_mem hb
 rw[beq_iff_eq]
 exact h k hk
end Go.Proofs.YtpcajamacpbjcaaGreat
namespace Go.Proofs.YtpcajamacpbjcaaGreat
open Lib (hid)
open Go.RowKit
section
set_option maxRecDepth 100000
set_option maxHeartbeats 1000000
theorem zwu (v:Nat) (w:World):Calls Tryz.prog 215 #[.int .u64 (v:Int)] w fun e w'=>e=.returned (.bool (zs0 v))∧w=w':=by
 have h0:(0:Int)≤(v:Int):=by omega
 by_cases h:v=9221120237041090561
 · subst h
   go_enter Tryz.func215,Tryz.ntmps215
   go_wp2_with fail
   go_ret
   exact ⟨rfl,rfl⟩
 · have HV:=hid (zIt h)
   have e1:((v:Int) == 9221120237041090561)=false:=by rw[beq_eq_false_iff_ne];omega
   have e2:decide ((v:Int) % 9223372036854775808≤9218868437227405312)=decide (v % 9223372036854775808≤9218868437227405312):=by rw[decide_eq_decide];omega
   obtain ⟨q,hq⟩:∃ q,decide (v % 9223372036854775808≤9218868437227405312)=q:=⟨_,rfl⟩
   rw[hq] at HV e2
   clear h hq
   go_enter Tryz.func215,Tryz.ntmps215
   go_wp2_with fail
   go_ret
   exact ⟨by rw[HV.out];rfl,rfl⟩
theorem zwy (n:Nat) (w:World) (hn:n≤1000000):Calls Tryz.prog 214 #[.int .i64 (n:Int)] w fun e w'=>e=.returned (.int .i64 ((za8 n:Nat):Int))∧w=w':=by
 by_cases h:n % 2=1
 · have e1:((n:Int) % 2 == 1)=true:=by rw[beq_iff_eq];omega
   have HV:=hid (show ((za8 n:Nat):Int)=(n:Int)+1+2 by unfold za8;omega)
   have w1:IntKind.i64.wrap ((n:Int)+1)=(n:Int)+1:=IntWalk.i64_in _ (by omega)
   have w2:IntKind.i64.wrap ((n:Int)+1+2)=(n:Int)+1+2:=IntWalk.i64_in _ (by omega)
   clear h
   go_enter Tryz.func214,Tryz.ntmps214
   go_wp2_with fail
   go_ret
   exact ⟨by rw[HV.out];go_num,rfl⟩
 · have e1:((n:Int) % 2 == 1)=false:=by rw[beq_eq_false_iff_ne];omega
   have HV:=hid (show ((za8 n:Nat):Int)=(n:Int)+2 by unfold za8;omega)
   have w2:IntKind.i64.wrap ((n:Int)+2)=(n:Int)+2:=IntWalk.i64_in _ (by omega)
   clear h
   go_enter Tryz.func214,Tryz.ntmps214
   go_wp2_with fail
   go_ret
   exact ⟨by rw[HV.out];go_num,rfl⟩
end
section
set_option maxRecDepth 100000
set_option maxHeartbeats 2000000
theorem zwj (A:Option Addr) (ws:List Nat) (c n a:Nat) (w:World) (hn:ws.length=n) (ha:a+8≤n) (hm:n≤2048) (hr:RdW w w.heap.size A ws) :
  Calls Tryz.prog 150 #[.slice A n c,.int .i64 (a:Int)] w fun e w'=>e=.returned (.bool (zev ws a))∧w=w':=by
 subst hn
 have HR:=hid hr
 have HT:=hid (zhu ws a)
 go_enter Tryz.func150,Tryz.ntmps150
 go_wp2_with fail
 go_loop [5] (fun i=>∃ k:Nat,k≤8∧i=.int .i64 k∧Hid (zor ws a k)) (fun i=>8 - (intOf i).toNat)
 case atStart=>exact ⟨0,Nat.zero_le _,rfl,hid fun i h=>absurd h (by omega)⟩
 case round =>
  obtain ⟨k,hk,rfl,HZ⟩:=hrel
  by_cases hlt:k<8
  · obtain ⟨b,off,rfl,hb,h0⟩:=RdW.at_ HR.out (show a+k<ws.length by omega)
    rw[←zcb] at h0
    have HN:Hid (wd ws (a+k)=0→zor ws a (k+1)):=hid fun h i hi=>by
      rcases Nat.lt_or_ge i k with h2|h2
      · exact HZ.out i h2
      · have:i=k:=by omega
        subst this;exact h
    have HB:Hid (wd ws (a+k)≠0→zev ws a=false):=hid fun h=>by
      cases hq:zev ws a with
      | false=>rfl
      | true=>exact absurd (HT.out.1 hq k hlt) h
    have i1:IntKind.i64.wrap ((a:Int)+(k:Int))=((a+k:Nat):Int):=by rw[IntWalk.i64_in _ (by omega)];omega
    have j1:((a+k:Nat):Int)<(ws.length:Int):=by omega
    have j2:(0:Int)≤((a+k:Nat):Int):=by omega
    obtain ⟨p,hp⟩:∃ p,a+k=p:=⟨_,rfl⟩
    rw[hp] at h0 HN HB i1 j1 j2
    obtain ⟨x,hx⟩:∃ x,wd ws p=x:=⟨_,rfl⟩
    rw[hx] at h0 HN HB
    clear hp hx
    by_cases hx0:x=0
    · have HN2:=hid (HN.out hx0)
      subst hx0
      go_wp2_with fail
      go_round
      case rel=>exact ⟨k+1,by omega,by go_num,HN2⟩
      case measure=>simp[intOf];omega
    · have HV:=hid (HB.out hx0)
      have e1:((x:Int) != 0)=true:=by rw[bne_iff_ne];omega
      have e1n:(x != 0)=true:=by rw[bne_iff_ne];exact hx0
      clear hx0
      go_wp2_with fail
      go_ret
      exact ⟨by rw[HV.out];rfl,rfl⟩
  · have HV:Hid (zev ws a=true):=hid (HT.out.2 fun i hi=>HZ.out i (by omega))
    obtain rfl:k=8:=by omega
    go_wp2_with fail
    go_ret
    exact ⟨by rw[HV.out];rfl,rfl⟩
theorem zoi (A:Option Addr) (O:List Bk) (c n v:Nat) (w:World) (hn:O.length=n) (hm:n≤1000000) (hr:RdB w w.heap.size A O) (ho:∀ b ∈ O,0≤b.at_∧b.at_≤1000000) :
  Calls Tryz.prog 156 #[.slice A n c,.int .u64 (v:Int)] w fun e w'=>(∃ r:Int,e=.returned (.int .i64 r)∧decide (r<0) = !zlx O v)∧w=w':=by
 subst hn
 have HR:=hid hr
 have HO:=hid ho
 clear hr ho
 go_enter Tryz.func156,Tryz.ntmps156
 go_wp2_with fail
 go_loop [5] (fun i=>∃ k:Nat,k≤O.length∧i=.int .i64 k∧Hid (∀ j (hj:j<O.length),j<k→O[j].at_≠(v:Int))) (fun i=>O.length - (intOf i).toNat)
 case atStart=>exact ⟨0,Nat.zero_le _,rfl,hid fun j hj h=>absurd h (by omega)⟩
 case round =>
  obtain ⟨k,hk,rfl,HZ⟩:=hrel
  by_cases hlt:k<O.length
  · obtain ⟨b,off,rfl,hb,h0,-⟩:=RdB.at_ HR.out hlt
    obtain ⟨o1,o2⟩:=HO.out _ (List.getElem_mem hlt)
    have HN:Hid (O[k].at_≠(v:Int)→∀ j (hj:j<O.length),j<k+1→O[j].at_≠(v:Int)):=hid fun h j hj h2=>by
      rcases Nat.lt_or_ge j k with h3|h3
      · exact HZ.out j hj h3
      · have:j=k:=by omega
        subst this;exact h
    have HY:=hid (fun h=>zI0 (v:=v) hlt h)
    obtain ⟨x,hx⟩:∃ x,O[k].at_=x:=⟨_,rfl⟩
    rw[hx] at h0 HN HY o1 o2
    have i1:IntKind.u64.wrap x=x:=IntWalk.u64_in _ (by omega)
    have hki:(k:Int)<(O.length:Int):=by omega
    have hk0:(0:Int)≤(k:Int):=by omega
    clear hx
    by_cases hxv:x=(v:Int)
    · have HV:=hid (HY.out hxv)
      have e1:(x == (v:Int))=true:=by rw[beq_iff_eq];exact hxv
      clear hxv HN
      go_wp2_with fail
      go_ret
      exact ⟨⟨k,rfl,by rw[HV.out];rw[decide_eq_false];rfl;omega⟩,rfl⟩
    · have HN2:=hid (HN.out hxv)
      have e1:(x == (v:Int))=false:=by rw[beq_eq_false_iff_ne];exact hxv
      clear hxv HN
      go_wp2_with fail
      go_round
      case rel=>exact ⟨k+1,by omega,by go_num,HN2⟩
      case measure=>simp[intOf];omega
  · have HV:Hid (zlx O v=false):=hid (zI3 fun j hj=>HZ.out j hj (by omega))
    obtain rfl:k=O.length:=by omega
    go_wp2_with fail
    go_ret
    exact ⟨⟨-1,rfl,by rw[HV.out];rfl⟩,rfl⟩
end
set_option maxRecDepth 100000 in
set_option maxHeartbeats 4000000 in
theorem zrz (A:Option Addr) (l:List Bk) (c n:Nat) (w:World) (hn:l.length=n) (hm:n≤1000000) (hr:RdB w w.heap.size A l) :
  Calls Tryz.prog 154 #[.slice A n c] w fun e w'=>(∃ A k c,e=.returned (.slice A k c)∧k=(za1 l).length∧k≤c∧RdB w' w'.heap.size A (za1 l))∧Below w.heap.size w w':=by
 subst hn
 have HR:=hid hr
 clear hr
 obtain ⟨i2,hi,hz0,hz1,hz2⟩:=info_parts zjr
 have HJ:=hid hi
 have HJ0:=hid hz0
 have HJ1:=hid hz1
 have HJ2:=hid hz2
 clear hi hz0 hz1 hz2
 go_enter Tryz.func154,Tryz.ntmps154
 go_wp2_with fail
 go_loopw [3,4] (fun v i wr=>∃ k:Nat,k≤l.length∧i=.int .i64 k∧wr.ownsRow w.heap.size 55 6 v (za1 (l.take k)).length ((za1 (l.take k)).flatMap Bk.cells)∧Below w.heap.size w wr) (fun _ i _=>l.length - (intOf i).toNat)
 case atStart=>exact ⟨0,Nat.zero_le _,rfl,World.ownsRow_nil _ _ _ _,Below.refl _ _⟩
 case round =>
  obtain ⟨k,hk,rfl,hown,hB⟩:=hrel
  have hz:=hB.size
  by_cases hlt:k<l.length
  · obtain ⟨b,off,rfl,hb,p0,p1,p2,p3,p4,p5⟩:=RdB.at_ (Rd.below HR.out hB) hlt
    have HTK:=hid (zri hlt)
    have hlen:(za1 (l.take k)).length≤k:=by
      unfold za1
      have:=List.length_filter_le (fun b:Bk=>b.kind == 1) (l.take k)
      rw[List.length_take] at this
      omega
    obtain ⟨x,hx⟩:∃ x,l[k]=x:=⟨_,rfl⟩
    rw[hx] at p0 p1 p2 p3 p4 p5 HTK
    obtain ⟨xa,xs,xk,xt,xm,xn⟩:=x
    dsimp only at p0 p1 p2 p3 p4 p5 HTK
    obtain ⟨L,hL⟩:∃ L,za1 (l.take k)=L:=⟨_,rfl⟩
    rw[hL] at hown HTK hlen
    have hki:(k:Int)<(l.length:Int):=by omega
    have hk0:(0:Int)≤(k:Int):=by omega
    clear hx hL
    by_cases hk1:xk=1
    · have HTN:Hid (za1 (l.take (k+1))=L++[⟨xa,xs,xk,xt,xm,xn⟩]):=hid (by rw[HTK.out,if_pos hk1])
      subst hk1
      clear HTK
      go_wp2_with (at_builtin;refine wpList_append_own _ rfl _ _ 48 rfl w.heap.size 55 i2 _ 6 48 Tryz.underlying48 HJ.out HJ0.out HJ1.out HJ2.out rfl (by decide) _ _ _ rfl (hown.alloc _) ⟨_,0,none⟩ 1 1 [.int .i64 xa,.int .i64 xs,.int .i64 1,.int .i64 xt,.bool xm,.int .u64 (xn:Int)] rfl rfl (zcl _ _ _) (by simp[Value.oneCell']) (by unfold maxLen;omega) (by omega) (zcq hz) ?_;intro v1 w6 hown1 hg1 _;have HB6:=hid (zaw hB hz hown hg1);have HN6:=hid hown1;clear hown1 hg1)
      go_roundw
      case rel=>exact ⟨k+1,by omega,by go_num,by rw[HTN.out,zb6,List.length_append];exact HN6.out,HB6.out⟩
      case measure=>simp[intOf];omega
    · have HTN:Hid (za1 (l.take (k+1))=L):=hid (by rw[HTK.out,if_neg hk1,List.append_nil])
      have e1:(xk == 1)=false:=by rw[beq_eq_false_iff_ne];exact hk1
      clear HTK hk1
      go_wp2_with fail
      go_roundw
      case rel=>exact ⟨k+1,by omega,by go_num,by rw[HTN.out];exact hown,hB⟩
      case measure=>simp[intOf];omega
  · obtain rfl:k=l.length:=by omega
    rw[List.take_length] at hown
    obtain ⟨A1,c1,rfl⟩:=zbb hown
    have HC1:=hid (show (za1 l).length≤c1 by
      rcases hown.2 with ⟨h1,h2⟩|⟨g,cap,cur,h1,-,-,h2,-⟩
      · simp only[Value.slice.injEq] at h1;omega
      · simp only[Value.slice.injEq] at h1;omega)
    have HRD:=hid (Rd.of_own hown)
    clear hown
    go_wp2_with fail
    go_ret
    exact ⟨⟨A1,_,c1,rfl,rfl,HC1.out,HRD.out⟩,hB⟩
end Go.Proofs.YtpcajamacpbjcaaGreat
namespace Go.Proofs.YtpcajamacpbjcaaGreat
open Lib (hid)
open Go.RowKit
def zm7:Op→Bool
 | .move _ | .assign _ | .pick _ _ _ | .load _ _ | .build _ _ | .binOp _ _ _ _ _ | .unOp _ _ _ | .convert _ _ _ | .slice _ _ _ _ _ | .fieldAddr _ _ _ | .field _ _ _ | .indexAddr _ _ _ | .index _ _ _ | .extract _ _=>true
 | _=>false
structure SW (S:World→Prop) where
 w:World
 ok:S w
theorem cls_of {S:World→Prop} {w:World} (h:S w):∃ g:SW S,w=g.w:=⟨⟨w,h⟩,rfl⟩
theorem zch {P:Program} {α:Type} (f:α→Value) (s:Sem α):∀ w,(∃ u w',(s.bind fun x=>Sem.pure (Next.value (f x))).run P w=.ok (.value u) w')∨∃ h w',(s.bind fun x=>Sem.pure (Next.value (f x))).run P w=.halt h w':=by
 induction s with
 | pure a=>intro w;exact .inl ⟨f a,w,rfl⟩
 | load m a k ih =>
  intro w
  simp only[Sem.bind,Sem.run]
  split
  · exact ih _ w
  · split
    · exact ih _ w
    · exact .inr ⟨_,_,rfl⟩
 | store m a v k ih =>
  intro w
  cases v <;> simp only[Sem.bind,Sem.run] <;> first
    | exact .inr ⟨_,_,rfl⟩
    | (
       split
       · split
         · exact .inr ⟨_,_,rfl⟩
         · exact ih _
       · split
         · exact ih _
         · exact .inr ⟨_,_,rfl⟩)
 | new o k ih=>intro w;exact ih _ _
 | shape r k ih=>intro w;exact ih _ _
 | freeze a n k ih=>intro w;exact ih _
 | frozen a k ih=>intro w;exact ih _ _
 | getObj r k ih =>
  intro w
  simp only[Sem.bind,Sem.run]
  split
  · exact .inr ⟨_,_,rfl⟩
  · exact ih _ w
  · exact .inr ⟨_,_,rfl⟩
 | setObj r o k ih =>
  intro w
  simp only[Sem.bind,Sem.run]
  split
  · exact .inr ⟨_,_,rfl⟩
  · exact ih _
  · exact .inr ⟨_,_,rfl⟩
 | choose q k ih =>
  intro w
  simp only[Sem.bind,Sem.run]
  split
  · exact ih _ _
  · exact ih _ _
 | sys c k ih=>intro w;exact ih _ _
 | program k ih=>intro w;exact ih _ _
 | mark m k ih=>intro w;exact ih _
 | halt h=>intro w;exact .inr ⟨h,w,rfl⟩
theorem zw0 {P:Program} {ρ:Operand→Value} {o:Oper} (h:zm7 o.op=true) (w:World):(∃ u w',(execOp ρ o).run P w=.ok (.value u) w')∨∃ h w',(execOp ρ o).run P w=.halt h w':=by
 unfold execOp
 unfold zm7 at h
 split at h
 · rename_i x e;rw[e];exact .inl ⟨_,w,rfl⟩
 · rename_i x e;rw[e];exact .inl ⟨_,w,rfl⟩
 · rename_i c a b e;rw[e];exact zch _ _ w
 · rename_i e;rw[e];exact zch id _ w
 · rename_i e;rw[e];exact zch id _ w
 · rename_i e;rw[e];exact zch id _ w
 · rename_i e;rw[e];exact zch id _ w
 · rename_i e;rw[e];exact zch id _ w
 · rename_i e;rw[e];exact zch id _ w
 · rename_i e;rw[e];exact zch id _ w
 · rename_i e;rw[e];exact zch id _ w
 · rename_i e;rw[e];exact zch id _ w
 · rename_i e;rw[e];exact zch id _ w
 · rename_i e;rw[e];exact zch id _ w
 · cases h
theorem zsx {P:Program} {C:World→Prop} {a:Act} {o:Oper} {v:Value} {w:World} (h:zm7 o.op=true) (hq:o.quietAt P a C w v):(execOp a.eval o).run P w=.ok (.value v) w:=by
 unfold Oper.quietAt at hq
 rcases zw0 (P:=P) (ρ:=a.eval) h w with ⟨u,w',e⟩|⟨h',w',e⟩
 · rw[e] at hq ⊢
   obtain ⟨rfl,rfl⟩:=hq
   rfl
 · rw[e] at hq
   exact False.elim hq
inductive It where
 | one (o:Oper) (tk:Bool) (gd:Option (Option Tmp × Bool))
 | two (o1 o2:Oper) (gd:Option (Option Tmp × Bool))
def gOk (gd:Option (Option Tmp × Bool)) (tmps:Array Value):Bool:=match gd with
 | none=>true
 | some (d,b)=>(match d.bind (tmps[·]?) with
  | some (.bool x)=>some x
  | _=>none) == some b
def zua (ops:Array Oper) (o:Oper):Option (Option Tmp × Bool):=match o.guard with
 | none=>none
 | some (g,b)=>some ((ops.toList[g]?).bind (·.dst),b)
theorem zej (ops:Array Oper) (o:Oper) (tmps:Array Value):Region.wanted o (yielded ops tmps)=gOk (zua ops o) tmps:=by
 unfold Region.wanted zua gOk
 split
 · rename_i h;rw[h]
 · rename_i j b h;rw[h];simp only[Array.getElem?_toList];rfl
def zEr (ops:Array Oper):List (Nat × Nat × Nat)→List It
 | []=>[]
 | (k,i,j) :: r=>match ops.toList[i]? with
  | none=>[]
  | some o=>match k with
   | 0=>.one o true (zua ops o) :: zEr ops r
   | 2=>(match ops.toList[j]? with
    | none=>[]
    | some o2=>.two o o2 (zua ops o) :: zEr ops r)
   | _=>.one o false (zua ops o) :: zEr ops r
def zlg:List (Nat × Nat × Nat)→Nat
 | []=>0
 | (k,_,_) :: r=>(if k=2 then 2 else 1)+zlg r
def zk8 (md:Region.Mode) (ops:Array Oper):List (Nat × Nat × Nat)→Array Bool→Bool
 | [],listed=>(Region.ready md ops listed).isEmpty
 | (k,i,j) :: r,listed=>if k=2 then
   (match ops[i]?,ops[j]? with
    | some o1,some o2=>zua ops o1 == zua ops o2
    | _,_=>false) && (Region.ready md ops listed == [i,j] && (Region.ready md ops (listed.setIfInBounds i true) == [j] && (Region.ready md ops (listed.setIfInBounds j true) == [i] && (i != j && zk8 md ops r ((listed.setIfInBounds i true).setIfInBounds j true)))))
  else (ops[i]?).any (fun o=>if k=0 then zm7 o.op && (Region.free md ops listed i && (Region.ready md ops listed).contains i) else Region.ready md ops listed == [i]) && zk8 md ops r (listed.setIfInBounds i true)
def zmk (md:Region.Mode) (ops:Array Oper):List (Nat × Nat × Nat)→Array Bool→Bool
 | [],_=>true
 | (k,i,j) :: r,listed=>if k=2 then
   (match ops[i]?,ops[j]? with
    | some o1,some o2=>zua ops o1 == zua ops o2
    | _,_=>false) && (Region.ready md ops listed == [i,j] && (Region.ready md ops (listed.setIfInBounds i true) == [j] && (Region.ready md ops (listed.setIfInBounds j true) == [i] && (i != j && zmk md ops r ((listed.setIfInBounds i true).setIfInBounds j true)))))
  else (ops[i]?).any (fun o=>if k=0 then zm7 o.op && (Region.free md ops listed i && (Region.ready md ops listed).contains i) else Region.ready md ops listed == [i]) && zmk md ops r (listed.setIfInBounds i true)
def zki:List (Nat × Nat × Nat)→Array Bool→Array Bool
 | [],listed=>listed
 | (k,i,j) :: r,listed=>zki r (if k=2 then (listed.setIfInBounds i true).setIfInBounds j true else listed.setIfInBounds i true)
theorem zmq {md:Region.Mode} {ops:Array Oper} {l2:List (Nat × Nat × Nat)}:∀ (l1:List (Nat × Nat × Nat)) {listed:Array Bool},zmk md ops l1 listed=true→zk8 md ops l2 (zki l1 listed)=true→zk8 md ops (l1++l2) listed=true:=by
 intro l1
 induction l1 with
 | nil=>intro listed _ h;exact h
 | cons x l1 ih =>
  intro listed h1 h2
  obtain ⟨k,i,j⟩:=x
  by_cases hk:k=2
  · subst hk
    simp only[zmk,if_true,Bool.and_eq_true] at h1
    simp only[zki,if_true] at h2
    obtain ⟨a1,a2,a3,a4,a5,a6⟩:=h1
    rw[List.cons_append]
    simp only[zk8,if_true,Bool.and_eq_true]
    exact ⟨a1,a2,a3,a4,a5,ih a6 h2⟩
  · simp only[zmk,hk,if_false,Bool.and_eq_true] at h1
    simp only[zki,hk,if_false] at h2
    rw[List.cons_append]
    simp only[zk8,hk,if_false,Bool.and_eq_true]
    exact ⟨h1.1,ih h1.2 h2⟩
def zgh (P:Program) (Q:Exit→Act→World→Prop) (S:World→Prop):List It→Act→World→Prop
 | [],a,w=>Q .normal a w
 | .one o t g :: r,a,w=>if gOk g a.tmps=true then (if t=true then o.quiet P a (fun X=>∃ g:SW S,X=g.w) (fun a'=>zgh P Q S r a' w) else o.wp P a w (fun a' w'=>S w'∧zgh P Q S r a' w') Q) else zgh P Q S r (a.put o.dst undef) w
 | .two o1 o2 g :: r,a,w=>if gOk g a.tmps=true then
  (
   o1.wp P a w (fun a1 w1=>S w1∧gOk g a1.tmps=true∧o2.wp P a1 w1 (fun a2 w2=>S w2∧zgh P Q S r a2 w2) Q) Q ∧
   o2.wp P a w (fun a1 w1=>S w1∧gOk g a1.tmps=true∧o1.wp P a1 w1 (fun a2 w2=>S w2∧zgh P Q S r a2 w2) Q) Q) else False
section
variable {P:Program} {Q:Exit→Act→World→Prop} {S:World→Prop} {r:List It} {a:Act} {w:World} {o o1 o2:Oper} {g:Option (Option Tmp × Bool)}
theorem zGs (hg:gOk g a.tmps=true) (h:∀ K:Act→Prop,(∀ a',zgh P Q S r a' w→K a')→o.quiet P a (fun X=>∃ g:SW S,X=g.w) K):zgh P Q S (.one o true g :: r) a w:=by
 unfold zgh
 rw[if_pos hg,if_pos rfl]
 exact h _ fun _ h=>h
theorem seq_do (hg:gOk g a.tmps=true) (h:∀ K:Act→World→Prop,(∀ a' w',S w'→zgh P Q S r a' w'→K a' w')→o.wp P a w K Q):zgh P Q S (.one o false g :: r) a w:=by
 unfold zgh
 rw[if_pos hg,if_neg (by decide)]
 exact h _ fun _ _ h1 h2=>⟨h1,h2⟩
theorem zGg {t:Bool} (hg:gOk g a.tmps=false) (h:zgh P Q S r (a.put o.dst undef) w):zgh P Q S (.one o t g :: r) a w:=by
 unfold zgh
 rw[if_neg (by rw[hg];decide)]
 exact h
theorem zzs {ops:Array Oper} (hs:Region.noSelect ops=true) (hQ:∀ c a d v w,Q (.panic c) (a.put d v) w→Q (.panic c) a w):∀ (l:List (Nat × Nat × Nat)) (fuel:Nat) (listed:Array Bool) (a:Act) (w:World),zlg l≤fuel→zk8 .any ops l listed=true→S w→zgh P Q S (zEr ops l) a w→wpAnyH P .any ops Q S fuel listed a w:=by
 intro l
 induction l with
 | nil =>
  intro fuel listed a w _ hok _ h
  exact wpAnyH_done (List.isEmpty_iff.1 hok) h fuel
 | cons x l ih =>
  intro fuel listed a w hf hok hS h
  obtain ⟨k,i,j⟩:=x
  by_cases hk:k=2
  · subst hk
    simp only[zlg,if_true] at hf
    obtain ⟨fuel,rfl⟩:∃ f,fuel=f+1+1:=⟨fuel - 2,by omega⟩
    have hl:zlg l≤fuel:=by omega
    simp only[zk8,if_true,Bool.and_eq_true] at hok
    obtain ⟨h1,h2,h3,h4,h5,h6⟩:=hok
    cases ho1:ops[i]? with
    | none=>rw[ho1] at h1;cases h1
    | some o1 =>
     cases ho2:ops[j]? with
     | none=>rw[ho1,ho2] at h1;cases h1
     | some o2 =>
       rw[ho1,ho2] at h1
       have hge:zua ops o1=zua ops o2:=by simpa using h1
       simp only[zEr,Array.getElem?_toList,ho1,ho2] at h
       unfold zgh at h
       cases hg:gOk (zua ops o1) a.tmps with
       | false=>rw[if_neg (by rw[hg];decide)] at h;exact h.elim
       | true =>
        rw[if_pos hg] at h
        refine wpAnyH_all (rs:=[i,j]) (by simpa using h2) (by simp) fun q hq => ?_
        have hne:i≠j:=by simpa using h5
        rcases List.mem_cons.1 hq with rfl|hq
        · unfold wpOp
          simp only[ho1]
          rw[zej,hg,if_pos rfl]
          refine .inl (Oper.wp_mono (fun a1 w1 hh=>⟨hh.1,?_⟩) h.1)
          refine wpAnyH_all (rs:=[j]) (by simpa using h3) (by simp) fun q2 hq2 => ?_
          rw[List.mem_singleton] at hq2
          subst hq2
          unfold wpOp
          simp only[ho2]
          rw[zej,←hge,hh.2.1,if_pos rfl]
          exact .inl (Oper.wp_mono (fun a2 w2 h9=>⟨h9.1,ih fuel _ _ _ hl h6 h9.1 h9.2⟩) hh.2.2)
        · rw[List.mem_singleton] at hq
          subst hq
          unfold wpOp
          simp only[ho2]
          rw[zej,←hge,hg,if_pos rfl]
          refine .inl (Oper.wp_mono (fun a1 w1 hh=>⟨hh.1,?_⟩) h.2)
          refine wpAnyH_all (rs:=[i]) (by simpa using h4) (by simp) fun q2 hq2 => ?_
          rw[List.mem_singleton] at hq2
          subst hq2
          unfold wpOp
          simp only[ho1]
          rw[zej,hh.2.1,if_pos rfl]
          refine .inl (Oper.wp_mono (fun a2 w2 h9=>⟨h9.1,?_⟩) hh.2.2)
          rw[Array.setIfInBounds_comm _ _ (Ne.symm hne)]
          exact ih fuel _ _ _ hl h6 h9.1 h9.2
  · simp only[zlg,hk,if_false] at hf
    obtain ⟨fuel,rfl⟩:∃ f,fuel=f+1:=⟨fuel - 1,by omega⟩
    have hl:zlg l≤fuel:=by omega
    simp only[zk8,hk,if_false,Bool.and_eq_true] at hok
    obtain ⟨h1,h2⟩:=hok
    cases ho:ops[i]? with
    | none=>rw[ho] at h1;simp at h1
    | some o =>
     rw[ho] at h1
     simp only[Option.any_some] at h1
     simp only[zEr,Array.getElem?_toList,ho] at h
     by_cases h0:k=0
     · subst h0
       unfold zgh at h
       simp only[if_true] at h1 h
       simp only[Bool.and_eq_true] at h1
       obtain ⟨g1,g2,g3⟩:=h1
       cases hg:gOk (zua ops o) a.tmps with
       | true =>
        rw[if_pos hg] at h
        obtain ⟨v,q1,q2⟩:=h
        exact wpAnyH_take ho hs g2 g3 (fun c a w=>hQ c a _ v w) (.inl ⟨by rw[zej];exact hg,fun X hX=>zsx g1 (q1 X (cls_of hX))⟩) hS (ih fuel _ _ _ hl h2 hS q2)
       | false =>
        rw[if_neg (by rw[hg];decide)] at h
        exact wpAnyH_take ho hs g2 g3 (fun c a w=>hQ c a _ undef w) (.inr ⟨by rw[zej];exact hg,rfl⟩) hS (ih fuel _ _ _ hl h2 hS h)
     · have hkb:(k == 0)=false:=by rw[beq_eq_false_iff_ne];exact h0
       simp only[h0,if_false] at h1
       have h:zgh P Q S (.one o false (zua ops o) :: zEr ops l) a w:=by
        match k,hk,h0,h with
        | 1,_,_,h=>exact h
        | k+3,_,_,h=>exact h
       unfold zgh at h
       refine wpAnyH_all (rs:=[i]) (by simpa using h1) (by simp) fun j hj => ?_
       rw[List.mem_singleton] at hj
       subst hj
       unfold wpOp
       simp only[ho]
       cases hg:gOk (zua ops o) a.tmps with
       | true =>
        rw[if_pos hg,if_neg (by decide)] at h
        rw[zej,hg,if_pos rfl]
        exact .inl (Oper.wp_mono (fun a' w' h=>⟨h.1,ih fuel _ _ _ hl h2 h.1 h.2⟩) h)
       | false =>
        rw[if_neg (by rw[hg];decide)] at h
        rw[zej,hg,if_neg (by decide)]
        exact ⟨hS,ih fuel _ _ _ hl h2 hS h⟩
theorem zo8 {id:Nat} {ops:Array Oper} (l:List (Nat × Nat × Nat)) (L:List It) (hm:P.follows .mixedOrders=true) (hs:Region.noSelect ops=true) (hl:zlg l≤ops.size) (hok:zk8 .any ops l (Array.replicate ops.size false)=true) (hL:zEr ops l=L)
  (hQ:∀ c a d v w,Q (.panic c) (a.put d v) w→Q (.panic c) a w) (hS:S w.drew) (h:zgh P Q S L a w.drew):(Code.region id ops true).wp P Q a w:=by
 subst hL
 exact wp_region_held hm (zzs hs hQ l ops.size _ a w.drew hl hok hS h)
structure SqG (P:Program) (Q:Exit→Act→World→Prop) (S:World→Prop) (l:List It) (a:Act) (w:World):Prop where
 out:zgh P Q S l a w
theorem zDh (h:Q .normal a w):SqG P Q S [] a w:=⟨h⟩
theorem zg5 (hg:gOk g a.tmps=true) (h:∀ K:Act→Prop,(∀ a',SqG P Q S r a' w→K a')→o.quiet P a (fun X=>∃ g:SW S,X=g.w) K):SqG P Q S (.one o true g :: r) a w:=⟨zGs hg fun K hK=>h K fun a' h'=>hK a' h'.out⟩
theorem zuj (hg:gOk g a.tmps=true) (h:∀ K:Act→World→Prop,(∀ a' w',S w'→SqG P Q S r a' w'→K a' w')→o.wp P a w K Q):SqG P Q S (.one o false g :: r) a w:=⟨seq_do hg fun K hK=>h K fun a' w' hS h'=>hK a' w' hS h'.out⟩
theorem zed {t:Bool} (hg:gOk g a.tmps=false) (h:SqG P Q S r (a.put o.dst undef) w):SqG P Q S (.one o t g :: r) a w:=⟨zGg hg h.out⟩
theorem znk {id:Nat} {ops:Array Oper} (l:List (Nat × Nat × Nat)) (L:List It) (hm:P.follows .mixedOrders=true) (hs:Region.noSelect ops=true) (hl:zlg l≤ops.size) (hok:zk8 .any ops l (Array.replicate ops.size false)=true) (hL:zEr ops l=L)
 (hQ:∀ c a d v w,Q (.panic c) (a.put d v) w→Q (.panic c) a w) (hS:S w.drew) (h:SqG P Q S L a w.drew):(Code.region id ops true).wp P Q a w:=zo8 l L hm hs hl hok hL hQ hS h.out
end
end Go.Proofs.YtpcajamacpbjcaaGreat
namespace Go.Proofs.YtpcajamacpbjcaaGreat
open Lib (hid)
open Go.RowKit
def RdL (w:World) (B:Nat) (A:Option Addr) (L:List Ty):Prop:=Rd w B A (L.flatMap Ty.cells)∧∀ x ∈ L,RdY w B x.A x.l
theorem RdL.up {w w':World} {B B':Nat} {A:Option Addr} {L:List Ty} (h:RdL w B A L) (hb:Below B w w') (hB:B≤B'):RdL w' B' A L:=⟨h.1.up hb hB,fun x hx=>(h.2 x hx).up hb hB⟩
theorem RdL.of_own {w:World} {H n c:Nat} {A:Option Addr} {L:List Ty} (h:zut w H (.slice A n c) L) (hn:L.length=n):RdL w w.heap.size A L:=by
 subst hn
 exact ⟨Rd.of_own h.1,fun x hx=>Rd.of_own (h.2 x hx)⟩
section
set_option maxRecDepth 100000
set_option maxHeartbeats 8000000
theorem zre (A TA OA:Option Addr) (ws:List Nat) (L:List Ty) (O:List Bk) (c n tc tn oc on m z ty nx r:Nat) (xk:Int) (mk:Bool) (w:World) (ht:L.length=tn) (hl8:∀ x ∈ L,x.l.length≤8) (hr:r=7∨r=8) (hL:RdL w w.heap.size TA L) :
   Calls Tryz.prog 155 #[.slice A n c,.slice TA tn tc,.slice OA on oc,.agg #[.int .i64 (m:Int),.int .i64 (z:Int),.int .i64 xk,.int .i64 (ty:Int),.bool mk,.int .u64 (nx:Int)],.int .i64 (r:Int)] w fun e w'=>e=.returned (.bool (wrB ws (L.map Ty.l) O m z ty mk nx r))∧Below w.heap.size w w':=by
 subst ht
 have HL:=hid (hL.up ((Below.refl w.heap.size w).alloc (Nat.le_refl _) (.cells #[.int .i64 (m:Int),.int .i64 (z:Int),.int .i64 xk,.int .i64 (ty:Int),.bool mk,.int .u64 (nx:Int)] 55)) (Nat.le_refl _))
 have HB:=hid ((Below.refl w.heap.size w).alloc (Nat.le_refl _) (.cells #[.int .i64 (m:Int),.int .i64 (z:Int),.int .i64 xk,.int .i64 (ty:Int),.bool mk,.int .u64 (nx:Int)] 55))
 have xb:=Bx.new w 55 #[.int .i64 (m:Int),.int .i64 (z:Int),.int .i64 xk,.int .i64 (ty:Int),.bool mk,.int .u64 (nx:Int)]
 have XB:=hid xb
 clear hL xb
 rcases hr with rfl|rfl
 · have HV:Hid (wrB ws (L.map Ty.l) O m z ty mk nx 7=(mk || decide (0<nx))):=hid rfl
   have e0:decide ((0:Int)<(nx:Int))=decide (0<nx):=by rw[decide_eq_decide];omega
   obtain ⟨q,hq⟩:∃ q,decide (0<nx)=q:=⟨_,rfl⟩
   rw[hq] at HV e0
   clear HL
   (try simp only[Int.cast_ofNat_Int])
   cases mk
   all_goals
     go_enter Tryz.func155,Tryz.ntmps155
     go_wp2_with fail
     go_ret
     exact ⟨by rw[HV.out];rfl,HB.out⟩
 · by_cases hlt:ty<L.length
   · obtain ⟨b,off,rfl,hb,p0⟩:=zoj HL.out.1 hlt
     have hl:=hl8 _ (List.getElem_mem hlt)
     have HV:Hid (wrB ws (L.map Ty.l) O m z ty mk nx 8=(za8 L[ty].l.length != z)):=hid (by
      show (!decide (ty<(L.map Ty.l).length) || za8 (((L.map Ty.l)[ty]?).getD []).length != z)=_
      rw[List.length_map,decide_eq_true hlt,List.getElem?_map,List.getElem?_eq_getElem hlt]
      rfl)
     obtain ⟨x,hx⟩:∃ x,L[ty]=x:=⟨_,rfl⟩
     rw[hx] at p0 hl HV
     obtain ⟨xA,xc,xl⟩:=x
     dsimp only at p0 hl HV
     have HW:=hid (fun W=>zwy xl.length W (by omega))
     have hle:za8 xl.length≤10:=by unfold za8;omega
     have e0:(((za8 xl.length:Nat):Int) != (z:Int))=(za8 xl.length != z):=by
      rw[Bool.eq_iff_iff,bne_iff_ne,bne_iff_ne];omega
     obtain ⟨o,ho⟩:∃ o,za8 xl.length=o:=⟨_,rfl⟩
     rw[ho] at HV HW hle e0
     obtain ⟨q,hq⟩:∃ q,(o != z)=q:=⟨_,rfl⟩
     rw[hq] at HV e0
     have d1:decide ((L.length:Int)≤(ty:Int))=false:=by rw[decide_eq_false_iff_not];omega
     have d1n:decide (L.length≤ty)=false:=by rw[decide_eq_false_iff_not];omega
     have j1:(ty:Int)<(L.length:Int):=by omega
     have j0:(0:Int)≤(ty:Int):=by omega
     (try simp only[Int.cast_ofNat_Int])
     clear hx ho hq hl8 hlt
     obtain ⟨q0,q1,q2,q3,q4,q5,qf,hgn⟩:=XB.out.c6
     obtain ⟨wn,hwn⟩:∃ wn,w.alloc (.cells #[.int .i64 (m:Int),.int .i64 (z:Int),.int .i64 xk,.int .i64 (ty:Int),.bool mk,.int .u64 (nx:Int)] 55)=wn:=⟨_,rfl⟩
     go_enter Tryz.func155,Tryz.ntmps155
     go_wp2_with fail
     rw[hwn] at HB q1 q3 p0
     clear hwn q0 q2 q4 q5 qf XB HL hgn
     go_region_held3 (fun X:World=>X.cell? ⟨w.heap.size,1,none⟩=some (.int .i64 (z:Int))∧X.cell? ⟨w.heap.size,3,none⟩=some (.int .i64 (ty:Int))∧X.cell? ⟨b,off+ty,none⟩=some (.slice xA xl.length xc)) (go_keep)
      (first | (go_at_call 214;refine (HW.out _).mono ?_;rintro e w5 ⟨rfl,rfl⟩;have m0:=q1;have m1:=q3;have m2:=p0))
     clear m0 m1 m2
     go_wp2_with fail
     go_ret
     exact ⟨by rw[HV.out];rfl,HB.out.drew⟩
   · have HV:Hid (wrB ws (L.map Ty.l) O m z ty mk nx 8=true):=hid (by
      show (!decide (ty<(L.map Ty.l).length) || za8 (((L.map Ty.l)[ty]?).getD []).length != z)=_
      rw[List.length_map,decide_eq_false hlt];rfl)
     have d1:decide ((L.length:Int)≤(ty:Int))=true:=by rw[decide_eq_true_iff];omega
     have d1n:decide (L.length≤ty)=true:=by rw[decide_eq_true_iff];omega
     obtain ⟨q0,q1,q2,q3,q4,q5,qf,hgn⟩:=XB.out.c6
     (try simp only[Int.cast_ofNat_Int])
     clear hlt
     go_enter Tryz.func155,Tryz.ntmps155
     go_wp2_with fail
     obtain ⟨wn,hwn⟩:∃ wn,w.alloc (.cells #[.int .i64 (m:Int),.int .i64 (z:Int),.int .i64 xk,.int .i64 (ty:Int),.bool mk,.int .u64 (nx:Int)] 55)=wn:=⟨_,rfl⟩
     rw[hwn] at HB q3 hgn ⊢
     clear hwn q0 q1 q2 q4 q5 qf XB HL
     have ct3:∀ g:SW (fun X:World=>Below wn.heap.size wn X),g.w.cell? ⟨w.heap.size,3,none⟩=some (.int .i64 (ty:Int)):=fun g=>(g.ok.cell (p:=⟨w.heap.size,3,none⟩) hgn).trans q3
     refine znk (S:=fun X:World=>Below wn.heap.size wn X) ((0,0,0) :: (0,1,0) :: (0,2,0) :: (1,3,0) :: (0,4,0) :: (0,5,0) :: (0,6,0) :: (0,7,0) :: (0,8,0) :: (0,9,0) :: (0,10,0) :: (0,13,0) :: (0,14,0) :: (1,11,0) :: (1,12,0) :: (0,15,0) :: (0,16,0) :: (0,17,0) :: []) (.one _ true (none) :: .one _ true (none) :: .one _ true (none) :: .one _ false (none) :: .one _ true (none) :: .one _ true (none) :: .one _ true (some (some 30,false)) :: .one _ true (some (some 30,false)) :: .one _ true (some (some 30,false)) :: .one _ true (some (some 30,false)) :: .one _ true (some (some 30,false)) :: .one _ true (some (some 30,false)) :: .one _ true (some (some 30,false)) :: .one _ false (some (some 30,false)) :: .one _ false (some (some 30,false)) :: .one _ true (some (some 30,false)) :: .one _ true (none) :: .one _ true (none) :: []) (by kernel_rfl) (by kernel_rfl) (by decide) (by show zk8 _ _ (((0,0,0) :: (0,1,0) :: (0,2,0) :: (1,3,0) :: (0,4,0) :: (0,5,0) :: (0,6,0) :: (0,7,0) :: (0,8,0) :: (0,9,0) :: [])++(((0,10,0) :: (0,13,0) :: (0,14,0) :: (1,11,0) :: (1,12,0) :: (0,15,0) :: (0,16,0) :: (0,17,0) :: []))) _=true;refine zmq _ (by as_aux_lemma=>kernel_rfl) ?_;(as_aux_lemma=>kernel_rfl)) (by rfl) (fun _ _ d _ _ h=>by cases d <;> exact h) (Below.refl _ _).drew ?_
     have HX0:=hid ((Below.refl wn.heap.size wn).drew)
     obtain ⟨X0,hX0⟩:∃ X,wn.drew=X:=⟨_,rfl⟩
     rw[hX0] at HX0 ⊢
     clear hX0
     have hne:Nonempty (SW (fun X:World=>Below wn.heap.size wn X)):=⟨⟨X0,HX0.out⟩⟩
     iterate 3 (first | (refine zed (by rfl) ?_;(try simp only[Act.put,List.setIfInBounds_toArray,List.set_cons_zero,List.set_cons_succ])) | (refine zg5 (by rfl) ?_;intro K hK;go_big_quiet_op;go_big_quiet_on))
     (first | (refine zed (by rfl) ?_;(try simp only[Act.put,List.setIfInBounds_toArray,List.set_cons_zero,List.set_cons_succ])) | (refine zuj (by rfl) ?_;intro K hK;go_big_op;refine hK _ _ HX0.out ?_;clear hK K;(try simp only[Act.put,List.setIfInBounds_toArray,List.set_cons_zero,List.set_cons_succ])))
     iterate 9 (first | (refine zed (by rfl) ?_;(try simp only[Act.put,List.setIfInBounds_toArray,List.set_cons_zero,List.set_cons_succ])) | (refine zg5 (by rfl) ?_;intro K hK;go_big_quiet_op;go_big_quiet_on))
     (first | (refine zed (by rfl) ?_;(try simp only[Act.put,List.setIfInBounds_toArray,List.set_cons_zero,List.set_cons_succ])) | (refine zuj (by rfl) ?_;intro K hK;go_big_op;refine hK _ _ HX0.out ?_;clear hK K;(try simp only[Act.put,List.setIfInBounds_toArray,List.set_cons_zero,List.set_cons_succ])))
     (refine zed (by rfl) ?_;(try simp only[Act.put,List.setIfInBounds_toArray,List.set_cons_zero,List.set_cons_succ]))
     iterate 3 (first | (refine zed (by rfl) ?_;(try simp only[Act.put,List.setIfInBounds_toArray,List.set_cons_zero,List.set_cons_succ])) | (refine zg5 (by rfl) ?_;intro K hK;go_big_quiet_op;go_big_quiet_on))
     refine zDh ?_
     go_wp2_with fail
     go_ret
     exact ⟨by rw[HV.out];rfl,HB.out.trans (HX0.out.mono HB.out.size)⟩
theorem zsw (A TA OA:Option Addr) (ws:List Nat) (L:List Ty) (O:List Bk) (c n tc tn oc on m z ty nx r:Nat) (xk:Int) (mk:Bool) (w:World) (hn:ws.length=n) (hon:O.length=on) (hm:n≤2048) (ho1:on≤2048) (ht:L.length=tn) (hty:ty<L.length) (hl8:L[ty].l.length≤8) (hz:z=za8 L[ty].l.length) (hmz:m+z≤n) (hr:r=9∨r=10∨r=11) (hL:RdL w w.heap.size TA L) (hR:RdW w w.heap.size A ws) (hO:RdB w w.heap.size OA O) (hOb:∀ b ∈ O,0≤b.at_∧b.at_≤1000000) :
   Calls Tryz.prog 155 #[.slice A n c,.slice TA tn tc,.slice OA on oc,.agg #[.int .i64 (m:Int),.int .i64 (z:Int),.int .i64 xk,.int .i64 (ty:Int),.bool mk,.int .u64 (nx:Int)],.int .i64 (r:Int)] w fun e w'=>e=.returned (.bool (wrB ws (L.map Ty.l) O m z ty mk nx r))∧Below w.heap.size w w':=by
 subst ht hn hon
 have hba:=(Below.refl w.heap.size w).alloc (Nat.le_refl _) (.cells #[.int .i64 (m:Int),.int .i64 (z:Int),.int .i64 xk,.int .i64 (ty:Int),.bool mk,.int .u64 (nx:Int)] 55)
 have hLa:=hL.up hba (Nat.le_refl _)
 have HRa:=hid (hR.up hba hba.size)
 have HOa:=hid (hO.up hba hba.size)
 have HOb:=hid hOb
 have HB:=hid hba
 have hze:za8 L[ty].l.length≤10∧L[ty].l.length+2≤za8 L[ty].l.length:=by unfold za8;omega
 obtain ⟨q0,q1,q2,q3,q4,q5,qf,hgn⟩:=(Bx.new w 55 #[.int .i64 (m:Int),.int .i64 (z:Int),.int .i64 xk,.int .i64 (ty:Int),.bool mk,.int .u64 (nx:Int)]).c6
 obtain ⟨b,off,rfl,hb,p0⟩:=zoj hLa.1 hty
 have hFm:=hLa.2 _ (List.getElem_mem hty)
 have HWR:Hid (∀ F,L[ty].l=F→wrB ws (L.map Ty.l) O m z ty mk nx r=(if r=7 then mk || decide (0<nx) else if r=8 then !decide (ty<(L.map Ty.l).length) || za8 F.length != z else if r=9 then decide (F.length+2<z) && wd ws (m+2+F.length) != 0 else (List.range F.length).any fun i=>wrF ws F O m r i)):=hid fun F hF=>by
   unfold wrB
   rw[List.getElem?_map,List.getElem?_eq_getElem hty]
   simp only[Option.map_some,Option.getD_some,hF]
 obtain ⟨x,hx⟩:∃ x,L[ty]=x:=⟨_,rfl⟩
 rw[hx] at p0 hl8 hz hze hFm HWR
 obtain ⟨xA,xc,F⟩:=x
 dsimp only at p0 hl8 hz hze hFm HWR
 have HW:=hid (HWR.out F rfl)
 have HF:=hid hFm
 rw[←hz] at hze
 have j1:(ty:Int)<(L.length:Int):=by omega
 have j0:(0:Int)≤(ty:Int):=by omega
 have HZ:=hid hz
 clear hx HWR hLa hL hR hO hOb hFm hz q2 q4 q5 qf
 rcases hr with rfl|rfl|rfl
 · have HV:Hid (wrB ws (L.map Ty.l) O m z ty mk nx 9=(decide (F.length+2<z) && wd ws (m+2+F.length) != 0)):=hid HW.out
   have w1:IntKind.i64.wrap ((z:Int) - 2)=(z:Int) - 2:=IntWalk.i64_in _ (by omega)
   have w2:IntKind.i64.wrap ((m:Int)+2)=(m:Int)+2:=IntWalk.i64_in _ (by omega)
   have w3:IntKind.i64.wrap ((m:Int)+2+(F.length:Int))=((m+2+F.length:Nat):Int):=by rw[IntWalk.i64_in _ (by omega)];omega
   (try simp only[Int.cast_ofNat_Int])
   by_cases hp:F.length+2<z
   · obtain ⟨bw,ow,rfl,hbw,x0⟩:=RdW.at_ HRa.out (show m+2+F.length<ws.length by omega)
     rw[←zcb] at x0
     have d1:decide ((F.length:Int)<(z:Int) - 2)=true:=by rw[decide_eq_true_iff];omega
     rw[decide_eq_true hp] at HV
     have k1:((m+2+F.length:Nat):Int)<(ws.length:Int):=by omega
     have k0:(0:Int)≤((m+2+F.length:Nat):Int):=by omega
     obtain ⟨p,hpp⟩:∃ p,m+2+F.length=p:=⟨_,rfl⟩
     rw[hpp] at x0 HV w3 k1 k0
     have e0:((wd ws p:Int) != 0)=(wd ws p != 0):=by rw[Bool.eq_iff_iff,bne_iff_ne,bne_iff_ne];omega
     obtain ⟨v,hv⟩:∃ v,wd ws p=v:=⟨_,rfl⟩
     rw[hv] at x0 HV e0
     obtain ⟨q,hq⟩:∃ q,(v != 0)=q:=⟨_,rfl⟩
     rw[hq] at HV e0
     clear hpp hv hq HW HF HOa HOb hp HZ hze
     go_enter Tryz.func155,Tryz.ntmps155
     go_wp2_with fail
     go_ret
     exact ⟨by rw[HV.out];rfl,HB.out⟩
   · have d1:decide ((F.length:Int)<(z:Int) - 2)=false:=by rw[decide_eq_false_iff_not];omega
     rw[decide_eq_false hp] at HV
     clear HW HF HOa HOb hp HZ hze
     go_enter Tryz.func155,Tryz.ntmps155
     go_wp2_with fail
     go_ret
     exact ⟨by rw[HV.out];rfl,HB.out⟩
 · have HV:Hid (wrB ws (L.map Ty.l) O m z ty mk nx 10=(List.range F.length).any fun i=>wrF ws F O m 10 i):=hid HW.out
   have w2:IntKind.i64.wrap ((m:Int)+2)=(m:Int)+2:=IntWalk.i64_in _ (by omega)
   have HYY:Hid (∀ k,k<F.length→wrF ws F O m 10 k=true→wrB ws (L.map Ty.l) O m z ty mk nx 10=true):=hid fun k hk h=>by
     rw[HV.out,List.any_eq_true]
     exact ⟨k,List.mem_range.2 hk,h⟩
   have HNN:Hid ((∀ k,k<F.length→wrF ws F O m 10 k=false)→wrB ws (L.map Ty.l) O m z ty mk nx 10=false):=hid fun h=>by
     rw[HV.out,List.any_eq_false]
     intro k hk
     rw[h k (List.mem_range.1 hk)];decide
   obtain ⟨wn,hwn⟩:∃ wn,w.alloc (.cells #[.int .i64 (m:Int),.int .i64 (z:Int),.int .i64 xk,.int .i64 (ty:Int),.bool mk,.int .u64 (nx:Int)] 55)=wn:=⟨_,rfl⟩
   rw[hwn] at HRa HOa HF HB q0 q1 q3 p0 hgn
   obtain ⟨hze1,hze2⟩:=hze
   (try simp only[Int.cast_ofNat_Int])
   clear HW HV HZ q1
   go_enter Tryz.func155,Tryz.ntmps155
   go_wp2_with fail
   go_loopw [12] (fun i wr=>∃ k:Nat,k≤F.length∧i=.int .i64 k∧Hid (∀ j,j<k→wrF ws F O m 10 j=false)∧Below wn.heap.size wn wr) (fun i _=>F.length - (intOf i).toNat)
   case atStart=>exact ⟨0,Nat.zero_le _,rfl,hid fun j h=>absurd h (by omega),Below.refl _ _⟩
   case round =>
     obtain ⟨k,hk,rfl,HP,hB⟩:=hrel
     have hz:=hB.size
     by_cases hlt:k<F.length
     · have q0':=(hB.cell (p:=⟨w.heap.size,0,none⟩) hgn).trans q0
       obtain ⟨bw,ow,rfl,hbw,x0⟩:=RdW.at_ (Rd.below HRa.out hB) (show m+2+k<ws.length by omega)
       rw[←zcb] at x0
       obtain ⟨bf,of,rfl,hbf,y0⟩:=RdY.at_ (Rd.below HF.out (hB.mono HB.out.size)) hlt
       have HS:Hid (wrF ws F O m 10 k=false→∀ j,j<k+1→wrF ws F O m 10 j=false):=hid fun h j hj=>by
         rcases Nat.lt_or_ge j k with h2|h2
         · exact HP.out j h2
         · have:j=k:=by omega
           subst this;exact h
       have HY:=hid (HYY.out k hlt)
       have HW2:Hid (wrF ws F O m 10 k=(F[k] == 2 && !zs0 (wd ws (m+2+k)))):=hid (by
         unfold wrF
         rw[List.getElem?_eq_getElem hlt]
         first | rw[if_pos rfl] | rw[if_neg (by decide)]
         rw[show ∀ a b:Nat,(some a == some b)=(a == b) from fun a b=>rfl])
       have w3:IntKind.i64.wrap ((m:Int)+2+(k:Int))=((m+2+k:Nat):Int):=by rw[IntWalk.i64_in _ (by omega)];omega
       have k1:((m+2+k:Nat):Int)<(ws.length:Int):=by omega
       have k0:(0:Int)≤((m+2+k:Nat):Int):=by omega
       have hki:(k:Int)<(F.length:Int):=by omega
       have hk0:(0:Int)≤(k:Int):=by omega
       obtain ⟨p,hpp⟩:∃ p,m+2+k=p:=⟨_,rfl⟩
       rw[hpp] at x0 HW2 w3 k1 k0
       obtain ⟨v,hv⟩:∃ v,wd ws p=v:=⟨_,rfl⟩
       rw[hv] at x0 HW2
       obtain ⟨f,hf⟩:∃ f,F[k]=f:=⟨_,rfl⟩
       rw[hf] at y0 HW2
       have HBB:=hid hB
       clear hpp hv hf
       have HFL:=hid (fun W=>zwu v W)
       by_cases hf2:f=2
       · subst hf2
         have HW3:Hid (wrF ws F O m 10 k = !zs0 v):=hid (by rw[HW2.out];rfl)
         obtain ⟨q,hq⟩:∃ q,zs0 v=q:=⟨_,rfl⟩
         rw[hq] at HFL HW3
         clear hq HW2
         cases q
         · have HE:=hid (HY.out (by rw[HW3.out];rfl))
           go_wp2_with fail
           refine (HFL.out _).mono ?_
           rintro e w5 ⟨rfl,rfl⟩
           go_wp2_with fail
           go_ret
           exact ⟨by rw[HE.out];rfl,HB.out.trans (HBB.out.mono HB.out.size)⟩
         · have HE:=hid (HS.out (by rw[HW3.out];rfl))
           go_wp2_with fail
           refine (HFL.out _).mono ?_
           rintro e w5 ⟨rfl,rfl⟩
           go_wp2_with fail
           go_roundw
           case rel=>exact ⟨k+1,by omega,by go_num,HE,HBB.out⟩
           case measure=>simp[intOf];omega
       · have e1:((f:Int) == 2)=false:=by rw[beq_eq_false_iff_ne];omega
         have HE:=hid (HS.out (by rw[HW2.out,show (f == 2)=false by rw[beq_eq_false_iff_ne];exact hf2];rfl))
         clear hf2 HW2
         go_wp2_with fail
         go_roundw
         case rel=>exact ⟨k+1,by omega,by go_num,HE,HBB.out⟩
         case measure=>simp[intOf];omega
     · have HE:=hid (HNN.out fun j hj=>HP.out j (by omega))
       obtain rfl:k=F.length:=by omega
       go_wp2_with fail
       go_ret
       exact ⟨by rw[HE.out];rfl,HB.out.trans (hB.mono HB.out.size)⟩
 · have HV:Hid (wrB ws (L.map Ty.l) O m z ty mk nx 11=(List.range F.length).any fun i=>wrF ws F O m 11 i):=hid HW.out
   have w2:IntKind.i64.wrap ((m:Int)+2)=(m:Int)+2:=IntWalk.i64_in _ (by omega)
   have HYY:Hid (∀ k,k<F.length→wrF ws F O m 11 k=true→wrB ws (L.map Ty.l) O m z ty mk nx 11=true):=hid fun k hk h=>by
     rw[HV.out,List.any_eq_true]
     exact ⟨k,List.mem_range.2 hk,h⟩
   have HNN:Hid ((∀ k,k<F.length→wrF ws F O m 11 k=false)→wrB ws (L.map Ty.l) O m z ty mk nx 11=false):=hid fun h=>by
     rw[HV.out,List.any_eq_false]
     intro k hk
     rw[h k (List.mem_range.1 hk)];decide
   obtain ⟨wn,hwn⟩:∃ wn,w.alloc (.cells #[.int .i64 (m:Int),.int .i64 (z:Int),.int .i64 xk,.int .i64 (ty:Int),.bool mk,.int .u64 (nx:Int)] 55)=wn:=⟨_,rfl⟩
   rw[hwn] at HRa HOa HF HB q0 q1 q3 p0 hgn
   obtain ⟨hze1,hze2⟩:=hze
   (try simp only[Int.cast_ofNat_Int])
   clear HW HV HZ q1
   go_enter Tryz.func155,Tryz.ntmps155
   go_wp2_with fail
   go_loopw [12] (fun i wr=>∃ k:Nat,k≤F.length∧i=.int .i64 k∧Hid (∀ j,j<k→wrF ws F O m 11 j=false)∧Below wn.heap.size wn wr) (fun i _=>F.length - (intOf i).toNat)
   case atStart=>exact ⟨0,Nat.zero_le _,rfl,hid fun j h=>absurd h (by omega),Below.refl _ _⟩
   case round =>
     obtain ⟨k,hk,rfl,HP,hB⟩:=hrel
     have hz:=hB.size
     by_cases hlt:k<F.length
     · have q0':=(hB.cell (p:=⟨w.heap.size,0,none⟩) hgn).trans q0
       obtain ⟨bw,ow,rfl,hbw,x0⟩:=RdW.at_ (Rd.below HRa.out hB) (show m+2+k<ws.length by omega)
       rw[←zcb] at x0
       obtain ⟨bf,of,rfl,hbf,y0⟩:=RdY.at_ (Rd.below HF.out (hB.mono HB.out.size)) hlt
       have HS:Hid (wrF ws F O m 11 k=false→∀ j,j<k+1→wrF ws F O m 11 j=false):=hid fun h j hj=>by
         rcases Nat.lt_or_ge j k with h2|h2
         · exact HP.out j h2
         · have:j=k:=by omega
           subst this;exact h
       have HY:=hid (HYY.out k hlt)
       have HW2:Hid (wrF ws F O m 11 k=(F[k] == 3 && (decide (0<wd ws (m+2+k)) && !zlx O (wd ws (m+2+k))))):=hid (by
         unfold wrF
         rw[List.getElem?_eq_getElem hlt]
         first | rw[if_pos rfl] | rw[if_neg (by decide)]
         rw[show ∀ a b:Nat,(some a == some b)=(a == b) from fun a b=>rfl])
       have w3:IntKind.i64.wrap ((m:Int)+2+(k:Int))=((m+2+k:Nat):Int):=by rw[IntWalk.i64_in _ (by omega)];omega
       have k1:((m+2+k:Nat):Int)<(ws.length:Int):=by omega
       have k0:(0:Int)≤((m+2+k:Nat):Int):=by omega
       have hki:(k:Int)<(F.length:Int):=by omega
       have hk0:(0:Int)≤(k:Int):=by omega
       obtain ⟨p,hpp⟩:∃ p,m+2+k=p:=⟨_,rfl⟩
       rw[hpp] at x0 HW2 w3 k1 k0
       obtain ⟨v,hv⟩:∃ v,wd ws p=v:=⟨_,rfl⟩
       rw[hv] at x0 HW2
       obtain ⟨f,hf⟩:∃ f,F[k]=f:=⟨_,rfl⟩
       rw[hf] at y0 HW2
       have HBB:=hid hB
       clear hpp hv hf
       by_cases hf3:f=3
       · subst hf3
         have HW3:Hid (wrF ws F O m 11 k=(decide (0<v) && !zlx O v)):=hid (by rw[HW2.out];rfl)
         by_cases hv0:0<v
         · have d1:decide ((0:Int)<(v:Int))=true:=by rw[decide_eq_true_iff];omega
           have HIX:=hid (fun W (hr:RdB W W.heap.size OA O)=>zoi OA O oc O.length v W rfl (by omega) hr HOb.out)
           have HOr:=hid (HOa.out.up hB hz)
           rw[decide_eq_true hv0] at HW3
           obtain ⟨q,hq⟩:∃ q,zlx O v=q:=⟨_,rfl⟩
           rw[hq] at HIX HW3
           clear hq HW2
           cases q
           · have HE:=hid (HY.out (by rw[HW3.out];rfl))
             go_wp2_with fail
             refine (HIX.out _ HOr.out).mono ?_
             rintro e w5 ⟨⟨r,rfl,hr⟩,rfl⟩
             simp only[Bool.not_false] at hr
             go_wp2_with fail
             go_ret
             exact ⟨by rw[HE.out];rfl,HB.out.trans (HBB.out.mono HB.out.size)⟩
           · have HE:=hid (HS.out (by rw[HW3.out];rfl))
             go_wp2_with fail
             refine (HIX.out _ HOr.out).mono ?_
             rintro e w5 ⟨⟨r,rfl,hr⟩,rfl⟩
             simp only[Bool.not_true] at hr
             go_wp2_with fail
             go_roundw
             case rel=>exact ⟨k+1,by omega,by go_num,HE,HBB.out⟩
             case measure=>simp[intOf];omega
         · have HE:=hid (HS.out (by rw[HW3.out,decide_eq_false hv0];rfl))
           obtain rfl:v=0:=by omega
           clear HW2 HW3 hv0
           go_wp2_with fail
           go_roundw
           case rel=>exact ⟨k+1,by omega,by go_num,HE,HBB.out⟩
           case measure=>simp[intOf];omega
       · have e1:((f:Int) == 3)=false:=by rw[beq_eq_false_iff_ne];omega
         have HE:=hid (HS.out (by rw[HW2.out,show (f == 3)=false by rw[beq_eq_false_iff_ne];exact hf3];rfl))
         clear hf3 HW2
         go_wp2_with fail
         go_roundw
         case rel=>exact ⟨k+1,by omega,by go_num,HE,HBB.out⟩
         case measure=>simp[intOf];omega
     · have HE:=hid (HNN.out fun j hj=>HP.out j (by omega))
       obtain rfl:k=F.length:=by omega
       go_wp2_with fail
       go_ret
       exact ⟨by rw[HE.out];rfl,HB.out.trans (hB.mono HB.out.size)⟩
end
end Go.Proofs.YtpcajamacpbjcaaGreat
namespace Go.Proofs.YtpcajamacpbjcaaGreat
open Lib (hid)
open Go.RowKit
set_option maxRecDepth 100000 in
set_option maxHeartbeats 2000000 in
theorem zy0 (A:Option Addr) (ws:List Nat) (c n t:Nat) (w:World) (hn:ws.length=n) (hs:zah (n:Int)=true) (ht:tyN ws=some t) (hc:n≤c) (hr:RdW w w.heap.size A ws) (ho:∀ x ∈ ws,x<18446744073709551616) :
  Calls Tryz.prog 151 #[.slice A n c] w fun e w'=>zKy ws t w.heap.size e w'∧Below w.heap.size w w':=by
 subst hn
 have hb:=(zad _).1 hs
 have HC:=hid (zsg A ws c ws.length w rfl (by omega) hc hr)
 have h0:zid ws=0:=zBq.2 ⟨hs,by rw[ht];rfl⟩
 unfold zCj at HC
 rw[h0,ht] at HC
 have HT:=hid (fun W (hr:RdW W W.heap.size A ws)=>zwi A ws c ws.length t W rfl (by omega) (by omega) hr ho)
 have HR:=hid hr
 clear hs hb h0 ht hr ho
 go_enter Tryz.func151,Tryz.ntmps151
 go_wp2_with fail
 refine HC.out.mono ?_
 rintro e w1 ⟨⟨a,b0,b1,rfl⟩,hB1⟩
 simp only[Option.getD_some]
 have hz1:=hB1.size
 have HB2:=hid ((hB1.alloc hz1 (.cells #[.int .i64 a,.int .i64 (t:Int)] 126)).alloc (by simp;omega) (.cells #[.bool b0,.bool b1] 127))
 clear hB1
 go_wp2_with fail
 refine (HT.out _ (HR.out.up HB2.out HB2.out.size)).mono ?_
 rintro e w3 ⟨⟨v,L,rfl,hT⟩,hB3⟩
 have HB3:=hid (HB2.out.trans (hB3.mono HB2.out.size))
 have HTT:=hid hT
 have hz2:=HB2.out.size
 have HMM:Hid (∀ L v,zut w3 ((w1.alloc (.cells #[.int .i64 a,.int .i64 (t:Int)] 126)).alloc (.cells #[.bool b0,.bool b1] 127)).heap.size v L→zut w3 w.heap.size v L):=hid fun L v h=>⟨zbf h.1 HB2.out.size,fun x hx=>zbf (h.2 x hx) HB2.out.size⟩
 clear hT hB3
 go_wp2_with fail
 go_ret2
 exact ⟨⟨v,L,rfl,fun h=>⟨HMM.out _ _ (HTT.out h).1,(HTT.out h).2⟩⟩,HB3.out⟩
theorem znl {ws:List Nat} {t:Nat} {l:List Bk} (ht:tyN ws=some t) (hl:blocks ws 128=some l):lay ws=true↔zev ws 16=true∧zev ws 24=true∧zgg ws t=true∧slsOk ws=true∧ziw l=true∧(∀ r,7≤r→r<12→∀ b ∈ za1 l,wrK ws (zfl ws t 8) (za1 l) r b=false)∧∀ s ∈ slL ws,zih (za1 l) s=true:=by
 unfold lay
 rw[ht,hl]
 simp only[Bool.and_eq_true,List.all_eq_true,List.mem_range,Bool.not_eq_true']
 constructor
 · rintro ⟨a1,a2,a3,a4,a5,a6,a7⟩
   refine ⟨a1,a2,a3,a4,a5,fun r h1 h2 b hb => ?_,a7⟩
   have:=a6 (r - 7) (by omega) b hb
   rwa [show 7+(r - 7)=r by omega] at this
 · rintro ⟨a1,a2,a3,a4,a5,a6,a7⟩
   exact ⟨a1,a2,a3,a4,a5,fun r hr b hb=>a6 (7+r) (by omega) (by omega) b hb,a7⟩
theorem zon {ws:List Nat} (h:tyN ws=none∨blocks ws 128=none):lay ws=false:=by
 unfold lay
 rcases h with h|h
 · rw[h]
 · rw[h];cases tyN ws <;> rfl
theorem zf9 {ws:List Nat} {l:List Bk} (hl:blocks ws 128=some l) {b:Bk} (hb:b ∈ za1 l):∃ a z ty nx:Nat,∃ mk,b=⟨(a:Int),(z:Int),1,(ty:Int),mk,nx⟩∧128≤a∧a+z≤ws.length∧2≤z∧b=bkAt ws a∧stands ws a=true:=by
 unfold za1 at hb
 obtain ⟨h1,h2⟩:=List.mem_filter.1 hb
 rw[beq_iff_eq] at h2
 obtain ⟨k,hk,rfl⟩:=List.getElem_of_mem h1
 obtain ⟨a,e,a1,a2,a3,a4,-⟩:=zb5 _ _ hl (by omega) k hk
 have hz:=zav a4
 rw[e] at h2
 have e2:bkAt ws a=⟨(a:Int),((szAt ws a:Nat):Int),1,(((zaf (wd ws a)).typ.toNat:Nat):Int),(zaf (wd ws a)).mark,wd ws (a+1)⟩:=by
  have ht:(zaf (wd ws a)).typ=(((zaf (wd ws a)).typ.toNat:Nat):Int):=by
   unfold zaf;dsimp only;omega
  rw[←ht,←h2]
  rfl
 exact ⟨a,szAt ws a,(zaf (wd ws a)).typ.toNat,wd ws (a+1),(zaf (wd ws a)).mark,by rw[e,e2],a2,hz.2.2,hz.1,e,a4⟩
theorem zFv (l:List Bk):(za1 l).length≤l.length:=by
 unfold za1
 exact List.length_filter_le _ _
def zFz (ws:List Nat) (e:Ending):Prop:=∃ r:Int,e=.returned (.int .i64 r)∧0≤r∧(r=0↔lay ws=true)
theorem zli {ws:List Nat} {r:Int} (h:lay ws=false) (hr:0<r):zFz ws (.returned (.int .i64 r)):=⟨r,rfl,by omega,by rw[h];constructor <;> intro h;omega;cases h⟩
theorem wy_ok {ws:List Nat} (h:lay ws=true):zFz ws (.returned (.int .i64 0)):=⟨0,rfl,by omega,by rw[h];simp⟩
set_option maxRecDepth 100000 in
set_option maxHeartbeats 16000000 in
theorem zFf (A:Option Addr) (ws:List Nat) (c n:Nat) (w:World) (hn:ws.length=n) (hs:zah (n:Int)=true) (hc:n≤c) (hr:RdW w w.heap.size A ws) (ho:∀ x ∈ ws,x<18446744073709551616) :
  Calls Tryz.prog 93 #[.slice A n c] w fun e w'=>zFz ws e∧Below w.heap.size w w':=by
 subst hn
 have hb:=(zad _).1 hs
 have HC:=hid (zsg A ws c ws.length w rfl (by omega) hc hr)
 have HR:=hid hr
 have hte:zid ws=if (tyN ws).isSome=true then 0 else 50:=by unfold zid;rw[if_pos hs]
 unfold zCj at HC
 have HZ:=hid (fun a ha W (hr:RdW W W.heap.size A ws)=>zwj A ws c ws.length a W rfl ha (by omega) hr)
 have HZ16:=hid (fun W (hr:RdW W W.heap.size A ws)=>(show Calls Tryz.prog 150 #[.slice A ws.length c,.int .i64 16] W fun e w'=>e=.returned (.bool (zev ws 16))∧W=w' from HZ.out 16 (by omega) W hr))
 have HZ24:=hid (fun W (hr:RdW W W.heap.size A ws)=>(show Calls Tryz.prog 150 #[.slice A ws.length c,.int .i64 24] W fun e w'=>e=.returned (.bool (zev ws 24))∧W=w' from HZ.out 24 (by omega) W hr))
 have HTL:=hid (fun W (hr:RdW W W.heap.size A ws)=>zC5 A ws c ws.length W rfl (by omega) (by omega) hr ho)
 have HPA:=hid (fun W (hr:RdW W W.heap.size A ws)=>zDg A ws c ws.length W rfl hs hr ho)
 unfold TlRes at HTL
 cases ht:tyN ws with
 | none =>
  rw[ht] at HC hte
  rw[hte] at HC
  have HV:=hid (zon (.inl ht))
  simp only[Option.getD_none,Option.isSome_none,Bool.false_eq_true,if_false] at HC
  clear hte ht hs hb hr ho HZ HZ16 HZ24 HTL HPA
  go_enter Tryz.func93,Tryz.ntmps93
  go_wp2_with fail
  refine HC.out.mono ?_
  rintro e w1 ⟨⟨a,b0,b1,rfl⟩,hB1⟩
  have hz1:=hB1.size
  go_wp2_with fail
  go_ret
  exact ⟨zli HV.out (by decide),(hB1.alloc hz1 _).alloc (by simp;omega) _⟩
 | some t =>
  have ht8:=zr6 ht
  rw[ht] at HC hte
  rw[hte] at HC
  simp only[Option.getD_some,Option.isSome_some,if_true] at HC
  have HTY:=hid (fun W (hr:RdW W W.heap.size A ws)=>zy0 A ws c ws.length t W rfl hs ht hc hr ho)
  unfold zKy at HTY
  have HIF:=hid (fun l hl=>znl (ws:=ws) (t:=t) (l:=l) ht hl)
  have HNB:=hid (fun h=>zon (ws:=ws) (.inr h))
  have HFL:Hid ((zev ws 16=false∨zev ws 24=false∨zgg ws t=false∨slsOk ws=false∨zyg ws=false)→lay ws=false):=hid fun h=>by
    cases hq:lay ws with
    | false=>rfl
    | true =>
      cases hl:blocks ws 128 with
      | none=>rw[HNB.out hl] at hq;cases hq
      | some l =>
        obtain ⟨a1,a2,a3,a4,a5,-⟩:=(HIF.out l hl).1 hq
        rw[a1,a2,a3,a4,zfz hl,a5] at h
        simp at h
  have HWA:=hid (fun l hl=>zfz (ws:=ws) (l:=l) hl)
  have HBN:=hid (fun l (hl:blocks ws 128=some l)=>(zbs (by omega) _ _ hl (by omega) (by omega) (by omega)).1)
  have HO:=hid ho
  have hb256:256≤ws.length:=by omega
  have hb2048:ws.length≤2048:=by omega
  clear hte hs hb hr ho HZ ht
  go_enter Tryz.func93,Tryz.ntmps93
  go_wp2_with fail
  refine HC.out.mono ?_
  rintro e w1 ⟨⟨a,b0,b1,rfl⟩,hB1⟩
  have hz1:=hB1.size
  have HB1:=hid ((hB1.alloc hz1 (.cells #[.int .i64 a,.int .i64 (t:Int)] 126)).alloc (by simp;omega) (.cells #[.bool b0,.bool b1] 127))
  clear hB1
  go_wp2_with fail
  refine (HZ16.out _ (HR.out.up HB1.out HB1.out.size)).mono ?_
  rintro e w2 ⟨rfl,rfl⟩
  cases h16:zev ws 16
  · have HV:=hid (HFL.out (.inl h16))
    clear h16
    go_wp2_with fail
    go_ret
    exact ⟨zli HV.out (by decide),HB1.out⟩
  · have H16:=hid h16
    clear h16
    go_wp2_with fail
    refine (HZ24.out _ (HR.out.up HB1.out HB1.out.size)).mono ?_
    rintro e w2 ⟨rfl,rfl⟩
    cases h24:zev ws 24
    · have HV:=hid (HFL.out (.inr (.inl h24)))
      clear h24
      go_wp2_with fail
      go_ret
      exact ⟨zli HV.out (by decide),HB1.out⟩
    · have H24:=hid h24
      clear h24
      go_wp2_with fail
      refine (HTY.out _ (HR.out.up HB1.out HB1.out.size)).mono ?_
      rintro e w3 ⟨⟨v,L,rfl,hT⟩,hB3⟩
      have HB3:=hid (HB1.out.trans (hB3.mono HB1.out.size))
      have HTT:=hid hT
      have HR3:=hid (HR.out.up HB3.out HB3.out.size)
      clear hT hB3
      cases hty:zgg ws t
      · have HV:=hid (HFL.out (.inr (.inr (.inl hty))))
        clear hty
        go_wp2_with fail
        go_ret
        exact ⟨zli HV.out (by decide),HB3.out⟩
      · have HTO:=hid hty
        obtain ⟨hT1,hT2⟩:=HTT.out hty
        obtain ⟨TA,tc,rfl⟩:=zbb hT1.1
        have HRL:=hid (RdL.of_own hT1 rfl)
        have HTM:=hid hT2
        have hl8:∀ x ∈ L,x.l.length≤8:=fun x hx=>by
          have:x.l ∈ L.map Ty.l:=List.mem_map_of_mem hx
          rw[hT2] at this
          unfold zfl at this
          obtain ⟨i,-,e⟩:=List.mem_map.1 this
          rw[←e];exact zjm _ _
        have HL8:=hid hl8
        clear hty hT1 hT2 hl8 HTT
        go_wp2_with fail
        refine (HTL.out _ HR3.out).mono ?_
        rintro e w4 ⟨⟨SA,sn,sc,rfl,hS⟩,hB4⟩
        have HB4:=hid (HB3.out.trans (hB4.mono HB3.out.size))
        have HSS:=hid hS
        have HR4:=hid (HR.out.up HB4.out HB4.out.size)
        have HRL4:=hid (HRL.out.up hB4 hB4.size)
        clear hS hB4
        cases hsl:slsOk ws
        · have HV:=hid (HFL.out (.inr (.inr (.inr (.inl hsl)))))
          clear hsl
          go_wp2_with fail
          go_ret
          exact ⟨zli HV.out (by decide),HB4.out⟩
        · have HSL:=hid hsl
          obtain ⟨hsn,hS2,hS3⟩:=HSS.out hsl
          have HSN:=hid hsn
          have HRS:=hid hS3
          clear hsl hS3 HSS hsn
          go_wp2_with fail
          refine (HPA.out _ HR4.out).mono ?_
          rintro e w5 ⟨⟨PA,pn,pc,rfl,hP⟩,hB5⟩
          have HB5:=hid (HB4.out.trans (hB5.mono HB4.out.size))
          have HPP:=hid hP
          have HRL5:=hid (HRL4.out.up hB5 hB5.size)
          have HRS5:=hid (show RdS w5 w5.heap.size SA (slL ws) from Rd.up HRS.out hB5 hB5.size)
          clear hP hB5
          cases hwa:zyg ws
          · have HV:=hid (HFL.out (.inr (.inr (.inr (.inr hwa)))))
            clear hwa
            go_wp2_with fail
            go_ret
            exact ⟨zli HV.out (by decide),HB5.out⟩
          · obtain ⟨l,hl,rfl,hpc,hrd⟩:=HPP.out hwa
            have hbn:=HBN.out l hl
            have HLI:=hid (HIF.out l hl)
            have HAD:Hid (ziw l=true):=hid (by rw[←HWA.out l hl];exact hwa)
            have HOB:=hid (zrz PA l pc l.length w5 rfl (by omega) hrd)
            have hol:=zFv l
            have HAR:=hid (fun b hb=>zf9 (b:=b) hl hb)
            obtain ⟨O,hO⟩:∃ O,za1 l=O:=⟨_,rfl⟩
            rw[hO] at HOB HLI hol HAR
            clear hwa hl hrd hO HPP HIF HNB HBN HWA
            go_wp2_with fail
            refine HOB.out.mono ?_
            rintro e w6 ⟨⟨OA,on,oc,rfl,rfl,hoc,hor⟩,hB6⟩
            have HB6:=hid (HB5.out.trans (hB6.mono HB5.out.size))
            have HRL6:=hid (HRL5.out.up hB6 hB6.size)
            have HRS6:=hid (show RdS w6 w6.heap.size SA (slL ws) from Rd.up HRS5.out hB6 hB6.size)
            have HOR:=hid hor
            have HR6:=hid (HR.out.up HB6.out HB6.out.size)
            clear hB6 hor
            have HOB2:Hid (∀ b ∈ O,0≤b.at_∧b.at_≤1000000):=hid fun b hb=>by
             obtain ⟨a,z,ty,nx,mk,rfl,a1,a2,-⟩:=HAR.out b hb
             dsimp only;omega
            have HWR:Hid (∀ (r j a z ty nx:Nat) (mk:Bool) (hj:j<O.length),O[j]=⟨(a:Int),(z:Int),1,(ty:Int),mk,nx⟩→7≤r→r≤11→(9≤r→wrK ws (L.map Ty.l) O 8 O[j]=false)→a+z≤ws.length→∀ W,Below w6.heap.size w6 W→Calls Tryz.prog 155 #[.slice A ws.length c,.slice TA L.length tc,.slice OA O.length oc,.agg #[.int .i64 (a:Int),.int .i64 (z:Int),.int .i64 1,.int .i64 (ty:Int),.bool mk,.int .u64 (nx:Int)],.int .i64 (r:Int)] W fun e w'=>e=.returned (.bool (wrK ws (L.map Ty.l) O r O[j]))∧Below W.heap.size W w'):=hid fun r j a z ty nx mk hj e h7 h11 h8 haz W hW=>by
             have ek:∀ r,wrK ws (L.map Ty.l) O r O[j]=wrB ws (L.map Ty.l) O a z ty mk nx r:=fun r=>by
               rw[e]
               unfold wrK
               simp only[Int.toNat_natCast]
             rw[ek r]
             by_cases h9:9≤r
             · have h8:=h8 h9
               rw[ek 8] at h8
               have h8:(!decide (ty<(L.map Ty.l).length) || za8 (((L.map Ty.l)[ty]?).getD []).length != z)=false:=h8
               rw[Bool.or_eq_false_iff] at h8
               have hty:ty<L.length:=by
                have:=h8.1
                rw[List.length_map] at this
                simpa using this
               have hz:=h8.2
               rw[List.getElem?_map,List.getElem?_eq_getElem hty,bne_eq_false_iff_eq] at hz
               exact zsw A TA OA ws L O c ws.length tc L.length oc O.length a z ty nx r 1 mk W rfl rfl hb2048 (by omega) rfl hty (HL8.out _ (List.getElem_mem hty)) hz.symm haz (by omega) (HRL6.out.up hW hW.size) (HR6.out.up hW hW.size) (HOR.out.up hW hW.size) HOB2.out
             · exact zre A TA OA ws L O c ws.length tc L.length oc O.length a z ty nx r 1 mk W rfl HL8.out (by omega) (HRL6.out.up hW hW.size)
            rw[HTM.out] at HWR
            have HLO:Hid (lay ws=true↔(∀ r,7≤r→r<12→∀ b ∈ O,wrK ws (zfl ws t 8) O r b=false)∧∀ s ∈ slL ws,zih O s=true):=hid (by
             rw[HLI.out]
             exact ⟨fun h=>h.2.2.2.2.2,fun h=>⟨H16.out,H24.out,HTO.out,HSL.out,HAD.out,h⟩⟩)
            have hO6:O.length≤1000000:=by omega
            have HSX:=hid (fun W (hr:RdB W W.heap.size OA O) v=>zoi OA O oc O.length v W rfl hO6 hr HOB2.out)
            obtain ⟨T,hTT⟩:∃ T,zfl ws t 8=T:=⟨_,rfl⟩
            rw[hTT] at HWR HLO
            have hO24:O.length≤2048:=by omega
            clear hTT HLI HAD HTO HSL H16 H24 HTM HRL6 HRL5 HRL4 HRL HL8 hbn hol hpc hS2 hoc HOB HR3 HR4 HRS HRS5 HB3 HB4 HB5 HB1 HFL HTY HTL HPA HZ16 HZ24 HC hO24 hb256 hb2048 ht8
            go_wp2_with fail
            go_loopw [11] (fun i wr=>∃ k:Nat,7≤k∧k≤12∧i=.int .i64 k∧Hid (∀ r,7≤r→r<k→∀ b ∈ O,wrK ws T O r b=false)∧Below w6.heap.size w6 wr) (fun i _=>12 - (intOf i).toNat)
            case atStart=>exact ⟨7,Nat.le_refl _,by omega,rfl,hid fun r h1 h2=>absurd h2 (by omega),Below.refl _ _⟩
            case round =>
             obtain ⟨k,hk7,hk,rfl,HP,hB⟩:=hrel
             have hz:=hB.size
             by_cases hlt:k≤11
             · have hki:decide ((k:Int)≤11)=true:=by rw[decide_eq_true_iff];omega
               have hkn:decide (k≤11)=true:=by rw[decide_eq_true_iff];exact hlt
               have HBK:=hid hB
               have HN0:Hid ((∀ b ∈ O,wrK ws T O k b=false)→∀ r,7≤r→r<k+1→∀ b ∈ O,wrK ws T O r b=false):=hid fun h r h1 h2=>by
                rcases Nat.lt_or_ge r k with h3|h3
                · exact HP.out r h1 h3
                · have:r=k:=by omega
                  subst this;exact h
               obtain ⟨wk,hwk⟩:∃ wk,wr=wk:=⟨_,rfl⟩
               rw[hwk] at hB HBK hz ⊢
               clear hwk
               go_wp2_with fail
               go_loopw [12] (fun i wr=>∃ j:Nat,j≤O.length∧i=.int .i64 j∧Hid (∀ q (h:q<O.length),q<j→wrK ws T O k O[q]=false)∧Below wk.heap.size wk wr) (fun i _=>O.length - (intOf i).toNat)
               case atStart=>exact ⟨0,Nat.zero_le _,rfl,hid fun q h h2=>absurd h2 (by omega),Below.refl _ _⟩
               case round =>
                obtain ⟨j,hj,rfl,HQ,hB2⟩:=hrel
                have hz2:=hB2.size
                have hB62:=hB.trans (hB2.mono hz)
                by_cases hjl:j<O.length
                · obtain ⟨a,z,ty,nx,mk,ej,a1,a2,-⟩:=HAR.out O[j] (List.getElem_mem hjl)
                  have HCA:=hid (HWR.out k j a z ty nx mk hjl ej hk7 hlt (fun h9=>HP.out 8 (by omega) (by omega) _ (List.getElem_mem hjl)) a2 wr hB62)
                  obtain ⟨b,off,rfl,hb,p0,p1,p2,p3,p4,p5⟩:=RdB.at_ (Rd.below HOR.out hB62) hjl
                  rw[ej] at p0 p1 p2 p3 p4 p5
                  dsimp only at p0 p1 p2 p3 p4 p5
                  have HNX:Hid (wrK ws T O k O[j]=false→∀ q (h:q<O.length),q<j+1→wrK ws T O k O[q]=false):=hid fun h q hq h2=>by
                    rcases Nat.lt_or_ge q j with h3|h3
                    · exact HQ.out q hq h3
                    · have:q=j:=by omega
                      subst this;exact h
                  have HBD:Hid (wrK ws T O k O[j]=true→lay ws=false):=hid fun h=>by
                    cases hq:lay ws with
                    | false=>rfl
                    | true=>rw[(HLO.out.1 hq).1 k hk7 (by omega) _ (List.getElem_mem hjl)] at h;cases h
                  obtain ⟨q,hq⟩:∃ q,wrK ws T O k O[j]=q:=⟨_,rfl⟩
                  rw[hq] at HCA HNX HBD
                  have hji:(j:Int)<(O.length:Int):=by omega
                  have hj0:(0:Int)≤(j:Int):=by omega
                  have hkp:(0:Int)<(k:Int):=by omega
                  have HB22:=hid hB2
                  have HB62:=hid hB62
                  clear hq ej a1 a2 hB62
                  cases q
                  · have HN:=hid (HNX.out rfl)
                    clear HNX HBD
                    go_wp2_with fail
                    refine HCA.out.mono ?_
                    rintro e w8 ⟨rfl,hB8⟩
                    have HB8:=hid (HB22.out.trans (hB8.mono hz2))
                    clear hB8
                    go_wp2_with fail
                    go_roundw
                    case rel=>exact ⟨j+1,by omega,by go_num,HN,HB8.out⟩
                    case measure=>simp[intOf];omega
                  · have HV:=hid (HBD.out rfl)
                    clear HNX HBD
                    go_wp2_with fail
                    refine HCA.out.mono ?_
                    rintro e w8 ⟨rfl,hB8⟩
                    have HB8:=hid (HB6.out.trans ((HB62.out.trans (hB8.mono (by have:=HB62.out.size;omega))).mono HB6.out.size))
                    have HKP:=hid hkp
                    clear hB8 hkp
                    go_wp2_with fail
                    go_ret
                    exact ⟨zli HV.out HKP.out,HB8.out⟩
                · have HN:=hid (HN0.out fun b hb=>by
                    obtain ⟨q,hq,rfl⟩:=List.getElem_of_mem hb
                    exact HQ.out q hq (by omega))
                  have hjn:decide ((j:Int)<(O.length:Int))=false:=by rw[decide_eq_false_iff_not];omega
                  have hjnn:decide (j<O.length)=false:=by rw[decide_eq_false_iff_not];exact hjl
                  have HB62:=hid hB62
                  clear hjl hB62
                  go_wp2_with fail
                  go_roundw
                  case rel=>exact ⟨k+1,by omega,by omega,by go_num,HN,HB62.out⟩
                  case measure=>simp[intOf];omega
             · have HR12:Hid (∀ r,7≤r→r<12→∀ b ∈ O,wrK ws T O r b=false):=hid fun r h1 h2=>HP.out r h1 (by omega)
               have HB12:=hid hB
               have hkd:decide ((k:Int)≤11)=false:=by rw[decide_eq_false_iff_not];omega
               have hkdn:decide (k≤11)=false:=by rw[decide_eq_false_iff_not];exact hlt
               clear HP hlt hk hk7
               go_wp2_with fail
               go_loopw [13] (fun i wr2=>∃ j:Nat,j≤16∧i=.int .i64 j∧Hid (∀ q (h:q<(slL ws).length),q<j→zih O (slL ws)[q]=true)∧Below w6.heap.size w6 wr2) (fun i _=>16 - (intOf i).toNat)
               case atStart=>exact ⟨0,Nat.zero_le _,rfl,hid fun q h h2=>absurd h2 (by omega),HB12.out⟩
               case round =>
                obtain ⟨j,hj,rfl,HQ,hB2⟩:=hrel
                have HB12:=hid hB2
                rename World=>wq
                by_cases hjl:j<16
                · have hjs:j<(slL ws).length:=by rw[zcy];exact hjl
                  obtain ⟨b,off,rfl,hb,p0,p1,p2⟩:=RdS.at_ (Rd.below HRS6.out HB12.out) hjs
                  have HNX:Hid (zih O (slL ws)[j]=true→∀ q (h:q<(slL ws).length),q<j+1→zih O (slL ws)[q]=true):=hid fun h q hq h2=>by
                    rcases Nat.lt_or_ge q j with h3|h3
                    · exact HQ.out q hq h3
                    · have:q=j:=by omega
                      subst this;exact h
                  have HBD:Hid (zih O (slL ws)[j]=false→lay ws=false):=hid fun h=>by
                    cases hq:lay ws with
                    | false=>rfl
                    | true=>rw[(HLO.out.1 hq).2 _ (List.getElem_mem hjs)] at h;cases h
                  have hat:0≤(slL ws)[j].at_∧(slL ws)[j].at_≤4294967295:=by
                    rw[zjh]
                    exact ⟨(ze8 (wd ws (112+j))).2.2.1,(ze8 (wd ws (112+j))).2.2.2⟩
                  obtain ⟨x,hx⟩:∃ x,(slL ws)[j]=x:=⟨_,rfl⟩
                  rw[hx] at p0 p1 p2 HNX HBD hat
                  obtain ⟨g,u,at_⟩:=x
                  dsimp only at p0 p1 p2 hat
                  obtain ⟨v,rfl⟩:=Int.eq_ofNat_of_zero_le hat.1
                  have HSH:Hid (zih O ⟨g,u,((v:Nat):Int)⟩=(!u || zlx O v)):=hid (by unfold zih;rw[Int.toNat_natCast])
                  have w9:IntKind.u64.wrap (v:Int)=(v:Int):=IntWalk.u64_in _ (by omega)
                  have hji:(j:Int)<(sn:Int):=by rw[HSN.out];omega
                  have hjd:decide ((j:Int)<(sn:Int))=true:=by rw[decide_eq_true_iff];exact hji
                  have hjdn:decide (j<sn)=true:=by rw[decide_eq_true_iff,HSN.out];exact hjl
                  have hj0:(0:Int)≤(j:Int):=by omega
                  have HSI:=hid (HSX.out wq (HOR.out.up HB12.out HB12.out.size) v)
                  clear hx hat
                  cases u
                  · have HN:=hid (HNX.out (by rw[HSH.out];rfl))
                    clear HNX HBD
                    go_wp2_with fail
                    go_roundw
                    case rel=>exact ⟨j+1,by omega,by go_num,HN,HB12.out⟩
                    case measure=>simp[intOf];omega
                  · obtain ⟨q,hq⟩:∃ q,zlx O v=q:=⟨_,rfl⟩
                    rw[hq] at HSI HSH
                    clear hq
                    cases q
                    · have HV:=hid (HBD.out (by rw[HSH.out];rfl))
                      clear HNX HBD
                      go_wp2_with fail
                      refine HSI.out.mono ?_
                      rintro e w8 ⟨⟨r,rfl,hr⟩,rfl⟩
                      simp only[Bool.not_false] at hr
                      go_wp2_with fail
                      go_ret
                      exact ⟨zli HV.out (by decide),HB6.out.trans (HB12.out.mono HB6.out.size)⟩
                    · have HN:=hid (HNX.out (by rw[HSH.out];rfl))
                      clear HNX HBD
                      go_wp2_with fail
                      refine HSI.out.mono ?_
                      rintro e w8 ⟨⟨r,rfl,hr⟩,rfl⟩
                      simp only[Bool.not_true] at hr
                      go_wp2_with fail
                      go_roundw
                      case rel=>exact ⟨j+1,by omega,by go_num,HN,HB12.out⟩
                      case measure=>simp[intOf];omega
                · have HV:Hid (lay ws=true):=hid (HLO.out.2 ⟨HR12.out,fun s hs=>by
                    obtain ⟨q,hq,rfl⟩:=List.getElem_of_mem hs
                    exact HQ.out q hq (by rw[zcy] at hq;omega)⟩)
                  have hjd:decide ((j:Int)<(sn:Int))=false:=by rw[decide_eq_false_iff_not,HSN.out];omega
                  have hjdn:decide (j<sn)=false:=by rw[decide_eq_false_iff_not,HSN.out];exact hjl
                  go_wp2_with fail
                  go_ret
                  exact ⟨wy_ok HV.out,HB6.out.trans (HB12.out.mono HB6.out.size)⟩
set_option maxRecDepth 100000 in
set_option maxHeartbeats 2000000 in
theorem zw5 (A:Option Addr) (ws:List Nat) (c n:Nat) (w:World) (hn:ws.length=n) (hm:n≤9223372036854775807) (hc:n≤c) (hr:RdW w w.heap.size A ws) (ho:∀ x ∈ ws,x<18446744073709551616) :
   Calls Tryz.prog 13 #[.slice A n c] w fun e w'=>e=.returned (.int .i64 (zcz ws))∧Below w.heap.size w w':=by
 subst hn
 have HIM:=hid (fun W=>zlp A ws.length c W hm)
 have key:Calls Tryz.prog 49 #[.slice A ws.length c] w fun e w'=>(∃ r:Int,e=.returned (.tuple #[.int .i64 r,.int .i64 (zkj ws.length)])∧0≤r∧(zah (ws.length:Int)=true→(r=0↔lay ws=true)))∧Below w.heap.size w w':=by
   cases hs:zah (ws.length:Int)
   · have HE:=hid (zbw hs)
     rw[zbw hs] at HIM
     have HNS:Hid (∀ {p:Prop},false=true→p):=hid fun h=>by cases h
     clear hr ho hc hs
     go_enter Tryz.func49,Tryz.ntmps49
     go_wp2_with fail
     refine (HIM.out _).mono ?_
     rintro e w1 ⟨rfl,rfl⟩
     go_wp2_with fail
     go_ret2
     exact ⟨⟨0,by rw[HE.out];rfl,by omega,fun h=>HNS.out h⟩,Below.refl _ _⟩
   · have HE:=hid (zbc hs)
     rw[zbc hs] at HIM
     have HWY:=hid (zFf A ws c ws.length w rfl hs hc hr ho)
     unfold zFz at HWY
     clear hr ho hc hs
     go_enter Tryz.func49,Tryz.ntmps49
     go_wp2_with fail
     refine (HIM.out _).mono ?_
     rintro e w1 ⟨rfl,rfl⟩
     go_wp2_with fail
     refine HWY.out.mono ?_
     rintro e w1 ⟨⟨r,rfl,h0,hr⟩,hB⟩
     have HH:=hid (And.intro h0 hr)
     clear h0 hr
     go_wp2_with fail
     go_ret2
     exact ⟨⟨r,by rw[HE.out];rfl,HH.out.1,fun _=>HH.out.2⟩,hB⟩
 have HK:=hid key
 have HLE:Hid (zcz ws=if zah (ws.length:Int)=true then (if lay ws=true then 0 else 50) else 8):=hid rfl
 clear key hr ho hc HIM
 cases hs:zah (ws.length:Int)
 · rw[zbw hs] at HK
   rw[hs] at HLE
   simp only[Bool.false_eq_true,if_false] at HLE
   clear hs
   go_enter Tryz.func13,Tryz.ntmps13
   go_wp2_with fail
   refine HK.out.mono ?_
   rintro e w1 ⟨⟨r,rfl,-,-⟩,hB⟩
   go_wp2_with fail
   go_ret
   exact ⟨by rw[HLE.out];rfl,hB⟩
 · rw[zbc hs,hs] at HK
   rw[hs] at HLE
   simp only[if_true] at HLE
   clear hs
   cases hl:lay ws
   · rw[hl] at HK HLE
     clear hl
     go_enter Tryz.func13,Tryz.ntmps13
     go_wp2_with fail
     refine HK.out.mono ?_
     rintro e w1 ⟨⟨r,rfl,h0,hr⟩,hB⟩
     have hr0:r≠0:=fun h=>by have:=(hr trivial).1 h;cases this
     have d1:decide (0<r)=true:=by rw[decide_eq_true_iff];omega
     clear hr hr0 h0
     go_wp2_with fail
     go_ret
     exact ⟨by rw[HLE.out];rfl,hB⟩
   · rw[hl] at HK HLE
     clear hl
     go_enter Tryz.func13,Tryz.ntmps13
     go_wp2_with fail
     refine HK.out.mono ?_
     rintro e w1 ⟨⟨r,rfl,h0,hr⟩,hB⟩
     obtain rfl:r=0:=(hr trivial).2 (by first|exact trivial|rfl)
     clear hr h0
     go_wp2_with fail
     go_ret
     exact ⟨by rw[HLE.out];rfl,hB⟩
end Go.Proofs.YtpcajamacpbjcaaGreat
