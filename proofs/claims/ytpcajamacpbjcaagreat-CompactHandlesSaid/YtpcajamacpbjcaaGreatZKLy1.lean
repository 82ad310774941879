/- Texts laid together: LyK MapB LyC LyD LySup LySur LyTw. -/
import Derived.Test.YtpcajamacpbjcaaGreatZKR19
import Derived.Test.YtpcajamacpbjcaaGreatZKWnt
import Derived.Test.YtpcajamacpbjcaaGreatZKPlain
import Derived.Test.YtpcajamacpbjcaaGreatZKEff
import Derived.Maps.Own
import Derived.Maps.Views
import Derived.Maps.OwnOps
import Derived.Maps.Keyed
import Derived.Test.YtpcajamacpbjcaaGreatZKSup
import Derived.Test.YtpcajamacpbjcaaGreatZKRch
import Derived.Test.YtpcajamacpbjcaaGreatZNxt
namespace Go.Proofs.YtpcajamacpbjcaaGreat
open Lib (hid)
open Go.RowKit
def zIx (ws:List Nat) (t H:Nat) (e:Ending) (w':World):Prop:=∃ (B:Option Addr) (m d:Nat) (L:List Ty),e=.returned (.tuple #[.slice B m d,.int .i64 (if zgg ws t=true then 0 else 50)])∧(zgg ws t=true→m=L.length∧zut w' H (.slice B m d) L∧L.map Ty.l=zfl ws t 8)
theorem zpb {ws:List Nat} {t H:Nat} {w':World} {B:Option Addr} {m d:Nat} (h:zgg ws t=false):zIx ws t H (.returned (.tuple #[.slice B m d,.int .i64 50])) w':=⟨B,m,d,[],by rw[h];rfl,fun h2=>by rw[h] at h2;cases h2⟩
set_option maxRecDepth 100000 in
set_option maxHeartbeats 8000000 in
theorem zGb (A:Option Addr) (ws:List Nat) (c n t:Nat) (w:World) (hn:ws.length=n) (hs:zah (n:Int)=true) (ht:t≤8) (hr:RdW w w.heap.size A ws) (ho:∀ x ∈ ws,x<18446744073709551616) :
  Calls Tryz.prog 69 #[.slice A n c,.int .i64 (t:Int)] w fun e w'=>zIx ws t w.heap.size e w'∧Below w.heap.size w w':=by
 subst hn
 have hb:=(zad _).1 hs
 have HR:=hid hr
 have HIM:=hid (fun W=>zay A ws.length c W (by omega))
 rw[zbc hs] at HIM
 have HLT:Hid (∀ k,wd ws k<18446744073709551616):=hid (ze6 ho)
 have d0:decide ((t:Int)<0)=false:=by rw[decide_eq_false_iff_not];omega
 have d8:decide ((8:Int)<(t:Int))=false:=by rw[decide_eq_false_iff_not];omega
 have d8n:decide (8<t)=false:=by rw[decide_eq_false_iff_not];omega
 clear hr ho hs
 obtain ⟨i2,hi,hz0,hz1,hz2⟩:=info_parts zBz
 have HJ:=hid hi
 have HJ0:=hid hz0
 have HJ1:=hid hz1
 have HJ2:=hid hz2
 clear hi hz0 hz1 hz2
 go_enter Tryz.func69,Tryz.ntmps69
 go_wp2_with fail
 refine (HIM.out _).mono ?_
 rintro e w1 ⟨rfl,rfl⟩
 go_wp2_with fail
 go_loopw [7,24] (fun v i wr=>∃ (k:Nat) (L:List Ty),k≤8∧i=.int .i64 k∧Hid (zxv ws t k)∧Hid (L.map Ty.l=zfl ws t k)∧L.length≤k∧Hid (zut wr w.heap.size v L)∧Below w.heap.size w wr) (fun _ i _=>8 - (intOf i).toNat)
 case atStart=>exact ⟨0,[],Nat.zero_le _,rfl,hid (fun i h=>absurd h (by omega)),hid (by simp[zfl]),Nat.le_refl _,hid ⟨World.ownsRow_nil _ _ _ _,fun x hx=>absurd hx (by simp)⟩,Below.refl _ _⟩
 case round =>
  obtain ⟨k,L,hk,rfl,HOK,HLL,hLk,HOW,hB⟩:=hrel
  have hz:=hB.size
  by_cases hlt:k<8
  · obtain ⟨b,off,rfl,hbb,h0⟩:=RdW.at_ (Rd.below HR.out hB) (show 96+2 * k<ws.length by omega)
    obtain ⟨b',off',e',-,h1⟩:=RdW.at_ (Rd.below HR.out hB) (show 96+2 * k+1<ws.length by omega)
    cases e'
    rw[←zcb] at h0 h1
    have HRD:=hid (fun W=>zvy (wd ws (96+2 * k)) (wd ws (96+2 * k+1)) W (HLT.out _) (HLT.out _))
    have HSU:=hid (fun h=>zo0 HOK.out h)
    have HBD:=hid (fun h=>zqt (ws:=ws) (t:=t) hlt h)
    have HAT:Hid (zAu ws t k=if k<t then zb7 (wd ws (96+2 * k)) (wd ws (96+2 * k+1)) else wd ws (96+2 * k) == 0 && wd ws (96+2 * k+1) == 0):=hid rfl
    have HTL:=hid (fun h=>zCn (ws:=ws) (t:=t) (k:=k) h)
    have HTG:=hid (fun h=>zAh (ws:=ws) (t:=t) (k:=k) h)
    have i1:IntKind.i64.wrap ((2:Int) * (k:Int))=2 * (k:Int):=IntWalk.i64_in _ (by omega)
    have i2':IntKind.i64.wrap ((96:Int)+2 * (k:Int))=((96+2 * k:Nat):Int):=by rw[IntWalk.i64_in _ (by omega)];omega
    have i3:IntKind.i64.wrap (((96+2 * k:Nat):Int)+1)=((96+2 * k+1:Nat):Int):=by rw[IntWalk.i64_in _ (by omega)];omega
    have j1:((96+2 * k:Nat):Int)<(ws.length:Int):=by omega
    have j2:(0:Int)≤((96+2 * k:Nat):Int):=by omega
    have j3:((96+2 * k+1:Nat):Int)<(ws.length:Int):=by omega
    have j4:(0:Int)≤((96+2 * k+1:Nat):Int):=by omega
    have hk1:(k:Int)<8:=by omega
    obtain ⟨p,hp⟩:∃ p,96+2 * k=p:=⟨_,rfl⟩
    rw[hp] at h0 h1 HRD HAT HTL i2' i3 j1 j2 j3 j4
    obtain ⟨q,hq⟩:∃ q,p+1=q:=⟨_,rfl⟩
    rw[hq] at h1 HRD HAT HTL i3 j3 j4
    obtain ⟨x,hx⟩:∃ x,wd ws p=x:=⟨_,rfl⟩
    obtain ⟨y,hy⟩:∃ y,wd ws q=y:=⟨_,rfl⟩
    rw[hx] at h0 HRD HAT HTL
    rw[hy] at h1 HRD HAT HTL
    have HB:=hid hB
    clear hx hy hp hq
    by_cases hkt:k<t
    · have d2:decide ((t:Int)≤(k:Int))=false:=by rw[decide_eq_false_iff_not];omega
      have d2n:decide (t≤k)=false:=by rw[decide_eq_false_iff_not];omega
      cases hty:zb7 x y
      · have HV:=hid (HBD.out (by rw[HAT.out,if_pos hkt,hty]))
        have hkr:zef x y=50:=by unfold zef;rw[hty];rfl
        have hko:zbd x y=[]:=by unfold zbd;rw[hty];rfl
        unfold zlh at HRD
        rw[hkr,hko] at HRD
        clear hty hkr hko HAT HBD HSU HTL HTG hkt
        go_wp2_with fail
        go_region_held3 (fun X:World=>X.cell? ⟨b,off+p,none⟩=some (.int .u64 (x:Int))∧X.cell? ⟨b,off+q,none⟩=some (.int .u64 (y:Int))) (go_keep) (fail)
        go_wp2_with fail
        refine (HRD.out _).mono ?_
        rintro e w3 ⟨⟨A3,c3,rfl,-⟩,hB3⟩
        have hb3:=HB.out.drew.trans (hB3.mono hz)
        clear hB3
        go_wp2_with fail
        go_ret2
        exact ⟨zpb HV.out,hb3⟩
      · have HV:=hid (HSU.out (by rw[HAT.out,if_pos hkt,hty]))
        have HTN:=hid (HTL.out hkt)
        have hkr:zef x y=0:=by unfold zef;rw[hty];rfl
        unfold zlh at HRD
        rw[hkr] at HRD
        obtain ⟨l,hl⟩:∃ l,zbd x y=l:=⟨_,rfl⟩
        rw[hl] at HRD HTN
        clear hty hkr hl HAT HBD HSU HTL HTG hkt
        go_wp2_with fail
        go_region_held3 (fun X:World=>X.cell? ⟨b,off+p,none⟩=some (.int .u64 (x:Int))∧X.cell? ⟨b,off+q,none⟩=some (.int .u64 (y:Int))) (go_keep) (fail)
        go_wp2_with fail
        refine (HRD.out _).mono ?_
        rintro e w3 ⟨⟨A3,c3,rfl,hown3⟩,hB3⟩
        have hb3:=HB.out.drew.trans (hB3.mono hz)
        have hz3:=hb3.size
        have hrow:=zak (show wr.drew.ownsRow _ _ _ _ _ _ from HOW.out.1) hB3 (Nat.le_refl _)
        have HEL:Hid (∀ y ∈ L,w3.ownsRow w.heap.size 5 1 (.slice y.A y.l.length y.c) y.l.length (y.l.flatMap zbg)):=hid fun y hy=>zak (show wr.drew.ownsRow _ _ _ _ _ _ from HOW.out.2 y hy) hB3 (Nat.le_refl _)
        have HNW:=hid (zbf hown3 (show w.heap.size≤wr.drew.heap.size from hz))
        have HROW:=hid hrow
        have HB3:=hid hb3
        clear hB3 hown3 hb3 HOW
        go_wp2_with (at_builtin;refine wpList_append_own _ rfl _ _ 69 rfl w.heap.size 113 i2 _ 1 24 Tryz.underlying69 HJ.out HJ0.out HJ1.out HJ2.out rfl (by decide) _ _ _ rfl (hrow.alloc _) ⟨_,0,none⟩ 1 1 [.slice A3 l.length c3] rfl rfl (zcl _ _ _) (by simp[Value.oneCell']) (by unfold maxLen;omega) (by omega) (zcq hz3) ?_;intro v1 w6 hown1 hg1 _;have HB6:=hid (zaw HB3.out hz3 hrow hg1);have HN6:=hid (zrr (x:=⟨A3,c3,l⟩) HEL.out HNW.out (HROW.out.alloc _) (fun h=>h.alloc _) hg1 hown1);clear hown1 hg1)
        go_roundw
        case rel=>exact ⟨k+1,L++[⟨A3,c3,l⟩],by omega,by go_num,HV,hid (by rw[List.map_append,HLL.out,HTN.out];rfl),by simp;omega,HN6,HB6.out⟩
        case measure=>simp[intOf];omega
    · have d2:decide ((t:Int)≤(k:Int))=true:=by rw[decide_eq_true_iff];omega
      have d2n:decide (t≤k)=true:=by rw[decide_eq_true_iff];omega
      have HTN:=hid (HTG.out (by omega))
      have HAT2:Hid (zAu ws t k=(x == 0 && y == 0)):=hid (by rw[HAT.out,if_neg hkt])
      clear HRD HAT HTL HTG hkt
      by_cases hx0:x=0
      · subst hx0
        by_cases hy0:y=0
        · subst hy0
          have HV:=hid (HSU.out (by rw[HAT2.out];rfl))
          clear HBD HSU HAT2
          go_wp2_with fail
          go_region_held3 (fun X:World=>X.cell? ⟨b,off+p,none⟩=some (.int .u64 ((0:Nat):Int))∧X.cell? ⟨b,off+q,none⟩=some (.int .u64 ((0:Nat):Int))) (go_keep) (fail)
          go_wp2_with fail
          have HO3:Hid (zut wr.drew w.heap.size u7 L):=hid ⟨HOW.out.1,HOW.out.2⟩
          go_roundw
          case rel=>exact ⟨k+1,L,by omega,by go_num,HV,hid (by rw[HLL.out,HTN.out]),by omega,HO3,HB.out.drew⟩
          case measure=>simp[intOf];omega
        · have HV:=hid (HBD.out (by rw[HAT2.out,show (y == 0)=false by rw[beq_eq_false_iff_ne];exact hy0];rfl))
          have d3:((y:Int) != 0)=true:=by rw[bne_iff_ne];omega
          have d3n:(y != 0)=true:=by rw[bne_iff_ne];omega
          clear HBD HSU HAT2 hy0
          go_wp2_with fail
          go_region_held3 (fun X:World=>X.cell? ⟨b,off+p,none⟩=some (.int .u64 ((0:Nat):Int))∧X.cell? ⟨b,off+q,none⟩=some (.int .u64 (y:Int))) (go_keep) (fail)
          go_wp2_with fail
          go_ret2
          exact ⟨zpb HV.out,HB.out.drew⟩
      · have HV:=hid (HBD.out (by rw[HAT2.out,show (x == 0)=false by rw[beq_eq_false_iff_ne];exact hx0];rfl))
        have d3:((x:Int) != 0)=true:=by rw[bne_iff_ne];omega
        have d3n:(x != 0)=true:=by rw[bne_iff_ne];omega
        clear HBD HSU HAT2 hx0
        go_wp2_with fail
        go_region_held3 (fun X:World=>X.cell? ⟨b,off+p,none⟩=some (.int .u64 (x:Int))∧X.cell? ⟨b,off+q,none⟩=some (.int .u64 (y:Int))) (go_keep) (fail)
        go_wp2_with fail
        go_ret2
        exact ⟨zpb HV.out,HB.out.drew⟩
  · obtain rfl:k=8:=by omega
    have HT:Hid (zgg ws t=true):=hid ((zfw ws t).2 HOK.out)
    obtain ⟨BO,dO,rfl⟩:=zbb HOW.out.1
    go_wp2_with fail
    go_ret2
    exact ⟨⟨BO,L.length,dO,L,by rw[HT.out];rfl,fun _=>⟨rfl,HOW.out,HLL.out⟩⟩,hB⟩
def zhl (ws:List Nat):Int:=if zah (ws.length:Int)=true then (if zyg ws=true then 0 else 50) else 8
def zdv (ws:List Nat):List Bk:=if zhl ws=0 then (blocks ws 128).getD [] else []
def zJd (ws:List Nat) (e:Ending) (w':World):Prop:=∃ A c,e=.returned (.tuple #[.slice A (zdv ws).length c,.int .i64 (zhl ws)])∧RdB w' w'.heap.size A (zdv ws)∧(zdv ws).length≤c
def zry (H:Nat) (ws:List Nat) (e:Ending) (w':World):Prop:=∃ A c,e=.returned (.tuple #[.slice A (zdv ws).length c,.int .i64 (zhl ws)])∧w'.ownsRow H 55 6 (.slice A (zdv ws).length c) (zdv ws).length ((zdv ws).flatMap Bk.cells)
theorem zr0 {H:Nat} {ws:List Nat} {w':World} {r:Int} (h:zhl ws=r) (h0:r≠0):zry H ws (.returned (.tuple #[.slice none 0 0,.int .i64 r])) w':=by
 have e:zdv ws=[]:=by unfold zdv;rw[if_neg (by rw[h];exact h0)]
 exact ⟨none,0,by rw[e,h];rfl,by rw[e];exact World.ownsRow_nil _ _ _ _⟩
set_option maxRecDepth 100000 in
set_option maxHeartbeats 4000000 in
theorem zDl (A:Option Addr) (ws:List Nat) (c n:Nat) (w:World) (hn:ws.length=n) (hm:n≤9223372036854775807) (hr:RdW w w.heap.size A ws) (ho:∀ x ∈ ws,x<18446744073709551616) :
   Calls Tryz.prog 26 #[.slice A n c] w fun e w'=>zry w.heap.size ws e w'∧Below w.heap.size w w':=by
 subst hn
 have HC:=hid (zzy A ws c ws.length 128 w rfl hm hr ho)
 unfold zux at HC
 clear hr ho
 by_cases h0:zca ws 128=0
 · have hs:zah (ws.length:Int)=true:=by
    cases hs:zah (ws.length:Int) with
    | true=>rfl
    | false=>rw[zff hs] at h0;cases h0
   have hb:=(zad _).1 hs
   have harg:ze0 ws.length 128=false:=by
    cases hq:ze0 ws.length 128 with
    | false=>rfl
    | true=>rw[zhw hs hq] at h0;cases h0
   have hbl:∃ l,blocks ws 128=some l:=by
    cases hl:blocks ws 128 with
    | none=>rw[zeh hs harg (by simpa using hl)] at h0;cases h0
    | some l=>exact ⟨l,rfl⟩
   obtain ⟨l,hl⟩:=hbl
   have hlen:=(zbs (by omega) _ _ hl (by omega) (by omega) (by omega)).1
   have hfo:za5 ws 128=l:=by unfold za5;rw[if_pos h0];simp[hl]
   rw[h0,hfo] at HC
   have HV:Hid (zhl ws=if ziw l=true then 0 else 50):=hid (by unfold zhl;rw[if_pos hs,zfz hl])
   have HVO:Hid (ziw l=true→zdv ws=l∧zhl ws=0):=hid fun h=>by
    have e:zhl ws=0:=by rw[HV.out,h];rfl
    exact ⟨by unfold zdv;rw[if_pos e,hl];rfl,e⟩
   have hl24:l.length≤1024:=by omega
   have HBD:=hid (fun k hk h=>zsd (l:=l) (k:=k) hk h)
   have HOK:=hid (zkh l)
   clear h0 hs hb harg hl hfo hlen hm
   go_enter Tryz.func26,Tryz.ntmps26
   go_wp2_with fail
   refine HC.out.mono ?_
   rintro e w1 ⟨⟨A1,c1,rfl,hown⟩,hB1⟩
   have HRD:=hid (show RdB _ _ _ _ from Rd.of_own hown)
   have HOWN:=hid hown
   have HB1:=hid hB1
   clear hown hB1
   go_wp2_with fail
   go_loopw [17] (fun i wr=>∃ k:Nat,k≤l.length∧i=.int .i64 k∧wr=w1∧Hid (zn2 l k)) (fun i _=>l.length - (intOf i).toNat)
   case atStart=>exact ⟨0,Nat.zero_le _,rfl,rfl,hid (zot l)⟩
   case round =>
    obtain ⟨k,hk,rfl,rfl,HQ⟩:=hrel
    by_cases hlt:k<l.length
    · have HNX:=hid (fun h=>zk6 HQ.out h)
      have HBK:=hid (HBD.out k hlt)
      by_cases hk0:k=0
      · subst hk0
        have HF:Hid (zn2 l (0+1)):=hid (HNX.out rfl)
        go_wp2_with fail
        go_roundw
        case rel=>exact ⟨0+1,by omega,by go_num,trivial,HF⟩
        case measure=>simp[intOf];omega
      · obtain ⟨b,off,rfl,hb,-,-,p2,-⟩:=RdB.at_ HRD.out hlt
        obtain ⟨b',off',e',-,-,-,r2,-⟩:=RdB.at_ HRD.out (show k - 1<l.length by omega)
        cases e'
        have hadj:zmm l k=((l[k - 1].kind == 2) && (l[k].kind == 2)):=by
          unfold zmm
          rw[zbt l k hlt,zbt l (k - 1) (by omega),show (k == 0)=false by rw[beq_eq_false_iff_ne];omega]
          rfl
        obtain ⟨x,hx⟩:∃ x,l[k].kind=x:=⟨_,rfl⟩
        obtain ⟨y,hy⟩:∃ y,l[k - 1].kind=y:=⟨_,rfl⟩
        rw[hx] at p2 hadj
        rw[hy] at r2 hadj
        have i1:IntKind.i64.wrap ((k:Int) - 1)=((k - 1:Nat):Int):=by rw[IntWalk.i64_in _ (by omega)];omega
        have hki:(k:Int)<(l.length:Int):=by omega
        have hk0':(0:Int)≤(k:Int):=by omega
        have hk1i:((k - 1:Nat):Int)<(l.length:Int):=by omega
        have hk10:(0:Int)≤((k - 1:Nat):Int):=by omega
        have d0:decide ((0:Int)<(k:Int))=true:=by rw[decide_eq_true_iff];omega
        have d0n:decide (0<k)=true:=by rw[decide_eq_true_iff];omega
        obtain ⟨m,hm⟩:∃ m,k - 1=m:=⟨_,rfl⟩
        rw[hm] at i1 hk1i hk10 r2
        have HA:=hid hadj
        clear hx hy HQ hm hadj hk0
        by_cases hx2:x=2
        · subst hx2
          by_cases hy2:y=2
          · subst hy2
            have HF:=hid (HBK.out (by rw[HA.out];rfl))
            have HW:Hid (zhl ws=50):=hid (by rw[HV.out,HF.out];rfl)
            go_wp2_with fail
            go_ret2
            exact ⟨zr0 HW.out (by decide),HB1.out⟩
          · have e1:(y == 2)=false:=by rw[beq_eq_false_iff_ne];exact hy2
            have HF:Hid (zn2 l (k+1)):=hid (HNX.out (by rw[HA.out,e1];rfl))
            clear hy2
            go_wp2_with fail
            go_roundw
            case rel=>exact ⟨k+1,by omega,by go_num,trivial,HF⟩
            case measure=>simp[intOf];omega
        · have e1:(x == 2)=false:=by rw[beq_eq_false_iff_ne];exact hx2
          have HF:Hid (zn2 l (k+1)):=hid (HNX.out (by rw[HA.out,e1,Bool.and_false]))
          clear hx2
          go_wp2_with fail
          go_roundw
          case rel=>exact ⟨k+1,by omega,by go_num,trivial,HF⟩
          case measure=>simp[intOf];omega
    · have hkl:k=l.length:=by omega
      have hend:decide ((k:Int)<(l.length:Int))=false:=by rw[decide_eq_false_iff_not];omega
      have hendn:decide (k<l.length)=false:=by rw[decide_eq_false_iff_not];exact hlt
      have HT:=hid (HVO.out (HOK.out.2 (hkl ▸ HQ.out)))
      clear hkl hlt hk
      go_wp2_with fail
      go_ret2
      exact ⟨⟨A1,c1,by rw[HT.out.1,HT.out.2];rfl,by rw[HT.out.1];exact HOWN.out⟩,HB1.out⟩
 · have hfo:za5 ws 128=[]:=by unfold za5;rw[if_neg h0]
   have hw:zhl ws=zca ws 128:=by
    unfold zhl
    cases hs:zah (ws.length:Int) with
    | false=>rw[zff hs];rfl
    | true =>
      have hb:=(zad _).1 hs
      have harg:ze0 ws.length 128=false:=by
        unfold ze0
        simp
        omega
      cases hl:blocks ws 128 with
      | none=>rw[znn hl,zeh hs harg (by simpa using hl)];rfl
      | some l =>
        exfalso
        apply h0
        simp[zca,hs,harg,hl]
   have HV:=hid hw
   rw[hfo] at HC
   have hne:(zca ws 128 != 0)=true:=by rw[bne_iff_ne];exact h0
   have H0:=hid h0
   obtain ⟨r,hr2⟩:∃ r,zca ws 128=r:=⟨_,rfl⟩
   rw[hr2] at HC HV hne H0
   clear h0 hfo hw hr2 hm
   go_enter Tryz.func26,Tryz.ntmps26
   go_wp2_with fail
   refine HC.out.mono ?_
   rintro e w1 ⟨⟨A1,c1,rfl,-⟩,hB1⟩
   go_wp2_with fail
   go_ret2
   exact ⟨zr0 HV.out H0.out,hB1⟩
theorem zry.old {H:Nat} {ws:List Nat} {e:Ending} {w':World} (h:zry H ws e w'):zJd ws e w':=by
 obtain ⟨A,c,rfl,hown⟩:=h
 refine ⟨A,c,rfl,Rd.of_own hown,?_⟩
 rcases hown.2 with ⟨h1,h2⟩|⟨g,cap,cur,h1,-,-,hle,-⟩
 · omega
 · injection h1 with _ _ h3
   omega
theorem wAll_c (A:Option Addr) (ws:List Nat) (c n:Nat) (w:World) (hn:ws.length=n) (hm:n≤9223372036854775807) (hr:RdW w w.heap.size A ws) (ho:∀ x ∈ ws,x<18446744073709551616) :
 Calls Tryz.prog 26 #[.slice A n c] w fun e w'=>zJd ws e w'∧Below w.heap.size w w':=(zDl A ws c n w hn hm hr ho).mono fun _ _ h=>⟨h.1.old,h.2⟩
set_option maxRecDepth 100000 in
set_option maxHeartbeats 2000000 in
theorem zu5 (A:Option Addr) (ws:List Nat) (c n a:Nat) (w:World) (hn:ws.length=n) (ha:a+8≤n) (hm:n≤2048) (hc:n≤c) (hr:RdW w w.heap.size A ws) :
  Calls Tryz.prog 157 #[.slice A n c,.int .i64 (a:Int)] w fun e w'=>e=.returned (.bool (zev ws a))∧w=w':=by
 subst hn
 have HR:=hid hr
 have HT:=hid (zhu ws a)
 obtain ⟨b,off,rfl,hb,-⟩:=RdW.at_ hr (show 0<ws.length by omega)
 have k2:IntKind.i64.wrap ((a:Int)+8)=((a+8:Nat):Int):=by rw[IntWalk.i64_in _ (by omega)];omega
 have k3:a+8≤c:=by omega
 have k4:a≤a+8:=by omega
 clear hr hb
 go_enter Tryz.func157,Tryz.ntmps157
 go_wp2_with fail
 go_loop [13] (fun i=>∃ k:Nat,k≤8∧i=.int .i64 k∧Hid (zor ws a k)) (fun i=>8 - (intOf i).toNat)
 case atStart=>exact ⟨0,Nat.zero_le _,rfl,hid fun i h=>absurd h (by omega)⟩
 case round =>
  obtain ⟨k,hk,rfl,HZ⟩:=hrel
  by_cases hlt:k<8
  · obtain ⟨b',off',e',hb,h0⟩:=RdW.at_ HR.out (show a+k<ws.length by omega)
    cases e'
    rw[←zcb] at h0
    have HN:Hid (wd ws (a+k)=0→zor ws a (k+1)):=hid fun h i hi=>by
      rcases Nat.lt_or_ge i k with h2|h2
      · exact HZ.out i h2
      · have:i=k:=by omega
        subst this;exact h
    have HB:Hid (wd ws (a+k)≠0→zev ws a=false):=hid fun h=>by
      cases hq:zev ws a with
      | false=>rfl
      | true=>exact absurd (HT.out.1 hq k hlt) h
    rw[←Nat.add_assoc] at h0
    obtain ⟨x,hx⟩:∃ x,wd ws (a+k)=x:=⟨_,rfl⟩
    rw[hx] at h0 HN HB
    have hki:(k:Int)<8:=by omega
    have hk0:(0:Int)≤(k:Int):=by omega
    clear hx hb
    by_cases hx0:x=0
    · have HN2:=hid (HN.out hx0)
      subst hx0
      go_wp2_with fail
      go_round
      case rel=>exact ⟨k+1,by omega,by go_num,HN2⟩
      case measure=>simp[intOf];omega
    · have HV:=hid (HB.out hx0)
      have e1:((x:Int) != 0)=true:=by rw[bne_iff_ne];omega
      have e1n:(x != 0)=true:=by rw[bne_iff_ne];exact hx0
      clear hx0
      go_wp2_with fail
      go_ret
      exact ⟨by rw[HV.out];rfl,rfl⟩
  · have HV:Hid (zev ws a=true):=hid (HT.out.2 fun i hi=>HZ.out i (by omega))
    obtain rfl:k=8:=by omega
    go_wp2_with fail
    go_ret
    exact ⟨by rw[HV.out];rfl,rfl⟩
end Go.Proofs.YtpcajamacpbjcaaGreat
namespace Go.Proofs.YtpcajamacpbjcaaGreat
open Lib (hid)
open Go.RowKit Go.Maps
def zgj (ad:List Int):Nat→DataW Unit
 | 0=>.map []
 | k+1=>(zgj ad k).put (.int .i64 (ad[k]?.getD 0)) (.lit (.bool true))
theorem zwr (ad:List Int) (k:Nat):IsMap (zgj ad k):=by
 induction k with
 | zero=>exact isMap_empty
 | succ k ih=>exact ih.put _ _
theorem zsq (ad:List Int) (x:Int) (k:Nat):(zgj ad k).atKey (.int .i64 x) (.lit (.bool false))=.lit (.bool (zgc ad x k)):=by
 induction k with
 | zero=>rfl
 | succ k ih =>
  simp only[zgj,zgc]
  by_cases e:ad[k]?.getD 0=x
  · rw[e,atKey_put_same (zwr ad k) (by trivial)];simp
  · rw[atKey_put_other (by intro h;injection h with _ h;exact e h.symm),ih]
    have:(ad[k]?.getD 0 == x)=false:=by rw[beq_eq_false_iff_ne];exact e
    rw[this,Bool.or_false]
theorem zj4 {H:Type} {P:Program} {e:TypeId} (he:P.underlying e=some .bool) {v:Value} {z:DataW H × List MemPlace} (h:plainElem P e v=some z):∃ c,v=.bool c∧z=(.lit (.bool c),[]):=by
 unfold plainElem at h
 rw[he] at h
 cases v <;> simp at h
 exact ⟨_,rfl,h.symm⟩
theorem znj {H:Type} {P:Program} {k e t:TypeId} {w:World} {b n:Nat} {D:DataW H} (h:w.ownsMap P k (plainElem P e) b n D) (K:Keyed P k) (ht:P.underlying t=some (.map k e)) (he:P.underlying e=some .bool) (hz:(zeroValue e).run P w=.ok (.bool false) w)
  {key:Value} {kl:Lit} (hkey:keyOf P k key=some kl) {c:Bool} (hc:D.atKey kl (.lit (.bool false))=.lit (.bool c)):(Instr.lookup t (.map (some b)) key false).run P w=.ok (.bool c) w:=by
 obtain ⟨v,ps,hrun,hv⟩:=h.lookup K ht hz (plainElem_bool he false) hkey
 obtain ⟨c',rfl,hc'⟩:=zj4 he hv
 simp only[Prod.mk.injEq] at hc'
 rw[hc] at hc'
 obtain ⟨h1,-⟩:=hc'
 injection h1 with h1
 injection h1 with h1
 subst h1
 exact hrun
theorem zCk:Keyed Tryz.prog 3:=int_keyed Tryz.underlying3
theorem zvl (w:World):(zeroValue 4).run Tryz.prog w=.ok (.bool false) w:=by kernel_rfl
theorem zmw {w:World} {h b n:Nat} {t k:TypeId} {cs:Array Value} {R:Value→Option (DataW Unit × List MemPlace)} {P:Program} {D:DataW Unit} (hb:Bx w h t cs) (ho:w.ownsMap P k R b n D):some h≠some b:=by
 rintro e
 injection e with e
 subst e
 obtain ⟨es,clock,hm,_⟩:=ho
 rw[show w.heap[h]? = _ from hb] at hm
 cases hm
end Go.Proofs.YtpcajamacpbjcaaGreat
namespace Go.Proofs.YtpcajamacpbjcaaGreat
open Lib (hid)
open Go.RowKit Go.Maps
theorem Bx.c5 {w:World} {g:Nat} {t:TypeId} {x0 x1 x2 x3 x4:Value} (h:Bx w g t #[x0,x1,x2,x3,x4]):w.cell? ⟨g,0,none⟩=some x0∧w.cell? ⟨g,1,none⟩=some x1∧w.cell? ⟨g,2,none⟩=some x2 ∧
  w.cell? ⟨g,3,none⟩=some x3∧w.cell? ⟨g,4,none⟩=some x4∧(∀ i,w.frozen? ⟨g,i,none⟩=false)∧g<w.heap.size:=
 ⟨h.cell 0,h.cell 1,h.cell 2,h.cell 3,h.cell 4,h.frozen,h.lt⟩
section
set_option maxRecDepth 100000
set_option maxHeartbeats 4000000
theorem zHk (A TA SA OA:Option Addr) (c n tc tn sc sn oc on mb a z ty nx:Nat) (xk:Int) (mk:Bool) (w:World) :
  Calls Tryz.prog 95 #[.agg #[.slice A n c,.slice TA tn tc,.slice SA sn sc,.slice OA on oc,.map (some mb)],.agg #[.int .i64 (a:Int),.int .i64 (z:Int),.int .i64 xk,.int .i64 (ty:Int),.bool mk,.int .u64 (nx:Int)]] w fun e w'=>e=.returned (.bool (!(mk || decide (0<nx))))∧Below w.heap.size w w':=by
 have xs:=(Bx.new w 163 #[.slice A n c,.slice TA tn tc,.slice SA sn sc,.slice OA on oc,.map (some mb)]).alloc (.cells #[.int .i64 (a:Int),.int .i64 (z:Int),.int .i64 xk,.int .i64 (ty:Int),.bool mk,.int .u64 (nx:Int)] 55)
 have xb:=Bx.new (w.alloc (.cells #[.slice A n c,.slice TA tn tc,.slice SA sn sc,.slice OA on oc,.map (some mb)] 163)) 55 #[.int .i64 (a:Int),.int .i64 (z:Int),.int .i64 xk,.int .i64 (ty:Int),.bool mk,.int .u64 (nx:Int)]
 rw[World.size_alloc] at xb
 have XS:=hid xs
 have XB:=hid xb
 have HB:=hid (((Below.refl w.heap.size w).alloc (Nat.le_refl _) (.cells #[.slice A n c,.slice TA tn tc,.slice SA sn sc,.slice OA on oc,.map (some mb)] 163)).alloc (by simp) (.cells #[.int .i64 (a:Int),.int .i64 (z:Int),.int .i64 xk,.int .i64 (ty:Int),.bool mk,.int .u64 (nx:Int)] 55))
 clear xs xb
 have e0:((nx:Int) == 0) = !decide (0<nx):=by
  rw[Bool.eq_iff_iff,beq_iff_eq,Bool.not_eq_true',decide_eq_false_iff_not];omega
 obtain ⟨q,hq⟩:∃ q,decide (0<nx)=q:=⟨_,rfl⟩
 rw[hq] at e0 ⊢
 clear hq
 cases mk
 all_goals
  go_enter Tryz.func95,Tryz.ntmps95
  go_wp2_with fail
  go_ret
  exact ⟨rfl,HB.out⟩
theorem zAe (A TA SA OA:Option Addr) (L:List Ty) (c n tc tn sc sn oc on mb a z ty nx:Nat) (xk:Int) (mk:Bool) (w:World) (ht:L.length=tn) (hk:∀ x ∈ L,zcv x.l=0∧kSz x.l=za8 x.l.length∧x.l.length≤8) (hL:RdL w w.heap.size TA L) :
   Calls Tryz.prog 96 #[.agg #[.slice A n c,.slice TA tn tc,.slice SA sn sc,.slice OA on oc,.map (some mb)],.agg #[.int .i64 (a:Int),.int .i64 (z:Int),.int .i64 xk,.int .i64 (ty:Int),.bool mk,.int .u64 (nx:Int)]] w fun e w'=>e=.returned (.bool (decide (ty<L.length) && za8 (((L.map Ty.l)[ty]?).getD []).length == z))∧Below w.heap.size w w':=by
 have xs:=(Bx.new w 163 #[.slice A n c,.slice TA tn tc,.slice SA sn sc,.slice OA on oc,.map (some mb)]).alloc (.cells #[.int .i64 (a:Int),.int .i64 (z:Int),.int .i64 xk,.int .i64 (ty:Int),.bool mk,.int .u64 (nx:Int)] 55)
 have xb:=Bx.new (w.alloc (.cells #[.slice A n c,.slice TA tn tc,.slice SA sn sc,.slice OA on oc,.map (some mb)] 163)) 55 #[.int .i64 (a:Int),.int .i64 (z:Int),.int .i64 xk,.int .i64 (ty:Int),.bool mk,.int .u64 (nx:Int)]
 rw[World.size_alloc] at xb
 have XS:=hid xs
 have XB:=hid xb
 have HB:=hid (((Below.refl w.heap.size w).alloc (Nat.le_refl _) (.cells #[.slice A n c,.slice TA tn tc,.slice SA sn sc,.slice OA on oc,.map (some mb)] 163)).alloc (by simp) (.cells #[.int .i64 (a:Int),.int .i64 (z:Int),.int .i64 xk,.int .i64 (ty:Int),.bool mk,.int .u64 (nx:Int)] 55))
 clear xs xb
 subst ht
 have HL:=hid (hL.up HB.out (Nat.le_refl _))
 have hz1:=HB.out.size
 clear hL
 by_cases hlt:ty<L.length
 · obtain ⟨b,off,rfl,hb,p0⟩:=zoj HL.out.1 hlt
   have hRY:=HL.out.2 _ (List.getElem_mem hlt)
   obtain ⟨hk1,hk2,hk3⟩:=hk _ (List.getElem_mem hlt)
   have HV:Hid ((decide (ty<L.length) && za8 (((L.map Ty.l)[ty]?).getD []).length == z)=(za8 L[ty].l.length == z)):=hid (by
    rw[decide_eq_true hlt,List.getElem?_map,List.getElem?_eq_getElem hlt]
    rfl)
   obtain ⟨x,hx⟩:∃ x,L[ty]=x:=⟨_,rfl⟩
   rw[hx] at p0 hk1 hk2 hk3 hRY HV
   obtain ⟨xA,xc,xl⟩:=x
   dsimp only at p0 hk1 hk2 hk3 hRY HV
   have HRY:=hid hRY
   have HS:=hid (fun W B (h:RdY W B xA xl)=>ztc xA xl xc xl.length B W rfl (by omega) h)
   rw[hk1,hk2] at HS
   have e0:(((za8 xl.length:Nat):Int) == (z:Int))=(za8 xl.length == z):=by
    rw[Bool.eq_iff_iff,beq_iff_eq,beq_iff_eq];omega
   obtain ⟨o,ho⟩:∃ o,za8 xl.length=o:=⟨_,rfl⟩
   rw[ho] at HV HS e0
   obtain ⟨q,hq⟩:∃ q,(o == z)=q:=⟨_,rfl⟩
   rw[hq] at HV e0
   have d1:decide ((L.length:Int)≤(ty:Int))=false:=by rw[decide_eq_false_iff_not];omega
   have d1n:decide (L.length≤ty)=false:=by rw[decide_eq_false_iff_not];omega
   have j1:(ty:Int)<(L.length:Int):=by omega
   have j0:(0:Int)≤(ty:Int):=by omega
   clear hx ho hq hk hk1 hk2 hk3 hRY hlt hb
   go_enter Tryz.func96,Tryz.ntmps96
   go_wp2_with fail
   refine (HS.out _ _ HRY.out).mono ?_
   rintro e w1 ⟨rfl,rfl⟩
   go_wp2_with fail
   go_ret
   exact ⟨by rw[HV.out];rfl,HB.out⟩
 · have HV:Hid ((decide (ty<L.length) && za8 (((L.map Ty.l)[ty]?).getD []).length == z)=false):=hid (by rw[decide_eq_false hlt];rfl)
   have d1:decide ((L.length:Int)≤(ty:Int))=true:=by rw[decide_eq_true_iff];omega
   have d1n:decide (L.length≤ty)=true:=by rw[decide_eq_true_iff];omega
   clear hlt hk
   go_enter Tryz.func96,Tryz.ntmps96
   go_wp2_with fail
   go_ret
   exact ⟨by rw[HV.out];rfl,HB.out⟩
end
end Go.Proofs.YtpcajamacpbjcaaGreat
namespace Go.Proofs.YtpcajamacpbjcaaGreat
open Lib (hid)
open Go.RowKit Go.Maps
theorem zF3 {q:Nat} (h:q<18446744073709551616):bits BinOp.and .u64 (q:Int) 2047=((q % 2048:Nat):Int):=by
 have:=u64_and_nat q 2047 h (by omega)
 rw[show (((2047:Nat)):Int)=2047 from rfl] at this
 rw[this]
 have e:q &&& 2047=q % 2048:=by
  rw[show (2047:Nat)=2 ^ 11 - 1 by decide,Nat.and_two_pow_sub_one_eq_mod]
 rw[e]
set_option maxRecDepth 100000 in
set_option maxHeartbeats 2000000 in
theorem zBu (v:Nat) (w:World) (hv:v<18446744073709551616):Calls Tryz.prog 159 #[.int .u64 (v:Int)] w fun e w'=>e=.returned (.bool (zs0 v))∧w=w':=by
 have HV:Hid (zs0 v=(v == 9221120237041090561 || decide (v % 9223372036854775808≤9218868437227405312))):=hid rfl
 have HF1:Hid (v / 4503599627370496 % 2048≠2047→zs0 v=true):=hid fun h=>by rw[HV.out,decide_eq_true (by omega),Bool.or_true]
 have HF2:Hid (v * 4096 % 18446744073709551616=0→zs0 v=true):=hid fun h=>by rw[HV.out,decide_eq_true (by omega),Bool.or_true]
 have HF3:Hid (v / 4503599627370496 % 2048=2047→¬ v * 4096 % 18446744073709551616=0→zs0 v=(v == 9221120237041090561)):=hid fun h h2=>by rw[HV.out,decide_eq_false (by omega),Bool.or_false]
 have ha:=zF3 (q:=v / 4503599627370496) (by omega)
 have hd:(v:Int) / 4503599627370496=((v / 4503599627370496:Nat):Int):=by omega
 have hm:IntKind.u64.wrap ((v:Int) * 4096)=((v * 4096 % 18446744073709551616:Nat):Int):=by simp[IntKind.wrap,IntKind.bits,IntKind.signed]
 obtain ⟨q,hq⟩:∃ q,v / 4503599627370496=q:=⟨_,rfl⟩
 rw[hq] at HF1 HF3 ha hd
 obtain ⟨r,hr⟩:∃ r,q % 2048=r:=⟨_,rfl⟩
 rw[hr] at HF1 HF3 ha
 obtain ⟨m,hm2⟩:∃ m,v * 4096 % 18446744073709551616=m:=⟨_,rfl⟩
 rw[hm2] at HF2 HF3 hm
 have e3:((v:Int) == 9221120237041090561)=(v == 9221120237041090561):=by rw[Bool.eq_iff_iff,beq_iff_eq,beq_iff_eq];omega
 clear hq hr hm2 hv
 by_cases h1:r=2047
 · have e1:((r:Int) != 2047)=false:=by rw[bne_eq_false_iff_eq];omega
   by_cases h2:m=0
   · have HF:=hid (HF2.out h2)
     have e2:((m:Int) == 0)=true:=by rw[beq_iff_eq];omega
     clear h1 h2
     go_enter Tryz.func159,Tryz.ntmps159
     go_wp2_with fail
     go_ret
     exact ⟨by rw[HF.out];rfl,rfl⟩
   · have HF:=hid (HF3.out h1 h2)
     have e2:((m:Int) == 0)=false:=by rw[beq_eq_false_iff_ne];omega
     clear h1 h2
     go_enter Tryz.func159,Tryz.ntmps159
     go_wp2_with fail
     go_ret
     exact ⟨by rw[HF.out];rfl,rfl⟩
 · have HF:=hid (HF1.out h1)
   have e1:((r:Int) != 2047)=true:=by rw[bne_iff_ne];omega
   clear h1
   go_enter Tryz.func159,Tryz.ntmps159
   go_wp2_with fail
   go_ret
   exact ⟨by rw[HF.out];rfl,rfl⟩
theorem zq4 (O:List Bk) (v:Nat):∀ k,k≤O.length→zgc (O.map Bk.at_) (v:Int) k=(O.take k).any fun b=>b.at_ == (v:Int):=by
 intro k
 induction k with
 | zero=>intro _;rfl
 | succ k ih =>
  intro hk
  simp only[zgc]
  rw[ih (by omega),List.take_succ_eq_append_getElem (show k<O.length from hk),List.any_append,List.getElem?_map,List.getElem?_eq_getElem (show k<O.length from hk)]
  simp
theorem zva (O:List Bk) (v:Nat):zgc (O.map Bk.at_) (v:Int) O.length=zlx O v:=by
 rw[zq4 O v O.length (Nat.le_refl _),List.take_length]
 rfl
structure SgW (W:World) (A TA:Option Addr) (ws:List Nat) (L:List Ty) (O:List Bk) (mb:Nat):Prop where
 w:RdW W W.heap.size A ws
 t:RdL W W.heap.size TA L
 m:W.ownsMap Tryz.prog 3 (plainElem Tryz.prog 4) mb O.length (zgj (O.map Bk.at_) O.length)
theorem zd0 {w w':World} {b n:Nat} {k:TypeId} {R:Value→Option (DataW Unit × List MemPlace)} {P:Program} {D:DataW Unit} (h:w.ownsMap P k R b n D) (hb:w'.heap[b]? = w.heap[b]?):w'.ownsMap P k R b n D:=by
 obtain ⟨es,clock,h1,r⟩:=h
 exact ⟨es,clock,hb.trans h1,r⟩
set_option maxRecDepth 100000 in
set_option maxHeartbeats 4000000 in
theorem zx1 (A TA SA OA:Option Addr) (ws:List Nat) (L:List Ty) (c n tc tn sc sn oc on mb a z ty nx:Nat) (xk:Int) (mk:Bool) (w:World) (hn:ws.length=n) (hm:n≤2048) (ht:L.length=tn) (hty:ty<L.length) (h8:L[ty].l.length≤8) (hz:z=za8 L[ty].l.length) (haz:a+z≤n) (hR:RdW w w.heap.size A ws) (hL:RdL w w.heap.size TA L) :
   Calls Tryz.prog 97 #[.agg #[.slice A n c,.slice TA tn tc,.slice SA sn sc,.slice OA on oc,.map (some mb)],.agg #[.int .i64 (a:Int),.int .i64 (z:Int),.int .i64 xk,.int .i64 (ty:Int),.bool mk,.int .u64 (nx:Int)]] w fun e w'=>e=.returned (.bool (!(decide (L[ty].l.length+2<z) && wd ws (a+2+L[ty].l.length) != 0)))∧Below w.heap.size w w':=by
 have xs:=(Bx.new w 163 #[.slice A n c,.slice TA tn tc,.slice SA sn sc,.slice OA on oc,.map (some mb)]).alloc (.cells #[.int .i64 (a:Int),.int .i64 (z:Int),.int .i64 xk,.int .i64 (ty:Int),.bool mk,.int .u64 (nx:Int)] 55)
 have xb:=Bx.new (w.alloc (.cells #[.slice A n c,.slice TA tn tc,.slice SA sn sc,.slice OA on oc,.map (some mb)] 163)) 55 #[.int .i64 (a:Int),.int .i64 (z:Int),.int .i64 xk,.int .i64 (ty:Int),.bool mk,.int .u64 (nx:Int)]
 rw[World.size_alloc] at xb
 have XS:=hid xs
 have XB:=hid xb
 have HB:=hid (((Below.refl w.heap.size w).alloc (Nat.le_refl _) (.cells #[.slice A n c,.slice TA tn tc,.slice SA sn sc,.slice OA on oc,.map (some mb)] 163)).alloc (by simp) (.cells #[.int .i64 (a:Int),.int .i64 (z:Int),.int .i64 xk,.int .i64 (ty:Int),.bool mk,.int .u64 (nx:Int)] 55))
 clear xs xb
 subst ht hn
 have HL:=hid (hL.up HB.out (Nat.le_refl _))
 have hz1:=HB.out.size
 obtain ⟨b,off,rfl,hb,p0⟩:=zoj HL.out.1 hty
 obtain ⟨x,hx⟩:∃ x,L[ty]=x:=⟨_,rfl⟩
 rw[hx] at p0 h8 hz ⊢
 obtain ⟨xA,xc,xl⟩:=x
 dsimp only at p0 h8 hz ⊢
 have j1:(ty:Int)<(L.length:Int):=by omega
 have j0:(0:Int)≤(ty:Int):=by omega
 obtain ⟨m,hml⟩:∃ m,xl.length=m:=⟨_,rfl⟩
 rw[hml] at p0 h8 hz ⊢
 by_cases hev:m % 2=0
 · have HV:Hid ((!(decide (m+2<z) && wd ws (a+2+m) != 0))=true):=hid (by rw[decide_eq_false (by rw[hz];unfold za8;omega)];rfl)
   have e1:((m:Int) % 2 == 0)=true:=by rw[beq_iff_eq];omega
   clear hev hz haz h8 hm hx hml hL hR hb
   go_enter Tryz.func97,Tryz.ntmps97
   go_wp2_with fail
   go_ret
   exact ⟨by rw[HV.out];rfl,HB.out⟩
 · obtain ⟨b2,off2,rfl,hb2,q0⟩:=RdW.at_ (hR.up HB.out (Nat.le_refl _)) (show a+2+m<ws.length by rw[hz] at haz;unfold za8 at haz;omega)
   rw[←zcb] at q0
   have i1:IntKind.i64.wrap ((a:Int)+2)=((a+2:Nat):Int):=by rw[IntWalk.i64_in _ (by omega)];omega
   have i2:IntKind.i64.wrap (((a+2:Nat):Int)+(m:Int))=((a+2+m:Nat):Int):=by rw[IntWalk.i64_in _ (by omega)];omega
   have k1:((a+2+m:Nat):Int)<(ws.length:Int):=by rw[hz] at haz;unfold za8 at haz;omega
   have k0:(0:Int)≤((a+2+m:Nat):Int):=by omega
   have HV:Hid ((!(decide (m+2<z) && wd ws (a+2+m) != 0))=(wd ws (a+2+m) == 0)):=hid (by rw[decide_eq_true (by rw[hz];unfold za8;omega),Bool.true_and];exact Bool.not_not _)
   have e1:((m:Int) % 2 == 0)=false:=by rw[beq_eq_false_iff_ne];omega
   obtain ⟨p,hp⟩:∃ p,a+2+m=p:=⟨_,rfl⟩
   rw[hp] at q0 i2 k1 k0 HV
   obtain ⟨g,hg⟩:∃ g,a+2=g:=⟨_,rfl⟩
   rw[hg] at i1 i2
   obtain ⟨v,hv⟩:∃ v,wd ws p=v:=⟨_,rfl⟩
   rw[hp,hv]
   rw[hv] at q0 HV
   have e2:((v:Int) == 0)=(v == 0):=by rw[Bool.eq_iff_iff,beq_iff_eq,beq_iff_eq];omega
   obtain ⟨q,hq⟩:∃ q,(v == 0)=q:=⟨_,rfl⟩
   rw[hq] at HV e2
   clear hev hz haz h8 hm hx hml hL hR hb hp hg hv hq hb2
   go_enter Tryz.func97,Tryz.ntmps97
   go_wp2_with fail
   go_ret
   exact ⟨by rw[HV.out];rfl,HB.out⟩
def zIn (ws F:List Nat) (O:List Bk) (a r k:Nat):Prop:=∀ i,i<k→wrF ws F O a r i=false
theorem zsa {ws F:List Nat} {O:List Bk} {a r k:Nat} (h:zIn ws F O a r k) (h1:wrF ws F O a r k=false):zIn ws F O a r (k+1):=fun i hi=>by
 rcases Nat.lt_or_ge i k with h2|h2
 · exact h i h2
 · have:i=k:=by omega
   subst this;exact h1
theorem zIa {ws F:List Nat} {O:List Bk} {a r:Nat} (h:zIn ws F O a r F.length):((List.range F.length).any fun i=>wrF ws F O a r i)=false:=by
 rw[List.any_eq_false]
 intro i hi
 rw[h i (List.mem_range.1 hi)];simp
theorem zHo {ws F:List Nat} {O:List Bk} {a r k:Nat} (hk:k<F.length) (h:wrF ws F O a r k=true):((List.range F.length).any fun i=>wrF ws F O a r i)=true:=List.any_eq_true.2 ⟨k,List.mem_range.2 hk,h⟩
section
set_option maxRecDepth 100000
set_option maxHeartbeats 4000000
theorem zxh (A TA SA OA:Option Addr) (ws:List Nat) (L:List Ty) (O:List Bk) (c n tc tn sc sn oc on mb a z ty nx:Nat) (xk:Int) (mk:Bool) (w:World) (hn:ws.length=n) (hm:n≤2048) (ht:L.length=tn) (hty:ty<L.length) (h8:L[ty].l.length≤8) (hz:z=za8 L[ty].l.length) (haz:a+z≤n) (hR:RdW w w.heap.size A ws) (hL:RdL w w.heap.size TA L) (ho:∀ x ∈ ws,x<18446744073709551616) :
  Calls Tryz.prog 98 #[.agg #[.slice A n c,.slice TA tn tc,.slice SA sn sc,.slice OA on oc,.map (some mb)],.agg #[.int .i64 (a:Int),.int .i64 (z:Int),.int .i64 xk,.int .i64 (ty:Int),.bool mk,.int .u64 (nx:Int)]] w fun e w'=>e=.returned (.bool (!((List.range L[ty].l.length).any fun i=>wrF ws L[ty].l O a 10 i)))∧Below w.heap.size w w':=by
 have xs:=(Bx.new w 163 #[.slice A n c,.slice TA tn tc,.slice SA sn sc,.slice OA on oc,.map (some mb)]).alloc (.cells #[.int .i64 (a:Int),.int .i64 (z:Int),.int .i64 xk,.int .i64 (ty:Int),.bool mk,.int .u64 (nx:Int)] 55)
 have xb:=Bx.new (w.alloc (.cells #[.slice A n c,.slice TA tn tc,.slice SA sn sc,.slice OA on oc,.map (some mb)] 163)) 55 #[.int .i64 (a:Int),.int .i64 (z:Int),.int .i64 xk,.int .i64 (ty:Int),.bool mk,.int .u64 (nx:Int)]
 rw[World.size_alloc] at xb
 have XS:=hid xs
 have XB:=hid xb
 have HB:=hid (((Below.refl w.heap.size w).alloc (Nat.le_refl _) (.cells #[.slice A n c,.slice TA tn tc,.slice SA sn sc,.slice OA on oc,.map (some mb)] 163)).alloc (by simp) (.cells #[.int .i64 (a:Int),.int .i64 (z:Int),.int .i64 xk,.int .i64 (ty:Int),.bool mk,.int .u64 (nx:Int)] 55))
 clear xs xb
 subst ht hn
 have HL:=hid (hL.up HB.out (Nat.le_refl _))
 have hz1:=HB.out.size
 obtain ⟨b,off,rfl,hb,p0⟩:=zoj HL.out.1 hty
 have hy:=HL.out.2 _ (List.getElem_mem hty)
 obtain ⟨x,hx⟩:∃ x,L[ty]=x:=⟨_,rfl⟩
 rw[hx] at p0 h8 hz hy ⊢
 obtain ⟨xA,xc,xl⟩:=x
 dsimp only at p0 h8 hz hy ⊢
 have HY:=hid hy
 have HR:=hid (hR.up HB.out (Nat.le_refl _))
 have j1:(ty:Int)<(L.length:Int):=by omega
 have j0:(0:Int)≤(ty:Int):=by omega
 have hal:Hid (∀ k,k<xl.length→a+2+k<ws.length):=hid fun k hk=>by rw[hz] at haz;unfold za8 at haz;omega
 have HLT:=hid (ze6 ho)
 have HWT:Hid (zIn ws xl O a 10 0):=hid fun i h=>absurd h (by omega)
 have HWA:=hid (fun h=>zIa (ws:=ws) (F:=xl) (O:=O) (a:=a) (r:=10) h)
 have HWB:=hid (fun k hk h=>zHo (ws:=ws) (F:=xl) (O:=O) (a:=a) (r:=10) (k:=k) hk h)
 have ha:a≤2048:=by omega
 obtain ⟨q0,q1,q2,q3,q4,-,-⟩:=XS.out.c5
 obtain ⟨r0,r1,r2,r3,r4,r5,-,-⟩:=XB.out.c6
 obtain ⟨W0,hW0⟩:∃ W0,(w.alloc (.cells #[.slice A ws.length c,.slice (some ⟨b,off,none⟩) L.length tc,.slice SA sn sc,.slice OA on oc,.map (some mb)] 163)).alloc (.cells #[.int .i64 (a:Int),.int .i64 (z:Int),.int .i64 xk,.int .i64 (ty:Int),.bool mk,.int .u64 (nx:Int)] 55)=W0:=⟨_,rfl⟩
 rw[hW0] at p0 HY HR q0 q1 q2 q3 q4 r0 r1 r2 r3 r4 r5
 have HBW:=hid (show Below w.heap.size w W0 by rw[←hW0];exact HB.out)
 clear hz haz hm hx hL hR hb hy ho XS XB HB HL hz1
 go_enter Tryz.func98,Tryz.ntmps98
 go_wp2_with fail
 clear hW0
 go_loop [14] (fun i=>∃ k:Nat,k≤xl.length∧i=.int .i64 k∧Hid (zIn ws xl O a 10 k)) (fun i=>xl.length - (intOf i).toNat)
 case atStart=>exact ⟨0,Nat.zero_le _,rfl,HWT⟩
 case round =>
  obtain ⟨k,hk,rfl,HW⟩:=hrel
  by_cases hlt:k<xl.length
  · obtain ⟨g,go,rfl,hg,y0⟩:=HY.out.at_ hlt
    obtain ⟨d,dof,rfl,hd,w0⟩:=RdW.at_ HR.out (hal.out k hlt)
    rw[←zcb] at w0
    have hj:=hal.out k hlt
    have HF:=hid (fun W=>zBu (wd ws (a+2+k)) W (HLT.out _))
    have hwr:wrF ws xl O a 10 k=(xl[k]? == some 2 && !zs0 (wd ws (a+2+k))):=rfl
    rw[List.getElem?_eq_getElem hlt] at hwr
    have HS:=hid (fun h=>zsa HW.out h)
    have HBD:=hid (fun h=>HWB.out k hlt h)
    have i1:IntKind.i64.wrap ((a:Int)+2)=((a+2:Nat):Int):=by rw[IntWalk.i64_in _ (by omega)];omega
    have i2:IntKind.i64.wrap (((a+2:Nat):Int)+(k:Int))=((a+2+k:Nat):Int):=by rw[IntWalk.i64_in _ (by omega)];omega
    have k1:((a+2+k:Nat):Int)<(ws.length:Int):=by omega
    have k0:(0:Int)≤((a+2+k:Nat):Int):=by omega
    have hki:(k:Int)<(xl.length:Int):=by omega
    have hk0:(0:Int)≤(k:Int):=by omega
    obtain ⟨y,hyk⟩:∃ y,xl[k]=y:=⟨_,rfl⟩
    rw[hyk] at y0 hwr
    obtain ⟨p,hp⟩:∃ p,a+2+k=p:=⟨_,rfl⟩
    rw[hp] at w0 i2 k1 k0 HF hwr
    obtain ⟨s,hs⟩:∃ s,a+2=s:=⟨_,rfl⟩
    rw[hs] at i1 i2
    obtain ⟨v,hv⟩:∃ v,wd ws p=v:=⟨_,rfl⟩
    rw[hv] at w0 HF hwr
    obtain ⟨f,hf⟩:∃ f,zs0 v=f:=⟨_,rfl⟩
    rw[hf] at HF hwr
    have HWR:=hid hwr
    clear hyk hp hs hv hf hwr hj
    by_cases hy2:y=2
    · subst hy2
      cases f
      · have HV:=hid (HBD.out (by rw[HWR.out];rfl))
        go_wp2_with fail
        refine (HF.out _).mono ?_
        rintro e w5 ⟨rfl,rfl⟩
        go_wp2_with fail
        go_ret
        exact ⟨by rw[HV.out];rfl,HBW.out⟩
      · have HN:=hid (HS.out (by rw[HWR.out];rfl))
        go_wp2_with fail
        refine (HF.out _).mono ?_
        rintro e w5 ⟨rfl,rfl⟩
        go_wp2_with fail
        go_round
        case rel=>exact ⟨k+1,by omega,by go_num,HN⟩
        case measure=>simp[intOf];omega
    · have e1:((y:Int) == 2)=false:=by rw[beq_eq_false_iff_ne];omega
      have HN:=hid (HS.out (by rw[HWR.out,show ((some y:Option Nat) == some 2)=false by simpa using hy2];rfl))
      clear hy2
      go_wp2_with fail
      go_round
      case rel=>exact ⟨k+1,by omega,by go_num,HN⟩
      case measure=>simp[intOf];omega
  · have hkl:k=xl.length:=by omega
    have HV:=hid (HWA.out (hkl ▸ HW.out))
    have hend:decide ((k:Int)<(xl.length:Int))=false:=by rw[decide_eq_false_iff_not];omega
    have hendn:decide (k<xl.length)=false:=by rw[decide_eq_false_iff_not];exact hlt
    clear hkl hlt hk
    go_wp2_with fail
    go_ret
    exact ⟨by rw[HV.out];rfl,HBW.out⟩
theorem zE1 (A TA SA OA:Option Addr) (ws:List Nat) (L:List Ty) (O:List Bk) (c n tc tn sc sn oc on mb a z ty nx:Nat) (xk:Int) (mk:Bool) (w:World) (hn:ws.length=n) (hm:n≤2048) (ht:L.length=tn) (hty:ty<L.length) (h8:L[ty].l.length≤8) (hz:z=za8 L[ty].l.length) (haz:a+z≤n) (hR:RdW w w.heap.size A ws) (hL:RdL w w.heap.size TA L) (ho:∀ x ∈ ws,x<18446744073709551616) (hO:∀ b ∈ O,b.at_<(n:Int)) (hM:w.ownsMap Tryz.prog 3 (plainElem Tryz.prog 4) mb O.length (zgj (O.map Bk.at_) O.length)) :
  Calls Tryz.prog 99 #[.agg #[.slice A n c,.slice TA tn tc,.slice SA sn sc,.slice OA on oc,.map (some mb)],.agg #[.int .i64 (a:Int),.int .i64 (z:Int),.int .i64 xk,.int .i64 (ty:Int),.bool mk,.int .u64 (nx:Int)]] w fun e w'=>e=.returned (.bool (!((List.range L[ty].l.length).any fun i=>wrF ws L[ty].l O a 11 i)))∧Below w.heap.size w w':=by
 have xs:=(Bx.new w 163 #[.slice A n c,.slice TA tn tc,.slice SA sn sc,.slice OA on oc,.map (some mb)]).alloc (.cells #[.int .i64 (a:Int),.int .i64 (z:Int),.int .i64 xk,.int .i64 (ty:Int),.bool mk,.int .u64 (nx:Int)] 55)
 have xb:=Bx.new (w.alloc (.cells #[.slice A n c,.slice TA tn tc,.slice SA sn sc,.slice OA on oc,.map (some mb)] 163)) 55 #[.int .i64 (a:Int),.int .i64 (z:Int),.int .i64 xk,.int .i64 (ty:Int),.bool mk,.int .u64 (nx:Int)]
 rw[World.size_alloc] at xb
 have XS:=hid xs
 have XB:=hid xb
 have HB:=hid (((Below.refl w.heap.size w).alloc (Nat.le_refl _) (.cells #[.slice A n c,.slice TA tn tc,.slice SA sn sc,.slice OA on oc,.map (some mb)] 163)).alloc (by simp) (.cells #[.int .i64 (a:Int),.int .i64 (z:Int),.int .i64 xk,.int .i64 (ty:Int),.bool mk,.int .u64 (nx:Int)] 55))
 clear xs xb
 subst ht hn
 have HL:=hid (hL.up HB.out (Nat.le_refl _))
 have hz1:=HB.out.size
 obtain ⟨b,off,rfl,hb,p0⟩:=zoj HL.out.1 hty
 have hy:=HL.out.2 _ (List.getElem_mem hty)
 obtain ⟨x,hx⟩:∃ x,L[ty]=x:=⟨_,rfl⟩
 rw[hx] at p0 h8 hz hy ⊢
 obtain ⟨xA,xc,xl⟩:=x
 dsimp only at p0 h8 hz hy ⊢
 have HY:=hid hy
 have HR:=hid (hR.up HB.out (Nat.le_refl _))
 have j1:(ty:Int)<(L.length:Int):=by omega
 have j0:(0:Int)≤(ty:Int):=by omega
 have hal:Hid (∀ k,k<xl.length→a+2+k<ws.length):=hid fun k hk=>by rw[hz] at haz;unfold za8 at haz;omega
 have HLT:=hid (ze6 ho)
 have HM2:=hid hm
 have HMB:=hid (zd0 hM (HB.out.block mb hM.lt))
 have HOV:Hid (∀ v:Nat,ws.length≤v→zlx O v=false):=hid fun v hv=>by
  cases hq:zlx O v with
  | false=>rfl
  | true =>
    obtain ⟨b,hb,e⟩:=List.any_eq_true.1 hq
    rw[beq_iff_eq] at e
    have:=hO b hb
    omega
 have HWT:Hid (zIn ws xl O a 11 0):=hid fun i h=>absurd h (by omega)
 have HWA:=hid (fun h=>zIa (ws:=ws) (F:=xl) (O:=O) (a:=a) (r:=11) h)
 have HWB:=hid (fun k hk h=>zHo (ws:=ws) (F:=xl) (O:=O) (a:=a) (r:=11) (k:=k) hk h)
 have ha:a≤2048:=by omega
 obtain ⟨q0,q1,q2,q3,q4,-,-⟩:=XS.out.c5
 obtain ⟨r0,r1,r2,r3,r4,r5,-,-⟩:=XB.out.c6
 obtain ⟨W0,hW0⟩:∃ W0,(w.alloc (.cells #[.slice A ws.length c,.slice (some ⟨b,off,none⟩) L.length tc,.slice SA sn sc,.slice OA on oc,.map (some mb)] 163)).alloc (.cells #[.int .i64 (a:Int),.int .i64 (z:Int),.int .i64 xk,.int .i64 (ty:Int),.bool mk,.int .u64 (nx:Int)] 55)=W0:=⟨_,rfl⟩
 rw[hW0] at p0 HY HR HMB q0 q1 q2 q3 q4 r0 r1 r2 r3 r4 r5
 have HBW:=hid (show Below w.heap.size w W0 by rw[←hW0];exact HB.out)
 clear hz haz hm hx hL hR hb hy ho hO hM XS XB HB HL hz1
 go_enter Tryz.func99,Tryz.ntmps99
 go_wp2_with fail
 clear hW0
 go_loop [15] (fun i=>∃ k:Nat,k≤xl.length∧i=.int .i64 k∧Hid (zIn ws xl O a 11 k)) (fun i=>xl.length - (intOf i).toNat)
 case atStart=>exact ⟨0,Nat.zero_le _,rfl,HWT⟩
 case round =>
  obtain ⟨k,hk,rfl,HW⟩:=hrel
  by_cases hlt:k<xl.length
  · obtain ⟨g,go,rfl,hg,y0⟩:=HY.out.at_ hlt
    obtain ⟨d,dof,rfl,hd,w0⟩:=RdW.at_ HR.out (hal.out k hlt)
    rw[←zcb] at w0
    have hj:=hal.out k hlt
    have hwr:wrF ws xl O a 11 k=(xl[k]? == some 3 && (decide (0<wd ws (a+2+k)) && !zlx O (wd ws (a+2+k)))):=rfl
    rw[List.getElem?_eq_getElem hlt] at hwr
    have hvl:=HLT.out (a+2+k)
    have HS:=hid (fun h=>zsa HW.out h)
    have HBD:=hid (fun h=>HWB.out k hlt h)
    have i1:IntKind.i64.wrap ((a:Int)+2)=((a+2:Nat):Int):=by rw[IntWalk.i64_in _ (by omega)];omega
    have i2:IntKind.i64.wrap (((a+2:Nat):Int)+(k:Int))=((a+2+k:Nat):Int):=by rw[IntWalk.i64_in _ (by omega)];omega
    have k1:((a+2+k:Nat):Int)<(ws.length:Int):=by omega
    have k0:(0:Int)≤((a+2+k:Nat):Int):=by omega
    have hki:(k:Int)<(xl.length:Int):=by omega
    have hk0:(0:Int)≤(k:Int):=by omega
    have w1:IntKind.u64.wrap (ws.length:Int)=(ws.length:Int):=IntWalk.u64_in _ (by have:=HM2.out;omega)
    obtain ⟨y,hyk⟩:∃ y,xl[k]=y:=⟨_,rfl⟩
    rw[hyk] at y0 hwr
    obtain ⟨p,hp⟩:∃ p,a+2+k=p:=⟨_,rfl⟩
    rw[hp] at w0 i2 k1 k0 hwr hvl
    obtain ⟨s,hs⟩:∃ s,a+2=s:=⟨_,rfl⟩
    rw[hs] at i1 i2
    obtain ⟨v,hv⟩:∃ v,wd ws p=v:=⟨_,rfl⟩
    rw[hv] at w0 hwr hvl
    have HWR:=hid hwr
    have HOVv:=hid (HOV.out v)
    clear hyk hp hs hv hwr hj
    by_cases hy2:y=3
    · subst hy2
      by_cases hv0:v=0
      · subst hv0
        have HN:=hid (HS.out (by rw[HWR.out];rfl))
        clear hvl
        go_wp2_with fail
        go_round
        case rel=>exact ⟨k+1,by omega,by go_num,HN⟩
        case measure=>simp[intOf];omega
      · have e1:((v:Int) != 0)=true:=by rw[bne_iff_ne];omega
        have e1n:(v != 0)=true:=by rw[bne_iff_ne];omega
        by_cases hvn:ws.length≤v
        · have HV:=hid (HBD.out (by rw[HWR.out,HOVv.out hvn,decide_eq_true (by omega)];rfl))
          have d1:decide ((ws.length:Int)≤(v:Int))=true:=by rw[decide_eq_true_iff];omega
          have d1n:decide (ws.length≤v)=true:=by rw[decide_eq_true_iff];omega
          clear hvl hvn hv0
          go_wp2_with fail
          go_ret
          exact ⟨by rw[HV.out];rfl,HBW.out⟩
        · have d1:decide ((ws.length:Int)≤(v:Int))=false:=by rw[decide_eq_false_iff_not];omega
          have d1n:decide (ws.length≤v)=false:=by rw[decide_eq_false_iff_not];omega
          have w2:IntKind.i64.wrap (v:Int)=(v:Int):=IntWalk.i64_in _ (by have:=HM2.out;omega)
          have hwf:(Lit.int .i64 (v:Int)).wf=true:=by have:=HM2.out;simp[Lit.wf,IntKind.min,IntKind.max,IntKind.signed,IntKind.bits];omega
          have hlk:=znj HMB.out zCk Tryz.underlying161 Tryz.underlying4 (zvl W0) (keyOf_int_mk (P:=Tryz.prog) Tryz.underlying3 hwf) (c:=zlx O v) (by rw[zsq,zva])
          have HW3:Hid (wrF ws xl O a 11 k = !zlx O v):=hid (by rw[HWR.out,decide_eq_true (by omega)];simp)
          obtain ⟨q,hq⟩:∃ q,zlx O v=q:=⟨_,rfl⟩
          rw[hq] at hlk HW3
          clear hvl hvn hv0 hwf hq HOVv HWR
          cases q
          · have HV:=hid (HBD.out (by rw[HW3.out];rfl))
            go_wp2_with fail
            go_ret
            exact ⟨by rw[HV.out];rfl,HBW.out⟩
          · have HN:=hid (HS.out (by rw[HW3.out];rfl))
            go_wp2_with fail
            go_round
            case rel=>exact ⟨k+1,by omega,by go_num,HN⟩
            case measure=>simp[intOf];omega
    · have e1:((y:Int) == 3)=false:=by rw[beq_eq_false_iff_ne];omega
      have HN:=hid (HS.out (by rw[HWR.out,show ((some y:Option Nat) == some 3)=false by simpa using hy2];rfl))
      clear hy2 hvl
      go_wp2_with fail
      go_round
      case rel=>exact ⟨k+1,by omega,by go_num,HN⟩
      case measure=>simp[intOf];omega
  · have hkl:k=xl.length:=by omega
    have HV:=hid (HWA.out (hkl ▸ HW.out))
    have hend:decide ((k:Int)<(xl.length:Int))=false:=by rw[decide_eq_false_iff_not];omega
    have hendn:decide (k<xl.length)=false:=by rw[decide_eq_false_iff_not];exact hlt
    clear hkl hlt hk
    go_wp2_with fail
    go_ret
    exact ⟨by rw[HV.out];rfl,HBW.out⟩
end
end Go.Proofs.YtpcajamacpbjcaaGreat
namespace Go.Proofs.YtpcajamacpbjcaaGreat
open Lib (hid)
open Go.RowKit
def zoa (l:List Nat):Array Value:=(l.flatMap zaj).toArray
theorem zBs (l:List Nat):(zoa l).size=l.length:=by
 unfold zoa
 rw[List.size_toArray,zcw _ 1 zbe,Nat.mul_one]
theorem zGq (l:List Nat):(zoa l).all (·.oneCell')=true:=by
 rw[Array.all_eq_true]
 intro i hi
 have:(zoa l)[i] ∈ l.flatMap zaj:=by unfold zoa at *;simp
 obtain ⟨x,-,hx⟩:=List.mem_flatMap.1 this
 rw[zaj,List.mem_singleton] at hx
 rw[hx];rfl
theorem zsc:(Tryz.prog.info? 242).map (·.size)=some 8:=by kernel_rfl
theorem zH3 (w:World):(zeroValue 242).run Tryz.prog w=.ok (.agg #[.int .u64 0,.int .u64 0,.int .u64 0,.int .u64 0,.int .u64 0,.int .u64 0,.int .u64 0,.int .u64 0]) w:=by kernel_rfl
theorem zxn {fn:Func} {p:Tmp} (h:fn.results=#[.cell p 242]) (tmps:Array Value) {W:World} {g:Nat} {t:TypeId} {cs:Array Value} (hb:Bx W g t cs) (hs:cs.size=8) (hp:tmps.getD p undef=.pointer (some ⟨g,0,none⟩)) :
  (results fn tmps).run Tryz.prog W=.ok (.agg cs) W:=by
 have hp':tmps[p]?.getD undef=.pointer (some ⟨g,0,none⟩):=by simpa using hp
 have hi:(Tryz.prog.info? 242).map (·.size)=some cs.size:=by rw[hs];exact zsc
 have hl:=run_loadVar_row W g t 242 cs (0,0) _ hb Tryz.underlying242 rfl hi
 simp[results,h,hp',asAddr,hl]
set_option maxRecDepth 100000 in
set_option maxHeartbeats 4000000 in
theorem zwq (n t:Nat) (w:World) (hn:n≤1000000) (ht:t≤1000000) :
  Calls Tryz.prog 174 #[.agg #[.int .i64 (n:Int),.int .i64 (t:Int)]] w fun e w'=>e=.returned (.agg (zoa (spL n t)))∧Below w.heap.size w w':=by
 have HS:=hid (fun A W (hr:RdW W W.heap.size A (sp7 n t))=>zug A (sp7 n t) 8 7 W rfl (by omega) hr (fun x hx=>by
  simp only[sp7,List.mem_cons,List.not_mem_nil,or_false] at hx
  omega))
 obtain ⟨q,hq⟩:∃ q,zbh 14695981039346656037 (sp7 n t)=q:=⟨_,rfl⟩
 have HL:=hid (show zoa (spL n t)=#[.int .u64 32777959566500194,.int .u64 1,.int .u64 (n:Int),.int .u64 (t:Int),.int .u64 0,.int .u64 0,.int .u64 0,.int .u64 (q:Int)] by
  unfold zoa spL
  rw[hq]
  rfl)
 have HRD:Hid (∀ W g,Bx W g 242 #[.int .u64 32777959566500194,.int .u64 1,.int .u64 (n:Int),.int .u64 (t:Int),.int .u64 0,.int .u64 0,.int .u64 0,.int .u64 0]→RdW W W.heap.size (some ⟨g,0,none⟩) (sp7 n t)):=hid fun W g h=>(Rd.of_box h h.lt).take_ 7
 rw[hq] at HS
 have HB:=hid (((Below.refl w.heap.size w).alloc (Nat.le_refl _) (.cells #[.int .i64 (n:Int),.int .i64 (t:Int)] 126)).alloc (by simp) (.cells #[.int .u64 0,.int .u64 0,.int .u64 0,.int .u64 0,.int .u64 0,.int .u64 0,.int .u64 0,.int .u64 0] 242))
 have w1:IntKind.u64.wrap (n:Int)=(n:Int):=IntWalk.u64_in _ (by omega)
 have w2:IntKind.u64.wrap (t:Int)=(t:Int):=IntWalk.u64_in _ (by omega)
 have hzv:=zH3
 have bx:=Bx.new ((w.alloc (.cells #[.int .i64 (n:Int),.int .i64 (t:Int)] 126)).alloc (.cells #[.int .u64 0,.int .u64 0,.int .u64 0,.int .u64 0,.int .u64 0,.int .u64 0,.int .u64 0,.int .u64 0] 242)) 242 #[.int .u64 0,.int .u64 0,.int .u64 0,.int .u64 0,.int .u64 0,.int .u64 0,.int .u64 0,.int .u64 0]
 rw[World.size_alloc,World.size_alloc] at bx
 have BX:=hid bx
 have HBZ:=hid (((HB.out.alloc (by simp;omega) (.cells #[.int .u64 0,.int .u64 0,.int .u64 0,.int .u64 0,.int .u64 0,.int .u64 0,.int .u64 0,.int .u64 0] 242))))
 have b2:=Bx.new (w.alloc (.cells #[.int .i64 (n:Int),.int .i64 (t:Int)] 126)) 242 #[.int .u64 0,.int .u64 0,.int .u64 0,.int .u64 0,.int .u64 0,.int .u64 0,.int .u64 0,.int .u64 0]
 rw[World.size_alloc] at b2
 have B2:=hid (b2.alloc (.cells #[.int .u64 0,.int .u64 0,.int .u64 0,.int .u64 0,.int .u64 0,.int .u64 0,.int .u64 0,.int .u64 0] 242))
 have hi8:(Tryz.prog.info? 242).map (·.size)=some (#[.int .u64 32777959566500194,.int .u64 1,.int .u64 (n:Int),.int .u64 (t:Int),.int .u64 0,.int .u64 0,.int .u64 0,.int .u64 0]:Array Value).size:=zsc
 clear hq bx b2
 have hbd:∀ W,(Instr.build 242 #[(0,.int .u64 32777959566500194),(1,.int .u64 1),(2,.int .u64 (n:Int)),(3,.int .u64 (t:Int))]).run Tryz.prog W=.ok (.agg #[.int .u64 32777959566500194,.int .u64 1,.int .u64 (n:Int),.int .u64 (t:Int),.int .u64 0,.int .u64 0,.int .u64 0,.int .u64 0]) W:=fun _=>by kernel_rfl
 go_enter Tryz.func174,Tryz.ntmps174
 go_wp2_with (first
  | ((with_reducible refine zbu 242 (.tmp 3) _ ?_);refine zai rfl _ _ _ rfl (w.heap.size+1+1) 242 #[.int .u64 0,.int .u64 0,.int .u64 0,.int .u64 0,.int .u64 0,.int .u64 0,.int .u64 0,.int .u64 0] #[.int .u64 32777959566500194,.int .u64 1,.int .u64 (n:Int),.int .u64 (t:Int),.int .u64 0,.int .u64 0,.int .u64 0,.int .u64 0] (by rfl) (by rfl) BX.out (by rfl) hi8 (by simp[Value.oneCell']) ?_;intro w3 hb3 ha3;have HB3:=hid hb3;have HA3:=hid ha3;clear hb3 ha3))
 refine (HS.out _ _ (HRD.out _ _ HB3.out)).mono ?_
 rintro e w4 ⟨rfl,hB4⟩
 have HB2x:=hid (HA3.out.below HBZ.out (by omega))
 have HB4:=hid (HB2x.out.trans (hB4.mono HB2x.out.size))
 have x3:=HB3.out.up hB4 HB3.out.lt
 have X2:=hid ((HA3.out.bx B2.out (by omega)).up hB4 (HA3.out.bx B2.out (by omega)).lt)
 have hl3:=x3.lt
 have hc7:=x3.cell 7
 have hf7:=x3.frozen 7
 have X3:=hid (x3.set_ 7 (.int .u64 (q:Int)))
 have XS2:=hid (X2.out.far (p:=⟨w.heap.size+1+1,7,none⟩) (by simp) (.int .u64 (q:Int)))
 have HB5:=hid (HB4.out.setCell (p:=⟨w.heap.size+1+1,7,none⟩) (by simp;omega) (.int .u64 (q:Int)))
 have hi9:(Tryz.prog.info? 242).map (·.size)=some (#[.int .u64 32777959566500194,.int .u64 1,.int .u64 (n:Int),.int .u64 (t:Int),.int .u64 0,.int .u64 0,.int .u64 0,.int .u64 (q:Int)]:Array Value).size:=zsc
 clear x3 hB4
 go_wp2_with (first
  | ((with_reducible refine zh9 242 (.tmp 3) ?_);refine wpList_load_row rfl _ _ rfl (w.heap.size+1+1) (by rfl) 242 #[.int .u64 32777959566500194,.int .u64 1,.int .u64 (n:Int),.int .u64 (t:Int),.int .u64 0,.int .u64 0,.int .u64 0,.int .u64 (q:Int)] (0,0) _ X3.out Tryz.underlying242 (by rfl) hi9 ?_)
  | ((with_reducible refine zbu 242 (.tmp 2) _ ?_);refine zai rfl _ _ _ rfl (w.heap.size+1) 242 #[.int .u64 0,.int .u64 0,.int .u64 0,.int .u64 0,.int .u64 0,.int .u64 0,.int .u64 0,.int .u64 0] #[.int .u64 32777959566500194,.int .u64 1,.int .u64 (n:Int),.int .u64 (t:Int),.int .u64 0,.int .u64 0,.int .u64 0,.int .u64 (q:Int)] (by rfl) (by rfl) XS2.out (by rfl) hi9 (by simp[Value.oneCell']) ?_;intro w6 hb6 ha6;have HB6:=hid hb6;have HA6:=hid ha6;clear hb6 ha6))
 exact bodyPost_ret (v:=.agg #[.int .u64 32777959566500194,.int .u64 1,.int .u64 (n:Int),.int .u64 (t:Int),.int .u64 0,.int .u64 0,.int .u64 0,.int .u64 (q:Int)]) (zxn Tryz.results174 _ HB6.out (by rfl) rfl) rfl ⟨by rw[HL.out],HA6.out.below HB5.out (by omega)⟩
theorem zKp {l:List Nat} (h:l.length=8):∃ p0 p1 p2 p3 p4 p5 p6 p7,l=[p0,p1,p2,p3,p4,p5,p6,p7]:=by
 match l,h with
 | [p0,p1,p2,p3,p4,p5,p6,p7],_=>exact ⟨p0,p1,p2,p3,p4,p5,p6,p7,rfl⟩
theorem zGc {a b:List Nat} (ha:a.length=8) (hb:b.length=8) (W:World):(Op.equalIn 10000 242 (.agg (zoa a)) (.agg (zoa b))).run Tryz.prog W=.ok (decide (a=b)) W:=by
 have hu:=Tryz.underlying242
 have hw:=Tryz.underlying53
 have hr:List.range' 0 8=[0,1,2,3,4,5,6,7]:=rfl
 have e1:=fun (x y:Int)=>run_equalIn_int W 9998 53 .u64 .u64 x y hw
 obtain ⟨p0,p1,p2,p3,p4,p5,p6,p7,rfl⟩:=zKp ha
 obtain ⟨q0,q1,q2,q3,q4,q5,q6,q7,rfl⟩:=zKp hb
 have hd:decide ([p0,p1,p2,p3,p4,p5,p6,p7]=[q0,q1,q2,q3,q4,q5,q6,q7])=(p0 == q0 && (p1 == q1 && (p2 == q2 && (p3 == q3 && (p4 == q4 && (p5 == q5 && (p6 == q6 && p7 == q7))))))):=by
   rw[Bool.eq_iff_iff,decide_eq_true_iff]
   simp
 have hs:∀ u v,(Op.equalIn 10000 242 u v)=(Op.equalIn (9999+1) 242 u v):=fun _ _=>rfl
 rw[hs,hd]
 unfold Op.equalIn zoa
 simp only[List.flatMap_cons,List.flatMap_nil,zaj,List.cons_append,List.nil_append]
 simp[go_sem,run_underlying hu,Sem.run_bind,hr,List.forIn_cons]
 simp only[Int.ofNat_inj]
 by_cases h0:p0=q0
 · by_cases h1:p1=q1
   · by_cases h2:p2=q2
     · by_cases h3:p3=q3
       · by_cases h4:p4=q4
         · by_cases h5:p5=q5
           · by_cases h6:p6=q6
             · by_cases h7:p7=q7 <;> simp[h0,h1,h2,h3,h4,h5,h6,h7,go_sem]
             · simp[h0,h1,h2,h3,h4,h5,h6,go_sem]
           · simp[h0,h1,h2,h3,h4,h5,go_sem]
         · simp[h0,h1,h2,h3,h4,go_sem]
       · simp[h0,h1,h2,h3,go_sem]
     · simp[h0,h1,h2,go_sem]
   · simp[h0,h1,go_sem]
 · simp[h0,go_sem]
theorem zIc (p q a b:Int) (W:World):(Op.equalIn 10000 126 (.agg #[.int .i64 p,.int .i64 q]) (.agg #[.int .i64 a,.int .i64 b])).run Tryz.prog W=.ok (p == a && q == b) W:=by
 have hu:=Tryz.underlying126
 have hw:=Tryz.underlying3
 have hs:∀ u v,(Op.equalIn 10000 126 u v)=(Op.equalIn (9999+1) 126 u v):=fun _ _=>rfl
 have e1:=fun (x y:Int)=>run_equalIn_int W 9998 3 .i64 .i64 x y hw
 rw[hs]
 unfold Op.equalIn
 simp[go_sem,run_underlying hu,Sem.run_bind,List.forIn_cons]
 by_cases h1:p=a <;> by_cases h2:q=b <;> simp[h1,h2,go_sem]
end Go.Proofs.YtpcajamacpbjcaaGreat
namespace Go.Proofs.YtpcajamacpbjcaaGreat
open Lib (hid)
open Go.RowKit
theorem Bx.c8 {w:World} {g:Nat} {t:TypeId} {x0 x1 x2 x3 x4 x5 x6 x7:Value} (h:Bx w g t #[x0,x1,x2,x3,x4,x5,x6,x7]):w.cell? ⟨g,0,none⟩=some x0∧w.cell? ⟨g,1,none⟩=some x1∧w.cell? ⟨g,2,none⟩=some x2 ∧
  w.cell? ⟨g,3,none⟩=some x3∧w.cell? ⟨g,4,none⟩=some x4∧w.cell? ⟨g,5,none⟩=some x5∧w.cell? ⟨g,6,none⟩=some x6∧w.cell? ⟨g,7,none⟩=some x7:=
 ⟨h.cell 0,h.cell 1,h.cell 2,h.cell 3,h.cell 4,h.cell 5,h.cell 6,h.cell 7⟩
theorem at_s2a {P:Program} {ops:Array Oper} {rest:List Oper} {a:Act} {w:World} {Q:Exit→Act→World→Prop} {dst:Option Tmp} {type:TypeId} {pos:String} {after:Array Edge} {guard:Option (Nat × Bool)} (ty:TypeId) (x:Operand)
 (h:wpList P ops Q ({ dst:=dst,op:=.sliceToArrayPointer ty x,type:=type,pos:=pos,after:=after,guard:=guard } :: rest) a w):wpList P ops Q ({ dst:=dst,op:=.sliceToArrayPointer ty x,type:=type,pos:=pos,after:=after,guard:=guard } :: rest) a w:=h
theorem zv9 {l:List Nat} {k:Nat} (hk:k<l.length):(zoa l)[k]? = some (.int .u64 (wd l k:Int)):=by
 unfold zoa
 have:=zhf zaj 1 zbe l k 0 hk (by omega)
 rw[Nat.mul_one,Nat.add_zero] at this
 rw[List.getElem?_toArray,this,zcb hk]
 rfl
theorem zEp {w:World} {B b off:Nat} {cs:List Value} (h:Rd w B (some ⟨b,off,none⟩) cs):w.rangeAt b off cs:=fun j v hv=>by
 have hj:=(List.getElem?_eq_some_iff.1 hv).1
 obtain ⟨b',off',e,-,hc⟩:=h (by intro e;rw[e] at hj;simp at hj)
 cases e
 rw[hc j hj,←hv,List.getElem?_eq_getElem hj]
def spNo (x y i:Nat):Prop:=¬ (256≤x∧x<256+8 * i∧x % 8=0∧y≤8)
def spT (x n y t:Nat):Prop:=¬ (x=n∧y<t)
theorem zzg {x y i:Nat} (h:spNo x y i) (h2:¬ (x=256+8 * i∧y≤8)):spNo x y (i+1):=fun ⟨h3,h4,h5,h6⟩=>by
 by_cases h7:x<256+8 * i
 · exact h ⟨h3,h7,h5,h6⟩
 · exact h2 ⟨by omega,h6⟩
set_option maxRecDepth 100000 in
set_option maxHeartbeats 8000000 in
theorem zq9 (A:Option Addr) (l:List Nat) (c:Nat) (w:World) (hn:l.length=8) (hr:RdW w w.heap.size A l) :
  Calls Tryz.prog 116 #[.slice A 8 c] w fun e w'=>e=.returned (.tuple #[spV l,.int .i64 (zjf l)])∧Below w.heap.size w w':=by
 obtain ⟨p0,p1,x,y,p4,p5,p6,p7,hl8⟩:=zKp hn
 obtain ⟨b,off,rfl,hb,-⟩:=RdW.at_ hr (show 0<l.length by omega)
 have HSZ:=hid (fun h=>zad ((wd l 2:Nat):Int) |>.1 h)
 have HNO:=hid (fun h=>zuq (l:=l) h)
 have HN2:=hid (fun h=>zmh (l:=l) h)
 have HY2:=hid (fun h=>zl7 (l:=l) h)
 have HEQ:Hid (zah ((wd l 2:Nat):Int)=true→wd l 3≤8→zpm l=decide (spL (wd l 2) (wd l 3)=l)):=hid fun h1 h2=>by
  unfold zpm
  rw[h1,decide_eq_true h2]
  rfl
 have HRG:=hid (show ∀ W,Below w.heap.size w W→W.rangeAt b off (l.flatMap zaj) from fun W h=>zEp (Rd.below hr h))
 have H8:=hid (show (zoa l).size=8 by rw[zBs,hn])
 have HLL:=hid (show (l.flatMap zaj).length=8 by rw[zcw _ 1 zbe,hn])
 have H1:=hid (zGq l)
 have g2:=zv9 (l:=l) (k:=2) (by omega)
 have g3:=zv9 (l:=l) (k:=3) (by omega)
 have x0:=Bx.new w 126 #[.int .i64 0,.int .i64 0]
 have X0:=hid x0
 have hlt2:Hid (w.heap.size≤w.heap.size+1+1):=hid (by omega)
 have HB0:=hid ((((Below.refl w.heap.size w).alloc (Nat.le_refl _) (.cells #[.int .i64 0,.int .i64 0] 126)).alloc (by simp) (.cells #[.int .i64 0,.int .i64 0] 126)))
 have x1:=Bx.new (w.alloc (.cells #[.int .i64 0,.int .i64 0] 126)) 126 #[.int .i64 0,.int .i64 0]
 rw[World.size_alloc] at x1
 have X1:=hid x1
 have x2:=Bx.new ((w.alloc (.cells #[.int .i64 0,.int .i64 0] 126)).alloc (.cells #[.int .i64 0,.int .i64 0] 126)) 242 #[.int .u64 0,.int .u64 0,.int .u64 0,.int .u64 0,.int .u64 0,.int .u64 0,.int .u64 0,.int .u64 0]
 rw[World.size_alloc,World.size_alloc] at x2
 have X2:=hid x2
 have HL:=hid hn
 have hzv:=zH3
 have hx:wd l 2=x:=by rw[hl8];rfl
 have hy:wd l 3=y:=by rw[hl8];rfl
 have HA:=hid (show zoa l=#[.int .u64 (p0:Int),.int .u64 (p1:Int),.int .u64 (x:Int),.int .u64 (y:Int),.int .u64 (p4:Int),.int .u64 (p5:Int),.int .u64 (p6:Int),.int .u64 (p7:Int)] by rw[hl8];rfl)
 rw[hx] at HSZ HNO HY2 HEQ g2
 rw[hy] at HNO HY2 HEQ g3
 have G2:=hid g2
 have G3:=hid g3
 have HA8:Hid ((l.flatMap zaj).toArray=zoa l):=hid rfl
 have hi8:(Tryz.prog.info? 242).map (·.size)=some (l.flatMap zaj).length:=by rw[HLL.out];exact zsc
 have hi9:(Tryz.prog.info? 242).map (·.size)=some (zoa l).size:=by rw[H8.out];exact zsc
 have hs9:(zoa l).size=(#[.int .u64 0,.int .u64 0,.int .u64 0,.int .u64 0,.int .u64 0,.int .u64 0,.int .u64 0,.int .u64 0]:Array Value).size:=H8.out
 clear hx hy hr hn x0 x1 x2 g2 g3 hl8
 obtain ⟨cs,hcs⟩:∃ cs,l.flatMap zaj=cs:=⟨_,rfl⟩
 rw[hcs] at HRG HLL HA8 hi8
 clear hcs
 go_enter Tryz.func116,Tryz.ntmps116
 go_wp2_with fail
 go_step3
 go_wp2_with (first
  | ((with_reducible refine at_s2a 242 _ ?_);refine zsf rfl (.pointer (some ⟨b,off,none⟩)) (by unfold execOp;simp only[Sem.run_bind,Act.eval,go_sem];rfl) ?_)
  | ((with_reducible refine zh9 242 (.tmp 13) ?_);refine wpList_load_mid rfl _ _ rfl b off (by rfl) cs _ (HRG.out _ HB0.out) Tryz.underlying242 (by rfl) hi8 ?_;rw[HA8.out])
  | ((with_reducible refine zbu 242 (.tmp 5) _ ?_);refine zai rfl _ _ _ rfl (w.heap.size+1+1) 242 #[.int .u64 0,.int .u64 0,.int .u64 0,.int .u64 0,.int .u64 0,.int .u64 0,.int .u64 0,.int .u64 0] (zoa l) (by rfl) (by rfl) X2.out hs9 hi9 H1.out ?_;intro w3 hb3 ha3;have HB3:=hid hb3;have HA3:=hid ha3;clear hb3 ha3))
 go_step3
 have X03:=hid (HA3.out.bx ((X0.out.alloc _).alloc _) (by omega))
 have X13:=hid (HA3.out.bx (X1.out.alloc _) (by omega))
 have HB5:=hid (HA3.out.below (HB0.out.alloc (by simp;omega) _) (by omega))
 have c2:=(HB3.out.cell 2).trans G2.out
 have c3:=(HB3.out.cell 3).trans G3.out
 have hl3:=HB3.out.lt
 clear HRG HLL HA8 hi8 X2 X0 X1 HB0 HA3
 go_wp2_with fail
 go_loop [6] (fun v=>∃ i:Nat,i≤225∧v=.int .i64 ((256+8 * i:Nat):Int)∧Hid (spNo x y i)) (fun v=>4000 - (intOf v).toNat)
 case atStart=>exact ⟨0,Nat.zero_le _,rfl,hid fun h=>by omega⟩
 case round =>
  obtain ⟨i,hi,rfl,HN⟩:=hrel
  obtain ⟨n,hn⟩:∃ n,256+8 * i=n:=⟨_,rfl⟩
  have HNE:=hid hn
  rw[hn]
  by_cases hlt:i<225
  · have d1:decide ((n:Int)≤2048)=true:=by rw[decide_eq_true_iff];omega
    have d1n:decide (n≤2048)=true:=by rw[decide_eq_true_iff];omega
    have w1:IntKind.u64.wrap (n:Int)=(n:Int):=IntWalk.u64_in _ (by omega)
    have w2x:IntKind.i64.wrap ((n:Int)+8)=((n+8:Nat):Int):=by rw[IntWalk.i64_in _ (by omega)];omega
    have hn8:n≤2048:=by omega
    clear hn
    go_wp2_with fail
    go_loop [19] (fun v=>∃ t:Nat,t≤9∧v=.int .i64 (t:Int)∧Hid (spT x n y t)) (fun v=>9 - (intOf v).toNat)
    case atStart=>exact ⟨0,Nat.zero_le _,rfl,hid fun h=>by omega⟩
    case round =>
     obtain ⟨t,ht,rfl,HT⟩:=hrel
     by_cases htl:t<9
     · have w3x:IntKind.u64.wrap (t:Int)=(t:Int):=IntWalk.u64_in _ (by omega)
       have ht9:(t:Int)<9:=by omega
       by_cases hxn:x=n
       · subst hxn
         by_cases hyt:y=t
         · subst hyt
           obtain ⟨r0,r1,f0,f1,hg1⟩:=X13.out.c2
           have hsz:zah (x:Int)=true:=(zad _).2 (by have:=HNE.out;omega)
           have HEV:=hid (HEQ.out hsz (by omega))
           have HW:=hid (fun W=>zwq x y W (by omega) (by omega))
           have hq1:=fun W=>zIc x y 0 0 W
           rw[show ((x:Int) == 0 && (y:Int) == 0)=false by rw[show ((x:Int) == 0)=false by rw[beq_eq_false_iff_ne];have:=HNE.out;omega];rfl] at hq1
           have hq2:=fun W=>zGc (zpa x y) HL.out W
           rw[HA.out] at hq2
           obtain ⟨AL,hAL⟩:∃ AL,zoa (spL x y)=AL:=⟨_,rfl⟩
           rw[hAL] at hq2 HW
           have HM:=hid hq2
           have HLR:=hid (show Bx w3 (w.heap.size+1+1) 242 #[.int .u64 (p0:Int),.int .u64 (p1:Int),.int .u64 (x:Int),.int .u64 (y:Int),.int .u64 (p4:Int),.int .u64 (p5:Int),.int .u64 (p6:Int),.int .u64 (p7:Int)] by rw[←HA.out];exact HB3.out)
           clear hsz hAL hq2 HEQ HNO HT HN HNE ht htl hi hlt
           go_wp2_with fail
           have x4:=((X13.out.set_ 0 (.int .i64 (x:Int))).set_ 1 (.int .i64 (y:Int)))
           have xl4:=(HLR.out.far (p:=⟨w.heap.size+1,0,none⟩) (by simp) (.int .i64 (x:Int))).far (p:=⟨w.heap.size+1,1,none⟩) (by simp) (.int .i64 (y:Int))
           have X04:=hid ((X03.out.far (p:=⟨w.heap.size+1,0,none⟩) (by simp) (.int .i64 (x:Int))).far (p:=⟨w.heap.size+1,1,none⟩) (by simp) (.int .i64 (y:Int)))
           have HB6:=hid ((HB5.out.setCell (p:=⟨w.heap.size+1,0,none⟩) (by simp) (.int .i64 (x:Int))).setCell (p:=⟨w.heap.size+1,1,none⟩) (by simp) (.int .i64 (y:Int)))
           obtain ⟨W4,hW4⟩:∃ W4,(w3.setCell ⟨w.heap.size+1,0,none⟩ (.int .i64 (x:Int))).setCell ⟨w.heap.size+1,1,none⟩ (.int .i64 (y:Int))=W4:=⟨_,rfl⟩
           rw[hW4] at x4 xl4 X04 HB6 ⊢
           obtain ⟨q0,q1,-⟩:=x4.c2
           obtain ⟨e0,e1,e2,e3,e4,e5,e6,e7⟩:=xl4.c8
           have XL4:=hid xl4
           have X4:=hid x4
           clear hW4 X03 X13 HB3 HLR HB5 c2 c3 r0 r1 f0 f1 hg1 x4 xl4
           have hm:∀ W,(Op.equalIn 10000 242 (.agg AL) (.agg #[.int .u64 (p0:Int),.int .u64 (p1:Int),.int .u64 (x:Int),.int .u64 (y:Int),.int .u64 (p4:Int),.int .u64 (p5:Int),.int .u64 (p6:Int),.int .u64 (p7:Int)])).run Tryz.prog W=.ok (decide (spL x y=l)) W:=HM.out
           obtain ⟨dq,hdq⟩:∃ dq,decide (spL x y=l)=dq:=⟨_,rfl⟩
           rw[hdq] at hm HEV
           clear hdq
           cases dq
           all_goals
             go_region_held3 (fun X:World=>X.cell? ⟨w.heap.size+1,0,none⟩=some (.int .i64 (x:Int))∧X.cell? ⟨w.heap.size+1,1,none⟩=some (.int .i64 (y:Int))∧X.cell? ⟨w.heap.size+1+1,0,none⟩=some (.int .u64 (p0:Int))∧X.cell? ⟨w.heap.size+1+1,1,none⟩=some (.int .u64 (p1:Int))∧X.cell? ⟨w.heap.size+1+1,2,none⟩=some (.int .u64 (x:Int))∧X.cell? ⟨w.heap.size+1+1,3,none⟩=some (.int .u64 (y:Int))∧X.cell? ⟨w.heap.size+1+1,4,none⟩=some (.int .u64 (p4:Int))∧X.cell? ⟨w.heap.size+1+1,5,none⟩=some (.int .u64 (p5:Int))∧X.cell? ⟨w.heap.size+1+1,6,none⟩=some (.int .u64 (p6:Int))∧X.cell? ⟨w.heap.size+1+1,7,none⟩=some (.int .u64 (p7:Int))) (go_keep)
              (first | (go_at_call 174;refine (HW.out _).mono ?_;rintro e w5 ⟨rfl,hB5⟩;have x45:=(show Bx W4.drew _ _ _ from X4.out).up hB5 X4.out.lt;have xl45:=(show Bx W4.drew _ _ _ from XL4.out).up hB5 XL4.out.lt;obtain ⟨k0,k1,-⟩:=x45.c2;obtain ⟨m0,m1,m2,m3,m4,m5,m6,m7⟩:=xl45.c8;have X05:=hid ((show Bx W4.drew _ _ _ from X04.out).up hB5 X04.out.lt);have HB7:=hid (HB6.out.drew.trans (hB5.mono HB6.out.size));clear x45 xl45))
             clear q0 q1 e0 e1 e2 e3 e4 e5 e6 e7 m0 m1 m2 m3 m4 m5 m6 m7
             have hg5:=X05.out.lt
             obtain ⟨v0,v1,f0,f1,-⟩:=X05.out.c2
             go_wp2_with fail
             rw[Exit.noGoto_ret]
           · have HV:=hid (HN2.out HEV.out)
             exact bodyPost_ret (v:=.tuple #[.agg #[.int .i64 0,.int .i64 0],.int .i64 50]) (zce Tryz.results116 _ ((X05.out.set_ 0 _).set_ 1 _) rfl rfl) rfl ⟨by rw[HV.out.1,HV.out.2],(HB7.out.setCell (by simp) _).setCell (by simp) _⟩
           · have HV:=hid (HY2.out HEV.out)
             exact bodyPost_ret (v:=.tuple #[.agg #[.int .i64 (x:Int),.int .i64 (y:Int)],.int .i64 0]) (zce Tryz.results116 _ ((X05.out.set_ 0 _).set_ 1 _) rfl rfl) rfl ⟨by rw[HV.out.1,HV.out.2],(HB7.out.setCell (by simp) _).setCell (by simp) _⟩
         · have e1:((t:Int) == (y:Int))=false:=by rw[beq_eq_false_iff_ne];omega
           have e1n:(t == y)=false:=by rw[beq_eq_false_iff_ne];omega
           have HT2:Hid (spT x x y (t+1)):=hid fun h=>HT.out ⟨rfl,by omega⟩
           clear hyt
           go_wp2_with fail
           go_round
           case rel=>exact ⟨t+1,by omega,by go_num,HT2⟩
           case measure=>simp[intOf];omega
       · have e1:((n:Int) == (x:Int))=false:=by rw[beq_eq_false_iff_ne];omega
         have e1n:(n == x)=false:=by rw[beq_eq_false_iff_ne];omega
         have HT2:Hid (spT x n y (t+1)):=hid fun h=>hxn h.1
         clear hxn
         go_wp2_with fail
         go_round
         case rel=>exact ⟨t+1,by omega,by go_num,HT2⟩
         case measure=>simp[intOf];omega
     · obtain rfl:t=9:=by omega
       have HN2:Hid (spNo x y (i+1)):=hid (zzg HN.out fun h=>HT.out ⟨by have:=HNE.out;omega,by omega⟩)
       go_wp2_with fail
       go_round
       case rel=>exact ⟨i+1,by omega,by have:=HNE.out;go_num,HN2⟩
       case measure=>simp[intOf];omega
  · obtain rfl:i=225:=by omega
    have d1:decide ((n:Int)≤2048)=false:=by rw[decide_eq_false_iff_not];omega
    have d1n:decide (n≤2048)=false:=by rw[decide_eq_false_iff_not];omega
    clear hn hlt
    have HV:=hid (HN2.out (HNO.out fun h=>HN.out ⟨by have:=HSZ.out h.1;omega,by have:=HSZ.out h.1;omega,by have:=HSZ.out h.1;omega,h.2⟩))
    have HLR:=hid (show Bx w3 (w.heap.size+1+1) 242 #[.int .u64 (p0:Int),.int .u64 (p1:Int),.int .u64 (x:Int),.int .u64 (y:Int),.int .u64 (p4:Int),.int .u64 (p5:Int),.int .u64 (p6:Int),.int .u64 (p7:Int)] by rw[←HA.out];exact HB3.out)
    have hq1:=fun W=>zIc 0 0 0 0 W
    obtain ⟨q0,q1,-⟩:=X13.out.c2
    clear c2 c3
    go_wp2_with fail
    have ct0:∀ g:SW (fun X:World=>Below w3.heap.size w3 X),g.w.cell? ⟨w.heap.size+1,0,none⟩=some (.int .i64 0):=fun g=>(g.ok.cell (p:=⟨w.heap.size+1,0,none⟩) X13.out.lt).trans q0
    have ct1:∀ g:SW (fun X:World=>Below w3.heap.size w3 X),g.w.cell? ⟨w.heap.size+1,1,none⟩=some (.int .i64 0):=fun g=>(g.ok.cell (p:=⟨w.heap.size+1,1,none⟩) X13.out.lt).trans q1
    refine znk (S:=fun X:World=>Below w3.heap.size w3 X) ((0,0,0) :: (0,1,0) :: (0,2,0) :: (0,3,0) :: (0,4,0) :: (0,6,0) :: (1,5,0) :: (0,7,0) :: (0,8,0) :: []) (.one _ true (none) :: .one _ true (none) :: .one _ true (none) :: .one _ true (none) :: .one _ true (some (some 41,false)) :: .one _ true (some (some 41,false)) :: .one _ false (some (some 41,false)) :: .one _ true (some (some 41,false)) :: .one _ true (none) :: []) (by kernel_rfl) (by kernel_rfl) (by decide) (by kernel_rfl) (by rfl) (fun _ _ d _ _ h=>by cases d <;> exact h) (Below.refl _ _).drew ?_
    have HX0:=hid ((Below.refl w3.heap.size w3).drew)
    obtain ⟨X0,hX0⟩:∃ X,w3.drew=X:=⟨_,rfl⟩
    rw[hX0] at HX0 ⊢
    clear hX0
    have hne:Nonempty (SW (fun X:World=>Below w3.heap.size w3 X)):=⟨⟨X0,HX0.out⟩⟩
    iterate 6 (first | (refine zed (by rfl) ?_;(try simp only[Act.put,List.setIfInBounds_toArray,List.set_cons_zero,List.set_cons_succ])) | (refine zg5 (by rfl) ?_;intro K hK;go_big_quiet_op;go_big_quiet_on))
    (refine zed (by rfl) ?_;(try simp only[Act.put,List.setIfInBounds_toArray,List.set_cons_zero,List.set_cons_succ]))
    iterate 2 (first | (refine zed (by rfl) ?_;(try simp only[Act.put,List.setIfInBounds_toArray,List.set_cons_zero,List.set_cons_succ])) | (refine zg5 (by rfl) ?_;intro K hK;go_big_quiet_op;go_big_quiet_on))
    refine zDh ?_
    have X06:=hid (X03.out.up HX0.out X03.out.lt)
    have HB6:=hid (HB5.out.trans (HX0.out.mono HB5.out.size))
    have hg6:=X06.out.lt
    obtain ⟨v0,v1,f0,f1,-⟩:=X06.out.c2
    clear q0 q1
    go_wp2_with fail
    rw[Exit.noGoto_ret]
    exact bodyPost_ret (v:=.tuple #[.agg #[.int .i64 0,.int .i64 0],.int .i64 50]) (zce Tryz.results116 _ ((X06.out.set_ 0 _).set_ 1 _) rfl rfl) rfl ⟨by rw[HV.out.1,HV.out.2],(HB6.out.setCell (by simp) _).setCell (by simp) _⟩
end Go.Proofs.YtpcajamacpbjcaaGreat
namespace Go.Proofs.YtpcajamacpbjcaaGreat
open Lib (hid)
open Go.RowKit
theorem Bx.c4 {w:World} {g:Nat} {t:TypeId} {x0 x1 x2 x3:Value} (h:Bx w g t #[x0,x1,x2,x3]):w.cell? ⟨g,0,none⟩=some x0∧w.cell? ⟨g,1,none⟩=some x1∧w.cell? ⟨g,2,none⟩=some x2∧w.cell? ⟨g,3,none⟩=some x3 ∧
  w.frozen? ⟨g,0,none⟩=false∧w.frozen? ⟨g,1,none⟩=false∧w.frozen? ⟨g,2,none⟩=false∧w.frozen? ⟨g,3,none⟩=false∧g<w.heap.size:=
 ⟨h.cell 0,h.cell 1,h.cell 2,h.cell 3,h.frozen 0,h.frozen 1,h.frozen 2,h.frozen 3,h.lt⟩
set_option maxRecDepth 100000 in
theorem zxt (w:World):Calls Tryz.prog 115 #[] w fun e w'=>e=.returned (.agg #[.int .i64 0,.int .i64 8])∧Below w.heap.size w w':=by
 have hb:∀ W,(Instr.build 179 #[(0,.int .i64 0),(1,.int .i64 8)]).run Tryz.prog W=.ok (.agg #[.int .i64 0,.int .i64 8]) W:=fun _=>by kernel_rfl
 have x0:=Bx.new w 179 #[.int .i64 0,.int .i64 0]
 obtain ⟨q0,q1,f0,f1,hg⟩:=x0.c2
 go_enter Tryz.func115,Tryz.ntmps115
 go_wp2_with fail
 have x1:=Bx.new w 179 #[.int .i64 0,.int .i64 8]
 obtain ⟨p0,p1,-⟩:=x1.c2
 exact bodyPost_ret (v:=.agg #[.int .i64 0,.int .i64 8]) (by simp[results,Tryz.results115,go_sem]) rfl ⟨rfl,(Below.refl w.heap.size w).alloc (Nat.le_refl _) _⟩
theorem zHr (l:List Nat):∃ a b:Int,spV l=.agg #[.int .i64 a,.int .i64 b]∧(zjf l=0→a=((wd l 2:Nat):Int)∧b=((wd l 3:Nat):Int)):=by
 cases h:zpm l with
 | true=>exact ⟨_,_,(zl7 h).1,fun _=>⟨rfl,rfl⟩⟩
 | false=>exact ⟨0,0,(zmh h).1,fun h2=>by rw[(zmh h).2] at h2;cases h2⟩
theorem zC9 {l:List Nat}:zjf l=0↔zpm l=true:=by
 unfold zjf
 split <;> simp_all
theorem cp_is (ws:List Nat) (a:Nat) {x y:Int} (hv:zjf (sp8 ws a)=0→x=((wd (sp8 ws a) 2:Nat):Int)∧y=((wd (sp8 ws a) 3:Nat):Int)):(zji ws a=if zjf (sp8 ws a)=0 then (x == (ws.length:Int)) else false)∧(zji ws a=true→y=((wd ws (a+3):Nat):Int)):=by
 have e2:wd (sp8 ws a) 2=wd ws (a+2):=zkf (by omega)
 have e3:wd (sp8 ws a) 3=wd ws (a+3):=zkf (by omega)
 rw[e2,e3] at hv
 have h1:zji ws a=if zjf (sp8 ws a)=0 then (x == (ws.length:Int)) else false:=by
   unfold zji
   by_cases h:zjf (sp8 ws a)=0
   · rw[if_pos h,zC9.1 h,Bool.true_and,(hv h).1,Bool.eq_iff_iff,beq_iff_eq,beq_iff_eq]
     omega
   · rw[if_neg h,show zpm (sp8 ws a)=false by
      cases hq:zpm (sp8 ws a) with
      | false=>rfl
      | true=>exact absurd (zC9.2 hq) h]
     rfl
 refine ⟨h1,fun h => ?_⟩
 rw[h1] at h
 split at h
 · rename_i h2
   exact (hv h2).2
 · cases h
set_option maxRecDepth 100000 in
set_option maxHeartbeats 8000000 in
theorem zFh (A:Option Addr) (ws:List Nat) (c n:Nat) (w:World) (hn:ws.length=n) (hm:n≤9223372036854775807) (hc:n≤c) (hr:RdW w w.heap.size A ws) :
   Calls Tryz.prog 68 #[.slice A n c] w fun e w'=>zCj ws e∧Below w.heap.size w w':=by
 subst hn
 have HR:=hid hr
 have HIM:=hid (fun W=>zay A ws.length c W hm)
 have HB0:=hid (((Below.refl w.heap.size w).alloc (Nat.le_refl _) (.cells #[.int .i64 0,.int .i64 0] 126)).alloc (by simp) (.cells #[.bool false,.bool false] 127))
 have x0:=(Bx.new w 126 #[.int .i64 0,.int .i64 0]).alloc (.cells #[.bool false,.bool false] 127)
 have x1:=Bx.new (w.alloc (.cells #[.int .i64 0,.int .i64 0] 126)) 127 #[.bool false,.bool false]
 rw[World.size_alloc] at x1
 have X0:=hid x0
 have X1:=hid x1
 clear x0 x1 hr
 cases hs:zah (ws.length:Int)
 · have HV:=hid (zth hs)
   rw[zbw hs] at HIM
   clear hs hm hc
   go_enter Tryz.func68,Tryz.ntmps68
   go_wp2_with fail
   refine (HIM.out _).mono ?_
   rintro e w1 ⟨rfl,rfl⟩
   obtain ⟨W1,hW1⟩:∃ W1,(w.alloc (.cells #[.int .i64 0,.int .i64 0] 126)).alloc (.cells #[.bool false,.bool false] 127)=W1:=⟨_,rfl⟩
   rw[hW1] at X0 X1 HB0 ⊢
   clear hW1
   obtain ⟨v0,v1,f0,f1,hg0⟩:=X0.out.c2
   obtain ⟨v2,v3,f2,f3,hg1⟩:=X1.out.c2
   go_wp2_with fail
   exact bodyPost_ret (v:=.tuple #[.agg #[.int .i64 0,.int .i64 0],.agg #[.bool false,.bool false],.int .i64 8]) (zcn Tryz.results68 _ ((((X0.out.set_ 0 _).set_ 1 _).far (by simp) _).far (by simp) _) ((((X1.out.far (by simp) _).far (by simp) _).set_ 0 _).set_ 1 _) rfl rfl rfl) rfl ⟨⟨0,false,false,by rw[HV.out.1,HV.out.2];rfl⟩,(((HB0.out.setCell (by simp) _).setCell (by simp) _).setCell (by simp) _).setCell (by simp) _⟩
 · have hb:=(zad _).1 hs
   rw[zbc hs] at HIM
   obtain ⟨b,off,rfl,hbb,-⟩:=RdW.at_ HR.out (show 0<ws.length by omega)
   obtain ⟨a0,b0,hv0,hw0⟩:=zHr (sp8 ws 0)
   obtain ⟨a1,b1,hv1,hw1⟩:=zHr (sp8 ws 8)
   have HC0:=hid (cp_is ws 0 hw0)
   have HC1:=hid (cp_is ws 8 hw1)
   have HRD0:=hid (fun W (hr:RdW W W.heap.size (some ⟨b,off,none⟩) ws)=>zq9 (some ⟨b,off,none⟩) (sp8 ws 0) c W (zlb (by omega)) (by
    have:=zDm hr 0
    simpa [Addr.add] using this))
   have HRD1:=hid (fun W (hr:RdW W W.heap.size (some ⟨b,off,none⟩) ws)=>zq9 (some ⟨b,off+8,none⟩) (sp8 ws 8) (c - 8) W (zlb (by omega)) (by
    have:=zDm hr 8
    simpa [Addr.add] using this))
   rw[hv0] at HRD0
   rw[hv1] at HRD1
   have HV:Hid (tyN ws=(if zji ws 0=true then some (wd ws 3) else if zji ws 8=true then some (wd ws 11) else none)∧zid ws=if (tyN ws).isSome=true then 0 else 50):=hid ⟨rfl,by unfold zid;rw[if_pos hs]⟩
   have k3:8≤c:=by omega
   have k4:16≤c:=by omega
   obtain ⟨e0,he0⟩:∃ e0,zjf (sp8 ws 0)=e0:=⟨_,rfl⟩
   obtain ⟨e1,he1⟩:∃ e1,zjf (sp8 ws 8)=e1:=⟨_,rfl⟩
   rw[he0] at HRD0 HC0
   rw[he1] at HRD1 HC1
   clear hs hb hv0 hv1 hw0 hw1 he0 he1 hbb hm hc
   go_enter Tryz.func68,Tryz.ntmps68
   go_wp2_with fail
   refine (HIM.out _).mono ?_
   rintro e w1 ⟨rfl,rfl⟩
   obtain ⟨W1,hW1⟩:∃ W1,(w.alloc (.cells #[.int .i64 0,.int .i64 0] 126)).alloc (.cells #[.bool false,.bool false] 127)=W1:=⟨_,rfl⟩
   rw[hW1] at X0 X1 HB0 ⊢
   clear hW1
   go_wp2_with fail
   refine (zxt _).mono ?_
   rintro e wS ⟨rfl,hBS⟩
   have x6:=(Bx.new W1 178 #[.int .i64 0,.int .i64 0,.int .i64 0,.int .i64 0]).alloc (.cells #[.bool false,.bool false] 127)
   have x7:=Bx.new (W1.alloc (.cells #[.int .i64 0,.int .i64 0,.int .i64 0,.int .i64 0] 178)) 127 #[.bool false,.bool false]
   rw[World.size_alloc] at x7
   have X6:=hid (x6.up hBS x6.lt)
   have X7:=hid (x7.up hBS x7.lt)
   have X0S:=hid (((X0.out.alloc (.cells #[.int .i64 0,.int .i64 0,.int .i64 0,.int .i64 0] 178)).alloc (.cells #[.bool false,.bool false] 127)).up hBS ((X0.out.alloc (.cells #[.int .i64 0,.int .i64 0,.int .i64 0,.int .i64 0] 178)).alloc (.cells #[.bool false,.bool false] 127)).lt)
   have X1S:=hid (((X1.out.alloc (.cells #[.int .i64 0,.int .i64 0,.int .i64 0,.int .i64 0] 178)).alloc (.cells #[.bool false,.bool false] 127)).up hBS ((X1.out.alloc (.cells #[.int .i64 0,.int .i64 0,.int .i64 0,.int .i64 0] 178)).alloc (.cells #[.bool false,.bool false] 127)).lt)
   have hz1:=HB0.out.size
   have hg1:=X1.out.lt
   have HBS:=hid (((HB0.out.alloc hz1 (.cells #[.int .i64 0,.int .i64 0,.int .i64 0,.int .i64 0] 178)).alloc (by simp;omega) (.cells #[.bool false,.bool false] 127)).trans (hBS.mono (by simp;omega)))
   obtain ⟨r0,hr0⟩:∃ r0,zji ws 0=r0:=⟨_,rfl⟩
   obtain ⟨r1,hr1⟩:∃ r1,zji ws 8=r1:=⟨_,rfl⟩
   rw[hr0] at HC0 HV
   rw[hr1] at HC1 HV
   clear hr0 hr1 x6 x7 hBS X0 X1 HB0
   go_wp2_with fail
   have ix0:∀ w,(Instr.index 179 (.agg #[.int .i64 0,.int .i64 8]) (.int .i64 0)).run Tryz.prog w=.ok (.int .i64 0) w:=fun _=>by kernel_rfl
   have ix1:∀ w,(Instr.index 179 (.agg #[.int .i64 0,.int .i64 8]) (.int .i64 1)).run Tryz.prog w=.ok (.int .i64 8) w:=fun _=>by kernel_rfl
   go_loopw [20] (fun i wr=>∃ k:Nat,k≤2∧i=.int .i64 k∧Hid (Bx wr w.heap.size 126 #[.int .i64 0,.int .i64 0])∧Hid (Bx wr (w.heap.size+1) 127 #[.bool false,.bool false])∧Hid (k=0→Bx wr W1.heap.size 178 #[.int .i64 0,.int .i64 0,.int .i64 0,.int .i64 0]∧Bx wr (W1.heap.size+1) 127 #[.bool false,.bool false])∧Hid (k=1→Bx wr W1.heap.size 178 #[.int .i64 a0,.int .i64 b0,.int .i64 0,.int .i64 0]∧Bx wr (W1.heap.size+1) 127 #[.bool r0,.bool false])∧Hid (k=2→Bx wr W1.heap.size 178 #[.int .i64 a0,.int .i64 b0,.int .i64 a1,.int .i64 b1]∧Bx wr (W1.heap.size+1) 127 #[.bool r0,.bool r1])∧Hid (Below w.heap.size w wr)) (fun i _=>2 - (intOf i).toNat)
   case atStart=>exact ⟨0,Nat.zero_le _,rfl,X0S,X1S,hid fun _=>⟨X6.out,X7.out⟩,hid fun h=>by omega,hid fun h=>by omega,HBS⟩
   case round =>
    obtain ⟨k,hk,rfl,Y0,Y1,T0,T1,T2,HB⟩:=hrel
    by_cases h0:k=0
    · subst h0
      have X6:=hid (T0.out rfl).1
      have X7:=hid (T0.out rfl).2
      clear T0 T1 T2
      have hz:=HB.out.size
      have HSC:=hid (HRD0.out wr (HR.out.up HB.out hz))
      by_cases he:e0=0
      · have hq:(a0 == (ws.length:Int))=r0:=by have:=HC0.out.1;rw[if_pos he] at this;exact this.symm
        have HQ:=hid hq
        subst he
        go_wp2_with fail
        refine HSC.out.mono ?_
        rintro e w5 ⟨rfl,hB5⟩
        have hz5:=hB5.size
        have Y05:=hid ((Y0.out.up hB5 Y0.out.lt).alloc (.cells #[.int .i64 a0,.int .i64 b0] 126))
        have Y15:=hid ((Y1.out.up hB5 Y1.out.lt).alloc (.cells #[.int .i64 a0,.int .i64 b0] 126))
        have x65:=((X6.out.up hB5 X6.out.lt).alloc (.cells #[.int .i64 a0,.int .i64 b0] 126))
        have x75:=((X7.out.up hB5 X7.out.lt).alloc (.cells #[.int .i64 a0,.int .i64 b0] 126))
        have xs5:=Bx.new w5 126 #[.int .i64 a0,.int .i64 b0]
        have HB5:=hid ((HB.out.trans (hB5.mono hz)).alloc (Nat.le_trans hz hz5) (.cells #[.int .i64 a0,.int .i64 b0] 126))
        have hl6:=X6.out.lt
        have hl7:=X7.out.lt
        clear hB5
        go_wp2_with fail
        obtain ⟨W5,hW5⟩:∃ W5,w5.alloc (.cells #[.int .i64 a0,.int .i64 b0] 126)=W5:=⟨_,rfl⟩
        rw[hW5] at Y05 Y15 x65 x75 xs5 HB5 ⊢
        clear hW5
        obtain ⟨q0,q1,-,-,hg5⟩:=xs5.c2
        obtain ⟨p0,p1,p2,p3,p4,p5,p6,p7,hg6⟩:=x65.c4
        obtain ⟨s0,s1,s2,s3,hg7⟩:=x75.c2
        have X65:=hid x65
        have X75:=hid x75
        have XS5:=hid (show Bx W5.drew _ _ _ from xs5)
        have hn6:w5.heap.size≠W1.heap.size:=by omega
        have hn7:w5.heap.size≠W1.heap.size+1:=by omega
        clear x65 x75 xs5
        have hn6':=hn6.symm
        have hn7':=hn7.symm
        first | (go_region_held3 (fun X:World=>X.cell? ⟨w5.heap.size,0,none⟩=some (.int .i64 a0)∧X.cell? ⟨w5.heap.size,1,none⟩=some (.int .i64 b0)) (go_keep) (fail)) | fail
        clear q0 q1 p0 p1 p2 p3 p4 p5 p6 p7 s0 s1 s2 s3
        go_wp2_with fail
        have Z0:=hid (((Y05.out.far (p:=⟨W1.heap.size,0,none⟩) (by simp;omega) (.int .i64 a0)).far (p:=⟨W1.heap.size,1,none⟩) (by simp;omega) (.int .i64 b0)).far (p:=⟨W1.heap.size+1,0,none⟩) (by simp;omega) (.bool r0))
        have Z1:=hid (((Y15.out.far (p:=⟨W1.heap.size,0,none⟩) (by simp;omega) (.int .i64 a0)).far (p:=⟨W1.heap.size,1,none⟩) (by simp;omega) (.int .i64 b0)).far (p:=⟨W1.heap.size+1,0,none⟩) (by simp;omega) (.bool r0))
        have Z6:=hid (((X65.out.set_ 0 (.int .i64 a0)).set_ 1 (.int .i64 b0)).far (p:=⟨W1.heap.size+1,0,none⟩) (by simp) (.bool r0))
        have Z7:=hid (((X75.out.far (p:=⟨W1.heap.size,0,none⟩) (by simp) (.int .i64 a0)).far (p:=⟨W1.heap.size,1,none⟩) (by simp) (.int .i64 b0)).set_ 0 (.bool r0))
        have ZB:=hid (((HB5.out.setCell (p:=⟨W1.heap.size,0,none⟩) hz1 (.int .i64 a0)).setCell (p:=⟨W1.heap.size,1,none⟩) hz1 (.int .i64 b0)).setCell (p:=⟨W1.heap.size+1,0,none⟩) (Nat.le_succ_of_le hz1) (.bool r0))
        go_roundw
        case rel=>exact ⟨1,by omega,by go_num,Z0,Z1,hid fun h=>absurd h (by decide),hid fun h=>⟨Z6.out,Z7.out⟩,hid fun h=>absurd h (by decide),hid ZB.out.drew⟩
        case measure=>simp[intOf]
      · have hq:r0=false:=by have:=HC0.out.1;rw[if_neg he] at this;exact this
        subst hq
        have hef:(e0 == 0)=false:=by rw[beq_eq_false_iff_ne];exact he
        clear he
        go_wp2_with fail
        refine HSC.out.mono ?_
        rintro e w5 ⟨rfl,hB5⟩
        have hz5:=hB5.size
        have Y05:=hid ((Y0.out.up hB5 Y0.out.lt).alloc (.cells #[.int .i64 a0,.int .i64 b0] 126))
        have Y15:=hid ((Y1.out.up hB5 Y1.out.lt).alloc (.cells #[.int .i64 a0,.int .i64 b0] 126))
        have x65:=((X6.out.up hB5 X6.out.lt).alloc (.cells #[.int .i64 a0,.int .i64 b0] 126))
        have x75:=((X7.out.up hB5 X7.out.lt).alloc (.cells #[.int .i64 a0,.int .i64 b0] 126))
        have xs5:=Bx.new w5 126 #[.int .i64 a0,.int .i64 b0]
        have HB5:=hid ((HB.out.trans (hB5.mono hz)).alloc (Nat.le_trans hz hz5) (.cells #[.int .i64 a0,.int .i64 b0] 126))
        have hl6:=X6.out.lt
        have hl7:=X7.out.lt
        clear hB5
        go_wp2_with fail
        obtain ⟨W5,hW5⟩:∃ W5,w5.alloc (.cells #[.int .i64 a0,.int .i64 b0] 126)=W5:=⟨_,rfl⟩
        rw[hW5] at Y05 Y15 x65 x75 xs5 HB5 ⊢
        clear hW5
        obtain ⟨q0,q1,-,-,hg5⟩:=xs5.c2
        obtain ⟨p0,p1,p2,p3,p4,p5,p6,p7,hg6⟩:=x65.c4
        obtain ⟨s0,s1,s2,s3,hg7⟩:=x75.c2
        have X65:=hid x65
        have X75:=hid x75
        have XS5:=hid (show Bx W5.drew _ _ _ from xs5)
        have hn6:w5.heap.size≠W1.heap.size:=by omega
        have hn7:w5.heap.size≠W1.heap.size+1:=by omega
        clear x65 x75 xs5
        have hn6':=hn6.symm
        have hn7':=hn7.symm
        refine wp_region_held_drew (S:=fun X:World=>X.cell? ⟨w5.heap.size,0,none⟩=some (.int .i64 a0)∧X.cell? ⟨w5.heap.size,1,none⟩=some (.int .i64 b0)) (by kernel_rfl) ⟨q0,q1⟩ (fun hHeld => ?_)
        show wpAnyH _ _ _ _ _ 16 #[false,false,false,false,false,false,false,false,false,false,false,false,false,false,false,false] _ _
        refine wpAnyH_take (i:=0) (v:=.int .i64 0) rfl (by kernel_rfl) (by kernel_rfl) (by kernel_rfl) (fun _ _ _ h=>h) (Or.inl ⟨by kernel_rfl,?_⟩) (by assumption) ?_
        · intro X hX
          (try dsimp only at hX)
          go_simp
        dsimp only[Act.put,List.getElem_toArray,List.getElem_cons_zero,List.getElem_cons_succ,List.setIfInBounds_toArray,List.set_cons_zero,List.set_cons_succ]
        refine wpAnyH_take (i:=1) (v:=.int .i64 0) rfl (by kernel_rfl) (by kernel_rfl) (by kernel_rfl) (fun _ _ _ h=>h) (Or.inl ⟨by kernel_rfl,?_⟩) (by assumption) ?_
        · intro X hX
          (try dsimp only at hX)
          go_simp
        dsimp only[Act.put,List.getElem_toArray,List.getElem_cons_zero,List.getElem_cons_succ,List.setIfInBounds_toArray,List.set_cons_zero,List.set_cons_succ]
        refine wpAnyH_take (i:=2) (v:=.agg #[.int .i64 a0,.int .i64 b0]) rfl (by kernel_rfl) (by kernel_rfl) (by kernel_rfl) (fun _ _ _ h=>h) (Or.inl ⟨by kernel_rfl,?_⟩) (by assumption) ?_
        · intro X hX
          (try dsimp only at hX)
          go_simp
        dsimp only[Act.put,List.getElem_toArray,List.getElem_cons_zero,List.getElem_cons_succ,List.setIfInBounds_toArray,List.set_cons_zero,List.set_cons_succ]
        refine wpAnyH_take (i:=3) (v:=.int .i64 e0) rfl (by kernel_rfl) (by kernel_rfl) (by kernel_rfl) (fun _ _ _ h=>h) (Or.inl ⟨by kernel_rfl,?_⟩) (by assumption) ?_
        · intro X hX
          (try dsimp only at hX)
          go_simp
        dsimp only[Act.put,List.getElem_toArray,List.getElem_cons_zero,List.getElem_cons_succ,List.setIfInBounds_toArray,List.set_cons_zero,List.set_cons_succ]
        refine wpAnyH_take (i:=4) (v:=.bool false) rfl (by kernel_rfl) (by kernel_rfl) (by kernel_rfl) (fun _ _ _ h=>h) (Or.inl ⟨by kernel_rfl,?_⟩) (by assumption) ?_
        · intro X hX
          (try dsimp only at hX)
          go_simp
        dsimp only[Act.put,List.getElem_toArray,List.getElem_cons_zero,List.getElem_cons_succ,List.setIfInBounds_toArray,List.set_cons_zero,List.set_cons_succ]
        refine wpAnyH_take (i:=5) (v:=.bool false) rfl (by kernel_rfl) (by kernel_rfl) (by kernel_rfl) (fun _ _ _ h=>h) (Or.inl ⟨by kernel_rfl,?_⟩) (by assumption) ?_
        · intro X hX
          (try dsimp only at hX)
          go_simp
        dsimp only[Act.put,List.getElem_toArray,List.getElem_cons_zero,List.getElem_cons_succ,List.setIfInBounds_toArray,List.set_cons_zero,List.set_cons_succ]
        refine wpAnyH_take (i:=6) (v:=undef) rfl (by kernel_rfl) (by kernel_rfl) (by kernel_rfl) (fun _ _ _ h=>h) (Or.inr ⟨by kernel_rfl,rfl⟩) (by assumption) ?_
        dsimp only[Act.put,List.getElem_toArray,List.getElem_cons_zero,List.getElem_cons_succ,List.setIfInBounds_toArray,List.set_cons_zero,List.set_cons_succ]
        refine wpAnyH_take (i:=7) (v:=undef) rfl (by kernel_rfl) (by kernel_rfl) (by kernel_rfl) (fun _ _ _ h=>h) (Or.inr ⟨by kernel_rfl,rfl⟩) (by assumption) ?_
        dsimp only[Act.put,List.getElem_toArray,List.getElem_cons_zero,List.getElem_cons_succ,List.setIfInBounds_toArray,List.set_cons_zero,List.set_cons_succ]
        refine wpAnyH_take (i:=8) (v:=undef) rfl (by kernel_rfl) (by kernel_rfl) (by kernel_rfl) (fun _ _ _ h=>h) (Or.inr ⟨by kernel_rfl,rfl⟩) (by assumption) ?_
        dsimp only[Act.put,List.getElem_toArray,List.getElem_cons_zero,List.getElem_cons_succ,List.setIfInBounds_toArray,List.set_cons_zero,List.set_cons_succ]
        refine wpAnyH_take (i:=9) (v:=undef) rfl (by kernel_rfl) (by kernel_rfl) (by kernel_rfl) (fun _ _ _ h=>h) (Or.inr ⟨by kernel_rfl,rfl⟩) (by assumption) ?_
        dsimp only[Act.put,List.getElem_toArray,List.getElem_cons_zero,List.getElem_cons_succ,List.setIfInBounds_toArray,List.set_cons_zero,List.set_cons_succ]
        refine wpAnyH_take (i:=10) (v:=undef) rfl (by kernel_rfl) (by kernel_rfl) (by kernel_rfl) (fun _ _ _ h=>h) (Or.inr ⟨by kernel_rfl,rfl⟩) (by assumption) ?_
        dsimp only[Act.put,List.getElem_toArray,List.getElem_cons_zero,List.getElem_cons_succ,List.setIfInBounds_toArray,List.set_cons_zero,List.set_cons_succ]
        refine wpAnyH_take (i:=11) (v:=.bool false) rfl (by kernel_rfl) (by kernel_rfl) (by kernel_rfl) (fun _ _ _ h=>h) (Or.inl ⟨by kernel_rfl,?_⟩) (by assumption) ?_
        · intro X hX
          (try dsimp only at hX)
          go_simp
        dsimp only[Act.put,List.getElem_toArray,List.getElem_cons_zero,List.getElem_cons_succ,List.setIfInBounds_toArray,List.set_cons_zero,List.set_cons_succ]
        refine wpAnyH_take (i:=12) (v:=.pointer (some ⟨W1.heap.size,0,none⟩)) rfl (by kernel_rfl) (by kernel_rfl) (by kernel_rfl) (fun _ _ _ h=>h) (Or.inl ⟨by kernel_rfl,?_⟩) (by assumption) ?_
        · intro X hX
          (try dsimp only at hX)
          go_simp
        dsimp only[Act.put,List.getElem_toArray,List.getElem_cons_zero,List.getElem_cons_succ,List.setIfInBounds_toArray,List.set_cons_zero,List.set_cons_succ]
        refine wpAnyH_ready (rs:=[13]) (by kernel_rfl) (by simp) ?_
        refine AllReadyH.cons rfl (fun K hK => ?_) AllReadyH.nil
        go_simp
        refine hK.out _ _ ⟨by go_keep,by go_keep⟩ ?_
        clear hK K
        intro hS1
        refine wpAnyH_take (i:=14) (v:=.pointer (some ⟨W1.heap.size+1,0,none⟩)) rfl (by kernel_rfl) (by kernel_rfl) (by kernel_rfl) (fun _ _ _ h=>h) (Or.inl ⟨by kernel_rfl,?_⟩) (by assumption) ?_
        · intro X hX
          (try dsimp only at hX)
          go_simp
        dsimp only[Act.put,List.getElem_toArray,List.getElem_cons_zero,List.getElem_cons_succ,List.setIfInBounds_toArray,List.set_cons_zero,List.set_cons_succ]
        refine wpAnyH_ready (rs:=[15]) (by kernel_rfl) (by simp) ?_
        refine AllReadyH.cons rfl (fun K hK => ?_) AllReadyH.nil
        go_simp
        refine hK.out _ _ ⟨by go_keep,by go_keep⟩ ?_
        clear hK K
        intro hS2
        refine wpAnyH_done (by kernel_rfl) ?_ _
        clear hHeld
        clear q0 q1 p0 p1 p2 p3 p4 p5 p6 p7 s0 s1 s2 s3
        go_wp2_with fail
        have Z0:=hid (((Y05.out.far (p:=⟨W1.heap.size,0,none⟩) (by simp;omega) (.int .i64 a0)).far (p:=⟨W1.heap.size,1,none⟩) (by simp;omega) (.int .i64 b0)).far (p:=⟨W1.heap.size+1,0,none⟩) (by simp;omega) (.bool false))
        have Z1:=hid (((Y15.out.far (p:=⟨W1.heap.size,0,none⟩) (by simp;omega) (.int .i64 a0)).far (p:=⟨W1.heap.size,1,none⟩) (by simp;omega) (.int .i64 b0)).far (p:=⟨W1.heap.size+1,0,none⟩) (by simp;omega) (.bool false))
        have Z6:=hid (((X65.out.set_ 0 (.int .i64 a0)).set_ 1 (.int .i64 b0)).far (p:=⟨W1.heap.size+1,0,none⟩) (by simp) (.bool false))
        have Z7:=hid (((X75.out.far (p:=⟨W1.heap.size,0,none⟩) (by simp) (.int .i64 a0)).far (p:=⟨W1.heap.size,1,none⟩) (by simp) (.int .i64 b0)).set_ 0 (.bool false))
        have ZB:=hid (((HB5.out.setCell (p:=⟨W1.heap.size,0,none⟩) hz1 (.int .i64 a0)).setCell (p:=⟨W1.heap.size,1,none⟩) hz1 (.int .i64 b0)).setCell (p:=⟨W1.heap.size+1,0,none⟩) (Nat.le_succ_of_le hz1) (.bool false))
        go_roundw
        case rel=>exact ⟨1,by omega,by go_num,Z0,Z1,hid fun h=>absurd h (by decide),hid fun h=>⟨Z6.out,Z7.out⟩,hid fun h=>absurd h (by decide),hid ZB.out.drew⟩
        case measure=>simp[intOf]
    · by_cases h1:k=1
      · subst h1
        have X6:=hid (T1.out rfl).1
        have X7:=hid (T1.out rfl).2
        clear T0 T1 T2
        have hz:=HB.out.size
        have HSC:=hid (HRD1.out wr (HR.out.up HB.out hz))
        by_cases he:e1=0
        · have hq:(a1 == (ws.length:Int))=r1:=by have:=HC1.out.1;rw[if_pos he] at this;exact this.symm
          have HQ:=hid hq
          subst he
          go_wp2_with fail
          refine HSC.out.mono ?_
          rintro e w5 ⟨rfl,hB5⟩
          have hz5:=hB5.size
          have Y05:=hid ((Y0.out.up hB5 Y0.out.lt).alloc (.cells #[.int .i64 a1,.int .i64 b1] 126))
          have Y15:=hid ((Y1.out.up hB5 Y1.out.lt).alloc (.cells #[.int .i64 a1,.int .i64 b1] 126))
          have x65:=((X6.out.up hB5 X6.out.lt).alloc (.cells #[.int .i64 a1,.int .i64 b1] 126))
          have x75:=((X7.out.up hB5 X7.out.lt).alloc (.cells #[.int .i64 a1,.int .i64 b1] 126))
          have xs5:=Bx.new w5 126 #[.int .i64 a1,.int .i64 b1]
          have HB5:=hid ((HB.out.trans (hB5.mono hz)).alloc (Nat.le_trans hz hz5) (.cells #[.int .i64 a1,.int .i64 b1] 126))
          have hl6:=X6.out.lt
          have hl7:=X7.out.lt
          clear hB5
          go_wp2_with fail
          obtain ⟨W5,hW5⟩:∃ W5,w5.alloc (.cells #[.int .i64 a1,.int .i64 b1] 126)=W5:=⟨_,rfl⟩
          rw[hW5] at Y05 Y15 x65 x75 xs5 HB5 ⊢
          clear hW5
          obtain ⟨q0,q1,-,-,hg5⟩:=xs5.c2
          obtain ⟨p0,p1,p2,p3,p4,p5,p6,p7,hg6⟩:=x65.c4
          obtain ⟨s0,s1,s2,s3,hg7⟩:=x75.c2
          have X65:=hid x65
          have X75:=hid x75
          have XS5:=hid (show Bx W5.drew _ _ _ from xs5)
          have hn6:w5.heap.size≠W1.heap.size:=by omega
          have hn7:w5.heap.size≠W1.heap.size+1:=by omega
          clear x65 x75 xs5
          have hn6':=hn6.symm
          have hn7':=hn7.symm
          first | (go_region_held3 (fun X:World=>X.cell? ⟨w5.heap.size,0,none⟩=some (.int .i64 a1)∧X.cell? ⟨w5.heap.size,1,none⟩=some (.int .i64 b1)) (go_keep) (fail)) | fail
          clear q0 q1 p0 p1 p2 p3 p4 p5 p6 p7 s0 s1 s2 s3
          go_wp2_with fail
          have Z0:=hid (((Y05.out.far (p:=⟨W1.heap.size,2,none⟩) (by simp;omega) (.int .i64 a1)).far (p:=⟨W1.heap.size,3,none⟩) (by simp;omega) (.int .i64 b1)).far (p:=⟨W1.heap.size+1,1,none⟩) (by simp;omega) (.bool r1))
          have Z1:=hid (((Y15.out.far (p:=⟨W1.heap.size,2,none⟩) (by simp;omega) (.int .i64 a1)).far (p:=⟨W1.heap.size,3,none⟩) (by simp;omega) (.int .i64 b1)).far (p:=⟨W1.heap.size+1,1,none⟩) (by simp;omega) (.bool r1))
          have Z6:=hid (((X65.out.set_ 2 (.int .i64 a1)).set_ 3 (.int .i64 b1)).far (p:=⟨W1.heap.size+1,1,none⟩) (by simp) (.bool r1))
          have Z7:=hid (((X75.out.far (p:=⟨W1.heap.size,2,none⟩) (by simp) (.int .i64 a1)).far (p:=⟨W1.heap.size,3,none⟩) (by simp) (.int .i64 b1)).set_ 1 (.bool r1))
          have ZB:=hid (((HB5.out.setCell (p:=⟨W1.heap.size,2,none⟩) hz1 (.int .i64 a1)).setCell (p:=⟨W1.heap.size,3,none⟩) hz1 (.int .i64 b1)).setCell (p:=⟨W1.heap.size+1,1,none⟩) (Nat.le_succ_of_le hz1) (.bool r1))
          go_roundw
          case rel=>exact ⟨2,by omega,by go_num,Z0,Z1,hid fun h=>absurd h (by decide),hid fun h=>absurd h (by decide),hid fun h=>⟨Z6.out,Z7.out⟩,hid ZB.out.drew⟩
          case measure=>simp[intOf]
        · have hq:r1=false:=by have:=HC1.out.1;rw[if_neg he] at this;exact this
          subst hq
          have hef:(e1 == 0)=false:=by rw[beq_eq_false_iff_ne];exact he
          clear he
          go_wp2_with fail
          refine HSC.out.mono ?_
          rintro e w5 ⟨rfl,hB5⟩
          have hz5:=hB5.size
          have Y05:=hid ((Y0.out.up hB5 Y0.out.lt).alloc (.cells #[.int .i64 a1,.int .i64 b1] 126))
          have Y15:=hid ((Y1.out.up hB5 Y1.out.lt).alloc (.cells #[.int .i64 a1,.int .i64 b1] 126))
          have x65:=((X6.out.up hB5 X6.out.lt).alloc (.cells #[.int .i64 a1,.int .i64 b1] 126))
          have x75:=((X7.out.up hB5 X7.out.lt).alloc (.cells #[.int .i64 a1,.int .i64 b1] 126))
          have xs5:=Bx.new w5 126 #[.int .i64 a1,.int .i64 b1]
          have HB5:=hid ((HB.out.trans (hB5.mono hz)).alloc (Nat.le_trans hz hz5) (.cells #[.int .i64 a1,.int .i64 b1] 126))
          have hl6:=X6.out.lt
          have hl7:=X7.out.lt
          clear hB5
          go_wp2_with fail
          obtain ⟨W5,hW5⟩:∃ W5,w5.alloc (.cells #[.int .i64 a1,.int .i64 b1] 126)=W5:=⟨_,rfl⟩
          rw[hW5] at Y05 Y15 x65 x75 xs5 HB5 ⊢
          clear hW5
          obtain ⟨q0,q1,-,-,hg5⟩:=xs5.c2
          obtain ⟨p0,p1,p2,p3,p4,p5,p6,p7,hg6⟩:=x65.c4
          obtain ⟨s0,s1,s2,s3,hg7⟩:=x75.c2
          have X65:=hid x65
          have X75:=hid x75
          have XS5:=hid (show Bx W5.drew _ _ _ from xs5)
          have hn6:w5.heap.size≠W1.heap.size:=by omega
          have hn7:w5.heap.size≠W1.heap.size+1:=by omega
          clear x65 x75 xs5
          have hn6':=hn6.symm
          have hn7':=hn7.symm
          refine wp_region_held_drew (S:=fun X:World=>X.cell? ⟨w5.heap.size,0,none⟩=some (.int .i64 a1)∧X.cell? ⟨w5.heap.size,1,none⟩=some (.int .i64 b1)) (by kernel_rfl) ⟨q0,q1⟩ (fun hHeld => ?_)
          show wpAnyH _ _ _ _ _ 16 #[false,false,false,false,false,false,false,false,false,false,false,false,false,false,false,false] _ _
          refine wpAnyH_take (i:=0) (v:=.int .i64 1) rfl (by kernel_rfl) (by kernel_rfl) (by kernel_rfl) (fun _ _ _ h=>h) (Or.inl ⟨by kernel_rfl,?_⟩) (by assumption) ?_
          · intro X hX
            (try dsimp only at hX)
            go_simp
          dsimp only[Act.put,List.getElem_toArray,List.getElem_cons_zero,List.getElem_cons_succ,List.setIfInBounds_toArray,List.set_cons_zero,List.set_cons_succ]
          refine wpAnyH_take (i:=1) (v:=.int .i64 1) rfl (by kernel_rfl) (by kernel_rfl) (by kernel_rfl) (fun _ _ _ h=>h) (Or.inl ⟨by kernel_rfl,?_⟩) (by assumption) ?_
          · intro X hX
            (try dsimp only at hX)
            go_simp
          dsimp only[Act.put,List.getElem_toArray,List.getElem_cons_zero,List.getElem_cons_succ,List.setIfInBounds_toArray,List.set_cons_zero,List.set_cons_succ]
          refine wpAnyH_take (i:=2) (v:=.agg #[.int .i64 a1,.int .i64 b1]) rfl (by kernel_rfl) (by kernel_rfl) (by kernel_rfl) (fun _ _ _ h=>h) (Or.inl ⟨by kernel_rfl,?_⟩) (by assumption) ?_
          · intro X hX
            (try dsimp only at hX)
            go_simp
          dsimp only[Act.put,List.getElem_toArray,List.getElem_cons_zero,List.getElem_cons_succ,List.setIfInBounds_toArray,List.set_cons_zero,List.set_cons_succ]
          refine wpAnyH_take (i:=3) (v:=.int .i64 e1) rfl (by kernel_rfl) (by kernel_rfl) (by kernel_rfl) (fun _ _ _ h=>h) (Or.inl ⟨by kernel_rfl,?_⟩) (by assumption) ?_
          · intro X hX
            (try dsimp only at hX)
            go_simp
          dsimp only[Act.put,List.getElem_toArray,List.getElem_cons_zero,List.getElem_cons_succ,List.setIfInBounds_toArray,List.set_cons_zero,List.set_cons_succ]
          refine wpAnyH_take (i:=4) (v:=.bool false) rfl (by kernel_rfl) (by kernel_rfl) (by kernel_rfl) (fun _ _ _ h=>h) (Or.inl ⟨by kernel_rfl,?_⟩) (by assumption) ?_
          · intro X hX
            (try dsimp only at hX)
            go_simp
          dsimp only[Act.put,List.getElem_toArray,List.getElem_cons_zero,List.getElem_cons_succ,List.setIfInBounds_toArray,List.set_cons_zero,List.set_cons_succ]
          refine wpAnyH_take (i:=5) (v:=.bool false) rfl (by kernel_rfl) (by kernel_rfl) (by kernel_rfl) (fun _ _ _ h=>h) (Or.inl ⟨by kernel_rfl,?_⟩) (by assumption) ?_
          · intro X hX
            (try dsimp only at hX)
            go_simp
          dsimp only[Act.put,List.getElem_toArray,List.getElem_cons_zero,List.getElem_cons_succ,List.setIfInBounds_toArray,List.set_cons_zero,List.set_cons_succ]
          refine wpAnyH_take (i:=6) (v:=undef) rfl (by kernel_rfl) (by kernel_rfl) (by kernel_rfl) (fun _ _ _ h=>h) (Or.inr ⟨by kernel_rfl,rfl⟩) (by assumption) ?_
          dsimp only[Act.put,List.getElem_toArray,List.getElem_cons_zero,List.getElem_cons_succ,List.setIfInBounds_toArray,List.set_cons_zero,List.set_cons_succ]
          refine wpAnyH_take (i:=7) (v:=undef) rfl (by kernel_rfl) (by kernel_rfl) (by kernel_rfl) (fun _ _ _ h=>h) (Or.inr ⟨by kernel_rfl,rfl⟩) (by assumption) ?_
          dsimp only[Act.put,List.getElem_toArray,List.getElem_cons_zero,List.getElem_cons_succ,List.setIfInBounds_toArray,List.set_cons_zero,List.set_cons_succ]
          refine wpAnyH_take (i:=8) (v:=undef) rfl (by kernel_rfl) (by kernel_rfl) (by kernel_rfl) (fun _ _ _ h=>h) (Or.inr ⟨by kernel_rfl,rfl⟩) (by assumption) ?_
          dsimp only[Act.put,List.getElem_toArray,List.getElem_cons_zero,List.getElem_cons_succ,List.setIfInBounds_toArray,List.set_cons_zero,List.set_cons_succ]
          refine wpAnyH_take (i:=9) (v:=undef) rfl (by kernel_rfl) (by kernel_rfl) (by kernel_rfl) (fun _ _ _ h=>h) (Or.inr ⟨by kernel_rfl,rfl⟩) (by assumption) ?_
          dsimp only[Act.put,List.getElem_toArray,List.getElem_cons_zero,List.getElem_cons_succ,List.setIfInBounds_toArray,List.set_cons_zero,List.set_cons_succ]
          refine wpAnyH_take (i:=10) (v:=undef) rfl (by kernel_rfl) (by kernel_rfl) (by kernel_rfl) (fun _ _ _ h=>h) (Or.inr ⟨by kernel_rfl,rfl⟩) (by assumption) ?_
          dsimp only[Act.put,List.getElem_toArray,List.getElem_cons_zero,List.getElem_cons_succ,List.setIfInBounds_toArray,List.set_cons_zero,List.set_cons_succ]
          refine wpAnyH_take (i:=11) (v:=.bool false) rfl (by kernel_rfl) (by kernel_rfl) (by kernel_rfl) (fun _ _ _ h=>h) (Or.inl ⟨by kernel_rfl,?_⟩) (by assumption) ?_
          · intro X hX
            (try dsimp only at hX)
            go_simp
          dsimp only[Act.put,List.getElem_toArray,List.getElem_cons_zero,List.getElem_cons_succ,List.setIfInBounds_toArray,List.set_cons_zero,List.set_cons_succ]
          refine wpAnyH_take (i:=12) (v:=.pointer (some ⟨W1.heap.size,2,none⟩)) rfl (by kernel_rfl) (by kernel_rfl) (by kernel_rfl) (fun _ _ _ h=>h) (Or.inl ⟨by kernel_rfl,?_⟩) (by assumption) ?_
          · intro X hX
            (try dsimp only at hX)
            go_simp
          dsimp only[Act.put,List.getElem_toArray,List.getElem_cons_zero,List.getElem_cons_succ,List.setIfInBounds_toArray,List.set_cons_zero,List.set_cons_succ]
          refine wpAnyH_ready (rs:=[13]) (by kernel_rfl) (by simp) ?_
          refine AllReadyH.cons rfl (fun K hK => ?_) AllReadyH.nil
          go_simp
          refine hK.out _ _ ⟨by go_keep,by go_keep⟩ ?_
          clear hK K
          intro hS1
          refine wpAnyH_take (i:=14) (v:=.pointer (some ⟨W1.heap.size+1,1,none⟩)) rfl (by kernel_rfl) (by kernel_rfl) (by kernel_rfl) (fun _ _ _ h=>h) (Or.inl ⟨by kernel_rfl,?_⟩) (by assumption) ?_
          · intro X hX
            (try dsimp only at hX)
            go_simp
          dsimp only[Act.put,List.getElem_toArray,List.getElem_cons_zero,List.getElem_cons_succ,List.setIfInBounds_toArray,List.set_cons_zero,List.set_cons_succ]
          refine wpAnyH_ready (rs:=[15]) (by kernel_rfl) (by simp) ?_
          refine AllReadyH.cons rfl (fun K hK => ?_) AllReadyH.nil
          go_simp
          refine hK.out _ _ ⟨by go_keep,by go_keep⟩ ?_
          clear hK K
          intro hS2
          refine wpAnyH_done (by kernel_rfl) ?_ _
          clear hHeld
          clear q0 q1 p0 p1 p2 p3 p4 p5 p6 p7 s0 s1 s2 s3
          go_wp2_with fail
          have Z0:=hid (((Y05.out.far (p:=⟨W1.heap.size,2,none⟩) (by simp;omega) (.int .i64 a1)).far (p:=⟨W1.heap.size,3,none⟩) (by simp;omega) (.int .i64 b1)).far (p:=⟨W1.heap.size+1,1,none⟩) (by simp;omega) (.bool false))
          have Z1:=hid (((Y15.out.far (p:=⟨W1.heap.size,2,none⟩) (by simp;omega) (.int .i64 a1)).far (p:=⟨W1.heap.size,3,none⟩) (by simp;omega) (.int .i64 b1)).far (p:=⟨W1.heap.size+1,1,none⟩) (by simp;omega) (.bool false))
          have Z6:=hid (((X65.out.set_ 2 (.int .i64 a1)).set_ 3 (.int .i64 b1)).far (p:=⟨W1.heap.size+1,1,none⟩) (by simp) (.bool false))
          have Z7:=hid (((X75.out.far (p:=⟨W1.heap.size,2,none⟩) (by simp) (.int .i64 a1)).far (p:=⟨W1.heap.size,3,none⟩) (by simp) (.int .i64 b1)).set_ 1 (.bool false))
          have ZB:=hid (((HB5.out.setCell (p:=⟨W1.heap.size,2,none⟩) hz1 (.int .i64 a1)).setCell (p:=⟨W1.heap.size,3,none⟩) hz1 (.int .i64 b1)).setCell (p:=⟨W1.heap.size+1,1,none⟩) (Nat.le_succ_of_le hz1) (.bool false))
          go_roundw
          case rel=>exact ⟨2,by omega,by go_num,Z0,Z1,hid fun h=>absurd h (by decide),hid fun h=>absurd h (by decide),hid fun h=>⟨Z6.out,Z7.out⟩,hid ZB.out.drew⟩
          case measure=>simp[intOf]
      · have h2:k=2:=by omega
        subst h2
        have X6:=hid (T2.out rfl).1
        have X7:=hid (T2.out rfl).2
        obtain ⟨p0,p1,p2,p3,-,-,-,-,-⟩:=X6.out.c4
        obtain ⟨s0,s1,-⟩:=X7.out.c2
        have hgy0:=Y0.out.lt
        have hgy1:=Y1.out.lt
        obtain ⟨v0,v1,f0,f1,-⟩:=Y0.out.c2
        obtain ⟨v2,v3,f2,f3,-⟩:=Y1.out.c2
        clear T0 T1 T2
        have n1:w.heap.size≠W1.heap.size:=by omega
        have n2:w.heap.size≠W1.heap.size+1:=by omega
        have n3:w.heap.size+1≠W1.heap.size:=by omega
        cases r0
        · cases r1
          · have HN:Hid (tyN ws=none∧zid ws=50):=hid (by have:=HV.out;simp at this;exact ⟨this.1,by rw[this.2,this.1];rfl⟩)
            go_wp2_with fail
            exact bodyPost_ret (v:=.tuple #[.agg #[.int .i64 0,.int .i64 0],.agg #[.bool false,.bool false],.int .i64 50]) (zcn Tryz.results68 _ (show Bx _ _ _ _ from (((Y0.out.set_ 0 (.int .i64 0)).set_ 1 (.int .i64 0)).far (p:=⟨w.heap.size+1,0,none⟩) (by simp) (.bool false)).far (p:=⟨w.heap.size+1,1,none⟩) (by simp) (.bool false)) (show Bx _ _ _ _ from (((Y1.out.far (p:=⟨w.heap.size,0,none⟩) (by simp) (.int .i64 0)).far (p:=⟨w.heap.size,1,none⟩) (by simp) (.int .i64 0)).set_ 0 (.bool false)).set_ 1 (.bool false)) rfl rfl rfl) rfl ⟨⟨0,false,false,by rw[HN.out.1,HN.out.2];rfl⟩,(((HB.out.setCell (p:=⟨w.heap.size,0,none⟩) (Nat.le_refl _) (.int .i64 0)).setCell (p:=⟨w.heap.size,1,none⟩) (Nat.le_refl _) (.int .i64 0)).setCell (p:=⟨w.heap.size+1,0,none⟩) (Nat.le_succ _) (.bool false)).setCell (p:=⟨w.heap.size+1,1,none⟩) (Nat.le_succ _) (.bool false)⟩
          · have hb1:b1=((wd ws 11:Nat):Int):=HC1.out.2 rfl
            have HN:Hid (tyN ws=some (wd ws 11)∧zid ws=0):=hid (by have:=HV.out;simp at this;exact ⟨this.1,by rw[this.2,this.1];rfl⟩)
            have HB1:=hid hb1
            clear hb1
            go_wp2_with fail
            go_region_held3 (fun X:World=>X.cell? ⟨W1.heap.size,2,none⟩=some (.int .i64 a1)∧X.cell? ⟨W1.heap.size,3,none⟩=some (.int .i64 b1)∧X.cell? ⟨W1.heap.size+1,0,none⟩=some (.bool false)∧X.cell? ⟨W1.heap.size+1,1,none⟩=some (.bool true)) (go_keep) (fail)
            go_wp2_with fail
            exact bodyPost_ret (v:=.tuple #[.agg #[.int .i64 a1,.int .i64 b1],.agg #[.bool false,.bool true],.int .i64 0]) (zcn Tryz.results68 _ (show Bx _ _ _ _ from (((Y0.out.set_ 0 (.int .i64 a1)).set_ 1 (.int .i64 b1)).far (p:=⟨w.heap.size+1,0,none⟩) (by simp) (.bool false)).far (p:=⟨w.heap.size+1,1,none⟩) (by simp) (.bool true)) (show Bx _ _ _ _ from (((Y1.out.far (p:=⟨w.heap.size,0,none⟩) (by simp) (.int .i64 a1)).far (p:=⟨w.heap.size,1,none⟩) (by simp) (.int .i64 b1)).set_ 0 (.bool false)).set_ 1 (.bool true)) rfl rfl rfl) rfl ⟨⟨a1,false,true,by rw[HN.out.1,HN.out.2,HB1.out];rfl⟩,((((HB.out.setCell (p:=⟨w.heap.size,0,none⟩) (Nat.le_refl _) (.int .i64 a1)).setCell (p:=⟨w.heap.size,1,none⟩) (Nat.le_refl _) (.int .i64 b1)).setCell (p:=⟨w.heap.size+1,0,none⟩) (Nat.le_succ _) (.bool false)).setCell (p:=⟨w.heap.size+1,1,none⟩) (Nat.le_succ _) (.bool true)).drew⟩
        · have hb1:b0=((wd ws 3:Nat):Int):=HC0.out.2 rfl
          have HN:Hid (tyN ws=some (wd ws 3)∧zid ws=0):=hid (by have:=HV.out;simp at this;exact ⟨this.1,by rw[this.2,this.1];rfl⟩)
          have HB1:=hid hb1
          clear hb1
          go_wp2_with fail
          go_region_held3 (fun X:World=>X.cell? ⟨W1.heap.size,0,none⟩=some (.int .i64 a0)∧X.cell? ⟨W1.heap.size,1,none⟩=some (.int .i64 b0)∧X.cell? ⟨W1.heap.size+1,0,none⟩=some (.bool true)∧X.cell? ⟨W1.heap.size+1,1,none⟩=some (.bool r1)) (go_keep) (fail)
          go_wp2_with fail
          exact bodyPost_ret (v:=.tuple #[.agg #[.int .i64 a0,.int .i64 b0],.agg #[.bool true,.bool r1],.int .i64 0]) (zcn Tryz.results68 _ (show Bx _ _ _ _ from (((Y0.out.set_ 0 (.int .i64 a0)).set_ 1 (.int .i64 b0)).far (p:=⟨w.heap.size+1,0,none⟩) (by simp) (.bool true)).far (p:=⟨w.heap.size+1,1,none⟩) (by simp) (.bool r1)) (show Bx _ _ _ _ from (((Y1.out.far (p:=⟨w.heap.size,0,none⟩) (by simp) (.int .i64 a0)).far (p:=⟨w.heap.size,1,none⟩) (by simp) (.int .i64 b0)).set_ 0 (.bool true)).set_ 1 (.bool r1)) rfl rfl rfl) rfl ⟨⟨a0,true,r1,by rw[HN.out.1,HN.out.2,HB1.out];rfl⟩,((((HB.out.setCell (p:=⟨w.heap.size,0,none⟩) (Nat.le_refl _) (.int .i64 a0)).setCell (p:=⟨w.heap.size,1,none⟩) (Nat.le_refl _) (.int .i64 b0)).setCell (p:=⟨w.heap.size+1,0,none⟩) (Nat.le_succ _) (.bool true)).setCell (p:=⟨w.heap.size+1,1,none⟩) (Nat.le_succ _) (.bool r1)).drew⟩
end Go.Proofs.YtpcajamacpbjcaaGreat
