/- slices.DeleteFunc with the closure of mark.Wanted: the walk. -/
import Derived.Test.YtpifagclhhaniaaDel
import Derived.Test.YtpifagclhhaniaaKMove
namespace Go.Proofs.Ytpifagclhhaniaa
open Go.RowKit

theorem zeroCells_mem {z : Array Value} {n : Nat} {v : Value} (h : v ∈ (Builtin.zeroCells z n).toList) (h0 : 0 < z.size) : v ∈ z.toList := by
  simp only [Builtin.zeroCells, Array.toList_map, List.mem_map] at h
  obtain ⟨i, -, rfl⟩ := h
  have hlt : i % z.size < z.size := Nat.mod_lt _ h0
  rw [getElem!_pos z _ hlt]
  exact Array.getElem_mem_toList hlt
theorem zeroCells_len (z : Array Value) (n : Nat) : (Builtin.zeroCells z n).toList.length = n * z.size := by simp [Builtin.zeroCells]
theorem own_there {w : World} {H n c g : Nat} {e : TypeId} {sz : Nat} {xs : List Value} (h : w.ownsRow H e sz (.slice (some ⟨g, 0, none⟩) n c) n xs) (o k : Nat) (hk : o + k ≤ n * sz) : w.there g o k := fun j hj =>
  ⟨by rw [h.cellAt (o + j) (by omega), List.getElem?_eq_getElem (by have := h.1; omega)]; rfl, h.frozenAt (o + j)⟩
theorem zeroBlock (w : World) : (zeroValue 47).run Try.prog w = .ok (.agg #[.int .i64 0, .int .i64 0, .int .i64 0, .int .i64 0, .bool false, .int .u64 0]) w := by kernel_rfl
theorem blkSize : (Try.prog.info? 47).map (·.size) = some 6 := by kernel_rfl

set_option maxRecDepth 100000 in
set_option maxHeartbeats 8000000 in
theorem wntDelete_c (A : Option Addr) (l : List Bk) (S : List Bool) (gB g c n cl H : Nat) (w : World) (hS : S.length = n) (hl : l.length ≤ 2048) (hat : ∀ k (hk : k < l.length), ∃ m : Nat, l[k].at_ = (m : Int) ∧ m < n)
    (hown : w.ownsRow H 47 6 (.slice A l.length cl) l.length (l.flatMap Bk.cells)) (hH : H ≤ w.heap.size) (hB : gB < w.heap.size) (hbox : w.cell? ⟨gB, 0, none⟩ = some (.slice (some ⟨g, 0, none⟩) n c)) (h : Rd w w.heap.size (some ⟨g, 0, none⟩) (S.flatMap boolCells))
    (hg1 : (Value.slice A l.length cl).ownBlock ≠ some gB) (hg2 : (Value.slice A l.length cl).ownBlock ≠ some g) :
    Calls Try.prog 59 #[.slice A l.length cl, .func (.func 60) #[] #[.pointer (some ⟨gB, 0, none⟩)]] w fun e w' => ∃ A' c', e = .returned (.slice A' (wntL S l).length c') ∧ RdB w' w'.heap.size A' (wntL S l) ∧ w'.cell? ⟨gB, 0, none⟩ = some (.slice (some ⟨g, 0, none⟩) n c) ∧ Rd w' w'.heap.size (some ⟨g, 0, none⟩) (S.flatMap boolCells) ∧ gB < w'.heap.size ∧ Below H w w' := by
  have HIX := Lib.hid (wntIndex_c A l S gB g c n cl w hS hl hat (Rd.of_own hown) hB hbox h)
  unfold IxRes at HIX
  have HOW := Lib.hid hown
  have HBX := Lib.hid (And.intro hB hbox)
  have HS := Lib.hid h
  have HAT := Lib.hid hat
  have HG := Lib.hid (And.intro hg1 hg2)
  have HC := Lib.hid (fun m xs xk xt xm xn W hm h1 h2 h3 => wntIs_c gB g c n m S xs xk xt xm xn W hS hm h1 h2 h3)
  clear hown hB hbox h hat hg1 hg2
  go_enter Try.func59, Try.ntmps59
  go_wp2_with fail
  refine HIX.out.mono ?_
  rintro e w1 ⟨⟨rfl, hnk⟩ | ⟨k, hk, rfl, hnk, hkb⟩, hB1⟩
  · have HR := Lib.hid ((Rd.of_own HOW.out).up hB1 hB1.size)
    have HBX1 := Lib.hid ((hB1.cell (p := ⟨gB, 0, none⟩) HBX.out.1).trans HBX.out.2)
    have HS1 := Lib.hid (HS.out.up hB1 hB1.size)
    have HE := Lib.hid (wntL_none hnk)
    have hz := hB1.size
    have hb1 := hB1.mono hH
    clear hnk
    go_wp2_with fail
    go_ret
    rw [HE.out]
    exact ⟨A, cl, rfl, HR.out, HBX1.out, HS1.out, by have := HBX.out.1; omega, hb1⟩
  · have HD := Lib.hid (DelSt.first hk hnk hkb)
    obtain ⟨gL, cL, eL⟩ := own_some HOW.out (by omega)
    cases eL
    have hgL := own_base HOW.out
    have hne1 : gL ≠ gB := fun h => HG.out.1 (by rw [h]; rfl)
    have hne2 : gL ≠ g := fun h => HG.out.2 (by rw [h]; rfl)
    have HO1 := Lib.hid (own_below HOW.out hB1 (Nat.le_refl _))
    have HBX1 := Lib.hid ((hB1.cell (p := ⟨gB, 0, none⟩) HBX.out.1).trans HBX.out.2)
    have HS1 := Lib.hid (HS.out.up hB1 hB1.size)
    have HB1 := Lib.hid (hB1.mono hH)
    have hz1 := hB1.size
    have hwk : IntKind.i64.wrap ((k : Int) + 1) = (k : Int) + 1 := IntWalk.i64_in _ (by omega)
    have hkm : ((k : Int) == -1) = false := by rw [beq_eq_false_iff_ne]; omega
    clear hnk hkb hB1
    go_wp2_with fail
    go_loopw [5, 6] (fun iv jv wr => ∃ (i j : Nat) (R : List Bk), iv = .int .i64 i ∧ jv = .int .i64 j ∧ Hid (DelSt S l R i j) ∧ wr.ownsRow H 47 6 (.slice (some ⟨gL, 0, none⟩) l.length cl) l.length (R.flatMap Bk.cells) ∧ wr.cell? ⟨gB, 0, none⟩ = some (.slice (some ⟨g, 0, none⟩) n c) ∧ Rd wr wr.heap.size (some ⟨g, 0, none⟩) (S.flatMap boolCells) ∧ w.heap.size ≤ wr.heap.size ∧ Below H w wr) (fun _ jv _ => l.length - (intOf jv).toNat)
    case atStart => exact ⟨k, k + 1, l, rfl, by go_num, HD.out, HO1.out, HBX1.out, HS1.out, hz1, HB1.out⟩
    case round =>
      obtain ⟨i, j, R, rfl, rfl, HDR, hown, hbx, hrs, hz, hB⟩ := hrel
      have hst := HDR.out
      by_cases hlt : j < l.length
      · obtain ⟨hjR, eR⟩ := hst.get hlt
        obtain ⟨s1, s2, s3, -, -⟩ := hst
        obtain ⟨b, off, eA, hbw, q0, q1, q2, q3, q4, q5⟩ := RdB.at_ (show RdB wr wr.heap.size _ _ from Rd.of_own hown) hjR
        cases eA
        simp only [Nat.zero_add] at q0 q1 q2 q3 q4 q5
        rw [eR] at q0 q1 q2 q3 q4 q5
        obtain ⟨m, hm1, hm2⟩ := HAT.out j hlt
        have HK := Lib.hid (fun h => HDR.out.keep hlt h)
        have HDL := Lib.hid (fun h => HDR.out.del hlt h)
        obtain ⟨x, hx⟩ : ∃ x, l[j] = x := ⟨_, rfl⟩
        rw [hx] at q0 q1 q2 q3 q4 q5 hm1 HK HDL
        obtain ⟨xa, xs, xk, xt, xm, xn⟩ := x
        dsimp only at q0 q1 q2 q3 q4 q5 hm1
        subst hm1
        have hkb : keepB S ⟨(m : Int), xs, xk, xt, xm, xn⟩ = (xm == (S[m]?.getD false)) := by unfold keepB; dsimp only; rw [Int.toNat_natCast]
        rw [hkb] at HK HDL
        have hlm : (j : Int) < (l.length : Int) := by omega
        have hj0 : (0 : Int) ≤ (j : Int) := by omega
        have hi0 : (0 : Int) ≤ (i : Int) := by omega
        have hil : (i : Int) < (l.length : Int) := by omega
        have hgB := HBX.out.1
        have HBN := Lib.hid (hB.alloc (Nat.le_trans hH hz) (.cells #[.int .i64 (m : Int), .int .i64 xs, .int .i64 xk, .int .i64 xt, .bool xm, .int .u64 (xn : Int)] 47))
        have BN := Lib.hid (Bx.new wr 47 #[.int .i64 (m : Int), .int .i64 xs, .int .i64 xk, .int .i64 xt, .bool xm, .int .u64 (xn : Int)])
        have HON := Lib.hid (hown.alloc (.cells #[.int .i64 (m : Int), .int .i64 xs, .int .i64 xk, .int .i64 xt, .bool xm, .int .u64 (xn : Int)] 47))
        have HXN := Lib.hid ((World.cell?_alloc_lt wr (.cells #[.int .i64 (m : Int), .int .i64 xs, .int .i64 xk, .int .i64 xt, .bool xm, .int .u64 (xn : Int)] 47) ⟨gB, 0, none⟩ (by show gB < wr.heap.size; omega)).trans hbx)
        have HSN := Lib.hid (Rd.more (Rd.alloc hrs (Nat.le_refl _) (.cells #[.int .i64 (m : Int), .int .i64 xs, .int .i64 xk, .int .i64 xt, .bool xm, .int .u64 (xn : Int)] 47)) (show wr.heap.size ≤ (wr.alloc (.cells #[.int .i64 (m : Int), .int .i64 xs, .int .i64 xk, .int .i64 xt, .bool xm, .int .u64 (xn : Int)] 47)).heap.size by simp))
        have hgLw := (hown.lt gL rfl).2
        clear hx hkb hbx hrs hown
        go_upto_region 8 with (fail)
        obtain ⟨wn, hwn⟩ : ∃ wn, wr.alloc (.cells #[.int .i64 (m : Int), .int .i64 xs, .int .i64 xk, .int .i64 xt, .bool xm, .int .u64 (xn : Int)] 47) = wn := ⟨_, rfl⟩
        rw [hwn] at HBN BN HON HXN HSN ⊢
        have hszn : wn.heap.size = wr.heap.size + 1 := by rw [← hwn]; simp
        clear hwn q0 q1 q2 q3 q4 q5
        have HQ := Lib.hid (HC.out m xs xk xt xm xn wn hm2 (by omega) HXN.out HSN.out)
        obtain ⟨r, hr⟩ : ∃ r, (xm == (S[m]?.getD false)) = r := ⟨_, rfl⟩
        rw [hr] at HQ HK HDL
        clear hr
        obtain ⟨p0, p1, p2, p3, p4, p5, pf, hgn⟩ := BN.out.c6
        go_wp2_with fail
        refine HQ.out.mono ?_
        rintro e w2 ⟨rfl, hB2⟩
        have HB2 := Lib.hid (HBN.out.trans (hB2.mono (Nat.le_trans hH (by omega))))
        have HO2 := Lib.hid (own_below HON.out hB2 (Nat.le_refl _))
        have HX2 := Lib.hid ((hB2.cell (p := ⟨gB, 0, none⟩) (by show gB < wn.heap.size; omega)).trans HXN.out)
        have HS2 := Lib.hid (HSN.out.up hB2 hB2.size)
        have bn2 := BN.out.up hB2 hgn
        have hz2 := hB2.size
        clear hB2 p0 p1 p2 p3 p4 p5 pf
        obtain ⟨p0, p1, p2, p3, p4, p5, pf, hgn2⟩ := bn2.c6
        cases r
        · have HY := Lib.hid (HK.out rfl)
          have hth : w2.there gL (i * 6) (#[.int .i64 (m : Int), .int .i64 xs, .int .i64 xk, .int .i64 xt, .bool xm, .int .u64 (xn : Int)] : Array Value).size := own_there HO2.out (i * 6) 6 (by omega)
          have hi6 : (Try.prog.info? 47).map (·.size) = some (#[.int .i64 (m : Int), .int .i64 xs, .int .i64 xk, .int .i64 xt, .bool xm, .int .u64 (xn : Int)] : Array Value).size := blkSize
          have h1c : (#[.int .i64 (m : Int), .int .i64 xs, .int .i64 xk, .int .i64 xt, .bool xm, .int .u64 (xn : Int)] : Array Value).all (·.oneCell') = true := by simp [Value.oneCell']
          have HO3 := Lib.hid (own_setCells (Bk.cells ⟨(m : Int), xs, xk, xt, xm, xn⟩) (i * 6) w2 _ HO2.out)
          rw [flat_setL R i ⟨(m : Int), xs, xk, xt, xm, xn⟩ (by omega)] at HO3
          have HX3 := Lib.hid ((World.cell?_setCells_out gL (Bk.cells ⟨(m : Int), xs, xk, xt, xm, xn⟩) (i * 6) w2 ⟨gB, 0, none⟩ (fun h9 _ => absurd h9.symm hne1)).trans HX2.out)
          have HS3 := Lib.hid (rd_setCells_far HS2.out (fun h9 => hne2 h9.symm) (i * 6) (Bk.cells ⟨(m : Int), xs, xk, xt, xm, xn⟩))
          have HB3 := Lib.hid (below_setCells hgL (Bk.cells ⟨(m : Int), xs, xk, xt, xm, xn⟩) (o := i * 6) HB2.out)
          have hsz3 := setCells_size (g := gL) (Bk.cells ⟨(m : Int), xs, xk, xt, xm, xn⟩) w2 (i * 6)
          obtain ⟨cs, hcs⟩ : ∃ cs : Array Value, #[.int .i64 (m : Int), .int .i64 xs, .int .i64 xk, .int .i64 xt, .bool xm, .int .u64 (xn : Int)] = cs := ⟨_, rfl⟩
          obtain ⟨w3, hw3⟩ : ∃ w3, w2.setCells gL (i * 6) (Bk.cells ⟨(m : Int), xs, xk, xt, xm, xn⟩) = w3 := ⟨_, rfl⟩
          have hw4 : w2.setCells gL (i * 6) cs.toList = w3 := by rw [← hcs]; exact hw3
          rw [hw3] at HO3 HX3 HS3 HB3 hsz3
          rw [hcs] at hth hi6 h1c
          clear hw3
          go_wp2_with (refine wpList_store_mid rfl _ _ _ rfl gL (i * 6) cs (by rfl) (by rw [← hcs]; rfl) hth hi6 h1c ?_; rw [hw4])
          go_roundw
          case rel => exact ⟨i + 1, j + 1, R.set i ⟨(m : Int), xs, xk, xt, xm, xn⟩, by go_num, by go_num, HY.out, HO3.out, HX3.out, Rd.more HS3.out (by rw [hsz3]; exact Nat.le_refl _), by rw [hsz3]; omega, HB3.out⟩
          case measure => simp [intOf]; omega
        · have HY := Lib.hid (HDL.out rfl)
          go_wp2_with fail
          go_roundw
          case rel => exact ⟨i, j + 1, R, rfl, by go_num, HY.out, HO2.out, HX2.out, HS2.out, by omega, HB2.out⟩
          case measure => simp [intOf]; omega
      · obtain ⟨s1, s2, s3, s4, -⟩ := hst
        obtain ⟨A9, c9, e9, hle, hrd⟩ := slice_of hown
        cases e9
        have HRD := Lib.hid hrd
        have hicl : (i : Int) ≤ (cl : Int) := by omega
        have hill : (i : Int) ≤ (l.length : Int) := by omega
        have hi0 : (0 : Int) ≤ (i : Int) := by omega
        have hne : i ≠ cl := by omega
        have hnec : ¬ ((i : Int) = (cl : Int)) := by omega
        have hjl : j = l.length := by omega
        have HWL := Lib.hid (show wntL S l = R.take i by rw [s4, hjl, List.take_length])
        have hxl := hown.1
        obtain ⟨L, hL⟩ : ∃ L, (Builtin.zeroCells (Value.cells (.agg #[.int .i64 0, .int .i64 0, .int .i64 0, .int .i64 0, .bool false, .int .u64 0])) (l.length - i)).toList = L := ⟨_, rfl⟩
        have hLl : L.length = (l.length - i) * 6 := by rw [← hL, zeroCells_len]; rfl
        have hth := own_there hown (i * 6) L.length (by rw [hLl]; omega)
        have hcl := run_clear_many (P := Try.prog) wr 54 47 0 _ Try.underlying54 zeroBlock L gL (i * 6) (l.length - i) (cl - i) hL (by omega)
          (fun v hv => by
            rw [← hL] at hv
            have := zeroCells_mem hv (by decide)
            simp [Value.cells] at this
            rcases this with rfl | rfl | rfl <;> rfl)
          (fun q hq => (hth q hq).1) (fun q hq => (hth q hq).2)
        have HXE := Lib.hid ((World.cell?_setCells_out gL L (i * 6) wr ⟨gB, 0, none⟩ (fun h9 _ => absurd h9.symm hne1)).trans hbx)
        have HSE := Lib.hid (rd_setCells_far hrs (fun h9 => hne2 h9.symm) (i * 6) L)
        have HBE := Lib.hid (below_setCells hgL L (o := i * 6) hB)
        have hszE := setCells_size (g := gL) L wr (i * 6)
        have HRE : Hid (Rd (wr.setCells gL (i * 6) L) wr.heap.size (some ⟨gL, 0, none⟩) ((R.take i).flatMap Bk.cells)) := Lib.hid fun _ => by
          refine ⟨gL, 0, rfl, (hown.lt gL rfl).2, fun q hq => ?_⟩
          have hq6 : q < i * 6 := by
            have := hq
            rw [flat_take Bk.cells 6 Bk.len, List.length_take] at this
            omega
          rw [World.cell?_setCells_out gL L (i * 6) wr _ (fun _ _ => .inl (by show 0 + q < i * 6; omega))]
          have e1 := hown.cellAt q (by omega)
          rw [Nat.zero_add, e1]
          have hq2 : q < (R.flatMap Bk.cells).length := by rw [hxl]; omega
          rw [List.getElem?_eq_getElem hq2]
          congr 1
          simp only [flat_take Bk.cells 6 Bk.len, List.getElem_take]
        have hil : (R.take i).length = i := by rw [List.length_take]; omega
        clear hrd hL hLl hth hown hbx hrs hB
        go_wp2_with fail
        go_ret
        rw [HWL.out, hil]
        exact ⟨some ⟨gL, 0, none⟩, cl, rfl, Rd.more HRE.out (by rw [hszE]; exact Nat.le_refl _), HXE.out, Rd.more HSE.out (by rw [hszE]; exact Nat.le_refl _), by rw [hszE]; have := HBX.out.1; omega, HBE.out⟩
end Go.Proofs.Ytpifagclhhaniaa
