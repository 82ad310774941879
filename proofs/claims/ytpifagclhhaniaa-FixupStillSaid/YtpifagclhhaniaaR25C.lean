/- The reference's view of a right heap: Fit, Blocks, Check. -/
import Derived.Test.YtpifagclhhaniaaR13R
import Derived.Test.YtpifagclhhaniaaMkJ
import Derived.Test.YtpifagclhhaniaaKRefs
namespace Go.Proofs.Ytpifagclhhaniaa
open Go.RowKit

set_option maxRecDepth 100000 in
set_option maxHeartbeats 2000000 in
theorem refFit_c (A : Option Addr) (ws : List Nat) (c n t : Nat) (xa xs xk : Int) (xm : Bool) (xn : Nat) (w : World) (hn : ws.length = n) (hm : n ≤ 1000000) (h2 : 256 ≤ n) (ht : t < 8) (h : typOk (wd ws (96 + 2 * t)) (wd ws (96 + 2 * t + 1)) = true) (hs : xs = ((objSz (fldL (wd ws (96 + 2 * t))).length : Nat) : Int)) (hr : RdW w w.heap.size A ws) (ho : ∀ x ∈ ws, x < 18446744073709551616) :
    Calls Try.prog 101 #[.slice A n c, .agg #[.int .i64 xa, .int .i64 xs, .int .i64 xk, .int .i64 (t : Int), .bool xm, .int .u64 (xn : Int)]] w fun e w' => e = .returned (.bool true) ∧ Below w.heap.size w w' := by
  have HC := Lib.hid (fun W (hr : RdW W W.heap.size A ws) => r13Fields_c A ws c n t W hn hm h2 ht h hr ho)
  have hl8 : (fldL (wd ws (96 + 2 * t))).length ≤ 8 := by rw [fldL_len]; exact (told_rest h).1
  obtain ⟨l, hl⟩ : ∃ l, fldL (wd ws (96 + 2 * t)) = l := ⟨_, rfl⟩
  rw [hl] at HC hl8 hs
  have HR := Lib.hid hr
  have w1 : IntKind.i64.wrap (2 + (l.length : Int)) = 2 + (l.length : Int) := IntWalk.i64_in _ (by omega)
  have w2 : IntKind.i64.wrap (2 + (l.length : Int) + (l.length : Int) % 2) = 2 + (l.length : Int) + (l.length : Int) % 2 := IntWalk.i64_in _ (by omega)
  have he : ((xs : Int) == 2 + (l.length : Int) + (l.length : Int) % 2) = true := by
    rw [beq_iff_eq, hs]
    unfold objSz
    omega
  have xb := Bx.new w 47 #[.int .i64 xa, .int .i64 xs, .int .i64 xk, .int .i64 (t : Int), .bool xm, .int .u64 (xn : Int)]
  have HRN := Lib.hid ((hr.alloc (Nat.le_refl _) (.cells #[.int .i64 xa, .int .i64 xs, .int .i64 xk, .int .i64 (t : Int), .bool xm, .int .u64 (xn : Int)] 47)).more (show w.heap.size ≤ (w.alloc (.cells #[.int .i64 xa, .int .i64 xs, .int .i64 xk, .int .i64 (t : Int), .bool xm, .int .u64 (xn : Int)] 47)).heap.size by simp))
  have HBN := Lib.hid ((Below.refl w.heap.size w).alloc (Nat.le_refl _) (.cells #[.int .i64 xa, .int .i64 xs, .int .i64 xk, .int .i64 (t : Int), .bool xm, .int .u64 (xn : Int)] 47))
  have XB := Lib.hid xb
  clear hr ho h hs hl hn h2 ht xb
  go_enter Try.func101, Try.ntmps101
  go_wp2_with fail
  obtain ⟨wn, hwn⟩ : ∃ wn, w.alloc (.cells #[.int .i64 xa, .int .i64 xs, .int .i64 xk, .int .i64 (t : Int), .bool xm, .int .u64 (xn : Int)] 47) = wn := ⟨_, rfl⟩
  rw [hwn] at HRN HBN XB ⊢
  clear hwn
  refine (HC.out _ HRN.out).mono ?_
  rintro e w5 ⟨⟨A1, c1, rfl, -⟩, hB5⟩
  have x5 := XB.out.up hB5 XB.out.lt
  obtain ⟨p0, p1, p2, p3, p4, p5, pf, hgn⟩ := x5.c6
  have HB5 := Lib.hid (HBN.out.trans (hB5.mono HBN.out.size))
  clear hB5 x5
  go_wp2_with fail
  go_ret
  exact ⟨rfl, HB5.out⟩

set_option maxRecDepth 100000 in
set_option maxHeartbeats 4000000 in
theorem refBlocks_c (A : Option Addr) (ws : List Nat) (c n : Nat) (w : World) (hn : ws.length = n) (h0 : hpErr ws = 0) (hr : RdW w w.heap.size A ws) (ho : ∀ x ∈ ws, x < 18446744073709551616) :
    Calls Try.prog 82 #[.slice A n c, .int .i64 128] w fun e w' => (∃ A c, e = .returned (.tuple #[.slice A (hpOut ws).length c, .bool true]) ∧ RdB w' w'.heap.size A (hpOut ws) ∧ (hpOut ws).length ≤ c) ∧ Below w.heap.size w w' := by
  subst hn
  obtain ⟨hsz, l, hl, hall, hout⟩ := hpErr_zero h0
  have hb := fr_bd ws hsz
  have HC := Lib.hid (rfFrom_c A ws c ws.length 128 w rfl (by omega) (by omega) (by omega) (by omega) hr ho)
  unfold RfRes rfOut at HC
  rw [hl] at HC
  simp only [Option.getD_some, Option.isSome_some] at HC
  have HF := Lib.hid (fun k (hk : k < l.length) (h1 : l[k].kind = 1) => by
    have h2 := blocks_typ (ws := ws) hl (by omega) hk h1
    have h3 : fitB ws l[k] = true := List.all_eq_true.1 hall _ (List.getElem_mem hk)
    rw [fit_obj h1] at h3
    simp only [Bool.and_eq_true, beq_iff_eq] at h3
    obtain ⟨t, ht⟩ := Int.eq_ofNat_of_zero_le h2.1
    have e : tyA l[k] = 96 + 2 * t := by unfold tyA; rw [ht]; simp
    rw [e] at h3
    have h4 : krOut (wd ws (96 + 2 * t)) (wd ws (96 + 2 * t + 1)) = fldL (wd ws (96 + 2 * t)) := by unfold krOut; rw [if_pos h3.1]
    rw [h4] at h3
    exact (show ∃ t : Nat, l[k].typ = (t : Int) ∧ t < 8 ∧ typOk (wd ws (96 + 2 * t)) (wd ws (96 + 2 * t + 1)) = true ∧ l[k].size = ((objSz (fldL (wd ws (96 + 2 * t))).length : Nat) : Int) from ⟨t, ht, by omega, h3.1, h3.2⟩))
  have HFit := Lib.hid (fun t xa xs xk xm xn W ht h hs (hr : RdW W W.heap.size A ws) => refFit_c A ws c ws.length t xa xs xk xm xn W rfl (by omega) (by omega) ht h hs hr ho)
  have HR := Lib.hid hr
  have hlb : l.length ≤ 1024 := by rw [← hout]; exact hpOut_len ws
  rw [hout]
  clear hr ho hl hall hout h0 hsz hb
  go_enter Try.func82, Try.ntmps82
  go_wp2_with fail
  refine HC.out.mono ?_
  rintro e w1 ⟨⟨A1, c1, rfl, hrd, hcl⟩, hB1⟩
  have HRD := Lib.hid hrd
  have HCL := Lib.hid hcl
  have HB1 := Lib.hid hB1
  have HR1 := Lib.hid (HR.out.up hB1 hB1.size)
  clear hrd hcl hB1
  go_wp2_with fail
  go_loopw [8] (fun i wr => ∃ k : Nat, k ≤ l.length ∧ i = .int .i64 k ∧ Below w1.heap.size w1 wr) (fun i _ => l.length - (intOf i).toNat)
  case atStart => exact ⟨0, Nat.zero_le _, rfl, Below.refl _ _⟩
  case round =>
    obtain ⟨k, hk, rfl, hB⟩ := hrel
    have hz := hB.size
    by_cases hlt : k < l.length
    · obtain ⟨b, off, rfl, hbw, q0, q1, q2, q3, q4, q5⟩ := RdB.at_ (Rd.below HRD.out hB) hlt
      have HFk := HF.out k hlt
      obtain ⟨x, hx⟩ : ∃ x, l[k] = x := ⟨_, rfl⟩
      rw [hx] at q0 q1 q2 q3 q4 q5 HFk
      obtain ⟨xa, xs, xk, xt, xm, xn⟩ := x
      dsimp only at q0 q1 q2 q3 q4 q5 HFk
      have hlm : (k : Int) < (l.length : Int) := by omega
      have hk0 : (0 : Int) ≤ (k : Int) := by omega
      clear hx
      by_cases hk1 : xk = 1
      · subst hk1
        obtain ⟨t, rfl, f2, f3, f4⟩ := HFk rfl
        have HQ := Lib.hid (HFit.out t xa xs 1 xm xn wr f2 f3 f4 (HR1.out.up hB hz))
        clear HFk f2 f3 f4
        go_wp2_with fail
        refine HQ.out.mono ?_
        rintro e w2 ⟨rfl, hB2⟩
        have HB2 := Lib.hid (hB.trans (hB2.mono hz))
        clear hB2
        go_wp2_with fail
        go_roundw
        case rel => exact ⟨k + 1, by omega, by go_num, HB2.out⟩
        case measure => simp [intOf]; omega
      · have hk2 : (xk == 1) = false := by rw [beq_eq_false_iff_ne]; exact hk1
        clear HFk hk1
        go_wp2_with fail
        go_roundw
        case rel => exact ⟨k + 1, by omega, by go_num, hB⟩
        case measure => simp [intOf]; omega
    · obtain rfl : k = l.length := by omega
      go_wp2_with fail
      go_ret2
      exact ⟨⟨A1, c1, rfl, HRD.out.up hB hz, HCL.out⟩, HB1.out.trans (hB.mono HB1.out.size)⟩

set_option maxRecDepth 100000 in
set_option maxHeartbeats 1000000 in
theorem ref25Check_c (A : Option Addr) (ws : List Nat) (c n : Nat) (w : World) (hn : ws.length = n) (h0 : hpErr ws = 0) (hr : RdW w w.heap.size A ws) (ho : ∀ x ∈ ws, x < 18446744073709551616) :
    Calls Try.prog 49 #[.slice A n c] w fun e w' => e = .returned (.int .i64 0) ∧ Below w.heap.size w w' := by
  have H1 := Lib.hid (ref02Ok_c A n c w (by rw [← hn]; exact (hpErr_zero h0).1))
  have H2 := Lib.hid (refBlocks_c A ws c n w hn h0 hr ho)
  clear hr ho h0 hn
  go_enter Try.func49, Try.ntmps49
  go_wp2_with fail
  refine H1.out.mono ?_
  rintro e w1 ⟨rfl, rfl⟩
  go_wp2_with fail
  refine H2.out.mono ?_
  rintro e w2 ⟨⟨A1, c1, rfl, -, -⟩, hB⟩
  go_wp2_with fail
  go_ret
  exact ⟨rfl, hB⟩
end Go.Proofs.Ytpifagclhhaniaa
