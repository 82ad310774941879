/- The size of an image: what the program and the reference return. -/
import Derived.Test.YtpifagclhhaniaaHeapP
namespace Go.Proofs.Ytpifagclhhaniaa
open Go.RowKit

theorem ret_bool' {a b : Bool} (h : a = b) : Ending.returned (.bool a) = .returned (.bool b) := by rw [h]
theorem ret_int' {a b : Int} (h : a = b) : Ending.returned (.int .i64 a) = .returned (.int .i64 b) := by rw [h]
theorem ret_u64' {a b : Int} (h : a = b) : Ending.returned (.int .u64 a) = .returned (.int .u64 b) := by rw [h]
def sizeOk (w : Int) : Bool := decide (256 ≤ w) && (decide (w ≤ 2048) && w % 8 == 0)
theorem sizeOk_iff (w : Int) : sizeOk w = true ↔ 256 ≤ w ∧ w ≤ 2048 ∧ w % 8 = 0 := by simp [sizeOk]
/-- The error of an image of n words. -/
def imgErr (n : Nat) : Int := if sizeOk (n : Int) = true then 0 else 8
theorem imgErr_ok {n : Nat} (h : sizeOk (n : Int) = true) : imgErr n = 0 := by simp [imgErr, h]
theorem imgErr_no {n : Nat} (h : sizeOk (n : Int) = false) : imgErr n = 8 := by simp [imgErr, h]
theorem imgErr_zero {n : Nat} (h : imgErr n = 0) : 256 ≤ n ∧ n ≤ 2048 ∧ n % 8 = 0 := by
  cases hs : sizeOk (n : Int) with
  | false => rw [imgErr_no hs] at h; cases h
  | true => have := (sizeOk_iff _).1 hs; omega
theorem imgErr_val (n : Nat) : imgErr n = 0 ∨ imgErr n = 8 := by unfold imgErr; split <;> simp

set_option maxHeartbeats 400000 in
theorem imSize_c (n : Nat) (w : World) (hn : n ≤ 9223372036854775807) : Calls Try.prog 89 #[.int .i64 (n : Int)] w fun e w' => e = .returned (.bool (sizeOk (n : Int))) ∧ w = w' := by
  have H : Hid (∀ b : Bool, (b = true ↔ 256 ≤ n ∧ n ≤ 2048 ∧ n % 8 = 0) → b = sizeOk (n : Int)) := Lib.hid fun b h => by rw [Bool.eq_iff_iff, sizeOk_iff, h]; omega
  go_enter Try.func89, Try.ntmps89
  go_wp2_with fail
  all_goals
    go_ret
    exact ⟨ret_bool' (H.out _ (by simp; omega)), rfl⟩
set_option maxHeartbeats 400000 in
theorem imCheck_c (A : Option Addr) (n c : Nat) (w : World) (hn : n ≤ 9223372036854775807) : Calls Try.prog 62 #[.slice A n c] w fun e w' => e = .returned (.int .i64 (imgErr n)) ∧ w = w' := by
  cases hs : sizeOk (n : Int)
  all_goals
    first
      | have HE := Lib.hid (imgErr_ok hs)
      | have HE := Lib.hid (imgErr_no hs)
    have HS := Lib.hid hs
    clear hs
    go_enter Try.func62, Try.ntmps62
    go_wp2_with fail
    refine (imSize_c n w hn).mono ?_
    rintro e w1 ⟨rfl, rfl⟩
    rw [HS.out]
    go_wp2_with fail
    go_ret
    exact ⟨by rw [HE.out]; rfl, rfl⟩
set_option maxHeartbeats 400000 in
theorem refSize_c (n : Nat) (w : World) (hn : n ≤ 9223372036854775807) : Calls Try.prog 57 #[.int .i64 (n : Int)] w fun e w' => e = .returned (.bool (sizeOk (n : Int))) ∧ w = w' := by
  have H : Hid (∀ b : Bool, (b = true ↔ 256 ≤ n ∧ n ≤ 2048 ∧ n % 8 = 0) → b = sizeOk (n : Int)) := Lib.hid fun b h => by rw [Bool.eq_iff_iff, sizeOk_iff, h]; omega
  go_enter Try.func57, Try.ntmps57
  go_wp2_with fail
  all_goals
    go_ret
    exact ⟨ret_bool' (H.out _ (by simp; omega)), rfl⟩
set_option maxHeartbeats 400000 in
theorem refImCheck_c (A : Option Addr) (n c : Nat) (w : World) (hn : n ≤ 9223372036854775807) : Calls Try.prog 19 #[.slice A n c] w fun e w' => e = .returned (.int .i64 (imgErr n)) ∧ w = w' := by
  cases hs : sizeOk (n : Int)
  all_goals
    first
      | have HE := Lib.hid (imgErr_ok hs)
      | have HE := Lib.hid (imgErr_no hs)
    have HS := Lib.hid hs
    clear hs
    go_enter Try.func19, Try.ntmps19
    go_wp2_with fail
    refine (refSize_c n w hn).mono ?_
    rintro e w1 ⟨rfl, rfl⟩
    rw [HS.out]
    go_wp2_with fail
    go_ret
    exact ⟨by rw [HE.out]; rfl, rfl⟩

/-- Whether an image of so many words is great. -/
def greatW (n : Nat) : Bool := (decide (400 < n) && decide (n < 2040)) || decide (2060 < n)
theorem greatW_no {n : Nat} (h : greatW n = false) : n ≤ 400 ∨ 2040 ≤ n ∧ n ≤ 2060 := by
  simp only [greatW, Bool.or_eq_false_iff, Bool.and_eq_false_iff, decide_eq_false_iff_not] at h
  omega
set_option maxHeartbeats 400000 in
theorem great25_c (A : Option Addr) (n c : Nat) (w : World) (hm : n ≤ 9223372036854775807) :
    Calls Try.prog 16 #[.slice A n c] w fun e w' => e = .returned (.bool (greatW n)) ∧ w = w' := by
  have H : Hid (∀ b : Bool, (b = true ↔ (400 < n ∧ n < 2040) ∨ 2060 < n) → b = greatW n) := Lib.hid fun b h => by rw [Bool.eq_iff_iff, h]; simp [greatW]
  go_enter Try.func16, Try.ntmps16
  go_wp2_with fail
  all_goals
    go_ret
    exact ⟨ret_bool' (H.out _ (by simp; omega)), rfl⟩
end Go.Proofs.Ytpifagclhhaniaa
