/- What Bound returns. -/
import Derived.Test.YtpfbppjjegialaaEffQ
namespace Go.Proofs.Ytpfbppjjegialaa
open Go.RowKit

/-- What Bound gives: the bound and the error. -/
def bdErr (n : Int) : Int := if n < 256 then 2 else if 2048 < n then 2 else if n % 8 = 0 then 0 else 2
def bdN (n : Int) : Int := if bdErr n = 0 then 20 * (n - 128) + 200 else 0
def bdRes (n : Int) : Value := .tuple #[effV (bdN n) (bdN n) (bdN n), .int .i64 (bdErr n)]
theorem bdRes_err {n : Int} (h : bdErr n = 2) : bdRes n = .tuple #[effV 0 0 0, .int .i64 2] := by simp [bdRes, bdN, h]

set_option maxHeartbeats 400000 in
theorem bound_c (n : Int) (w : World) :
    Calls Try.prog 20 #[.int .i64 n] w fun e w' => e = .returned (bdRes n) ∧ Below w.heap.size w w' := by
  by_cases h1 : n < 256
  · have H := Lib.hid (bdRes_err (n := n) (by simp [bdErr, h1]))
    go_enter Try.func20, Try.ntmps20
    go_wp2
    exact bodyPost_ret (v := .tuple #[effV 0 0 0, .int .i64 2]) (by simp [results, Try.results20, go_sem, effV]) rfl ⟨by rw [H.out], (Below.refl _ _).alloc (Nat.le_refl _) _⟩
  · by_cases h2 : 2048 < n
    · have H := Lib.hid (bdRes_err (n := n) (by simp [bdErr, h2]))
      have h3 : 256 ≤ n := by omega
      clear h1
      go_enter Try.func20, Try.ntmps20
      go_wp2
      exact bodyPost_ret (v := .tuple #[effV 0 0 0, .int .i64 2]) (by simp [results, Try.results20, go_sem, effV]) rfl ⟨by rw [H.out], (Below.refl _ _).alloc (Nat.le_refl _) _⟩
    · have h3 : 256 ≤ n := by omega
      have h4 : n ≤ 2048 := by omega
      by_cases h5 : n % 8 = 0
      · have H : Hid (bdRes n = .tuple #[effV (20 * (n - 128) + 200) (20 * (n - 128) + 200) (20 * (n - 128) + 200), .int .i64 0]) := by simp [Hid, bdRes, bdN, bdErr, h1, h2, h5]
        clear h1 h2
        go_enter Try.func20, Try.ntmps20
        go_wp2
        exact bodyPost_ret (v := .tuple #[effV (20 * (n - 128) + 200) (20 * (n - 128) + 200) (20 * (n - 128) + 200), .int .i64 0]) (by simp [results, Try.results20, go_sem, effV]) rfl ⟨by rw [H.out], (Below.refl _ _).alloc (Nat.le_refl _) _⟩
      · have H := Lib.hid (bdRes_err (n := n) (by simp [bdErr, h5]))
        have h6 : (n % 8 == 0) = false := by rw [beq_eq_false_iff_ne]; exact h5
        have h7 : (n % 8 != 0) = true := by rw [bne_iff_ne]; exact h5
        clear h1 h2 h5
        go_enter Try.func20, Try.ntmps20
        go_wp2
        exact bodyPost_ret (v := .tuple #[effV 0 0 0, .int .i64 2]) (by simp [results, Try.results20, go_sem, effV]) rfl ⟨by rw [H.out], (Below.refl _ _).alloc (Nat.le_refl _) _⟩

end Go.Proofs.Ytpfbppjjegialaa
