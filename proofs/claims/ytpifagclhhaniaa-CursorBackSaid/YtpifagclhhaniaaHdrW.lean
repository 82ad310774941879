/- Headers of blocks: what the program returns. -/
import Derived.Test.YtpifagclhhaniaaSumW
namespace Go.Proofs.Ytpifagclhhaniaa
open Go.RowKit

def hdErr (b : Bk) : Int := if hdOk b = true then 0 else 8
theorem hdErr_ok {b : Bk} (h : hdOk b = true) : hdErr b = 0 := by simp [hdErr, h]
theorem hdErr_no {b : Bk} (h : hdOk b = false) : hdErr b = 8 := by simp [hdErr, h]

theorem hdErr_0 {xa xs xk xt : Int} {xm : Bool} {xn : Nat} (h : (2 ≤ xs ∧ xs % 2 = 0) ∧ (xk = 1 ∧ 0 ≤ xt ∧ xt < 8 ∧ xs ≤ 10 ∨ xk = 2 ∧ xt = 0 ∧ xm = false ∧ xs ≤ 1920)) : (0 : Int) = hdErr ⟨xa, xs, xk, xt, xm, xn⟩ := (hdErr_ok ((hdOk_iff _).2 h)).symm
theorem hdErr_8 {xa xs xk xt : Int} {xm : Bool} {xn : Nat} (h : ¬ ((2 ≤ xs ∧ xs % 2 = 0) ∧ (xk = 1 ∧ 0 ≤ xt ∧ xt < 8 ∧ xs ≤ 10 ∨ xk = 2 ∧ xt = 0 ∧ xm = false ∧ xs ≤ 1920))) : (8 : Int) = hdErr ⟨xa, xs, xk, xt, xm, xn⟩ :=
  (hdErr_no (by
    cases hq : hdOk ⟨xa, xs, xk, xt, xm, xn⟩ with
    | false => rfl
    | true => exact absurd ((hdOk_iff _).1 hq) h)).symm

set_option maxRecDepth 100000 in
set_option maxHeartbeats 2000000 in
theorem hdCheck_c (b : Bk) (w : World) : Calls Try.prog 79 #[b.val] w fun e w' => e = .returned (.int .i64 (hdErr b)) ∧ Below w.heap.size w w' := by
  obtain ⟨xa, xs, xk, xt, xm, xn⟩ := b
  unfold Bk.val
  cases xm
  all_goals
    go_enter Try.func79, Try.ntmps79
    go_wp2_with fail
    all_goals
      go_ret
      refine ⟨?_, (Below.refl _ _).alloc (Nat.le_refl _) _⟩
      (try simp only [bne_iff_ne, ne_eq, bne_eq_false_iff_eq, Bool.not_eq_true', Bool.not_eq_false', decide_eq_false_iff_not, decide_eq_true_eq] at *)
      first
        | (exfalso; omega)
        | exact ret_int' (hdErr_0 (by simp only [reduceCtorEq, and_false, false_and, or_false, true_and]; omega))
        | exact ret_int' (hdErr_8 (by simp only [reduceCtorEq, and_false, false_and, or_false, true_and]; omega))
end Go.Proofs.Ytpifagclhhaniaa
