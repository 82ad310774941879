/- Headers of blocks: what the reference returns. -/
import Derived.Test.YtkcancjalpjbgaaRef05
import Derived.Test.YtkcancjalpjbgaaHdrY
namespace Go.Proofs.Ytkcancjalpjbgaa
open Go.RowKit

set_option maxRecDepth 100000 in
set_option maxHeartbeats 2000000 in
theorem refHdCheck_c (b : Bk) (w : World) : Calls Try.prog 104 #[b.val] w fun e w' => e = .returned (.int .i64 (hdErr b)) ∧ Below w.heap.size w w' := by
  obtain ⟨xa, xs, xk, xt, xm, xn⟩ := b
  unfold Bk.val
  cases xm
  all_goals
    go_enter Try.func104, Try.ntmps104
    go_wp2_with fail
    all_goals
      go_ret
      refine ⟨?_, (Below.refl _ _).alloc (Nat.le_refl _) _⟩
      (try simp only [ne_eq, beq_iff_eq, beq_eq_false_iff_ne, Bool.not_eq_true', Bool.not_eq_false', decide_eq_false_iff_not, decide_eq_true_eq] at *)
      first
        | (exfalso; omega)
        | exact ret_int' (hdErr_0 (by simp only [reduceCtorEq, and_false, false_and, or_false, true_and]; omega))
        | exact ret_int' (hdErr_8 (by simp only [reduceCtorEq, and_false, false_and, or_false, true_and]; omega))
end Go.Proofs.Ytkcancjalpjbgaa
