/- Lists that are compared: plain facts. -/
import Derived.Test.YtpifagclhhaniaaFwr
import Derived.Test.YtpifagclhhaniaaCut
import Derived.Laws.OwnMore
namespace Go.Proofs.Ytpifagclhhaniaa
open Go.RowKit

theorem take_same {α : Type} {a b : List α} {k : Nat} (ha : k < a.length) (hb : k < b.length) (h : a.take k = b.take k) (h1 : a[k] = b[k]) : a.take (k + 1) = b.take (k + 1) := by
  rw [List.take_succ_eq_append_getElem ha, List.take_succ_eq_append_getElem hb, h, h1]
theorem same_yes {α : Type} [DecidableEq α] {a b : List α} (hl : a.length = b.length) (h : a.take a.length = b.take a.length) : decide (a = b) = true := by
  rw [List.take_length, List.take_of_length_le (by omega)] at h
  rw [decide_eq_true_iff]; exact h
theorem same_no {α : Type} [DecidableEq α] {a b : List α} {k : Nat} (ha : k < a.length) (hb : k < b.length) (h1 : a[k] ≠ b[k]) : decide (a = b) = false := by
  rw [decide_eq_false_iff_not]
  rintro rfl
  exact h1 rfl
theorem same_len {α : Type} [DecidableEq α] {a b : List α} (h : a.length ≠ b.length) : decide (a = b) = false := by
  rw [decide_eq_false_iff_not]
  rintro rfl
  exact h rfl
end Go.Proofs.Ytpifagclhhaniaa
