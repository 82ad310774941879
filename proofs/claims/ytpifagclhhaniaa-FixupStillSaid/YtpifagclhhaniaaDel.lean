/- slices.DeleteFunc with the closure of mark.Wanted. -/
import Derived.Test.YtpifagclhhaniaaDelP
namespace Go.Proofs.Ytpifagclhhaniaa
open Go.RowKit

def wntL (S : List Bool) (l : List Bk) : List Bk := l.filter fun b => !keepB S b
theorem wntL_none {S : List Bool} {l : List Bk} (h : NoKeep S l l.length) : wntL S l = l := by
  unfold wntL
  rw [List.filter_eq_self]
  intro b hb
  obtain ⟨k, hk, rfl⟩ := List.getElem_of_mem hb
  have := h k hk
  rw [gk_get l k hk] at this
  simp [this]
theorem wntL_take {S : List Bool} {l : List Bk} {k : Nat} (h : NoKeep S l k) (hk : k ≤ l.length) : wntL S (l.take k) = l.take k := by
  refine wntL_none fun j hj => ?_
  rw [List.length_take] at hj
  have := h j (by omega)
  rw [gk_get _ _ (by omega)] at this
  rw [gk_get _ _ (by rw [List.length_take]; omega), List.getElem_take]
  exact this
theorem wntL_succ {S : List Bool} {l : List Bk} {k : Nat} (hk : k < l.length) : wntL S (l.take (k + 1)) = wntL S (l.take k) ++ (if keepB S l[k] = true then [] else [l[k]]) := by
  unfold wntL
  rw [List.take_succ_eq_append_getElem hk, List.filter_append]
  congr 1
  cases hb : keepB S l[k] <;> simp [hb]
/-- How far the row is: the first k are kept, from j on all stands as it did. -/
def DelSt (S : List Bool) (l R : List Bk) (k j : Nat) : Prop := k < j ∧ j ≤ l.length ∧ R.length = l.length ∧ R.take k = wntL S (l.take j) ∧ R.drop j = l.drop j
theorem DelSt.get {S : List Bool} {l R : List Bk} {k j : Nat} (h : DelSt S l R k j) (hj : j < l.length) : ∃ h2 : j < R.length, R[j] = l[j] := by
  obtain ⟨h1, h2, h3, h4, h5⟩ := h
  refine ⟨by omega, ?_⟩
  have e1 : (R.drop j)[0]? = R[j]? := by simp
  have e2 : (l.drop j)[0]? = l[j]? := by simp
  rw [h5, e2, List.getElem?_eq_getElem hj, List.getElem?_eq_getElem (by omega)] at e1
  injection e1 with e1
  exact e1.symm
theorem DelSt.drop1 {S : List Bool} {l R : List Bk} {k j : Nat} (h : DelSt S l R k j) (_hj : j < l.length) : R.drop (j + 1) = l.drop (j + 1) := by
  have := congrArg (List.drop 1) h.2.2.2.2
  rwa [List.drop_drop, List.drop_drop] at this
theorem DelSt.first {S : List Bool} {l : List Bk} {k : Nat} (hk : k < l.length) (h : NoKeep S l k) (h1 : keepB S (gk l k) = true) : DelSt S l l k (k + 1) := by
  refine ⟨by omega, by omega, rfl, ?_, rfl⟩
  rw [gk_get l k hk] at h1
  rw [wntL_succ hk, wntL_take h (by omega), if_pos h1, List.append_nil]
theorem DelSt.del {S : List Bool} {l R : List Bk} {k j : Nat} (h : DelSt S l R k j) (hj : j < l.length) (h1 : keepB S l[j] = true) : DelSt S l R k (j + 1) := by
  refine ⟨by have := h.1; omega, by omega, h.2.2.1, ?_, h.drop1 hj⟩
  rw [wntL_succ hj, if_pos h1, List.append_nil]
  exact h.2.2.2.1
theorem DelSt.keep {S : List Bool} {l R : List Bk} {k j : Nat} (h : DelSt S l R k j) (hj : j < l.length) (h1 : keepB S l[j] = false) : DelSt S l (R.set k l[j]) (k + 1) (j + 1) := by
  obtain ⟨g1, g2, g3, g4, g5⟩ := h
  refine ⟨by omega, by omega, by rw [List.length_set]; exact g3, ?_, ?_⟩
  · rw [wntL_succ hj, if_neg (by rw [h1]; simp), ← g4, List.take_succ_eq_append_getElem (by rw [List.length_set]; omega), List.getElem_set_self, List.take_set_of_le (Nat.le_refl _)]
  · rw [List.drop_set_of_lt (by omega)]
    exact DelSt.drop1 (S := S) ⟨g1, g2, g3, g4, g5⟩ hj
end Go.Proofs.Ytpifagclhhaniaa
