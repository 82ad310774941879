/- Arrays whose elements are read: at an index; whole, out of a block and back into it. -/
import Derived.Test.YtpifagclhhaniaaBase
import Derived.Deep.MidRow
import Derived.Laws.Rows
namespace Go.Proofs.Ytpifagclhhaniaa
open Go.RowKit

theorem setCell_self {w : World} {g i : Nat} {t : TypeId} {cs : Array Value} {v : Value} (h : Bx w g t cs) (hv : cs[i]? = some v) : w.setCell ⟨g, i, none⟩ v = w := by
  have hh : w.heap.modify g (fun | .cells c elem frozen => .cells (if (none : Option Nat).isSome then c else c.setIfInBounds i v) elem frozen | o => o) = w.heap := by
    apply Array.ext_getElem?
    intro j
    rw [Array.getElem?_modify]
    split
    · rename_i e
      subst e
      rw [show w.heap[g]? = _ from h]
      simp only [Option.map_some, Option.isSome_none, Bool.false_eq_true, if_false]
      congr 2
      apply Array.ext_getElem?
      intro k
      rw [Array.getElem?_setIfInBounds]
      split
      · rename_i e; subst e
        split
        · exact hv.symm
        · rename_i hk; rw [Array.getElem?_eq_none (by omega)]
      · rfl
    · rfl
  have e : w.setCell ⟨g, i, none⟩ v = { w with heap := w.heap.modify g (fun | .cells c elem frozen => .cells (if (none : Option Nat).isSome then c else c.setIfInBounds i v) elem frozen | o => o) } := rfl
  rw [e, hh]
theorem setCells_self {w : World} {g : Nat} {t : TypeId} {cs : Array Value} (h : Bx w g t cs) : w.setCells g 0 cs.toList = w := by
  have key : ∀ (vs : List Value) (o : Nat), (∀ j v, vs[j]? = some v → cs[o + j]? = some v) → w.setCells g o vs = w := by
    intro vs
    induction vs with
    | nil => intro o _; rfl
    | cons v vs ih =>
      intro o hv
      simp only [World.setCells]
      rw [setCell_self h (by have := hv 0 v rfl; simpa using this)]
      exact ih (o + 1) (fun j u hu => by have := hv (j + 1) u (by simpa using hu); rwa [show o + 1 + j = o + (j + 1) by omega])
  exact key cs.toList 0 (fun j v hv => by simpa using hv)
theorem setCells_all {w : World} {g : Nat} {t : TypeId} {cs0 : Array Value} (h : Bx w g t cs0) {cs : Array Value} (hs : cs.size = cs0.size) : Bx (w.setCells g 0 cs.toList) g t cs := by
  have key : ∀ (vs : List Value) (o : Nat) (w : World) (cs0 : Array Value), Bx w g t cs0 → o + vs.length = cs0.size →
      ∃ cs1, Bx (w.setCells g o vs) g t cs1 ∧ cs1.size = cs0.size ∧ (∀ j, j < o → cs1[j]? = cs0[j]?) ∧ ∀ j, j < vs.length → cs1[o + j]? = vs[j]? := by
    intro vs
    induction vs with
    | nil => intro o w cs0 hb _; exact ⟨cs0, hb, rfl, fun _ _ => rfl, fun j hj => by simp at hj⟩
    | cons v vs ih =>
      intro o w cs0 hb hl
      rw [List.length_cons] at hl
      obtain ⟨cs1, h1, h2, h3, h4⟩ := ih (o + 1) _ _ (hb.set_ o v) (by rw [Array.size_setIfInBounds]; omega)
      rw [Array.size_setIfInBounds] at h2
      refine ⟨cs1, h1, h2, fun j hj => ?_, fun j hj => ?_⟩
      · rw [h3 j (by omega), Array.getElem?_setIfInBounds, if_neg (by omega)]
      · cases j with
        | zero => rw [Nat.add_zero, h3 o (by omega), Array.getElem?_setIfInBounds, if_pos rfl, if_pos (by omega)]; rfl
        | succ j => rw [show o + (j + 1) = o + 1 + j by omega, h4 j (by simpa using hj)]; simp
  obtain ⟨cs1, h1, h2, _, h4⟩ := key cs.toList 0 w cs0 h (by simpa using hs)
  have e : cs1 = cs := by
    apply Array.ext_getElem?
    intro i
    by_cases hi : i < cs.size
    · have := h4 i (by simpa using hi)
      rw [Nat.zero_add] at this
      rw [this]; simp
    · rw [Array.getElem?_eq_none (by omega), Array.getElem?_eq_none (by omega)]
  rwa [e] at h1
theorem below_setCells {B g : Nat} (hg : B ≤ g) (vs : List Value) : ∀ {w w1 : World} {o : Nat}, Below B w w1 → Below B w (w1.setCells g o vs) := by
  induction vs with
  | nil => intro w w1 o h; exact h
  | cons v vs ih => intro w w1 o h; exact ih (h.setCell (p := ⟨g, o, none⟩) hg v)
theorem there_bx {w : World} {g : Nat} {t : TypeId} {cs : Array Value} (h : Bx w g t cs) : w.there g 0 cs.size := fun j hj => by
  rw [Nat.zero_add]
  exact ⟨by rw [h.cell j]; simp [hj], h.frozen j⟩
/-- An element of an array of one-cell elements. -/
theorem run_index_agg {P : Program} {t e : TypeId} {n : Nat} {i : TypeInfo} (ht : P.underlying t = some (.array n e)) (he : P.info? e = some i) (hs : i.size = 1) (hag : ∀ w, (isAgg e).run P w = .ok false w) {cs : Array Value} {k : Nat} {v : Value} (hk : k < n) (hv : cs[k]? = some v) (w : World) :
    (Instr.index t (.agg cs) (.int .i64 (k : Int))).run P w = .ok v w := by
  have h0 : (0 : Int) ≤ (k : Int) ∧ (k : Int) < (n : Int) := by omega
  simp [Instr.index, asIntOf, run_underlying ht, h0, sizeOf, typeInfo, he, hs, part, Sem.run_bind, hag, hv, Result.andThen]
  omega
end Go.Proofs.Ytpifagclhhaniaa
