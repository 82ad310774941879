/- Arrays whose elements are read: at an index; whole, out of a block and back into it. -/
import Derived.Test.YtiaddipbjigaiaaBase
import Derived.Deep.MidRow
import Derived.Laws.Rows
namespace Go.Proofs.Ytiaddipbjigaiaa
open Go.RowKit

theorem setCell_self {w : World} {g i : Nat} {t : TypeId} {cs : Array Value} {v : Value} (h : Bx w g t cs) (hv : cs[i]? = some v) : w.setCell ⟨g, i, none⟩ v = w := by
  have hh : w.heap.modify g (fun | .cells c elem frozen => .cells (if (none : Option Nat).isSome then c else c.setIfInBounds i v) elem frozen | o => o) = w.heap := by
    apply Array.ext_getElem?
    intro j
    rw [Array.getElem?_modify]
    split
    · rename_i e
      subst e
      rw [show w.heap[g]? = _ from h]
      simp only [Option.map_some, Option.isSome_none, Bool.false_eq_true, if_false]
      congr 2
      apply Array.ext_getElem?
      intro k
      rw [Array.getElem?_setIfInBounds]
      split
      · rename_i e; subst e
        split
        · exact hv.symm
        · rename_i hk; rw [Array.getElem?_eq_none (by omega)]
      · rfl
    · rfl
  have e : w.setCell ⟨g, i, none⟩ v = { w with heap := w.heap.modify g (fun | .cells c elem frozen => .cells (if (none : Option Nat).isSome then c else c.setIfInBounds i v) elem frozen | o => o) } := rfl
  rw [e, hh]
theorem setCells_self {w : World} {g : Nat} {t : TypeId} {cs : Array Value} (h : Bx w g t cs) : w.setCells g 0 cs.toList = w := by
  have key : ∀ (vs : List Value) (o : Nat), (∀ j v, vs[j]? = some v → cs[o + j]? = some v) → w.setCells g o vs = w := by
    intro vs
    induction vs with
    | nil => intro o _; rfl
    | cons v vs ih =>
      intro o hv
      simp only [World.setCells]
      rw [setCell_self h (by have := hv 0 v rfl; simpa using this)]
      exact ih (o + 1) (fun j u hu => by have := hv (j + 1) u (by simpa using hu); rwa [show o + 1 + j = o + (j + 1) by omega])
  exact key cs.toList 0 (fun j v hv => by simpa using hv)
theorem there_bx {w : World} {g : Nat} {t : TypeId} {cs : Array Value} (h : Bx w g t cs) : w.there g 0 cs.size := fun j hj => by
  rw [Nat.zero_add]
  exact ⟨by rw [h.cell j]; simp [hj], h.frozen j⟩
/-- An element of an array of one-cell elements. -/
theorem run_index_agg {P : Program} {t e : TypeId} {n : Nat} {i : TypeInfo} (ht : P.underlying t = some (.array n e)) (he : P.info? e = some i) (hs : i.size = 1) (hag : ∀ w, (isAgg e).run P w = .ok false w) {cs : Array Value} {k : Nat} {v : Value} (hk : k < n) (hv : cs[k]? = some v) (w : World) :
    (Instr.index t (.agg cs) (.int .i64 (k : Int))).run P w = .ok v w := by
  have h0 : (0 : Int) ≤ (k : Int) ∧ (k : Int) < (n : Int) := by omega
  simp [Instr.index, asIntOf, run_underlying ht, h0, sizeOf, typeInfo, he, hs, part, Sem.run_bind, hag, hv, Result.andThen]
  omega
end Go.Proofs.Ytiaddipbjigaiaa
