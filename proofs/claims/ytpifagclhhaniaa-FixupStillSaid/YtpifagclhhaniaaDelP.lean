/- Elements of many cells that are stored into a row of the call's own, and a part that is cleared. -/
import Derived.Test.YtpifagclhhaniaaWnt
import Derived.Lib.SliceRun
namespace Go.Proofs.Ytpifagclhhaniaa
open Go.RowKit

def setL (xs : List Value) : Nat → List Value → List Value
  | _, [] => xs
  | o, v :: vs => setL (xs.set o v) (o + 1) vs
theorem setL_append (pre : List Value) : ∀ (vs bs : List Value) (o : Nat), setL (pre ++ bs) (pre.length + o) vs = pre ++ setL bs o vs := by
  intro vs
  induction vs with
  | nil => intro bs o; rfl
  | cons v vs ih =>
    intro bs o
    simp only [setL]
    rw [List.set_append_right _ _ (by omega), show pre.length + o - pre.length = o by omega, Nat.add_assoc, ih]
theorem flat_setL : ∀ (l : List Bk) (k : Nat) (x : Bk), k < l.length → setL (l.flatMap Bk.cells) (k * 6) x.cells = (l.set k x).flatMap Bk.cells := by
  intro l
  induction l with
  | nil => intro k x h; simp at h
  | cons b l ih =>
    intro k x h
    cases k with
    | zero => rfl
    | succ k =>
      have h2 := ih k x (by simpa using h)
      rw [List.flatMap_cons, List.set_cons_succ, List.flatMap_cons, ← h2, show (k + 1) * 6 = b.cells.length + k * 6 by show (k + 1) * 6 = 6 + k * 6; omega, setL_append]
theorem own_setCells {H n c g : Nat} {e : TypeId} {sz : Nat} : ∀ (vs : List Value) (o : Nat) (w : World) (xs : List Value), w.ownsRow H e sz (.slice (some ⟨g, 0, none⟩) n c) n xs → (w.setCells g o vs).ownsRow H e sz (.slice (some ⟨g, 0, none⟩) n c) n (setL xs o vs) := by
  intro vs
  induction vs with
  | nil => intro o w xs h; exact h
  | cons v vs ih => intro o w xs h; exact ih (o + 1) _ _ (h.stored o v).1
theorem rd_setCells_far {w : World} {B b o g : Nat} {cs : List Value} (h : Rd w B (some ⟨b, o, none⟩) cs) (hne : b ≠ g) (o' : Nat) (vs : List Value) : Rd (w.setCells g o' vs) B (some ⟨b, o, none⟩) cs := by
  intro h0
  obtain ⟨b', off, e, hb, hc⟩ := h h0
  cases e
  refine ⟨b, o, rfl, hb, fun j hj => ?_⟩
  rw [World.cell?_setCells_out g vs o' w _ (fun h9 _ => absurd h9 hne)]
  exact hc j hj
/-- clear on a part of a row whose elements hold several cells. -/
theorem run_clear_many {P : Program} (w : World) (t e ty : TypeId) (z : Value) (ht : P.underlying t = some (.slice e)) (hv : ∀ w, (zeroValue e).run P w = .ok z w) (L : List Value) (b o n c : Nat) (hL : (Builtin.zeroCells z.cells n).toList = L) (hn : 0 < n) (h1 : ∀ v ∈ L, v.oneCell' = true)
    (hc : ∀ j, j < L.length → (w.cell? ⟨b, o + j, none⟩).isSome = true) (hf : ∀ j, j < L.length → w.frozen? ⟨b, o + j, none⟩ = false) :
    (Builtin.clear_ #[t] ty #[.slice (some ⟨b, o, none⟩) n c]).run P w = .ok (.tuple #[]) (w.setCells b o L) := by
  have hst := Go.run_storeCells_cells (P := P) b o L 0 w (by simpa using hc) (by simpa using hf) h1
  simp only [Nat.add_zero] at hst
  obtain ⟨m, rfl⟩ : ∃ m, n = m + 1 := ⟨n - 1, by omega⟩
  simp [Builtin.clear_, run_underlying ht, hv, hL, hst]
end Go.Proofs.Ytpifagclhhaniaa
