/- Texts laid together: StgW StgO StgA. -/
import Derived.Test.YtoaepffpjoibaaaGreatKStg1
import Derived.Test.YtoaepffpjoibaaaGreatKFix
import Derived.Test.YtoaepffpjoibaaaGreatNxt
import Derived.Test.YtoaepffpjoibaaaGreatKHead
import Derived.Test.YtoaepffpjoibaaaGreatKCursor
import Derived.LoopTactic
namespace Go.Proofs.YtoaepffpjoibaaaGreat
open Go.RowKit

theorem own_made (w : World) {H n sz : Nat} (e : TypeId) (cs : Array Value) (hH : H ≤ w.heap.size) (hn : cs.size = n * sz) (hm : n ≤ maxLen) : (w.alloc (.cells cs e)).ownsRow H e sz (.slice (some ⟨w.heap.size, 0, none⟩) n n) n cs.toList :=
  ⟨by rw [Array.length_toList]; exact hn, .inr ⟨w.heap.size, n, cs, rfl, hH, heap_alloc_new w _, Nat.le_refl _, hm, hn, by rw [List.take_of_length_le (by rw [Array.length_toList, hn]; exact Nat.le_refl _)]⟩⟩
theorem own_take {w : World} {H n c m sz g : Nat} {e : TypeId} {xs : List Value} (h : w.ownsRow H e sz (.slice (some ⟨g, 0, none⟩) n c) n xs) (hm : m ≤ n) : w.ownsRow H e sz (.slice (some ⟨g, 0, none⟩) m c) m (xs.take (m * sz)) := by
  have hms : m * sz ≤ n * sz := Nat.mul_le_mul_right _ hm
  refine ⟨by rw [List.length_take, h.1]; omega, .inr ?_⟩
  rcases h.2 with ⟨h1, _⟩ | ⟨g', cap, cur, h1, h2, h3, h4, h5, h6, h7⟩
  · cases h1
  · simp only [Value.slice.injEq, Option.some.injEq, Addr.mk.injEq, and_true, true_and] at h1
    obtain ⟨rfl, rfl⟩ := h1
    refine ⟨g, c, cur, rfl, h2, h3, by omega, h5, h6, ?_⟩
    rw [← h7, List.take_take, Nat.min_eq_left hms]

/-- The next change of PhFix, with the first cursor told. -/
def sgFixAt (ws : List Nat) (f : Nat) : Int × List En := if f = 0 then (if fsErr ws = 0 then (0, ⟨17, 128⟩ :: fsOut ws) else (fsErr ws, [])) else fixE ws f
theorem sgFix_at (ws : List Nat) : sgFix ws = sgFixAt ws (wd ws 17) := rfl

end Go.Proofs.YtoaepffpjoibaaaGreat

namespace Go.Proofs.YtoaepffpjoibaaaGreat
open Go.RowKit

end Go.Proofs.YtoaepffpjoibaaaGreat

namespace Go.Proofs.YtoaepffpjoibaaaGreat
open Go.RowKit

theorem allG_nil {p : Nat} : ∀ {f : Nat} {x : List Nat}, (allG p f x).1 ≠ 0 → allG p f x = ((allG p f x).1, [], []) := by
  intro f
  cases f with
  | zero => intro x h; exact absurd rfl h
  | succ f =>
    intro x h
    simp only [allG] at h ⊢
    by_cases h1 : wd x 16 = p
    · simp only [h1, if_true] at h ⊢
      by_cases h2 : (sgOne x).1 = 6
      · simp only [h2, if_true] at h; first | exact absurd rfl h | exact h.elim | (simp at h)
      · simp only [h2, if_false] at h ⊢
        by_cases h3 : (sgOne x).1 = 0
        · simp only [h3, if_true] at h ⊢
          by_cases h4 : (allG p f (putE x (sgOne x).2)).1 = 0
          · simp only [h4, if_true] at h; first | exact absurd rfl h | exact h.elim | (simp at h)
          · simp only [h4, if_false]
        · simp only [h3, if_false]
    · simp only [h1, if_false] at h; first | exact absurd rfl h | exact h.elim | (simp at h)
theorem mzS_le {p : Nat} {x : List Nat} (hx : x.length ≤ 2048) : mzS p x ≤ 2060 := by
  unfold mzS stM
  split
  · split
    · by_cases h : rcErr x = 0
      · rw [wtOut_eq h, List.length_map]
        have h1 := wntL_len (seenL x) (hpOut x)
        have h2 := hpOut_len x
        omega
      · unfold wtOut; rw [if_neg h]; simp
    · split
      · by_cases h : hpErr x = 0
        · have := (wnOut_bd h).1; omega
        · unfold wnOut; rw [if_neg h]; simp
      · omega
  · omega
/-- How all changes go on behind some. -/
def contA (p : Nat) (ws : List Nat) (outs : List (List En)) (x : List Nat) : Prop := allE p ws = if (allE p x).1 = 0 then (0, outs ++ (allE p x).2.1, (allE p x).2.2) else ((allE p x).1, [], [])
theorem contA_start (p : Nat) (ws : List Nat) : contA p ws [] ws := by
  unfold contA
  by_cases h : (allE p ws).1 = 0
  · rw [if_pos h, List.nil_append, ← h]
  · rw [if_neg h]; exact allG_nil h
theorem contA_step {p : Nat} {ws : List Nat} {outs : List (List En)} {x : List Nat} (h : contA p ws outs x) (ho : ∀ v ∈ x, v < 18446744073709551616) (hp : wd x 16 = p) (h0 : (sgOne x).1 = 0) : contA p ws (outs ++ [(sgOne x).2]) (putE x (sgOne x).2) := by
  unfold contA at h ⊢
  rw [h, allE_step ho hp h0]
  by_cases h1 : (allE p (putE x (sgOne x).2)).1 = 0
  · rw [if_pos h1, if_pos rfl, if_pos h1]
    simp
  · rw [if_neg h1, if_neg (by exact h1), if_neg h1]
theorem contA_end {p : Nat} {ws : List Nat} {outs : List (List En)} {x : List Nat} (h : contA p ws outs x) (h2 : wd x 16 ≠ p ∨ wd x 16 = p ∧ (sgOne x).1 = 6) : allE p ws = (0, outs, x) := by
  have e : allE p x = (0, [], x) := by
    rcases h2 with h2 | ⟨h2, h3⟩
    · exact allE_other h2
    · exact allE_none h2 h3
  unfold contA at h
  rw [h, e]
  simp
theorem contA_bad {p : Nat} {ws : List Nat} {outs : List (List En)} {x : List Nat} (h : contA p ws outs x) (hp : wd x 16 = p) (h2 : (sgOne x).1 ≠ 6) (h3 : (sgOne x).1 ≠ 0) : allE p ws = ((sgOne x).1, [], []) := by
  unfold contA at h
  rw [h, allE_err hp h2 h3, if_neg (by exact h3)]
theorem own_grown {w w' : World} {H n sz : Nat} {e : TypeId} {v : Value} {xs : List Value} {row : Option Nat} (h : w.ownsRow H e sz v n xs) (hb : w.grownBy w' row) (hne : v.ownBlock = none ∨ v.ownBlock ≠ row) : w'.ownsRow H e sz v n xs := by
  refine ⟨h.1, ?_⟩
  rcases h.2 with h1 | ⟨g, cap, cur, h1, h2, h3, h4⟩
  · exact .inl h1
  · subst h1
    refine .inr ⟨g, cap, cur, rfl, h2, ?_, h4⟩
    have hlt := (Array.getElem?_eq_some_iff.1 h3).1
    refine (hb.block g hlt ?_).trans h3
    rcases hne with h5 | h5
    · simp [Value.ownBlock] at h5
    · exact h5
theorem infoChs : (Tryz.prog.info? 30).map (fun i => (i.zero, i.size, i.bytes)) = some (some (.slice none 0 0), 1, 24) := by kernel_rfl
/-- Changes that lie in memory of the call's own. -/
def OwnC (w : World) (H : Nat) (B : Option Addr) (d : Nat) (L : List Ch) : Prop := w.ownsRow H 30 1 (.slice B L.length d) L.length (L.flatMap Ch.cells) ∧ ∀ x ∈ L, w.ownsRow H 53 2 (.slice x.A x.l.length x.c) x.l.length (x.l.flatMap En.cells)
def AlRes (ws : List Nat) (H : Nat) (e : Ending) (w' : World) : Prop := ∃ (L : List Ch) (B : Option Addr) (d : Nat) (vx : Value), e = .returned (.tuple #[.slice B L.length d, vx, .int .i64 (sgAll ws).1]) ∧ L.map Ch.l = (sgAll ws).2.1 ∧ OwnC w' H B d L ∧
  ((sgAll ws).1 = 0 → ∃ g c, vx = .slice (some ⟨g, 0, none⟩) ws.length c ∧ (sgAll ws).2.2.length = ws.length ∧ w'.ownsRow H 46 1 (.slice (some ⟨g, 0, none⟩) ws.length c) ws.length ((sgAll ws).2.2.flatMap wordCells)) ∧ ((sgAll ws).1 ≠ 0 → vx = .slice none 0 0)
theorem alRes_no {ws : List Nat} {H : Nat} {r : Int} {w' : World} (h : sgAll ws = (r, [], [])) (h0 : r ≠ 0) : AlRes ws H (.returned (.tuple #[.slice none 0 0, .slice none 0 0, .int .i64 r])) w' := by
  refine ⟨[], none, 0, .slice none 0 0, by rw [h]; rfl, by rw [h]; rfl, ⟨World.ownsRow_nil _ _ _ _, fun x hx => by simp at hx⟩, fun h1 => ?_, fun _ => rfl⟩
  rw [h] at h1
  exact absurd h1 h0

end Go.Proofs.YtoaepffpjoibaaaGreat
