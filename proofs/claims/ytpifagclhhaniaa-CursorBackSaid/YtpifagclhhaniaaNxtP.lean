/- The next marked object from an address on, as a plain function. -/
import Derived.Test.YtpifagclhhaniaaFrom
namespace Go.Proofs.Ytpifagclhhaniaa

def nxOf : List Bk → Option Bk
  | [] => none
  | b :: l => if b.mark = true then some b else nxOf l
def noMark (l : List Bk) (k : Nat) : Prop := ∀ j, j < k → (gk l j).mark = false
theorem noMark_zero (l : List Bk) : noMark l 0 := fun j h => absurd h (by omega)
theorem noMark_succ {l : List Bk} {k : Nat} (h : noMark l k) (h2 : (gk l k).mark = false) : noMark l (k + 1) := fun j hj => by
  rcases Nat.lt_or_ge j k with h3 | h3
  · exact h j h3
  · have : j = k := by omega
    subst this; exact h2
theorem nxOf_none : ∀ {l : List Bk}, noMark l l.length → nxOf l = none := by
  intro l
  induction l with
  | nil => intro _; rfl
  | cons b l ih =>
    intro h
    have h0 : b.mark = false := h 0 (by simp)
    simp only [nxOf, h0, Bool.false_eq_true, if_false]
    exact ih fun j hj => by have := h (j + 1) (by simpa using hj); rwa [gk_cons] at this
theorem nxOf_at : ∀ {l : List Bk} {k : Nat}, k < l.length → noMark l k → (gk l k).mark = true → nxOf l = some (gk l k) := by
  intro l
  induction l with
  | nil => intro k h; simp at h
  | cons b l ih =>
    intro k hk h hm
    cases k with
    | zero =>
      rw [gk_zero] at hm ⊢
      simp [nxOf, hm]
    | succ k =>
      have h0 : b.mark = false := h 0 (by omega)
      simp only [nxOf, h0, Bool.false_eq_true, if_false]
      rw [gk_cons] at hm ⊢
      exact ih (by simpa using hk) (fun j hj => by have := h (j + 1) (by omega); rwa [gk_cons] at this) hm
def nxtErr (ws : List Nat) (a : Int) : Int := if frErr ws a = 0 then (match nxOf (frOut ws a) with | none => 6 | some _ => 0) else frErr ws a
def nxtB (ws : List Nat) (a : Int) : Bk := if frErr ws a = 0 then (nxOf (frOut ws a)).getD noBk else noBk
theorem nx_err {ws : List Nat} {a r : Int} (h : frErr ws a = r) (h0 : r ≠ 0) : nxtB ws a = noBk ∧ nxtErr ws a = r := by
  subst h
  simp [nxtB, nxtErr, h0]
theorem nx_none {ws : List Nat} {a : Int} (h : frErr ws a = 0) {l : List Bk} (hl : frOut ws a = l) (hn : noMark l l.length) : nxtB ws a = noBk ∧ nxtErr ws a = 6 := by
  subst hl
  simp [nxtB, nxtErr, h, nxOf_none hn]
theorem nx_some {ws : List Nat} {a : Int} (h : frErr ws a = 0) {l : List Bk} (hl : frOut ws a = l) {k : Nat} (hk : k < l.length) (hn : noMark l k) (hm : (gk l k).mark = true) : nxtB ws a = gk l k ∧ nxtErr ws a = 0 := by
  subst hl
  simp [nxtB, nxtErr, h, nxOf_at hk hn hm]
theorem frErr_val (ws : List Nat) (a : Int) : frErr ws a = 0 ∨ frErr ws a = 2 ∨ frErr ws a = 8 ∨ frErr ws a = 50 := by
  unfold frErr
  split
  · split
    · simp
    · cases blocks ws a.toNat <;> simp
  · simp
/-- In a heap a mark is an object's. -/
theorem fr_live {ws : List Nat} {a : Int} (h : frErr ws a = 0) {k : Nat} (hk : k < (frOut ws a).length) : (gk (frOut ws a) k).kind == 1 || !(gk (frOut ws a) k).mark := by
  unfold frOut at hk ⊢
  rw [if_pos h] at hk ⊢
  unfold frErr at h
  split at h
  · split at h
    · simp at h
    · rename_i h2
      have h3 := frArg_no (by simpa using h2)
      cases hb : blocks ws a.toNat with
      | none => rw [hb] at h; simp at h
      | some l =>
        rw [hb] at hk
        simp only [Option.getD_some] at hk ⊢
        obtain ⟨i, e, -, -, -, b4, -⟩ := blocks_at _ _ hb (by omega) k hk
        have h7 := (hdOk_iff _).1 (bkAt_hd b4)
        rw [gk_get l k hk, e]
        show ((rawBk (wd ws i)).kind == 1 || !(rawBk (wd ws i)).mark) = true
        rcases h7.2 with h8 | h8
        · simp [h8.1]
        · simp [h8.2.2.1]
  · simp at h
/-- Go's remainder by 2 is zero just if Lean's is. -/
theorem tmod_two (a : Int) : (a.tmod 2 != 0) = (a % 2 != 0) := by
  have h1 : a.tmod 2 = 0 ↔ a % 2 = 0 := by
    constructor
    · intro h
      have := Int.dvd_of_tmod_eq_zero h
      omega
    · intro h
      exact Int.tmod_eq_zero_of_dvd (Int.dvd_of_emod_eq_zero h)
  rw [Bool.eq_iff_iff, bne_iff_ne, bne_iff_ne, ne_eq, ne_eq, h1]
/-- The ways in which an address may be wrong. -/
theorem arg_ways {n : Nat} {a : Int} (hbad : ¬ (128 ≤ a ∧ a ≤ (n : Int) ∧ a % 2 = 0)) : (a % 2 != 0) = true ∧ (a.tmod 2 != 0) = true ∨ ((a % 2 != 0) = false ∧ (a.tmod 2 != 0) = false) ∧ a < 128 ∨ (a % 2 != 0) = false ∧ 128 ≤ a ∧ (n : Int) < a := by
  rw [tmod_two]
  by_cases h : a % 2 = 0
  · have : (a % 2 != 0) = false := by rw [bne_eq_false_iff_eq]; exact h
    rw [this]
    by_cases h2 : a < 128
    · exact .inr (.inl ⟨⟨rfl, rfl⟩, h2⟩)
    · exact .inr (.inr ⟨rfl, by omega, by omega⟩)
  · have : (a % 2 != 0) = true := by rw [bne_iff_ne]; exact h
    rw [this]; exact .inl ⟨rfl, rfl⟩
theorem frOut_len (ws : List Nat) (a : Int) : (frOut ws a).length ≤ 4611686018427387904 := by
  unfold frOut
  split
  · rename_i h
    unfold frErr at h
    split at h
    · rename_i h1
      have hb := (sizeOk_iff _).1 h1
      split at h
      · simp at h
      · rename_i h2
        have h3 := frArg_no (by simpa using h2)
        cases hbl : blocks ws a.toNat with
        | none => simp
        | some l =>
          have := (blocks_chain (by omega) _ _ hbl (by omega) (by omega) (by omega)).1
          simp only [Option.getD_some]; omega
    · simp at h
  · simp
end Go.Proofs.Ytpifagclhhaniaa
