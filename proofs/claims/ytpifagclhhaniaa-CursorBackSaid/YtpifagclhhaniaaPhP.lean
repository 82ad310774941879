/- Phases, phase lines, and how many objects are left, as plain functions. -/
import Derived.Test.YtpifagclhhaniaaNxtP
import Derived.Test.YtpifagclhhaniaaFwbQ
import Derived.Test.YtpifagclhhaniaaSldP
namespace Go.Proofs.Ytpifagclhhaniaa

def inHp (n : Nat) : Bool := decide (128 ≤ n) && (decide (n ≤ 2048) && n % 2 == 0)
theorem inHp_iff (n : Nat) : inHp n = true ↔ 128 ≤ n ∧ n ≤ 2048 ∧ n % 2 = 0 := by simp [inHp]
/-- Whether three numbers are a phase. -/
def phOk (p f t : Nat) : Bool := if p = 4 then inHp f && (inHp t && decide (t ≤ f)) else if t ≠ 0 then false else if p = 3 then f == 0 || inHp f else decide (p < 3) && f == 0
theorem phOk_iff (p f t : Nat) : phOk p f t = true ↔ p = 4 ∧ inHp f = true ∧ inHp t = true ∧ t ≤ f ∨ p = 3 ∧ t = 0 ∧ (f = 0 ∨ inHp f = true) ∨ p < 3 ∧ t = 0 ∧ f = 0 := by
  unfold phOk
  split
  · rename_i h
    subst h
    simp
  · rename_i h4
    split
    · rename_i h
      simp [h4, h]
    · rename_i h
      have h0 : t = 0 := by omega
      subst h0
      split
      · rename_i h3
        subst h3
        simp
      · rename_i h3
        simp [h4, h3]
/-- The words of a phase line: those that may be numbers, and those that may not. -/
def lineW (ws : List Nat) : Bool := (decide (wd ws 16 ≤ ws.length) && (decide (wd ws 17 ≤ ws.length) && decide (wd ws 18 ≤ ws.length))) && (wd ws 19 == 0 && (wd ws 20 == 0 && (wd ws 21 == 0 && (wd ws 22 == 0 && wd ws 23 == 0))))
def prErr (ws : List Nat) : Int := if sizeOk (ws.length : Int) = true then (if (lineW ws && phOk (wd ws 16) (wd ws 17) (wd ws 18)) = true then 0 else 50) else 8
def phV (p f t : Nat) : Value := .agg #[.int .i64 (p : Int), .int .i64 (f : Int), .int .i64 (t : Int)]
def prV (ws : List Nat) : Value := if prErr ws = 0 then phV (wd ws 16) (wd ws 17) (wd ws 18) else phV 0 0 0
theorem prErr_img {ws : List Nat} (h : sizeOk (ws.length : Int) = false) : prErr ws = 8 ∧ prV ws = phV 0 0 0 := by simp [prV, prErr, h]
theorem prErr_bad {ws : List Nat} (h : sizeOk (ws.length : Int) = true) (h2 : (lineW ws && phOk (wd ws 16) (wd ws 17) (wd ws 18)) = false) : prErr ws = 50 ∧ prV ws = phV 0 0 0 := by simp [prV, prErr, h, h2]
theorem prErr_ok {ws : List Nat} (h : sizeOk (ws.length : Int) = true) (h2 : (lineW ws && phOk (wd ws 16) (wd ws 17) (wd ws 18)) = true) : prErr ws = 0 ∧ prV ws = phV (wd ws 16) (wd ws 17) (wd ws 18) := by simp [prV, prErr, h, h2]
theorem prErr_zero {ws : List Nat} (h : prErr ws = 0) : sizeOk (ws.length : Int) = true ∧ lineW ws = true ∧ phOk (wd ws 16) (wd ws 17) (wd ws 18) = true := by
  unfold prErr at h
  split at h
  · split at h
    · rename_i h1 h2
      simp only [Bool.and_eq_true] at h2
      exact ⟨h1, h2⟩
    · simp at h
  · simp at h
theorem prErr_val (ws : List Nat) : prErr ws = 0 ∨ prErr ws = 8 ∨ prErr ws = 50 := by
  unfold prErr
  split
  · split <;> simp
  · simp
theorem lineW_iff (ws : List Nat) : lineW ws = true ↔ (wd ws 16 ≤ ws.length ∧ wd ws 17 ≤ ws.length ∧ wd ws 18 ≤ ws.length) ∧ wd ws 19 = 0 ∧ wd ws 20 = 0 ∧ wd ws 21 = 0 ∧ wd ws 22 = 0 ∧ wd ws 23 = 0 := by simp [lineW]
theorem line_bad {ws : List Nat} {i : Nat} (hi : i < 8) (h : i < 3 ∧ ws.length < wd ws (16 + i) ∨ 3 ≤ i ∧ wd ws (16 + i) ≠ 0) : lineW ws = false := by
  cases hq : lineW ws with
  | false => rfl
  | true =>
    obtain ⟨⟨a0, a1, a2⟩, a3, a4, a5, a6, a7⟩ := (lineW_iff ws).1 hq
    exfalso
    match i, hi with
    | 0, _ => simp only [Nat.add_zero] at h; omega
    | 1, _ => simp only [Nat.reduceAdd] at h; omega
    | 2, _ => simp only [Nat.reduceAdd] at h; omega
    | 3, _ => simp only [Nat.reduceAdd] at h; omega
    | 4, _ => simp only [Nat.reduceAdd] at h; omega
    | 5, _ => simp only [Nat.reduceAdd] at h; omega
    | 6, _ => simp only [Nat.reduceAdd] at h; omega
    | 7, _ => simp only [Nat.reduceAdd] at h; omega

/-! Whether an address is a block's, or the end -/
def bdAt (ws : List Nat) (f : Nat) : Bool := match blocks ws 128 with
  | none => false
  | some l => l.any (fun b => b.at_ == (f : Int)) || f == ws.length
def lnErr (ws : List Nat) : Int := if prErr ws = 0 then (if wd ws 16 = 3 ∧ wd ws 17 ≠ 0 ∧ bdAt ws (wd ws 17) = false then 50 else 0) else prErr ws
def lnV (ws : List Nat) : Value := if lnErr ws = 0 then phV (wd ws 16) (wd ws 17) (wd ws 18) else phV 0 0 0
theorem lnErr_zero {ws : List Nat} (h : lnErr ws = 0) : prErr ws = 0 ∧ (wd ws 16 = 3 → wd ws 17 ≠ 0 → bdAt ws (wd ws 17) = true) := by
  unfold lnErr at h
  split at h
  · rename_i h1
    refine ⟨h1, fun h2 h3 => ?_⟩
    split at h
    · simp at h
    · rename_i h4
      cases hq : bdAt ws (wd ws 17) with
      | true => rfl
      | false => exact absurd ⟨h2, h3, hq⟩ h4
  · rename_i h1; exact absurd h h1
theorem lnErr_val (ws : List Nat) : lnErr ws = 0 ∨ lnErr ws = 8 ∨ lnErr ws = 50 := by
  unfold lnErr
  split
  · split <;> simp
  · exact prErr_val ws

/-! Whether the words up to an address are objects that are not marked -/
def mdOk (ws : List Nat) (i : Nat) : Bool := splitOk (wd ws i) && ((rawBk (wd ws i)).kind == 1 && (!(rawBk (wd ws i)).mark && typedB ws (rawBk (wd ws i))))
def mvdL (ws : List Nat) : Nat → Nat → Nat → Bool
  | 0, i, t => i == t
  | f + 1, i, t => if i < t then mdOk ws i && mvdL ws f (i + szAt ws i) t else i == t
theorem mdOk_sz {ws : List Nat} {i : Nat} (h : mdOk ws i = true) : 2 ≤ szAt ws i ∧ szAt ws i % 2 = 0 ∧ szAt ws i ≤ 10 := by
  unfold mdOk splitOk at h
  simp only [Bool.and_eq_true, beq_iff_eq] at h
  obtain ⟨⟨h1, -⟩, h2, -⟩ := h
  have h3 := (hdOk_iff _).1 h1
  have e : (rawBk (wd ws i)).size = ((szAt ws i : Nat) : Int) := rfl
  omega
theorem mvdL_more {ws : List Nat} {t : Nat} : ∀ {f i g : Nat}, t - i ≤ f → t - i ≤ g → mvdL ws f i t = mvdL ws g i t := by
  intro f
  induction f with
  | zero =>
    intro i g h hg
    cases g with
    | zero => rfl
    | succ g => simp only [mvdL]; rw [if_neg (by omega)]
  | succ f ih =>
    intro i g h hg
    cases g with
    | zero => simp only [mvdL]; rw [if_neg (by omega)]
    | succ g =>
      simp only [mvdL]
      split
      · cases hs : mdOk ws i with
        | false => simp
        | true =>
          have := mdOk_sz hs
          rw [ih (i := i + szAt ws i) (by omega) (g := g) (by omega)]
      · rfl
def mvd (ws : List Nat) (i t : Nat) : Bool := mvdL ws t i t
theorem mvd_end {ws : List Nat} {i t : Nat} (h : t ≤ i) : mvd ws i t = (i == t) := by
  unfold mvd
  rw [mvdL_more (g := 0) (by omega) (by omega)]; rfl
theorem mvd_step {ws : List Nat} {i t : Nat} (h : i < t) (h2 : mdOk ws i = true) : mvd ws i t = mvd ws (i + szAt ws i) t := by
  unfold mvd
  have := mdOk_sz h2
  rw [mvdL_more (g := t + 1) (by omega) (by omega), mvdL, if_pos h, h2, Bool.true_and]
theorem mvd_bad {ws : List Nat} {i t : Nat} (h : i < t) (h2 : mdOk ws i = false) : mvd ws i t = false := by
  unfold mvd
  rw [mvdL_more (g := t + 1) (by omega) (by omega), mvdL, if_pos h, h2, Bool.false_and]

/-! The error of a view, and how many are left -/
def ckErr (ws : List Nat) : Int := if lnErr ws = 0 then (if wd ws 16 = 4 then (if mvd ws 128 (wd ws 18) = true then rdErr ws (wd ws 17 : Nat) (wd ws 18 : Nat) else 50) else if wd ws 16 = 3 then rdErr ws 128 128 else hpErr ws) else lnErr ws
def lfFrom (ws : List Nat) : Int := if (wd ws 17 : Int) < 128 then 128 else (wd ws 17 : Int)
def lfN (ws : List Nat) : Nat := if ckErr ws = 0 then (if wd ws 16 < 3 then 0 else (mkdL (frOut ws (lfFrom ws))).length) else 0

theorem nxt_agree {ws xs : List Nat} (hn : xs.length = ws.length) {a : Int} (h : ∀ j : Nat, a ≤ (j : Int) → wd xs j = wd ws j) : nxtErr xs a = nxtErr ws a ∧ nxtB xs a = nxtB ws a := by
  have h1 : frErr xs a = frErr ws a ∧ frOut xs a = frOut ws a := by
    have hb : frArg ws.length a = false → blocks xs a.toNat = blocks ws a.toNat := fun h2 => by
      have h3 := frArg_no h2
      exact blocks_agree hn _ fun j hj => h j (by omega)
    have e1 : frErr xs a = frErr ws a := by
      unfold frErr
      rw [hn]
      cases h2 : frArg ws.length a with
      | true => rfl
      | false => rw [hb h2]
    refine ⟨e1, ?_⟩
    unfold frOut
    rw [e1]
    split
    · rename_i h0
      cases h2 : frArg ws.length a with
      | true =>
        unfold frErr at h0
        rw [h2] at h0
        simp only [if_true] at h0
        split at h0 <;> simp at h0
      | false => rw [hb h2]
    · rfl
  unfold nxtErr nxtB
  rw [h1.1, h1.2]
  exact ⟨rfl, rfl⟩
end Go.Proofs.Ytpifagclhhaniaa
