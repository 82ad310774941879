/- Rows of blocks: when a row is right, where its marked objects go, and its gaps: plain functions and their laws. -/
import Derived.Test.YtpifagclhhaniaaBase
namespace Go.Proofs.Ytpifagclhhaniaa
def gk (l : List Bk) (k : Nat) : Bk := l[k]?.getD default
theorem gk_get (l : List Bk) (k : Nat) (h : k < l.length) : gk l k = l[k] := by simp [gk, h]
def bkOk (b : Bk) : Bool := (b.kind == 1 || b.kind == 2) && ((decide (2 ≤ b.size) && (decide (b.size ≤ 2048) && b.size % 2 == 0)) && (decide (128 ≤ b.at_) && (b.at_ % 2 == 0 && decide (b.at_ ≤ 2048 - b.size))))
/-- Where the block behind the first k ones must stand. -/
def rowNext (l : List Bk) : Nat → Int
  | 0 => 128
  | k + 1 => (gk l k).at_ + (gk l k).size
/-- Whether the first k blocks are right. -/
def rowPre (l : List Bk) : Nat → Bool
  | 0 => true
  | k + 1 => rowPre l k && (bkOk (gk l k) && (decide (k = 0) || (gk l k).at_ == rowNext l k))
def rowOk (l : List Bk) : Bool := decide (l.length ≤ 1024) && rowPre l l.length
def rowErr (l : List Bk) : Int := if rowOk l then 0 else 8
theorem rowPre_mono {l : List Bk} {k n : Nat} (h : rowPre l n = true) (hk : k ≤ n) : rowPre l k = true := by
  induction n with
  | zero => have : k = 0 := by omega
            subst this; exact h
  | succ n ih =>
    rcases Nat.lt_or_ge k (n + 1) with h1 | h1
    · simp only [rowPre, Bool.and_eq_true] at h
      exact ih h.1 (by omega)
    · have : k = n + 1 := by omega
      subst this; exact h
theorem rowPre_at {l : List Bk} {k n : Nat} (h : rowPre l n = true) (hk : k < n) : bkOk (gk l k) = true ∧ (k = 0 ∨ (gk l k).at_ = rowNext l k) := by
  have := rowPre_mono h (show k + 1 ≤ n from hk)
  simp only [rowPre, Bool.and_eq_true, Bool.or_eq_true, decide_eq_true_eq, beq_iff_eq] at this
  exact this.2
theorem rowErr_many {l : List Bk} (h : 1024 < l.length) : rowErr l = 8 := by
  have : ¬ l.length ≤ 1024 := by omega
  simp [rowErr, rowOk, this]
theorem rowErr_bad {l : List Bk} {k : Nat} (h : rowPre l k = false) (hk : k ≤ l.length) : rowErr l = 8 := by
  have : rowPre l l.length = false := by
    cases hn : rowPre l l.length with
    | false => rfl
    | true => rw [rowPre_mono hn hk] at h; cases h
  simp [rowErr, rowOk, this]
theorem rowErr_ok {l : List Bk} (h : l.length ≤ 1024) (hk : rowPre l l.length = true) : rowErr l = 0 := by
  simp [rowErr, rowOk, h, hk]
theorem rowErr_zero {l : List Bk} (h : rowErr l = 0) : l.length ≤ 1024 ∧ rowPre l l.length = true := by
  unfold rowErr rowOk at h
  split at h
  · rename_i h1
    simpa using h1
  · simp at h
theorem rowErr_val (l : List Bk) : rowErr l = 0 ∨ rowErr l = 8 := by unfold rowErr; split <;> simp
theorem bkOk_iff (b : Bk) : bkOk b = true ↔ (b.kind = 1 ∨ b.kind = 2) ∧ 2 ≤ b.size ∧ b.size ≤ 2048 ∧ b.size % 2 = 0 ∧ 128 ≤ b.at_ ∧ b.at_ % 2 = 0 ∧ b.at_ ≤ 2048 - b.size := by
  simp only [bkOk, Bool.and_eq_true, Bool.or_eq_true, beq_iff_eq, decide_eq_true_eq]
  constructor
  · rintro ⟨h1, ⟨h2, h3, h4⟩, h5, h6, h7⟩; exact ⟨h1, h2, h3, h4, h5, h6, h7⟩
  · rintro ⟨h1, h2, h3, h4, h5, h6, h7⟩; exact ⟨h1, ⟨h2, h3, h4⟩, h5, h6, h7⟩
theorem rowPre_no {l : List Bk} {k : Nat} (h : bkOk (gk l k) = false) : rowPre l (k + 1) = false := by simp [rowPre, h]
theorem rowPre_gap {l : List Bk} {k : Nat} (h0 : k ≠ 0) (h : (gk l k).at_ ≠ rowNext l k) : rowPre l (k + 1) = false := by
  have : ((gk l k).at_ == rowNext l k) = false := by rw [beq_eq_false_iff_ne]; exact h
  simp [rowPre, this, h0]
theorem rowPre_yes {l : List Bk} {k : Nat} (hp : rowPre l k = true) (h : bkOk (gk l k) = true) (hn : k = 0 ∨ (gk l k).at_ = rowNext l k) : rowPre l (k + 1) = true := by
  rcases hn with h1 | h1
  · subst h1; simp [rowPre, h]
  · simp [rowPre, hp, h, h1]
theorem rowNext_bd {l : List Bk} {k : Nat} (h : rowPre l k = true) : 128 ≤ rowNext l k ∧ rowNext l k ≤ 2048 := by
  cases k with
  | zero => simp [rowNext]
  | succ k =>
    obtain ⟨h1, _⟩ := rowPre_at h (Nat.lt_succ_self k)
    have := (bkOk_iff _).1 h1
    simp only [rowNext]; omega

def liveB (b : Bk) : Bool := b.kind == 1 && b.mark
/-- The places of a row's blocks from a start on. -/
def placesOf : List Bk → Int → List Int
  | [], _ => []
  | b :: l, s => if liveB b then s :: placesOf l (s + b.size) else 0 :: placesOf l s
def endOf : List Bk → Int → Int
  | [], s => s
  | b :: l, s => if liveB b then endOf l (s + b.size) else endOf l s
def gapsOf : List Bk → Int
  | [] => 0
  | b :: l => if liveB b then gapsOf l else b.size + gapsOf l
def most (l : List Bk) : Int := if l.length = 0 then 2048 else (gk l 0).at_
/-- The error of a row and a start. -/
def stErr (l : List Bk) (s : Int) : Int := if rowErr l = 0 then (if s < 128 then 2 else if most l < s then 2 else if s % 2 = 0 then 0 else 2) else 8
theorem placesOf_len (l : List Bk) (s : Int) : (placesOf l s).length = l.length := by
  induction l generalizing s with
  | nil => rfl
  | cons b l ih => simp only [placesOf]; split <;> simp [ih]
theorem endOf_append (a b : List Bk) (s : Int) : endOf (a ++ b) s = endOf b (endOf a s) := by
  induction a generalizing s with
  | nil => rfl
  | cons x a ih => simp only [List.cons_append, endOf]; split <;> exact ih _
theorem placesOf_append (a b : List Bk) (s : Int) : placesOf (a ++ b) s = placesOf a s ++ placesOf b (endOf a s) := by
  induction a generalizing s with
  | nil => rfl
  | cons x a ih => simp only [List.cons_append, placesOf, endOf]; split <;> simp [ih]
theorem gapsOf_append (a b : List Bk) : gapsOf (a ++ b) = gapsOf a + gapsOf b := by
  induction a with
  | nil => simp [gapsOf]
  | cons x a ih => simp only [List.cons_append, gapsOf]; split <;> omega
theorem endOf_take {l : List Bk} {k : Nat} (h : k < l.length) (s : Int) : endOf (l.take (k + 1)) s = if liveB l[k] then endOf (l.take k) s + l[k].size else endOf (l.take k) s := by
  rw [List.take_succ_eq_append_getElem h, endOf_append]; rfl
theorem placesOf_take {l : List Bk} {k : Nat} (h : k < l.length) (s : Int) : placesOf (l.take (k + 1)) s = placesOf (l.take k) s ++ [if liveB l[k] then endOf (l.take k) s else 0] := by
  rw [List.take_succ_eq_append_getElem h, placesOf_append]
  simp only [placesOf]; split <;> rfl
theorem gapsOf_take {l : List Bk} {k : Nat} (h : k < l.length) : gapsOf (l.take (k + 1)) = if liveB l[k] then gapsOf (l.take k) else gapsOf (l.take k) + l[k].size := by
  rw [List.take_succ_eq_append_getElem h, gapsOf_append]
  simp only [gapsOf]; split <;> omega
/-- How many words the first k blocks have. -/
def sumSz (l : List Bk) (k : Nat) : Int := if k = 0 then 0 else rowNext l k - (gk l 0).at_
theorem rowPre_sum {l : List Bk} {k : Nat} (h : rowPre l k = true) (hk : k ≤ l.length) (s : Int) : 0 ≤ endOf (l.take k) s - s ∧ 0 ≤ gapsOf (l.take k) ∧ (endOf (l.take k) s - s) + gapsOf (l.take k) = sumSz l k ∧ sumSz l k ≤ 1920 := by
  induction k with
  | zero => simp [endOf, gapsOf, sumSz]
  | succ k ih =>
    have hlt : k < l.length := by omega
    obtain ⟨i1, i2, i3, i4⟩ := ih (rowPre_mono h (Nat.le_succ k)) (by omega)
    obtain ⟨hb, hc⟩ := rowPre_at h (Nat.lt_succ_self k)
    have hb := (bkOk_iff _).1 hb
    have hb0 := (bkOk_iff _).1 (rowPre_at h (Nat.succ_pos k)).1
    rw [endOf_take hlt, gapsOf_take hlt]
    have e : sumSz l (k + 1) = sumSz l k + (gk l k).size := by
      unfold sumSz
      rw [if_neg (Nat.succ_ne_zero k), show rowNext l (k + 1) = (gk l k).at_ + (gk l k).size from rfl]
      by_cases h0 : k = 0
      · subst h0; rw [if_pos rfl]; omega
      · rw [if_neg h0]
        rcases hc with hc | hc
        · exact absurd hc h0
        · omega
    have e2 : sumSz l (k + 1) ≤ 1920 := by
      unfold sumSz
      rw [if_neg (Nat.succ_ne_zero k), show rowNext l (k + 1) = (gk l k).at_ + (gk l k).size from rfl]
      omega
    rw [e] at e2 ⊢
    rw [← gk_get l k hlt]
    split <;> omega
theorem most_bd {l : List Bk} (h : rowErr l = 0) : most l ≤ 2048 := by
  unfold most
  split
  · omega
  · have := (bkOk_iff _).1 (rowPre_at (rowErr_zero h).2 (show 0 < l.length by omega)).1
    omega
/-- With a right row and a right start the end lies in the heap. -/
theorem endOf_bd {l : List Bk} {k : Nat} (h : rowErr l = 0) (hk : k ≤ l.length) {s : Int} (hs : 128 ≤ s) (hm : s ≤ most l) : 128 ≤ endOf (l.take k) s ∧ endOf (l.take k) s ≤ 2048 := by
  obtain ⟨h1, h2⟩ := rowErr_zero h
  have hmb := most_bd h
  obtain ⟨i1, i2, i3, i4⟩ := rowPre_sum (rowPre_mono h2 hk) hk s
  refine ⟨by omega, ?_⟩
  by_cases h0 : k = 0
  · subst h0; simp [endOf]; omega
  · have hn := (rowNext_bd (rowPre_mono h2 hk)).2
    have hl : l.length ≠ 0 := by omega
    simp only [sumSz, h0, if_false] at i3
    simp only [most, hl, if_false] at hm
    omega
theorem gapsOf_bd {l : List Bk} {k : Nat} (h : rowErr l = 0) (hk : k ≤ l.length) : 0 ≤ gapsOf (l.take k) ∧ gapsOf (l.take k) ≤ 1920 := by
  obtain ⟨i1, i2, i3, i4⟩ := rowPre_sum (rowPre_mono (rowErr_zero h).2 hk) hk 0
  omega
/-- The ways in which a block is wrong, in the order in which the functions look. -/
theorem bk_ways (b : Bk) : (b.kind ≠ 1 ∧ b.kind ≠ 2) ∨ ((b.kind = 1 ∨ b.kind = 2) ∧ (b.size < 2 ∨ (2 ≤ b.size ∧ 2048 < b.size) ∨ ((2 ≤ b.size ∧ b.size ≤ 2048) ∧ b.size % 2 = 1) ∨ ((2 ≤ b.size ∧ b.size ≤ 2048) ∧ b.size % 2 = 0 ∧
    (b.at_ < 128 ∨ (128 ≤ b.at_ ∧ 2048 < b.at_) ∨ ((128 ≤ b.at_ ∧ b.at_ ≤ 2048) ∧ b.at_ % 2 = 1) ∨ ((128 ≤ b.at_ ∧ b.at_ ≤ 2048) ∧ b.at_ % 2 = 0 ∧ (2048 - b.size < b.at_ ∨ b.at_ ≤ 2048 - b.size)))))) := by omega

theorem rowPre_of {l : List Bk} {k : Nat} {xa xs xk xt nx : Int} {xm : Bool} {xn : Nat} (hx : gk l k = ⟨xa, xs, xk, xt, xm, xn⟩) (hn : rowNext l k = nx)
    (h : ¬ ((xk = 1 ∨ xk = 2) ∧ 2 ≤ xs ∧ xs ≤ 2048 ∧ xs % 2 = 0 ∧ 128 ≤ xa ∧ xa % 2 = 0 ∧ xa ≤ 2048 - xs ∧ (k = 0 ∨ xa = nx))) : rowPre l (k + 1) = false := by
  by_cases hb : bkOk (gk l k) = true
  · have h1 := (bkOk_iff _).1 hb
    rw [hx] at h1
    dsimp only at h1
    refine rowPre_gap (by omega) ?_
    rw [hx, hn]
    dsimp only
    omega
  · exact rowPre_no (by cases hq : bkOk (gk l k) <;> simp_all)
theorem rowPre_good {l : List Bk} {k : Nat} {xa xs xk xt nx : Int} {xm : Bool} {xn : Nat} (hx : gk l k = ⟨xa, xs, xk, xt, xm, xn⟩) (hn : rowNext l k = nx) (hp : rowPre l k = true)
    (h : (xk = 1 ∨ xk = 2) ∧ 2 ≤ xs ∧ xs ≤ 2048 ∧ xs % 2 = 0 ∧ 128 ≤ xa ∧ xa % 2 = 0 ∧ xa ≤ 2048 - xs ∧ (k = 0 ∨ xa = nx)) : rowPre l (k + 1) = true := by
  refine rowPre_yes hp ((bkOk_iff _).2 ?_) ?_
  · rw [hx]; dsimp only; omega
  · rw [hx, hn]; dsimp only; omega
end Go.Proofs.Ytpifagclhhaniaa
