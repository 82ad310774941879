/- Rows of blocks: order, parts, and what does not matter: plain laws. -/
import Derived.Test.YtpifagclhhaniaaBrkQ
namespace Go.Proofs.Ytpifagclhhaniaa

theorem rowNext_end {l : List Bk} (h : rowErr l = 0) {s : Int} (hm : s ≤ most l) {k : Nat} (hk : k < l.length) : endOf (l.take k) s ≤ (gk l k).at_ := by
  obtain ⟨h1, h2⟩ := rowErr_zero h
  obtain ⟨i1, i2, i3, i4⟩ := rowPre_sum (rowPre_mono h2 (Nat.le_of_lt hk)) (Nat.le_of_lt hk) s
  have hl : l.length ≠ 0 := by omega
  simp only [most, hl, if_false] at hm
  by_cases h0 : k = 0
  · subst h0; simp [endOf]; exact hm
  · simp only [sumSz, h0, if_false] at i3
    rcases (rowPre_at h2 hk).2 with h3 | h3
    · exact absurd h3 h0
    · omega
theorem row_last {l : List Bk} (h : rowErr l = 0) {s : Int} (hm : s ≤ most l) (hk : 0 < l.length) :
    endOf l s ≤ (gk l (l.length - 1)).at_ + (gk l (l.length - 1)).size ∧ (s = (gk l 0).at_ → (gk l (l.length - 1)).at_ + (gk l (l.length - 1)).size - endOf l s = gapsOf l) ∧
      128 ≤ (gk l (l.length - 1)).at_ + (gk l (l.length - 1)).size ∧ (gk l (l.length - 1)).at_ + (gk l (l.length - 1)).size ≤ 2048 := by
  obtain ⟨h1, h2⟩ := rowErr_zero h
  obtain ⟨i1, i2, i3, i4⟩ := rowPre_sum h2 (Nat.le_refl _) s
  rw [List.take_length] at i1 i2 i3
  have hl : l.length ≠ 0 := by omega
  simp only [most, hl, if_false] at hm
  simp only [sumSz, hl, if_false] at i3
  have hb := rowNext_bd h2
  obtain ⟨m, hm2⟩ : ∃ m, l.length = m + 1 := ⟨l.length - 1, by omega⟩
  rw [hm2] at i3 hb ⊢
  simp only [rowNext, Nat.add_sub_cancel] at *
  refine ⟨by omega, fun he => by omega, by omega, by omega⟩
theorem placesOf_at {l : List Bk} {s : Int} {k : Nat} (hk : k < l.length) : (placesOf l s)[k]? = some (if liveB (gk l k) then endOf (l.take k) s else 0) := by
  have h1 := placesOf_take hk s
  have h2 : placesOf l s = placesOf (l.take (k + 1)) s ++ placesOf (l.drop (k + 1)) (endOf (l.take (k + 1)) s) := by rw [← placesOf_append, List.take_append_drop]
  have h3 : (placesOf (l.take k) s).length = k := by rw [placesOf_len, List.length_take]; omega
  rw [h2, h1, List.append_assoc, List.getElem?_append_right (by omega), h3, gk_get l k hk]
  simp

/-- Two blocks that do not differ for rows. -/
def bkSame (a b : Bk) : Prop := bkOk a = bkOk b ∧ a.at_ = b.at_ ∧ a.size = b.size ∧ liveB a = liveB b
theorem gk_set (l : List Bk) (i : Nat) (b : Bk) (k : Nat) : gk (l.set i b) k = if i = k ∧ i < l.length then b else gk l k := by
  unfold gk
  by_cases h : i = k
  · subst h
    by_cases h2 : i < l.length
    · simp [h2]
    · simp [h2]
  · simp [h]
theorem rowNext_set {l : List Bk} {i : Nat} {b : Bk} (h : bkSame (gk l i) b) (k : Nat) : rowNext (l.set i b) k = rowNext l k := by
  cases k with
  | zero => rfl
  | succ k =>
    simp only [rowNext, gk_set]
    split
    · rename_i h2; obtain ⟨rfl, _⟩ := h2; rw [← h.2.1, ← h.2.2.1]
    · rfl
theorem rowPre_set {l : List Bk} {i : Nat} {b : Bk} (h : bkSame (gk l i) b) (k : Nat) : rowPre (l.set i b) k = rowPre l k := by
  induction k with
  | zero => rfl
  | succ k ih =>
    simp only [rowPre, ih, rowNext_set h, gk_set]
    split
    · rename_i h2; obtain ⟨rfl, _⟩ := h2; rw [← h.1, ← h.2.1]
    · rfl
theorem rowErr_set {l : List Bk} {i : Nat} {b : Bk} (h : bkSame (gk l i) b) : rowErr (l.set i b) = rowErr l := by
  unfold rowErr rowOk
  rw [List.length_set, rowPre_set h]
theorem most_set {l : List Bk} {i : Nat} {b : Bk} (h : bkSame (gk l i) b) : most (l.set i b) = most l := by
  simp only [most, List.length_set, gk_set]
  split
  · rfl
  · split
    · rename_i h2; obtain ⟨rfl, _⟩ := h2; exact h.2.1.symm
    · rfl
theorem stErr_set {l : List Bk} {i : Nat} {b : Bk} (h : bkSame (gk l i) b) (s : Int) : stErr (l.set i b) s = stErr l s := by
  simp only [stErr, rowErr_set h, most_set h]
theorem places_set : ∀ {l : List Bk} {i : Nat} {b : Bk}, bkSame (gk l i) b → ∀ s, placesOf (l.set i b) s = placesOf l s ∧ endOf (l.set i b) s = endOf l s ∧ gapsOf (l.set i b) = gapsOf l := by
  intro l
  induction l with
  | nil => intro i b _ s; simp
  | cons x l ih =>
    intro i b h s
    cases i with
    | zero =>
      have h : bkSame x b := h
      simp only [List.set_cons_zero, placesOf, endOf, gapsOf, ← h.2.2.2, ← h.2.2.1]
      exact ⟨trivial, trivial, trivial⟩
    | succ i =>
      have h : bkSame (gk l i) b := by simpa [gk] using h
      simp only [List.set_cons_succ, placesOf, endOf, gapsOf]
      obtain ⟨a1, a2, a3⟩ := ih h s
      obtain ⟨b1, b2, b3⟩ := ih h (s + x.size)
      rw [a1, a2, a3, b1, b2]
      exact ⟨rfl, rfl, rfl⟩

theorem gk_take (l : List Bk) (n k : Nat) (h : k < n) : gk (l.take n) k = gk l k := by
  simp [gk, h]
theorem rowNext_take (l : List Bk) (n k : Nat) (h : k ≤ n) : rowNext (l.take n) k = rowNext l k := by
  cases k with
  | zero => rfl
  | succ k => simp only [rowNext, gk_take l n k h]
theorem rowPre_take (l : List Bk) (n k : Nat) (h : k ≤ n) : rowPre (l.take n) k = rowPre l k := by
  induction k with
  | zero => rfl
  | succ k ih => simp only [rowPre, ih (by omega), gk_take l n k h, rowNext_take l n k (by omega)]
theorem rowErr_take {l : List Bk} (h : rowErr l = 0) {n : Nat} (hn : n ≤ l.length) : rowErr (l.take n) = 0 := by
  obtain ⟨h1, h2⟩ := rowErr_zero h
  have e : (l.take n).length = n := by rw [List.length_take]; omega
  refine rowErr_ok (by omega) ?_
  rw [e, rowPre_take l n n (Nat.le_refl _)]
  exact rowPre_mono h2 hn
theorem gk_drop (l : List Bk) (n k : Nat) : gk (l.drop n) k = gk l (n + k) := by simp [gk]
theorem rowPre_drop {l : List Bk} (n k : Nat) (h : rowPre l (n + k) = true) : rowPre (l.drop n) k = true := by
  induction k with
  | zero => rfl
  | succ k ih =>
    have h1 := ih (rowPre_mono h (by omega))
    obtain ⟨h2, h3⟩ := rowPre_at h (show n + k < n + (k + 1) by omega)
    refine rowPre_yes h1 (by rw [gk_drop]; exact h2) ?_
    rcases Nat.eq_zero_or_pos k with h0 | h0
    · exact .inl h0
    · right
      rcases h3 with h3 | h3
      · omega
      · obtain ⟨m, rfl⟩ : ∃ m, k = m + 1 := ⟨k - 1, by omega⟩
        rw [gk_drop, h3]
        show rowNext l (n + m + 1) = _
        simp only [rowNext, gk_drop]
theorem rowErr_drop {l : List Bk} (h : rowErr l = 0) {n : Nat} (hn : n ≤ l.length) : rowErr (l.drop n) = 0 := by
  obtain ⟨h1, h2⟩ := rowErr_zero h
  refine rowErr_ok (by rw [List.length_drop]; omega) ?_
  rw [List.length_drop]
  exact rowPre_drop n _ (by rwa [show n + (l.length - n) = l.length by omega])
theorem endOf_even {l : List Bk} (h : rowErr l = 0) {s : Int} (hs : s % 2 = 0) {k : Nat} (hk : k ≤ l.length) : endOf (l.take k) s % 2 = 0 := by
  induction k with
  | zero => simpa [endOf] using hs
  | succ k ih =>
    have := ih (by omega)
    have hb := (bkOk_iff _).1 (rowPre_at (rowErr_zero h).2 (show k < l.length by omega)).1
    rw [endOf_take (by omega), ← gk_get l k (by omega)]
    split
    · omega
    · exact this
/-- The parts of a row, from a right start on. -/
theorem parts_ok {l : List Bk} {s : Int} (h : stErr l s = 0) {k : Nat} (hk : k ≤ l.length) :
    stErr (l.take k) s = 0 ∧ stErr (l.drop k) (endOf (l.take k) s) = 0 ∧ placesOf (l.take k) s ++ placesOf (l.drop k) (endOf (l.take k) s) = placesOf l s ∧ endOf (l.drop k) (endOf (l.take k) s) = endOf l s := by
  obtain ⟨h1, h2, h3, h4⟩ := stErr_zero h
  refine ⟨?_, ?_, ?_, ?_⟩
  · refine stErr_0 (rowErr_take h1 hk) ⟨h2, ?_, h4⟩
    unfold most at h3 ⊢
    split
    · have := most_bd h1
      unfold most at this
      omega
    · rename_i hn
      have : 0 < k := by
        rcases Nat.eq_zero_or_pos k with h0 | h0
        · subst h0; simp at hn
        · exact h0
      rw [gk_take l k 0 this]
      rw [if_neg (by intro e; apply hn; simp [e])] at h3
      exact h3
  · have hb := endOf_bd h1 hk h2 h3
    refine stErr_0 (rowErr_drop h1 hk) ⟨hb.1, ?_, endOf_even h1 h4 hk⟩
    unfold most
    split
    · exact hb.2
    · rename_i hn
      rw [List.length_drop] at hn
      rw [gk_drop]
      exact rowNext_end h1 h3 (by omega)
  · rw [← placesOf_append, List.take_append_drop]
  · rw [← endOf_append, List.take_append_drop]
end Go.Proofs.Ytpifagclhhaniaa
