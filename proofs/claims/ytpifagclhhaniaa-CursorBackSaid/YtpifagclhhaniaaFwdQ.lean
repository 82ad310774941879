/- Forwarding words: what another word does, and the moves from a later address on: plain laws. -/
import Derived.Test.YtpifagclhhaniaaFwdP
namespace Go.Proofs.Ytpifagclhhaniaa

theorem moves_get : ∀ {l : List Bk} {s : Int} {p : Nat}, p < (moves l s).length → ∃ k, ∃ h : k < l.length, liveB l[k] = true ∧ (moves l s)[p]? = some (l[k].at_, endOf (l.take k) s) ∧ (moves (l.take k) s).length = p := by
  intro l
  induction l with
  | nil => intro s p h; simp [moves] at h
  | cons b l ih =>
    intro s p h
    cases hb : liveB b with
    | true =>
      simp only [moves, hb, if_true] at h ⊢
      cases p with
      | zero => exact ⟨0, by simp, hb, by simp [endOf], rfl⟩
      | succ p =>
        obtain ⟨k, hk, h1, h2, h3⟩ := ih (s := s + b.size) (p := p) (by simpa using h)
        refine ⟨k + 1, by simpa using hk, h1, ?_, ?_⟩
        · simp only [List.getElem?_cons_succ, h2, List.getElem_cons_succ, List.take_succ_cons, endOf, hb, if_true]
        · simp only [List.take_succ_cons, moves, hb, if_true, List.length_cons, h3]
    | false =>
      simp only [moves, hb, Bool.false_eq_true, if_false] at h ⊢
      obtain ⟨k, hk, h1, h2, h3⟩ := ih (s := s) (p := p) h
      refine ⟨k + 1, by simpa using hk, h1, ?_, ?_⟩
      · simp only [h2, List.getElem_cons_succ, List.take_succ_cons, endOf, hb, Bool.false_eq_true, if_false]
      · simp only [List.take_succ_cons, moves, hb, Bool.false_eq_true, if_false, h3]

/-! Another word at an odd address -/
theorem wd_set (ws : List Nat) (j v i : Nat) : wd (ws.set j v) i = if j = i ∧ j < ws.length then v else wd ws i := by
  unfold wd
  by_cases h : j = i
  · subst h
    by_cases h2 : j < ws.length
    · simp [h2]
    · simp [h2]
  · simp [h]
theorem wd_set_ne (ws : List Nat) {j i : Nat} (v : Nat) (h : j ≠ i) : wd (ws.set j v) i = wd ws i := by rw [wd_set, if_neg (fun h2 => h h2.1)]
def nextAt (j v : Nat) (b : Bk) : Bk := if b.at_ + 1 = (j : Int) then { b with next := v } else b
theorem stands_set {ws : List Nat} {j i : Nat} (v : Nat) (h : j ≠ i) : stands (ws.set j v) i = stands ws i ∧ szAt (ws.set j v) i = szAt ws i := by
  unfold stands szAt
  rw [wd_set_ne ws v h, List.length_set]
  exact ⟨rfl, rfl⟩
theorem bkAt_set {ws : List Nat} {j i v : Nat} (h : j ≠ i) (hj : j < ws.length) : bkAt (ws.set j v) i = nextAt j v (bkAt ws i) := by
  unfold bkAt nextAt
  rw [wd_set_ne ws v h, wd_set]
  by_cases e : j = i + 1
  · rw [if_pos ⟨e, hj⟩, if_pos (by dsimp only; omega)]
  · rw [if_neg (fun h2 => e h2.1), if_neg (by dsimp only; omega)]
theorem blocks_set {ws : List Nat} {j v : Nat} (hj : j % 2 = 1) (hl : j < ws.length) : ∀ i, i % 2 = 0 → blocks (ws.set j v) i = (blocks ws i).map (List.map (nextAt j v)) := by
  have key : ∀ n i, ws.length - i ≤ n → i % 2 = 0 → blocks (ws.set j v) i = (blocks ws i).map (List.map (nextAt j v)) := by
    intro n
    induction n with
    | zero => intro i hn _; rw [blocks_end (by rw [List.length_set]; omega), blocks_end (by omega)]; rfl
    | succ n ih =>
      intro i hn h2
      by_cases hi : ws.length ≤ i
      · rw [blocks_end (by rw [List.length_set]; omega), blocks_end (by omega)]; rfl
      · obtain ⟨e1, e2⟩ := stands_set (ws := ws) (j := j) (i := i) v (by omega)
        cases hs : stands ws i with
        | false => rw [blocks_bad (by rw [List.length_set]; omega) (by rw [e1, hs]), blocks_bad (by omega) hs]; rfl
        | true =>
          have hsz := stands_sz hs
          rw [blocks_step (by rw [List.length_set]; omega) (by rw [e1, hs]), blocks_step (by omega) hs, e2, ih _ (by omega) (by omega), bkAt_set (by omega) hl]
          cases blocks ws (i + szAt ws i) <;> rfl
  exact fun i => key _ i (Nat.le_refl _)
theorem chain_mono {l : List Bk} (h : rowErr l = 0) {m k : Nat} (hk : k < l.length) (hm : m < k) : (gk l m).at_ < (gk l k).at_ := by
  obtain ⟨_, h2⟩ := rowErr_zero h
  induction k with
  | zero => omega
  | succ k ih =>
    have h3 := rowPre_at h2 (show k + 1 < l.length from hk)
    have h4 := (bkOk_iff _).1 (rowPre_at h2 (show k < l.length by omega)).1
    have e : (gk l (k + 1)).at_ = (gk l k).at_ + (gk l k).size := by
      rcases h3.2 with h0 | h0
      · omega
      · exact h0
    rcases Nat.lt_or_ge m k with h5 | h5
    · have := ih (by omega) h5; omega
    · have : m = k := by omega
      subst this; omega
theorem map_nextAt {l : List Bk} (h : rowErr l = 0) {k j v : Nat} (hk : k < l.length) (hj : l[k].at_ + 1 = (j : Int)) : l.map (nextAt j v) = l.set k { l[k] with next := v } := by
  apply List.ext_getElem (by simp)
  intro i h1 h2
  have h1 : i < l.length := by simpa using h1
  rw [List.getElem_map, List.getElem_set]
  unfold nextAt
  by_cases e : k = i
  · subst e; rw [if_pos hj, if_pos rfl]
  · rw [if_neg e]
    rw [if_neg ?_]
    intro h3
    have e2 : (gk l i).at_ = (gk l k).at_ := by rw [gk_get l i h1, gk_get l k hk]; omega
    rcases Nat.lt_or_gt_of_ne e with h4 | h4
    · have := chain_mono h h1 h4; omega
    · have := chain_mono h hk h4; omega
/-- With another forwarding word all of them are right just if it is the right one. -/
theorem allMv_next {ws ws' : List Nat} {l : List Bk} (hf : ∀ b ∈ l, fitB ws' b = fitB ws b) (hf2 : ∀ b v, b ∈ l → fitB ws' { b with next := v } = fitB ws b) : ∀ {s : Int}, allMv ws l s = true → ∀ {k : Nat} (hk : k < l.length), liveB l[k] = true → ∀ v : Nat,
    allMv ws' (l.set k { l[k] with next := v }) s = ((v : Int) == endOf (l.take k) s) ∧ moves (l.set k { l[k] with next := v }) s = moves l s := by
  induction l with
  | nil => intro s _ k hk; simp at hk
  | cons b l ih =>
    intro s h k hk hl v
    have hfb := hf b (by simp)
    have hfb2 := hf2 b v (by simp)
    have all' : ∀ (l : List Bk), (∀ b ∈ l, fitB ws' b = fitB ws b) → ∀ s, allMv ws' l s = allMv ws l s := by
      intro l hl
      induction l with
      | nil => intro s; rfl
      | cons c l ih2 =>
        intro s
        simp only [allMv]
        rw [hl c (by simp), ih2 (fun b hb => hl b (by simp [hb])), ih2 (fun b hb => hl b (by simp [hb]))]
    cases k with
    | zero =>
      have hl : liveB b = true := hl
      have hl2 : liveB { b with next := v } = true := hl
      simp only [allMv, hl, if_true, Bool.and_eq_true] at h
      simp only [List.set_cons_zero, List.getElem_cons_zero, allMv, hl2, if_true, moves, hl, List.take_zero, endOf, hfb2, h.1, Bool.true_and]
      rw [all' l (fun b hb => hf b (by simp [hb])), h.2.2, Bool.and_true]
      exact ⟨rfl, trivial⟩
    | succ k =>
      have hk : k < l.length := by simpa using hk
      have hl : liveB l[k] = true := hl
      cases hb : liveB b with
      | true =>
        simp only [allMv, hb, if_true, Bool.and_eq_true] at h
        obtain ⟨g1, g2⟩ := ih (fun b hb => hf b (by simp [hb])) (fun b v hb => hf2 b v (by simp [hb])) h.2.2 hk hl v
        simp only [List.set_cons_succ, List.getElem_cons_succ, allMv, hb, if_true, moves, List.take_succ_cons, endOf, hfb, h.1, h.2.1, Bool.true_and, g1, g2]
        exact ⟨trivial, trivial⟩
      | false =>
        simp only [allMv, hb, Bool.false_eq_true, if_false, Bool.and_eq_true] at h
        obtain ⟨g1, g2⟩ := ih (fun b hb => hf b (by simp [hb])) (fun b v hb => hf2 b v (by simp [hb])) h.2 hk hl v
        simp only [List.set_cons_succ, List.getElem_cons_succ, allMv, hb, Bool.false_eq_true, if_false, moves, List.take_succ_cons, endOf, hfb, h.1, Bool.true_and, g1, g2]
        exact ⟨trivial, trivial⟩
end Go.Proofs.Ytpifagclhhaniaa
