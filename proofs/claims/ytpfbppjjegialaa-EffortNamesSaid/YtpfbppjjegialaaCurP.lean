/- What is left in front of a cursor, and a phase line written again: plain facts. -/
import Derived.Test.YtpfbppjjegialaaKCursor
namespace Go.Proofs.Ytpfbppjjegialaa

theorem first_mark (l : List Bk) : (∃ k, k < l.length ∧ noMark l k ∧ (gk l k).mark = true) ∨ noMark l l.length := by
  have key : ∀ n, n ≤ l.length → (∃ k, k < l.length ∧ noMark l k ∧ (gk l k).mark = true) ∨ noMark l n := by
    intro n
    induction n with
    | zero => intro _; exact .inr (noMark_zero l)
    | succ n ih =>
      intro hn
      rcases ih (by omega) with h | h
      · exact .inl h
      · cases hm : (gk l n).mark with
        | true => exact .inl ⟨n, by omega, h, hm⟩
        | false => exact .inr (noMark_succ h hm)
  exact key l.length (Nat.le_refl _)
theorem mkdL_append (a b : List Bk) : mkdL (a ++ b) = mkdL a ++ mkdL b := by unfold mkdL; rw [List.filter_append, List.map_append]
theorem mkdL_none {l : List Bk} : ∀ {k}, k ≤ l.length → noMark l k → mkdL (l.take k) = [] := by
  intro k
  induction k with
  | zero => intro _ _; rfl
  | succ k ih =>
    intro hk h
    have hl : k < l.length := by omega
    rw [mkdL_snoc hl, ih (by omega) (fun j hj => h j (by omega))]
    have := h k (by omega)
    rw [gk_get l k hl] at this
    simp [this]
theorem mkdL_cons (b : Bk) (l : List Bk) : (mkdL (b :: l)).length = (if b.mark = true then 1 else 0) + (mkdL l).length := by
  unfold mkdL
  cases h : b.mark
  · simp [h]
  · simp [h]; omega
/-- One step from object to object. -/
theorem left_step {ws : List Nat} (hs : sizeOk (ws.length : Int) = true) {a : Nat} {l : List Bk} (h1 : 128 ≤ a) (h2 : a ≤ ws.length) (h3 : a % 2 = 0) (hb : blocks ws a = some l) (hm : 0 < (mkdL l).length) :
    ∃ (m z : Nat) (l' : List Bk), nxtErr ws (a : Int) = 0 ∧ (nxtB ws (a : Int)).at_ = (m : Int) ∧ (nxtB ws (a : Int)).size = (z : Int) ∧ a ≤ m ∧ 2 ≤ z ∧ m + z ≤ ws.length ∧ (m + z) % 2 = 0 ∧ blocks ws (m + z) = some l' ∧ (mkdL l').length + 1 = (mkdL l).length := by
  have harg : frArg ws.length (a : Int) = false := by
    simp only [frArg, Bool.or_eq_false_iff, decide_eq_false_iff_not, bne_eq_false_iff_eq]; omega
  obtain ⟨g1, g2⟩ := frErr_some (a := (a : Int)) hs harg (by rw [Int.toNat_natCast]; exact hb)
  rcases first_mark l with ⟨k, hk, hn, hmk⟩ | hn
  · obtain ⟨e1, e2⟩ := nx_some g1 g2 hk hn hmk
    obtain ⟨m, f1, f2, f3, f4, f5, f6⟩ := blocks_at _ _ hb h3 k hk
    have hz := stands_sz f5
    rw [gk_get l k hk] at e1 hmk
    have hst := blocks_first f6 f4
    refine ⟨m, szAt ws m, l.drop (k + 1), e2, by rw [e1, f1]; rfl, by rw [e1, f1]; rfl, f3, hz.1, hz.2.2, by omega, ?_, ?_⟩
    · rw [hst.2.2.2, List.drop_drop]
    · have e : l = l.take k ++ (l[k] :: l.drop (k + 1)) := by rw [← List.drop_eq_getElem_cons hk, List.take_append_drop]
      have : (mkdL l).length = (mkdL (l.take k ++ (l[k] :: l.drop (k + 1)))).length := by rw [← e]
      rw [this, mkdL_append, List.length_append, mkdL_none (by omega) hn, mkdL_cons, hmk]
      simp; omega
  · have := mkdL_none (Nat.le_refl _) hn
    rw [List.take_length] at this
    rw [this] at hm
    simp at hm
theorem left_end {ws : List Nat} (hs : sizeOk (ws.length : Int) = true) {a : Nat} {l : List Bk} (h1 : 128 ≤ a) (h2 : a ≤ ws.length) (h3 : a % 2 = 0) (hb : blocks ws a = some l) (hm : (mkdL l).length = 0) :
    nxtErr ws (a : Int) = 6 ∧ nxtB ws (a : Int) = noBk := by
  have harg : frArg ws.length (a : Int) = false := by
    simp only [frArg, Bool.or_eq_false_iff, decide_eq_false_iff_not, bne_eq_false_iff_eq]; omega
  obtain ⟨g1, g2⟩ := frErr_some (a := (a : Int)) hs harg (by rw [Int.toNat_natCast]; exact hb)
  rcases first_mark l with ⟨k, hk, hn, hmk⟩ | hn
  · have e : l = l.take k ++ (l[k] :: l.drop (k + 1)) := by rw [← List.drop_eq_getElem_cons hk, List.take_append_drop]
    rw [gk_get l k hk] at hmk
    have : (mkdL l).length = (mkdL (l.take k ++ (l[k] :: l.drop (k + 1)))).length := by rw [← e]
    rw [this, mkdL_append, List.length_append, mkdL_cons, hmk] at hm
    simp at hm
  · obtain ⟨e1, e2⟩ := nx_none g1 g2 hn
    exact ⟨e2, e1⟩
/-- Where what is left begins. -/
theorem left_start {ws : List Nat} (h : ckErr ws = 0) (hp : ¬ wd ws 16 < 3) : sizeOk (ws.length : Int) = true ∧ (wd ws 16 = 3 ∨ wd ws 16 = 4) ∧ ∃ a : Nat, lfFrom ws = (a : Int) ∧ 128 ≤ a ∧ a ≤ ws.length ∧ a % 2 = 0 ∧ ∃ l, blocks ws a = some l ∧ lfN ws = (mkdL l).length := by
  have h0 := ck_ln h
  obtain ⟨h1, h2⟩ := lnErr_zero h0
  obtain ⟨hs, h3, h4⟩ := prErr_zero h1
  obtain ⟨⟨l0, l1, l2⟩, -⟩ := (lineW_iff ws).1 h3
  have hbd := fr_bd ws hs
  have hN := lfN_all h hp
  have fin : ∀ a : Nat, lfFrom ws = (a : Int) → 128 ≤ a → a ≤ ws.length → a % 2 = 0 → ∀ l, blocks ws a = some l → ∃ a : Nat, lfFrom ws = (a : Int) ∧ 128 ≤ a ∧ a ≤ ws.length ∧ a % 2 = 0 ∧ ∃ l, blocks ws a = some l ∧ lfN ws = (mkdL l).length := by
    intro a ha g1 g2 g3 l hl
    refine ⟨a, ha, g1, g2, g3, l, hl, ?_⟩
    have harg : frArg ws.length (a : Int) = false := by
      simp only [frArg, Bool.or_eq_false_iff, decide_eq_false_iff_not, bne_eq_false_iff_eq]; omega
    rw [hN, ha, (frErr_some (a := (a : Int)) hs harg (by rw [Int.toNat_natCast]; exact hl)).2]
  rcases (phOk_iff _ _ _).1 h4 with ⟨p4, i1, i2, i3⟩ | ⟨p3, i1, i2⟩ | ⟨p0, -⟩
  · refine ⟨hs, .inr p4, ?_⟩
    have i4 := (inHp_iff _).1 i1
    have hr : rdErr ws (wd ws 17 : Nat) (wd ws 18 : Nat) = 0 := by
      unfold ckErr at h
      rw [if_pos h0, if_pos p4] at h
      split at h
      · exact h
      · simp at h
    obtain ⟨-, -, l, hl, -⟩ := rdErr_zero hr
    rw [Int.toNat_natCast] at hl
    exact fin (wd ws 17) (by unfold lfFrom; rw [if_neg (by omega)]) i4.1 l1 i4.2.2 l hl
  · refine ⟨hs, .inl p3, ?_⟩
    have hr : rdErr ws 128 128 = 0 := by
      unfold ckErr at h
      rwa [if_pos h0, if_neg (by omega), if_pos p3] at h
    obtain ⟨-, -, l, hl, -⟩ := rdErr_zero hr
    have hl' : blocks ws 128 = some l := hl
    by_cases y0 : wd ws 17 = 0
    · exact fin 128 (by unfold lfFrom; rw [if_pos (by omega)]; rfl) (by omega) (by omega) (by omega) l hl'
    · have i4 := (inHp_iff _).1 (i2.resolve_left y0)
      have hlf : lfFrom ws = ((wd ws 17 : Nat) : Int) := by unfold lfFrom; rw [if_neg (by omega)]
      have hbt := h2 p3 y0
      unfold bdAt at hbt
      rw [hl'] at hbt
      have hbt : (l.any (fun b => b.at_ == ((wd ws 17 : Nat) : Int)) || wd ws 17 == ws.length) = true := hbt
      rw [Bool.or_eq_true, List.any_eq_true] at hbt
      rcases hbt with ⟨b, hm, hb⟩ | hb
      · obtain ⟨k, hk, rfl⟩ := List.getElem_of_mem hm
        obtain ⟨m, f1, f2, f3, f4, f5, f6⟩ := blocks_at _ _ hl' (by omega) k hk
        rw [beq_iff_eq, f1] at hb
        have hmy : m = wd ws 17 := by have : ((m : Nat) : Int) = ((wd ws 17 : Nat) : Int) := hb; omega
        rw [hmy] at f6
        exact fin (wd ws 17) hlf i4.1 l1 i4.2.2 _ f6
      · rw [beq_iff_eq] at hb
        exact fin (wd ws 17) hlf i4.1 l1 i4.2.2 [] (blocks_end (by omega))
  · exact absurd p0 hp

/-! The phase line, written again -/
def phE (p f t : Nat) : List En := [⟨16, p⟩, ⟨17, f⟩, ⟨18, t⟩]
theorem set_wd {ws : List Nat} {i : Nat} (h : i < ws.length) : ws.set i (wd ws i) = ws := by
  apply List.ext_getElem?
  intro j
  rw [List.getElem?_set]
  split
  · rename_i e
    subst e
    simp [wd, h]
  · rfl
theorem putE_in {ws : List Nat} (j v : Nat) (l : List En) (h : j < ws.length) : putE ws (⟨(j : Int), v⟩ :: l) = putE (ws.set j v) l := by
  simp only [putE]
  rw [if_pos (by omega), Int.toNat_natCast]
theorem line_put {ws : List Nat} (h : 256 ≤ ws.length) : putE ws (phE (wd ws 16) (wd ws 17) (wd ws 18)) = ws := by
  unfold phE
  rw [show (16 : Int) = ((16 : Nat) : Int) from rfl, show (17 : Int) = ((17 : Nat) : Int) from rfl, show (18 : Int) = ((18 : Nat) : Int) from rfl]
  rw [putE_in 16 _ _ (by omega), set_wd (by omega), putE_in 17 _ _ (by omega), set_wd (by omega), putE_in 18 _ _ (by omega), set_wd (by omega)]
  rfl
end Go.Proofs.Ytpfbppjjegialaa
