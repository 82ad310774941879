/- All changes of going on: plain functions. -/
import Derived.Test.YtpfbppjjegialaaRsQ
namespace Go.Proofs.Ytpfbppjjegialaa
open Go.RowKit

theorem ch_small {x : List Nat} (h : enErr x = 0) : Small x.length (chOut x) ∧ wd (putE x (chOut x)) 16 = 0 := by
  obtain ⟨hs, -, -, -, h5, h6, -, h8⟩ := en_facts h
  have hb := (sizeOk_iff _).1 hs
  have hi := (inHp_iff _).1 h5
  rw [← h8] at hi h6
  refine ⟨?_, by rw [put_ch h, if_pos (.inl rfl)]⟩
  unfold chOut
  rw [if_pos h]
  have hne := fun hne => headW_lt (free_hd h hne)
  generalize enTo x = t at hi h6 hne
  have hph : phE 0 0 0 = [⟨16, 0⟩, ⟨17, 0⟩, ⟨18, 0⟩] := rfl
  rw [hph]
  by_cases he : t = x.length
  · rw [if_pos he]
    refine ⟨by decide, by decide, by simp, fun e he => ?_, fun e he => ?_⟩ <;>
    · simp only [List.append_nil, List.mem_cons, List.not_mem_nil, or_false] at he
      rcases he with rfl | rfl | rfl <;> (dsimp only; omega)
  · have hv := hne he
    rw [if_neg he]
    refine ⟨by simp, by simp, ?_, fun e he => ?_, fun e he => ?_⟩
    · simp only [List.cons_append, List.nil_append, List.pairwise_cons, List.mem_cons, List.not_mem_nil, or_false, forall_eq_or_imp, forall_eq, List.Pairwise.nil, and_true, false_implies, implies_true]
      omega
    · simp only [List.cons_append, List.nil_append, List.mem_cons, List.not_mem_nil, or_false] at he
      rcases he with rfl | rfl | rfl | rfl | rfl <;> (dsimp only; omega)
    · simp only [List.cons_append, List.nil_append, List.mem_cons, List.not_mem_nil, or_false] at he
      rcases he with rfl | rfl | rfl | rfl | rfl <;> (dsimp only; omega)
/-- What comes next is small, and leaves less. -/
theorem rs_ok {x : List Nat} (ho : ∀ v ∈ x, v < 18446744073709551616) (h : (rsNx x).1 = 0) (hd : (rsNx x).2.1 = false) : Small x.length (rsNx x).2.2 ∧ (∀ v ∈ putE x (rsNx x).2.2, v < 18446744073709551616) ∧ rzM (putE x (rsNx x).2.2) < rzM x := by
  by_cases h6 : (sgOne x).1 = 6
  · by_cases h0 : wd x 16 = 0
    · unfold rsNx at hd
      rw [if_pos h6, if_pos h0] at hd
      cases hd
    · have e : rsNx x = (enErr x, false, chOut x) := by unfold rsNx; rw [if_pos h6, if_neg h0]
      rw [e] at h ⊢
      dsimp only at h ⊢
      obtain ⟨g1, g2⟩ := ch_small h
      refine ⟨g1, putE_lt _ _ ho g1.val, ?_⟩
      have h4 : wd x 16 = 4 := (en_facts h).2.2.2.1
      unfold rzM
      rw [g2, if_neg (by decide), if_neg (by decide), if_neg (by decide), if_neg (by decide), h4, if_neg (by decide), if_neg (by decide), if_neg (by decide), if_pos rfl]
      omega
  · have e : rsNx x = ((sgOne x).1, false, (sgOne x).2) := by unfold rsNx; rw [if_neg h6]
    rw [e] at h ⊢
    dsimp only at h ⊢
    exact ⟨(sg_ok ho h).2.1, putS_lt ho h, rz_stage ho h⟩
/-- Where it is done. -/
theorem rs_done {x : List Nat} (h : (rsNx x).1 = 0) (hd : (rsNx x).2.1 = true) : (sgOne x).1 = 6 ∧ wd x 16 = 0 ∧ wd x 17 = 0 ∧ wd x 18 = 0 ∧ lnErr x = 0 ∧ ckErr x = 0 ∧ sizeOk (x.length : Int) = true := by
  have hck := rs_ck h
  obtain ⟨-, hs, -, hph⟩ := ck_parts hck
  unfold rsNx at hd
  by_cases h6 : (sgOne x).1 = 6
  · rw [if_pos h6] at hd
    by_cases h0 : wd x 16 = 0
    · rcases (phOk_iff _ _ _).1 hph with h1 | h1 | h1
      · omega
      · omega
      · exact ⟨h6, h0, h1.2.2, h1.2.1, ck_ln hck, hck, hs⟩
    · rw [if_neg h0] at hd; cases hd
  · rw [if_neg h6] at hd; cases hd
noncomputable def rsG : Nat → List Nat → Int × List (List En) × List Nat
  | 0, x => (0, [], x)
  | f + 1, x => if (rsNx x).1 = 0 then (if (rsNx x).2.1 = true then (0, [], x)
      else if (rsG f (putE x (rsNx x).2.2)).1 = 0 then (0, (rsNx x).2.2 :: (rsG f (putE x (rsNx x).2.2)).2.1, (rsG f (putE x (rsNx x).2.2)).2.2) else ((rsG f (putE x (rsNx x).2.2)).1, [], []))
      else ((rsNx x).1, [], [])
theorem rsG_more : ∀ {f g : Nat} {x : List Nat}, (∀ v ∈ x, v < 18446744073709551616) → rzM x < f → rzM x < g → rsG f x = rsG g x := by
  intro f
  induction f with
  | zero => intro g x _ h; omega
  | succ f ih =>
    intro g x ho hf hg
    cases g with
    | zero => omega
    | succ g =>
      simp only [rsG]
      by_cases h0 : (rsNx x).1 = 0
      · cases hd : (rsNx x).2.1 with
        | true => simp only [if_true]
        | false =>
          obtain ⟨-, h2, h3⟩ := rs_ok ho h0 hd
          rw [ih (g := g) h2 (by omega) (by omega)]
      · simp only [h0, if_false]
noncomputable def rsE (x : List Nat) : Int × List (List En) × List Nat := rsG (rzM x + 1) x
theorem rsE_err {x : List Nat} (h : (rsNx x).1 ≠ 0) : rsE x = ((rsNx x).1, [], []) := by
  unfold rsE
  simp only [rsG]
  rw [if_neg h]
theorem rsE_done {x : List Nat} (h : (rsNx x).1 = 0) (hd : (rsNx x).2.1 = true) : rsE x = (0, [], x) := by
  unfold rsE
  simp only [rsG]
  rw [if_pos h, if_pos hd]
theorem rsE_step {x : List Nat} (ho : ∀ v ∈ x, v < 18446744073709551616) (h : (rsNx x).1 = 0) (hd : (rsNx x).2.1 = false) : rsE x = (if (rsE (putE x (rsNx x).2.2)).1 = 0 then (0, (rsNx x).2.2 :: (rsE (putE x (rsNx x).2.2)).2.1, (rsE (putE x (rsNx x).2.2)).2.2) else ((rsE (putE x (rsNx x).2.2)).1, [], [])) := by
  obtain ⟨-, h2, h3⟩ := rs_ok ho h hd
  have e : rsG (rzM x) (putE x (rsNx x).2.2) = rsE (putE x (rsNx x).2.2) := rsG_more h2 h3 (Nat.lt_succ_self _)
  conv => lhs; unfold rsE
  simp only [rsG]
  rw [if_pos h, if_neg (by rw [hd]; decide), e]
theorem rsE_nil {x : List Nat} (ho : ∀ v ∈ x, v < 18446744073709551616) (h : (rsE x).1 ≠ 0) : rsE x = ((rsE x).1, [], []) := by
  by_cases h0 : (rsNx x).1 = 0
  · cases hd : (rsNx x).2.1 with
    | true => rw [rsE_done h0 hd] at h; exact absurd rfl h
    | false =>
      rw [rsE_step ho h0 hd] at h ⊢
      by_cases h1 : (rsE (putE x (rsNx x).2.2)).1 = 0
      · rw [if_pos h1] at h; exact absurd rfl h
      · rw [if_neg h1]
  · rw [rsE_err h0]
/-- All changes of a view. -/
noncomputable def rsAll (ws : List Nat) : Int × List (List En) × List Nat := if ckErr ws = 0 then rsE ws else (ckErr ws, [], [])
/-- How going on goes on behind some changes. -/
def contR (ws : List Nat) (outs : List (List En)) (x : List Nat) : Prop := rsE ws = if (rsE x).1 = 0 then (0, outs ++ (rsE x).2.1, (rsE x).2.2) else ((rsE x).1, [], [])
theorem contR_start {ws : List Nat} (ho : ∀ v ∈ ws, v < 18446744073709551616) : contR ws [] ws := by
  unfold contR
  by_cases h : (rsE ws).1 = 0
  · rw [if_pos h, List.nil_append, ← h]
  · rw [if_neg h]; exact rsE_nil ho h
theorem contR_step {ws : List Nat} {outs : List (List En)} {x : List Nat} (h : contR ws outs x) (ho : ∀ v ∈ x, v < 18446744073709551616) (h0 : (rsNx x).1 = 0) (hd : (rsNx x).2.1 = false) : contR ws (outs ++ [(rsNx x).2.2]) (putE x (rsNx x).2.2) := by
  unfold contR at h ⊢
  rw [h, rsE_step ho h0 hd]
  by_cases h1 : (rsE (putE x (rsNx x).2.2)).1 = 0
  · rw [if_pos h1, if_pos rfl, if_pos h1]
    simp
  · rw [if_neg h1, if_neg (by exact h1), if_neg h1]
theorem contR_end {ws : List Nat} {outs : List (List En)} {x : List Nat} (h : contR ws outs x) (h0 : (rsNx x).1 = 0) (hd : (rsNx x).2.1 = true) : rsE ws = (0, outs, x) := by
  unfold contR at h
  rw [h, rsE_done h0 hd]
  simp
theorem contR_bad {ws : List Nat} {outs : List (List En)} {x : List Nat} (h : contR ws outs x) (h0 : (rsNx x).1 ≠ 0) : rsE ws = ((rsNx x).1, [], []) := by
  unfold contR at h
  rw [h, rsE_err h0, if_neg (by exact h0)]
theorem rs_cons {x y : List Nat} {E : List En} {outs : List (List En)} (ho : ∀ v ∈ x, v < 18446744073709551616) (h : rsE x = (0, E :: outs, y)) : rsNx x = (0, false, E) ∧ rsE (putE x E) = (0, outs, y) := by
  by_cases h0 : (rsNx x).1 = 0
  · cases hd : (rsNx x).2.1 with
    | true => rw [rsE_done h0 hd] at h; simp at h
    | false =>
      rw [rsE_step ho h0 hd] at h
      by_cases h1 : (rsE (putE x (rsNx x).2.2)).1 = 0
      · rw [if_pos h1] at h
        simp only [Prod.mk.injEq, List.cons.injEq, true_and] at h
        obtain ⟨⟨h2, h3⟩, h4⟩ := h
        refine ⟨by rw [← h0, ← hd, ← h2], ?_⟩
        rw [← h2, ← h3, ← h4, ← h1]
      · rw [if_neg h1] at h
        simp at h
  · rw [rsE_err h0] at h
    simp at h
theorem rs_at : ∀ {outs : List (List En)} {x y : List Nat}, (∀ v ∈ x, v < 18446744073709551616) → rsE x = (0, outs, y) → ∀ n, n ≤ outs.length → (∀ v ∈ stX x outs n, v < 18446744073709551616) ∧ (stX x outs n).length = x.length ∧ rsE (stX x outs n) = (0, outs.drop n, y) ∧ (rsNx (stX x outs n)).1 = 0 ∧ ∀ h : n < outs.length, rsNx (stX x outs n) = (0, false, outs[n]) ∧ Small x.length outs[n] := by
  intro outs
  induction outs with
  | nil =>
    intro x y ho h n hn
    have : n = 0 := by simpa using hn
    subst this
    refine ⟨ho, rfl, h, ?_, fun h => absurd h (by simp)⟩
    rw [stX_zero]
    by_cases h0 : (rsNx x).1 = 0
    · exact h0
    · rw [rsE_err h0] at h
      simp only [Prod.mk.injEq] at h
      exact h.1
  | cons E outs ih =>
    intro x y ho h n hn
    obtain ⟨h2, h3⟩ := rs_cons ho h
    have hok := rs_ok ho (by rw [h2]) (by rw [h2])
    rw [h2] at hok
    cases n with
    | zero => exact ⟨ho, rfl, h, by rw [stX_zero, h2], fun _ => ⟨h2, hok.1⟩⟩
    | succ n =>
      rw [stX_cons]
      obtain ⟨g1, g2, g3, g4, g5⟩ := ih hok.2.1 h3 n (by simpa using hn)
      refine ⟨g1, by rw [g2, putE_len], g3, g4, fun hh => ?_⟩
      obtain ⟨g6, g7⟩ := g5 (by simpa using hh)
      rw [putE_len] at g7
      exact ⟨g6, g7⟩
theorem rs_last {outs : List (List En)} {x y : List Nat} (ho : ∀ v ∈ x, v < 18446744073709551616) (h : rsE x = (0, outs, y)) : stX x outs outs.length = y ∧ (rsNx y).1 = 0 ∧ (rsNx y).2.1 = true := by
  obtain ⟨g1, g2, g3, g4, -⟩ := rs_at ho h outs.length (Nat.le_refl _)
  rw [List.drop_length] at g3
  cases hd : (rsNx (stX x outs outs.length)).2.1 with
  | true =>
    rw [rsE_done g4 hd] at g3
    simp only [Prod.mk.injEq, true_and] at g3
    rw [g3] at g4 hd
    exact ⟨g3, g4, hd⟩
  | false =>
    rw [rsE_step g1 g4 hd] at g3
    split at g3
    · simp at g3
    · rename_i h1
      simp only [Prod.mk.injEq] at g3
      exact absurd g3.1 h1
theorem rs_len : ∀ {outs : List (List En)} {x y : List Nat}, (∀ v ∈ x, v < 18446744073709551616) → rsE x = (0, outs, y) → outs.length ≤ rzM x := by
  intro outs
  induction outs with
  | nil => intro x y _ _; exact Nat.zero_le _
  | cons E outs ih =>
    intro x y ho h
    obtain ⟨h2, h3⟩ := rs_cons ho h
    have hok := rs_ok ho (by rw [h2]) (by rw [h2])
    rw [h2] at hok
    have := ih hok.2.1 h3
    rw [List.length_cons]
    have := hok.2.2
    dsimp only at this
    omega
/-- What is needed of going on. -/
theorem rsAll_on {ws y : List Nat} {outs : List (List En)} (ho : ∀ v ∈ ws, v < 18446744073709551616) (h : rsAll ws = (0, outs, y)) : ckErr ws = 0 ∧ rsE ws = (0, outs, y) ∧ outs.length ≤ (ws.length - 128) / 2 * 3 + 5 ∧ stX ws outs outs.length = y ∧ (∀ n, n ≤ outs.length → (∀ v ∈ stX ws outs n, v < 18446744073709551616) ∧ (stX ws outs n).length = ws.length ∧ rsAll (stX ws outs n) = (0, outs.drop n, y)) ∧ ∀ n (h : n < outs.length), Small ws.length outs[n] := by
  have hck : ckErr ws = 0 := by
    by_cases h0 : ckErr ws = 0
    · exact h0
    · unfold rsAll at h; rw [if_neg h0] at h
      simp only [Prod.mk.injEq] at h
      exact absurd h.1 h0
  have he : rsE ws = (0, outs, y) := by unfold rsAll at h; rw [if_pos hck] at h; exact h
  obtain ⟨-, hs, -⟩ := ck_parts hck
  refine ⟨hck, he, Nat.le_trans (rs_len ho he) (rzM_le hs), (rs_last ho he).1, fun n hn => ?_, fun n hn => ((rs_at ho he n (Nat.le_of_lt hn)).2.2.2.2 hn).2⟩
  obtain ⟨g1, g2, g3, g4, -⟩ := rs_at ho he n hn
  refine ⟨g1, g2, ?_⟩
  unfold rsAll
  rw [if_pos (rs_ck g4)]
  exact g3
theorem rsAll_bad {ws : List Nat} (ho : ∀ v ∈ ws, v < 18446744073709551616) (h : (rsAll ws).1 ≠ 0) : rsAll ws = ((rsAll ws).1, [], []) := by
  unfold rsAll at h ⊢
  by_cases h0 : ckErr ws = 0
  · rw [if_pos h0] at h ⊢
    exact rsE_nil ho h
  · rw [if_neg h0]
end Go.Proofs.Ytpfbppjjegialaa
