/- Going on does the changes of the phase first: plain. -/
import Derived.Test.YtpfbppjjegialaaRsE
import Derived.Test.YtpfbppjjegialaaStgA
namespace Go.Proofs.Ytpfbppjjegialaa
open Go.RowKit

theorem rs_stages {p : Nat} : ∀ n x, (∀ v ∈ x, v < 18446744073709551616) → mzS p x ≤ n → ((allE p x).1 ≠ 0 → rsE x = ((allE p x).1, [], [])) ∧ ((allE p x).1 = 0 → contR x (allE p x).2.1 (allE p x).2.2) := by
  intro n
  induction n with
  | zero =>
    intro x ho h
    have hp : wd x 16 ≠ p := fun hp => by unfold mzS at h; rw [if_pos hp] at h; omega
    rw [allE_other hp]
    exact ⟨fun h => absurd rfl h, fun _ => contR_start ho⟩
  | succ n ih =>
    intro x ho h
    by_cases hp : wd x 16 = p
    · by_cases h6 : (sgOne x).1 = 6
      · rw [allE_none hp h6]
        exact ⟨fun h => absurd rfl h, fun _ => contR_start ho⟩
      · have hnx : rsNx x = ((sgOne x).1, false, (sgOne x).2) := by unfold rsNx; rw [if_neg h6]
        by_cases h0 : (sgOne x).1 = 0
        · have hd := mzS_dec ho hp h0
          obtain ⟨i1, i2⟩ := ih (putE x (sgOne x).2) (putS_lt ho h0) (by omega)
          have hs := rsE_step ho (by rw [hnx]; exact h0) (by rw [hnx])
          rw [hnx] at hs
          dsimp only at hs
          rw [allE_step ho hp h0]
          by_cases h1 : (allE p (putE x (sgOne x).2)).1 = 0
          · rw [if_pos h1]
            refine ⟨fun h => absurd rfl h, fun _ => ?_⟩
            have hc := i2 h1
            unfold contR at hc ⊢
            rw [hs, hc]
            dsimp only
            by_cases h2 : (rsE (allE p (putE x (sgOne x).2)).2.2).1 = 0
            · rw [if_pos h2, if_pos rfl, if_pos h2]; rfl
            · rw [if_neg h2, if_neg (by exact h2), if_neg h2]
          · rw [if_neg h1]
            refine ⟨fun _ => ?_, fun h => absurd h h1⟩
            rw [hs, i1 h1, if_neg (by exact h1)]
        · rw [allE_err hp h6 h0]
          refine ⟨fun _ => ?_, fun h => absurd h h0⟩
          rw [rsE_err (by rw [hnx]; exact h0), hnx]
    · rw [allE_other hp]
      exact ⟨fun h => absurd rfl h, fun _ => contR_start ho⟩
theorem all_keeps {p : Nat} : ∀ n x, (∀ v ∈ x, v < 18446744073709551616) → mzS p x ≤ n → (allE p x).1 = 0 → (∀ v ∈ (allE p x).2.2, v < 18446744073709551616) ∧ (allE p x).2.2.length = x.length := by
  intro n
  induction n with
  | zero =>
    intro x ho h _
    have hp : wd x 16 ≠ p := fun hp => by unfold mzS at h; rw [if_pos hp] at h; omega
    rw [allE_other hp]
    exact ⟨ho, rfl⟩
  | succ n ih =>
    intro x ho h hz
    by_cases hp : wd x 16 = p
    · by_cases h6 : (sgOne x).1 = 6
      · rw [allE_none hp h6]
        exact ⟨ho, rfl⟩
      · by_cases h0 : (sgOne x).1 = 0
        · have hd := mzS_dec ho hp h0
          rw [allE_step ho hp h0] at hz ⊢
          by_cases h1 : (allE p (putE x (sgOne x).2)).1 = 0
          · rw [if_pos h1]
            obtain ⟨i1, i2⟩ := ih (putE x (sgOne x).2) (putS_lt ho h0) (by omega) h1
            exact ⟨i1, i2.trans (putE_len _ _)⟩
          · rw [if_neg h1] at hz
            exact absurd hz h1
        · rw [allE_err hp h6 h0] at hz
          exact absurd hz h0
    · rw [allE_other hp]
      exact ⟨ho, rfl⟩
theorem sg_keeps {ws : List Nat} (ho : ∀ v ∈ ws, v < 18446744073709551616) (h : (sgAll ws).1 = 0) : (∀ v ∈ (sgAll ws).2.2, v < 18446744073709551616) ∧ (sgAll ws).2.2.length = ws.length := by
  unfold sgAll at h ⊢
  by_cases hck : ckErr ws = 0
  · rw [if_pos hck] at h ⊢
    exact all_keeps _ ws ho (Nat.le_refl _) h
  · rw [if_neg hck] at h
    exact absurd h hck
theorem phases_plain {ws : List Nat} (ho : ∀ v ∈ ws, v < 18446744073709551616) : ((sgAll ws).1 ≠ 0 → (rsAll ws).1 = (sgAll ws).1) ∧ ((sgAll ws).1 = 0 → (rsAll ws).1 = 0 → ∃ outs2, rsAll ws = (0, (sgAll ws).2.1 ++ outs2, (rsAll ws).2.2) ∧ rsAll (sgAll ws).2.2 = (0, outs2, (rsAll ws).2.2)) := by
  unfold sgAll
  by_cases hck : ckErr ws = 0
  · have er : rsAll ws = rsE ws := by unfold rsAll; rw [if_pos hck]
    rw [if_pos hck, er]
    obtain ⟨h1, h2⟩ := rs_stages (p := wd ws 16) (mzS (wd ws 16) ws) ws ho (Nat.le_refl _)
    refine ⟨fun h => by rw [h1 h], fun h h0 => ?_⟩
    have hc := h2 h
    unfold contR at hc
    by_cases hz : (rsE (allE (wd ws 16) ws).2.2).1 = 0
    · rw [if_pos hz] at hc
      refine ⟨(rsE (allE (wd ws 16) ws).2.2).2.1, by rw [hc], ?_⟩
      have hn : (rsNx (allE (wd ws 16) ws).2.2).1 = 0 := by
        by_cases h9 : (rsNx (allE (wd ws 16) ws).2.2).1 = 0
        · exact h9
        · rw [rsE_err h9] at hz; exact hz
      unfold rsAll
      rw [if_pos (rs_ck hn), hc]
      dsimp only
      rw [← hz]
    · rw [if_neg hz] at hc
      rw [hc] at h0
      exact absurd h0 hz
  · have er : rsAll ws = (ckErr ws, [], []) := by unfold rsAll; rw [if_neg hck]
    rw [if_neg hck, er]
    exact ⟨fun _ => rfl, fun h => absurd h hck⟩
end Go.Proofs.Ytpfbppjjegialaa
