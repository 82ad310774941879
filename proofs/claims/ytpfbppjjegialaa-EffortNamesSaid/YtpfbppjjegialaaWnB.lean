/- Bounds of the entries for forwarding words. -/
import Derived.Test.YtpfbppjjegialaaKHeap
namespace Go.Proofs.Ytpfbppjjegialaa
open Go.RowKit

theorem endOf_ge28 : ∀ {l : List Bk} {s : Int}, (∀ b ∈ l, 0 ≤ b.size) → s ≤ endOf l s := by
  intro l
  induction l with
  | nil => intro s _; exact Int.le_refl _
  | cons b l ih =>
    intro s h
    have h1 := h b (by simp)
    simp only [endOf]
    split
    · have := ih (s := s + b.size) (fun c hc => h c (by simp [hc])); omega
    · exact ih (fun c hc => h c (by simp [hc]))
theorem wantE_val28 : ∀ {l : List Bk} {s : Int}, 0 ≤ s → (∀ b ∈ l, 0 ≤ b.size) → ∀ e ∈ wantE l s, (e.v : Int) ≤ endOf l s := by
  intro l
  induction l with
  | nil => intro s _ _ e h; simp [wantE] at h
  | cons b l ih =>
    intro s hs h e he
    have h1 := h b (by simp)
    have hl : ∀ c ∈ l, 0 ≤ c.size := fun c hc => h c (by simp [hc])
    have hns : s ≤ nextS b s := by unfold nextS; split <;> omega
    have hge := endOf_ge28 (l := l) (s := nextS b s) hl
    have hen : endOf (b :: l) s = endOf l (nextS b s) := by simp only [endOf, nextS]; split <;> rfl
    rw [hen]
    simp only [wantE, List.mem_append] at he
    rcases he with he | he
    · split at he
      · simp only [List.mem_cons, List.not_mem_nil, or_false] at he
        subst he
        show ((wantN b s : Nat) : Int) ≤ _
        unfold wantN
        split <;> omega
      · simp at he
    · exact ih (by omega) hl e he
theorem wnOut_bd {x : List Nat} (h : hpErr x = 0) : (wnOut x).length ≤ 1024 ∧ ∀ e ∈ wnOut x, e.v < 18446744073709551616 := by
  have hw : wnOut x = wantE (hpOut x) 128 := by unfold wnOut; rw [if_pos h]
  rw [hw]
  refine ⟨Nat.le_trans (wantE_len _ _) (hpOut_len x), fun e he => ?_⟩
  obtain ⟨hre, hs1, hs2, hs3⟩ := stErr_zero (hp_fr h).2.2.1
  have h1 := wantE_val28 (l := hpOut x) (s := 128) (by omega) (fun b hb => by
    obtain ⟨i, hi, rfl⟩ := List.getElem_of_mem hb
    have := size_bd' (hp_fr h).2.2.1 hi; omega) e he
  have h2 := endOf_bd hre (Nat.le_refl _) hs1 hs2
  rw [List.take_length] at h2
  omega
end Go.Proofs.Ytpfbppjjegialaa
