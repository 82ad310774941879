/- What the laws of a move find: plain facts. -/
import Derived.Test.YtpfbppjjegialaaSldM
namespace Go.Proofs.Ytpfbppjjegialaa
open Go.RowKit

theorem mvEn_len (ws : List Nat) (a u : Nat) : (mvEn ws a u).length = szAt ws a := by simp [mvEn]
theorem putE_seq (l : List Nat) : ∀ (ws : List Nat) (t : Nat), t + l.length ≤ ws.length → putE ws ((List.range l.length).map fun j => (⟨((t + j : Nat) : Int), l[j]?.getD 0⟩ : En)) = putSeq ws t l := by
  induction l with
  | nil => intro ws t _; rfl
  | cons v l ih =>
    intro ws t h
    simp only [List.length_cons] at h
    rw [List.length_cons, List.range_succ_eq_map, List.map_cons, List.map_map]
    simp only [putE, putSeq, Nat.add_zero]
    rw [if_pos (by omega), Int.toNat_natCast, List.getElem?_cons_zero, Option.getD_some, ← ih _ (t + 1) (by rw [List.length_set]; omega)]
    congr 1
    apply List.map_congr_left
    intro j _
    simp only [Function.comp]
    rw [show t + Nat.succ j = t + 1 + j by omega]
    simp
theorem putE_mv {ws : List Nat} {a u : Nat} (h : u + szAt ws a ≤ ws.length) : putE ws (mvEn ws a u) = putSeq ws u (mvWords ws a) := by
  rw [← putE_seq _ _ _ (by rw [mvWords_len]; exact h), mvWords_len]
  congr 1
  unfold mvEn
  apply List.map_congr_left
  intro j hj
  rw [mvWords_get _ _ _ (List.mem_range.1 hj)]; rfl
theorem mvEn_lt {ws : List Nat} {a u : Nat} (ho : ∀ x ∈ ws, x < 18446744073709551616) (h : hdOk { rawBk (wd ws a) with mark := false } = true) : ∀ e ∈ mvEn ws a u, e.v < 18446744073709551616 := by
  intro e he
  simp only [mvEn, List.mem_map] at he
  obtain ⟨j, -, rfl⟩ := he
  dsimp only
  split
  · exact headW_lt h
  · split
    · omega
    · exact wd_lt ho _
theorem mvEn_in {ws : List Nat} {a u : Nat} (h : u + szAt ws a ≤ ws.length) : ∀ e ∈ mvEn ws a u, 0 ≤ e.a ∧ e.a < (ws.length : Int) := by
  intro e he
  simp only [mvEn, List.mem_map] at he
  obtain ⟨j, hj, rfl⟩ := he
  have := List.mem_range.1 hj
  dsimp only
  omega
theorem mvEn_at {ws : List Nat} {a u k : Nat} (h : k < (mvEn ws a u).length) : ((mvEn ws a u)[k]).a = ((u + k : Nat) : Int) := by simp [mvEn]
end Go.Proofs.Ytpfbppjjegialaa
