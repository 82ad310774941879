/- A list of 256 words that a call makes. -/
import Derived.Test.YtpfbppjjegialaaKImage
namespace Go.Proofs.Ytpfbppjjegialaa
open Go.RowKit

theorem mkN (n : Nat) (hn : n ≤ 1000000) (w : World) : ∃ W, (Instr.makeSlice 22 (.int .i64 (n : Int)) (.int .i64 (n : Int))).run Try.prog w = .ok (.slice (some ⟨w.heap.size, 0, none⟩) n n) W ∧ RdW W W.heap.size (some ⟨w.heap.size, 0, none⟩) (List.replicate n 0) ∧ Below w.heap.size w W := by
  obtain ⟨i0, hi, hz0, hz1, hz2⟩ := info_parts infoWord
  obtain ⟨W0, hmk, hown0, hg0⟩ := run_make_full (P := Try.prog) w w.heap.size 22 31 i0 (.int .u64 0) 1 Try.underlying22 hi hz0 hz1 .i64 .i64 n (by rw [hz2]; omega) (by unfold maxLen; omega) (Nat.le_refl _)
  refine ⟨W0, hmk, Rd.of_own (by rw [words_zero, ← toList_madeCells_one]; have := hown0; rw [Nat.mul_one] at this; exact this), (Below.refl _ _).grown hg0 (Nat.le_refl _) (fun k hk => by cases hk)⟩
theorem mk256 (w : World) : ∃ W, (Instr.makeSlice 22 (.int .i64 256) (.int .i64 256)).run Try.prog w = .ok (.slice (some ⟨w.heap.size, 0, none⟩) 256 256) W ∧ RdW W W.heap.size (some ⟨w.heap.size, 0, none⟩) (List.replicate 256 0) ∧ Below w.heap.size w W := by
  obtain ⟨i0, hi, hz0, hz1, hz2⟩ := info_parts infoWord
  obtain ⟨W0, hmk, hown0, hg0⟩ := run_make_full (P := Try.prog) w w.heap.size 22 31 i0 (.int .u64 0) 1 Try.underlying22 hi hz0 hz1 .i64 .i64 256 (by rw [hz2]; omega) (by unfold maxLen; omega) (Nat.le_refl _)
  refine ⟨W0, hmk, Rd.of_own (by rw [words_zero, ← toList_madeCells_one]; have := hown0; rw [Nat.mul_one] at this; exact this), (Below.refl _ _).grown hg0 (Nat.le_refl _) (fun k hk => by cases hk)⟩
theorem zero256 : hpErr (List.replicate 256 0) = 50 ∧ wnOut (List.replicate 256 0) = [] ∧ (List.replicate 256 0).length = 256 := by decide +kernel
theorem zero_lt : ∀ x ∈ List.replicate 256 0, x < 18446744073709551616 := fun x hx => by rw [List.eq_of_mem_replicate hx]; omega
end Go.Proofs.Ytpfbppjjegialaa
