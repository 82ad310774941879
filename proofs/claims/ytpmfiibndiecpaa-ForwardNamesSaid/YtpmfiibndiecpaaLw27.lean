/- The law's own helpers of layer 27: another word in a list, a reading's error, where an address goes. -/
import Derived.Test.YtpmfiibndiecpaaKMove
namespace Go.Proofs.Ytpmfiibndiecpaa
open Go.RowKit

set_option maxRecDepth 100000 in
set_option maxHeartbeats 2000000 in
theorem put27_c (A : Option Addr) (ws : List Nat) (c n a v H : Nat) (w : World) (hn : ws.length = n) (hm : n ≤ 1000000) (ha : a < n) (hr : RdW w H A ws) (hH : H ≤ w.heap.size) :
    Calls Try.prog 21 #[.slice A n c, .int .i64 (a : Int), .int .u64 (v : Int)] w fun e w' => OwnW w (ws.set a v) e w' := by
  have HR := Lib.hid (hr.more hH)
  have HN := Lib.hid hn
  have HLN := Lib.hid (words_len ws)
  have HWS := Lib.hid (words_set ws a v)
  have ha1 : (a : Int) < (n : Int) := by omega
  have ha0 : (0 : Int) ≤ (a : Int) := by omega
  clear hr hH hn
  obtain ⟨i0, hi, hz0, hz1, hz2⟩ := info_parts infoWord
  have HI := Lib.hid hi
  have HZ0 := Lib.hid hz0
  have HZ1 := Lib.hid hz1
  have HZ2 := Lib.hid hz2
  clear hi hz0 hz1 hz2
  go_enter Try.func21, Try.ntmps21
  go_wp2_with (at_builtin; refine wpList_append_rd' _ (by rfl) _ _ 37 rfl w.heap.size 22 i0 _ 1 8 Try.underlying37 HI.out HZ0.out HZ1.out HZ2.out rfl (by decide) (.slice (some ⟨w.heap.size, 0, none⟩) 0 0) 0 [] (by rfl) (own_empty w _ _ _ (Nat.le_refl _)) w.heap.size A n _ (ws.flatMap wordCells) (by rfl) (by rw [HLN.out, HN.out]; omega) (Rd.alloc HR.out (Nat.le_refl _) _) (cells_one word_one _) (by unfold maxLen; omega) (by omega) (by simp) ?_; intro v1 wa hown1 hg1; have hBa := below_append0 ((Below.refl w.heap.size w).alloc (Nat.le_refl _) _) (by simp) (own_empty w w.heap.size 22 1 (Nat.le_refl _)) hg1; simp only [Nat.zero_add, List.nil_append] at hown1; obtain ⟨g, c1, rfl⟩ := own_some hown1 (by omega); have hc0 := (hown1.cellAt a (by omega)).trans (words_get ws a (by rw [HN.out]; exact ha)); have hf0 := hown1.frozenAt a; have HOWN := Lib.hid hown1; have HBA := Lib.hid hBa; clear hown1 hBa hg1)
  go_ret
  have hs := (HOWN.out.stored a (.int .u64 (v : Int))).1
  rw [← HWS.out] at hs
  refine ⟨g, c1, by rw [List.length_set, HN.out]; rfl, ?_, HBA.out.setCell (p := ⟨g, a, none⟩) (own_base HOWN.out) _⟩
  rw [List.length_set, HN.out]
  exact hs
set_option maxRecDepth 100000 in
set_option maxHeartbeats 2000000 in
theorem reads27_c (A : Option Addr) (ws : List Nat) (c n : Nat) (f s r : Int) (w : World) (hn : ws.length = n) (hm : n ≤ 9223372036854775807) (hf : -9223372036854775808 ≤ f ∧ f ≤ 9223372036854775807) (hs : -9223372036854775808 ≤ s ∧ s ≤ 9223372036854775807) (hr : RdW w w.heap.size A ws) (ho : ∀ x ∈ ws, x < 18446744073709551616) :
    Calls Try.prog 24 #[.slice A n c, .int .i64 f, .int .i64 s, .int .i64 r] w fun e w' => e = .returned (.bool (decide (rdErr ws f s = r))) ∧ Below w.heap.size w w' := by
  have HC := Lib.hid (fwRead_c A ws c n f s w hn hm hf hs hr ho)
  unfold RdRes at HC
  have HM : Hid (rdErr ws f s ≠ 0 → (rdMv ws f s).length = 0) := Lib.hid rdMv_no
  obtain ⟨q, hq⟩ : ∃ q, rdErr ws f s = q := ⟨_, rfl⟩
  obtain ⟨m, hm2⟩ : ∃ m, rdMv ws f s = m := ⟨_, rfl⟩
  rw [hq, hm2] at HC HM
  rw [hq]
  obtain ⟨z, hz⟩ : ∃ z, decide (q = r) = z := ⟨_, rfl⟩
  have HZ : Hid (z = decide (q = r)) := Lib.hid hz.symm
  rw [hz]
  clear hr ho hf hs hm hq hm2 hz
  by_cases h1 : q = r
  · have e1 : (q == r) = true := by rw [beq_iff_eq]; exact h1
    have HY := Lib.hid (show z = true by rw [HZ.out, decide_eq_true_iff]; exact h1)
    by_cases h2 : q = 0
    · have e2 : (q == 0) = true := by rw [beq_iff_eq]; exact h2
      clear h1 h2
      go_enter Try.func24, Try.ntmps24
      go_wp2_with fail
      refine HC.out.mono ?_
      rintro e w1 ⟨⟨A1, c1, rfl, -, -⟩, hB1⟩
      go_wp2_with fail
      go_ret
      exact ⟨by rw [HY.out]; rfl, hB1⟩
    · have e2 : (q == 0) = false := by rw [beq_eq_false_iff_ne]; exact h2
      have HL := Lib.hid (HM.out h2)
      clear h1 h2
      go_enter Try.func24, Try.ntmps24
      go_wp2_with fail
      refine HC.out.mono ?_
      rintro e w1 ⟨⟨A1, c1, rfl, -, -⟩, hB1⟩
      rw [HL.out]
      go_wp2_with fail
      go_ret
      exact ⟨by rw [HY.out]; rfl, hB1⟩
  · have e1 : (q == r) = false := by rw [beq_eq_false_iff_ne]; exact h1
    have HY := Lib.hid (show z = false by rw [HZ.out, decide_eq_false_iff_not]; exact h1)
    clear h1
    go_enter Try.func24, Try.ntmps24
    go_wp2_with fail
    refine HC.out.mono ?_
    rintro e w1 ⟨⟨A1, c1, rfl, -, -⟩, hB1⟩
    go_wp2_with fail
    go_ret
    exact ⟨by rw [HY.out]; rfl, hB1⟩
end Go.Proofs.Ytpmfiibndiecpaa
