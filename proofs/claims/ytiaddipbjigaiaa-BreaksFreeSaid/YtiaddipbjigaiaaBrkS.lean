/- Starts, places, ends and gaps of rows: what the reference returns. -/
import Derived.Test.YtiaddipbjigaiaaBrkR
import Derived.Test.YtiaddipbjigaiaaBrkC
import Derived.Test.YtiaddipbjigaiaaBrkQ
namespace Go.Proofs.Ytiaddipbjigaiaa
open Go.RowKit

set_option maxRecDepth 100000 in
set_option maxHeartbeats 800000 in
theorem asked_c (A : Option Addr) (l : List Bk) (c n : Nat) (s : Int) (w : World) (hn : l.length = n) (hm : n ≤ 9223372036854775807) (hr : RdB w w.heap.size A l) (hs : -9223372036854775808 ≤ s ∧ s ≤ 9223372036854775807) :
    Calls Try.prog 42 #[.slice A n c, .int .i64 s] w fun e w' => e = .returned (.int .i64 (stErr l s)) ∧ Below w.heap.size w w' := by
  subst hn
  have HR := Lib.hid hr
  clear hr
  have HS8 : Hid (rowErr l ≠ 0 → stErr l s = rowErr l) := fun h => stErr_8 h
  have HS2 : Hid (rowErr l = 0 → s < 128 ∨ most l < s ∨ s % 2 ≠ 0 → stErr l s = 2) := fun h h2 => stErr_2 h h2
  have HS0 : Hid (rowErr l = 0 → 128 ≤ s ∧ s ≤ most l ∧ s % 2 = 0 → stErr l s = 0) := fun h h2 => stErr_0 h h2
  obtain ⟨sb1, sb2⟩ := hs
  have hev : Hid (s % 2 = 0) ∧ (s % 2 != 0) = false ∨ Hid (s % 2 ≠ 0) ∧ (s % 2 != 0) = true := by
    by_cases h : s % 2 = 0
    · exact .inl ⟨h, by rw [bne_eq_false_iff_eq]; exact h⟩
    · exact .inr ⟨h, by rw [bne_iff_ne]; exact h⟩
  have hmo : Hid (most l = 2048) ∧ l.length = 0 ∨ 0 < l.length := by
    by_cases h : l.length = 0
    · exact .inl ⟨by simp [Hid, most, h], h⟩
    · exact .inr (by omega)
  rcases hev with ⟨HEV, hbv⟩ | ⟨HEV, hbv⟩
  all_goals
    go_enter Try.func42, Try.ntmps42
    go_wp2_with fail
    refine (refCheck_c A l c l.length _ rfl hm HR.out).mono ?_
    rintro e w1 ⟨rfl, hB1⟩
    by_cases hr0 : rowErr l = 0
    · have HR0 := Lib.hid hr0
      rw [hr0]
      clear hr0
      rcases hmo with ⟨HM, hl0⟩ | hl
      · have hl : ¬ 0 < l.length := by omega
        clear hl0
        go_wp2_with fail
        all_goals
          go_ret
          first
            | exact ⟨by rw [HS2.out HR0.out (by rw [HM.out]; have := HEV.out; omega)]; rfl, hB1⟩
            | exact ⟨by rw [HS0.out HR0.out (by rw [HM.out]; have := HEV.out; omega)]; rfl, hB1⟩
      · obtain ⟨b, off, rfl, hb, h0, -⟩ := HR.out.at_ hl
        replace h0 := (hB1.cell (p := ⟨b, off + 0 * 6, none⟩) hb).trans h0
        have hmost := Lib.hid (show most l = l[0].at_ by simp only [most, show l.length ≠ 0 from by omega, if_false]; rw [gk_get l 0 hl])
        simp only [Nat.zero_mul, Nat.add_zero] at h0
        obtain ⟨mo, hmo⟩ : ∃ x, l[0].at_ = x := ⟨_, rfl⟩
        rw [hmo] at h0
        have HM := Lib.hid (show most l = mo by rw [hmost.out, hmo])
        have hdd : (0 : Int) < (l.length : Int) := by omega
        clear hmo hmost
        go_wp2_with fail
        all_goals
          go_ret
          first
            | exact ⟨by rw [HS2.out HR0.out (by rw [HM.out]; have := HEV.out; omega)]; rfl, hB1⟩
            | exact ⟨by rw [HS0.out HR0.out (by rw [HM.out]; have := HEV.out; omega)]; rfl, hB1⟩
    · have h8 := Lib.hid (HS8.out hr0)
      have hn1 : (rowErr l == 0) = false := by rw [beq_eq_false_iff_ne]; exact hr0
      have hn2 : (rowErr l != 0) = true := by rw [bne_iff_ne]; exact hr0
      clear hr0
      go_wp2_with fail
      go_ret
      exact ⟨by rw [h8.out]; rfl, hB1⟩

set_option maxRecDepth 100000 in
set_option maxHeartbeats 800000 in
theorem started_c (A : Option Addr) (l : List Bk) (c n : Nat) (s : Int) (w : World) (hn : l.length = n) (hm : n ≤ 9223372036854775807) (hr : RdB w w.heap.size A l) (hs : -9223372036854775808 ≤ s ∧ s ≤ 9223372036854775807) :
    Calls Try.prog 39 #[.slice A n c, .int .i64 s] w fun e w' => e = .returned (.int .i64 (stErr l s)) ∧ Below w.heap.size w w' := by
  subst hn
  have HR := Lib.hid hr
  clear hr
  have HS8 : Hid (rowErr l ≠ 0 → stErr l s = rowErr l) := fun h => stErr_8 h
  have HS2 : Hid (rowErr l = 0 → s < 128 ∨ most l < s ∨ s % 2 ≠ 0 → stErr l s = 2) := fun h h2 => stErr_2 h h2
  have HS0 : Hid (rowErr l = 0 → 128 ≤ s ∧ s ≤ most l ∧ s % 2 = 0 → stErr l s = 0) := fun h h2 => stErr_0 h h2
  obtain ⟨sb1, sb2⟩ := hs
  have hev : Hid (s % 2 = 0) ∧ (s % 2 != 0) = false ∨ Hid (s % 2 ≠ 0) ∧ (s % 2 != 0) = true := by
    by_cases h : s % 2 = 0
    · exact .inl ⟨h, by rw [bne_eq_false_iff_eq]; exact h⟩
    · exact .inr ⟨h, by rw [bne_iff_ne]; exact h⟩
  have hmo : Hid (most l = 2048) ∧ l.length = 0 ∨ 0 < l.length := by
    by_cases h : l.length = 0
    · exact .inl ⟨by simp [Hid, most, h], h⟩
    · exact .inr (by omega)
  rcases hev with ⟨HEV, hbv⟩ | ⟨HEV, hbv⟩
  all_goals
    go_enter Try.func39, Try.ntmps39
    go_wp2_with fail
    refine (check_c A l c l.length _ rfl hm HR.out).mono ?_
    rintro e w1 ⟨rfl, hB1⟩
    by_cases hr0 : rowErr l = 0
    · have HR0 := Lib.hid hr0
      rw [hr0]
      clear hr0
      rcases hmo with ⟨HM, hl0⟩ | hl
      · have hl : ¬ 0 < l.length := by omega
        clear hl0
        go_wp2_with fail
        all_goals
          go_ret
          first
            | exact ⟨by rw [HS2.out HR0.out (by rw [HM.out]; have := HEV.out; omega)]; rfl, hB1⟩
            | exact ⟨by rw [HS0.out HR0.out (by rw [HM.out]; have := HEV.out; omega)]; rfl, hB1⟩
      · obtain ⟨b, off, rfl, hb, h0, -⟩ := HR.out.at_ hl
        replace h0 := (hB1.cell (p := ⟨b, off + 0 * 6, none⟩) hb).trans h0
        have hmost := Lib.hid (show most l = l[0].at_ by simp only [most, show l.length ≠ 0 from by omega, if_false]; rw [gk_get l 0 hl])
        simp only [Nat.zero_mul, Nat.add_zero] at h0
        obtain ⟨mo, hmo⟩ : ∃ x, l[0].at_ = x := ⟨_, rfl⟩
        rw [hmo] at h0
        have HM := Lib.hid (show most l = mo by rw [hmost.out, hmo])
        have hdd : (0 : Int) < (l.length : Int) := by omega
        clear hmo hmost
        go_wp2_with fail
        all_goals
          go_ret
          first
            | exact ⟨by rw [HS2.out HR0.out (by rw [HM.out]; have := HEV.out; omega)]; rfl, hB1⟩
            | exact ⟨by rw [HS0.out HR0.out (by rw [HM.out]; have := HEV.out; omega)]; rfl, hB1⟩
    · have h8 := Lib.hid (HS8.out hr0)
      have hn1 : (rowErr l == 0) = false := by rw [beq_eq_false_iff_ne]; exact hr0
      have hn2 : (rowErr l != 0) = true := by rw [bne_iff_ne]; exact hr0
      clear hr0
      go_wp2_with fail
      go_ret
      exact ⟨by rw [h8.out]; rfl, hB1⟩
end Go.Proofs.Ytiaddipbjigaiaa
