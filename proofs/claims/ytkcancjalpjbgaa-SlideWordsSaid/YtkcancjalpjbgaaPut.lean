/- Entries that are put into a list of words: the reference's Put. -/
import Derived.Test.YtkcancjalpjbgaaLw27
namespace Go.Proofs.Ytkcancjalpjbgaa
open Go.RowKit

theorem putE_take {ws : List Nat} {E : List En} {k : Nat} (hk : k < E.length) : putE ws (E.take (k + 1)) = if 0 ≤ E[k].a ∧ E[k].a < (ws.length : Int) then (putE ws (E.take k)).set E[k].a.toNat E[k].v else putE ws (E.take k) := by
  rw [List.take_succ_eq_append_getElem hk, putE_append]
  simp only [putE, putE_len]
theorem putE_lt (E : List En) : ∀ (ws : List Nat), (∀ x ∈ ws, x < 18446744073709551616) → (∀ e ∈ E, e.v < 18446744073709551616) → ∀ x ∈ putE ws E, x < 18446744073709551616 := by
  induction E with
  | nil => intro ws h _; exact h
  | cons e E ih =>
    intro ws h h2
    simp only [putE]
    refine ih _ ?_ (fun x hx => h2 x (by simp [hx]))
    split
    · intro x hx
      rcases List.mem_or_eq_of_mem_set hx with h3 | h3
      · exact h x h3
      · have := h2 e (by simp); omega
    · exact h

set_option maxRecDepth 100000 in
set_option maxHeartbeats 4000000 in
theorem put25_c (A B : Option Addr) (ws : List Nat) (E : List En) (c d n m H : Nat) (w : World) (hn : ws.length = n) (hm : E.length = m) (h0 : 0 < n) (hn2 : n ≤ 1000000) (hm2 : m ≤ 1000000) (hr : RdW w H A ws) (he : RdE w H B E) (hH : H ≤ w.heap.size) :
    Calls Try.prog 33 #[.slice A n c, .slice B m d] w fun e w' => OwnW w (putE ws E) e w' := by
  subst hm
  have HR := Lib.hid (hr.more hH)
  have HE := Lib.hid (he.more hH)
  have HN := Lib.hid hn
  have HLN := Lib.hid (words_len ws)
  have HPL : Hid (∀ k, (putE ws (E.take k)).length = n) := Lib.hid fun k => by rw [putE_len, hn]
  have HST : Hid (∀ k (h : k < E.length), putE ws (E.take (k + 1)) = if 0 ≤ E[k].a ∧ E[k].a < (n : Int) then (putE ws (E.take k)).set E[k].a.toNat E[k].v else putE ws (E.take k)) := Lib.hid fun k h => by rw [putE_take h, hn]
  clear hr he hH hn
  obtain ⟨i0, hi, hz0, hz1, hz2⟩ := info_parts infoWord
  have HI := Lib.hid hi
  have HZ0 := Lib.hid hz0
  have HZ1 := Lib.hid hz1
  have HZ2 := Lib.hid hz2
  clear hi hz0 hz1 hz2
  go_enter Try.func33, Try.ntmps33
  go_wp2_with (at_builtin; refine wpList_append_rd' _ (by rfl) _ _ 22 rfl w.heap.size 24 i0 _ 1 8 Try.underlying22 HI.out HZ0.out HZ1.out HZ2.out rfl (by decide) (.slice (some ⟨w.heap.size, 0, none⟩) 0 0) 0 [] (by rfl) (own_empty w _ _ _ (Nat.le_refl _)) w.heap.size A n _ (ws.flatMap wordCells) (by rfl) (by rw [HLN.out, HN.out]; omega) (Rd.alloc HR.out (Nat.le_refl _) _) (cells_one word_one _) (by unfold maxLen; omega) (by omega) (by simp) ?_; intro v1 wa hown1 hg1; have hBa := below_append0 ((Below.refl w.heap.size w).alloc (Nat.le_refl _) _) (by simp) (own_empty w w.heap.size 24 1 (Nat.le_refl _)) hg1; simp only [Nat.zero_add, List.nil_append] at hown1; obtain ⟨g, c1, rfl⟩ := own_some hown1 (by omega); have HOWN := Lib.hid hown1; have HBA := Lib.hid hBa; clear hown1 hBa hg1)
  go_loopw [6] (fun i wr => ∃ k : Nat, k ≤ E.length ∧ i = .int .i64 k ∧ wr.ownsRow w.heap.size 24 1 (.slice (some ⟨g, 0, none⟩) n c1) n ((putE ws (E.take k)).flatMap wordCells) ∧ Below w.heap.size w wr) (fun i _ => E.length - (intOf i).toNat)
  case atStart => exact ⟨0, Nat.zero_le _, rfl, HOWN.out, HBA.out⟩
  case round =>
    obtain ⟨k, hk, rfl, hown, hB⟩ := hrel
    have hz := hB.size
    have hgH := own_base hown
    by_cases hlt : k < E.length
    · obtain ⟨b, off, rfl, hb, p0, p1⟩ := RdE.at_ (Rd.below HE.out hB) hlt
      have HS := Lib.hid (HST.out k hlt)
      obtain ⟨x, hx⟩ : ∃ x, E[k] = x := ⟨_, rfl⟩
      rw [hx] at p0 p1 HS
      obtain ⟨xa, xv⟩ := x
      dsimp only at p0 p1 HS
      have hk1 : (k : Int) < (E.length : Int) := by omega
      have hk0 : (0 : Int) ≤ (k : Int) := by omega
      have hbg : b ≠ g := by omega
      have hgb : g ≠ b := by omega
      clear hx
      by_cases hin : 0 ≤ xa ∧ xa < (n : Int)
      · rw [if_pos hin] at HS
        obtain ⟨g1, g2⟩ := hin
        obtain ⟨a, rfl⟩ := Int.eq_ofNat_of_zero_le g1
        rw [Int.toNat_natCast] at HS
        obtain ⟨cur, hcur⟩ : ∃ cur, putE ws (E.take k) = cur := ⟨_, rfl⟩
        have hcl := HPL.out k
        rw [hcur] at HS hown hcl
        have c0 := (hown.cellAt a (by omega)).trans (words_get cur a (by omega))
        have f0 := hown.frozenAt a
        obtain ⟨u, hu⟩ : ∃ u, ((cur[a]'(by omega) : Nat) : Int) = u := ⟨_, rfl⟩
        rw [hu] at c0
        have HO := Lib.hid hown
        clear hu hown hcur
        go_wp2_with fail
        first
          | (go_region_held3 (fun X : World => X.cell? ⟨b, off + k * 2, none⟩ = some (.int .i64 (a : Int)) ∧ X.cell? ⟨b, off + k * 2 + 1, none⟩ = some (.int .u64 (xv : Int))) (go_keep) (fail))
          | fail
        go_wp2_with fail
        go_roundw
        case rel =>
          refine ⟨k + 1, by omega, by go_num, ?_, hB.drew.setCell (p := ⟨g, a, none⟩) hgH _⟩
          rw [HS.out, words_set]
          exact ((show (wr.drew).ownsRow _ _ _ _ _ _ from HO.out).stored a (.int .u64 (xv : Int))).1
        case measure => simp [intOf]; omega
      · rw [if_neg hin] at HS
        have hways : xa < 0 ∨ 0 ≤ xa ∧ (n : Int) ≤ xa := by omega
        clear hin
        rcases hways with h1 | ⟨h1, h2⟩
        all_goals
          go_wp2_with fail
          go_roundw
          case rel => exact ⟨k + 1, by omega, by go_num, by rw [HS.out]; exact hown, hB⟩
          case measure => simp [intOf]; omega
    · rw [List.take_of_length_le (by omega)] at hown
      have hl := HPL.out E.length
      rw [List.take_length] at hl
      go_wp2_with fail
      go_ret
      exact ⟨g, c1, by rw [hl]; rfl, by rw [hl]; exact hown, hB⟩
end Go.Proofs.Ytkcancjalpjbgaa
