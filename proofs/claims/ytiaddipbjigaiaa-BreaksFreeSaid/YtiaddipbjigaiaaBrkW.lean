/- The words of the laws on places: the chapter's row, whether it is alive, refused and wrong. -/
import Derived.Test.YtiaddipbjigaiaaBrkV
import Derived.Test.YtiaddipbjigaiaaBrkL
namespace Go.Proofs.Ytiaddipbjigaiaa
open Go.RowKit

def exL : List Bk := [⟨128, 4, 1, 0, false, 0⟩, ⟨132, 2, 1, 0, true, 0⟩, ⟨134, 6, 2, 0, false, 0⟩, ⟨140, 4, 1, 0, true, 0⟩]

theorem places_c (A : Option Addr) (l : List Bk) (c n : Nat) (s : Int) (w : World) (hn : l.length = n) (hm : n ≤ 4294967296) (hr : RdB w w.heap.size A l) (hs : -9223372036854775808 ≤ s ∧ s ≤ 9223372036854775807) :
    Calls Try.prog 19 #[.slice A n c, .int .i64 s] w fun e w' => PlRes l s e w' ∧ Below w.heap.size w w' :=
  (callsIn_wide.1 (places_in A l c n s w hn hm hr hs)).mono fun e w' h => by
    obtain ⟨h1, h2, h3⟩ := h
    refine ⟨?_, h3⟩
    by_cases h0 : stErr l s = 0
    · obtain ⟨v, rfl, hown⟩ := h1 h0
      exact plRes_of_own h0 hn hown
    · rw [h2 h0]
      exact plRes_no rfl h0

theorem rd_new (w : World) (cs : List Value) (t : TypeId) : Rd (w.alloc (.cells cs.toArray t)) (w.heap.size + 1) (some ⟨w.heap.size, 0, none⟩) cs := fun _ =>
  ⟨w.heap.size, 0, rfl, by omega, fun j hj => by
    have := (Bx.new w t cs.toArray).cell j
    rw [Nat.zero_add, this]
    simp [hj]⟩

set_option maxHeartbeats 400000 in
theorem example_c (w : World) :
    Calls Try.prog 31 #[] w fun e w' => e = .returned (.slice (some ⟨w.heap.size, 0, none⟩) 4 4) ∧ w' = w.alloc (.cells (exL.flatMap Bk.cells).toArray 59) := by
  go_enter Try.func31, Try.ntmps31
  go_wp2_with fail
  go_ret
  exact ⟨rfl, rfl⟩

theorem exL_st : stErr exL 128 = 0 := by decide +kernel
theorem exL_row : rowErr exL = 0 := by decide +kernel
theorem exL_pl : plOut exL 128 = [0, 128, 0, 130] := by decide +kernel
theorem exL_end : endRes exL 128 = .tuple #[.int .i64 134, .int .i64 0] := by simp only [endRes, exL_st, show endOf exL 128 = 134 from by decide +kernel]; rfl
theorem exL_gap : gapRes exL = .tuple #[.int .i64 10, .int .i64 0] := by simp only [gapRes, exL_row, show gapsOf exL = 10 from by decide +kernel]; rfl
theorem exL_rd (w : World) : RdB (w.alloc (.cells (exL.flatMap Bk.cells).toArray 59)) (w.alloc (.cells (exL.flatMap Bk.cells).toArray 59)).heap.size (some ⟨w.heap.size, 0, none⟩) exL := by
  have := rd_new w (exL.flatMap Bk.cells) 59
  rw [World.size_alloc]; exact this

set_option maxRecDepth 100000 in
set_option maxHeartbeats 800000 in
theorem alive26_c (w : World) :
    Calls Try.prog 29 #[] w fun e w' => e = .returned (.bool true) ∧ Below w.heap.size w w' := by
  go_enter Try.func29, Try.ntmps29
  go_wp2_with fail
  refine (example_c _).mono ?_
  rintro e w1 ⟨rfl, rfl⟩
  have hr1 := Lib.hid (exL_rd w)
  have hb1 : Below w.heap.size w (w.alloc (.cells (exL.flatMap Bk.cells).toArray 59)) := (Below.refl _ _).alloc (Nat.le_refl _) _
  obtain ⟨wa, hwa⟩ : ∃ wa, w.alloc (.cells (exL.flatMap Bk.cells).toArray 59) = wa := ⟨_, rfl⟩
  rw [hwa] at hr1 hb1 ⊢
  clear hwa
  go_wp2_with fail
  refine (places_c _ exL 4 4 128 _ rfl (by omega) hr1.out (by omega)).mono ?_
  rintro e w2 ⟨⟨A, c, rfl, hp, hcc⟩, hB2⟩
  rw [exL_pl, exL_st]
  rw [exL_pl] at hp hcc
  have hb2 := hb1.trans (hB2.mono hb1.size)
  have hz2 := hb2.size
  have HP := Lib.hid hp
  clear hp hr1
  go_wp2_with fail
  refine (example_c _).mono ?_
  rintro e w3 ⟨rfl, rfl⟩
  have hr3 := Lib.hid (exL_rd w2)
  have hb3 := hb2.alloc hz2 (.cells (exL.flatMap Bk.cells).toArray 59)
  have HP3 := Lib.hid (show RdI (w2.alloc (.cells (exL.flatMap Bk.cells).toArray 59)) w2.heap.size A [0, 128, 0, 130] from Rd.alloc HP.out (Nat.le_refl _) _)
  have hq3 : w2.heap.size ≤ (w2.alloc (.cells (exL.flatMap Bk.cells).toArray 59)).heap.size := by simp
  obtain ⟨wb, hwb⟩ : ∃ wb, w2.alloc (.cells (exL.flatMap Bk.cells).toArray 59) = wb := ⟨_, rfl⟩
  rw [hwb] at hr3 hb3 HP3 hq3 ⊢
  clear hwb HP
  go_wp2_with fail
  refine (end_c _ exL 4 4 128 _ rfl (by omega) hr3.out (by omega)).mono ?_
  rintro e w4 ⟨rfl, hB4⟩
  rw [exL_end]
  have hb4 := hb3.trans (hB4.mono hb3.size)
  have hz4 := hb4.size
  have hz34 := hB4.size
  have HP4 := Lib.hid (show RdI w4 w2.heap.size A [0, 128, 0, 130] from Rd.below HP3.out (hB4.mono hq3))
  clear HP3 hr3
  go_wp2_with fail
  refine (example_c _).mono ?_
  rintro e w5 ⟨rfl, rfl⟩
  have hr5 := Lib.hid (exL_rd w4)
  have hb5 := hb4.alloc hz4 (.cells (exL.flatMap Bk.cells).toArray 59)
  have HP5 := Lib.hid (show RdI (w4.alloc (.cells (exL.flatMap Bk.cells).toArray 59)) w2.heap.size A [0, 128, 0, 130] from Rd.alloc HP4.out (by omega) _)
  have hq5 : w2.heap.size ≤ (w4.alloc (.cells (exL.flatMap Bk.cells).toArray 59)).heap.size := by simp; omega
  obtain ⟨wc, hwc⟩ : ∃ wc, w4.alloc (.cells (exL.flatMap Bk.cells).toArray 59) = wc := ⟨_, rfl⟩
  rw [hwc] at hr5 hb5 HP5 hq5 ⊢
  clear hwc HP4
  go_wp2_with fail
  refine (gaps_c _ exL 4 4 _ rfl (by omega) hr5.out).mono ?_
  rintro e w6 ⟨rfl, hB6⟩
  rw [exL_gap]
  have hb6 := hb5.trans (hB6.mono hb5.size)
  have hz6 := hb6.size
  have hz56 := hB6.size
  have HP6 := Lib.hid (show RdI w6 w2.heap.size A [0, 128, 0, 130] from Rd.below HP5.out (hB6.mono hq5))
  clear HP5 hr5
  go_wp2_with fail
  have hr7 := rd_new w6 [.int .i64 0, .int .i64 128, .int .i64 0, .int .i64 130] 3
  refine (sameInts_c _ _ [0, 128, 0, 130] [0, 128, 0, 130] _ _ 4 4 _ rfl rfl (by omega) (by omega) ((Rd.alloc HP6.out (by omega) _).more (by simp; omega)) (by rw [World.size_alloc]; exact hr7)).mono ?_
  rintro e w7 ⟨rfl, hB7⟩
  rw [sameI_refl]
  have hb7 := (hb6.alloc hz6 _).trans (hB7.mono (by simp; omega))
  clear hr7
  go_wp2_with fail
  go_ret
  exact ⟨rfl, hb7⟩
end Go.Proofs.Ytiaddipbjigaiaa
