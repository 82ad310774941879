/- The law BreaksNames: limits and errors of rows. -/
import Derived.Test.YtpmfiibndiecpaaBrkO2
namespace Go.Proofs.Ytpmfiibndiecpaa
open Go.RowKit

theorem nm_rd {WW Y : World} {B g : Nat} (h : RdB WW B (some ⟨g, 0, none⟩) (manyL 1025)) (hB : B ≤ WW.heap.size) (hY : Below WW.heap.size WW Y) : RdB Y Y.heap.size (some ⟨g, 0, none⟩) (manyL 1025) :=
  Rd.more (Rd.below h (hY.mono hB)) (Nat.le_trans hB hY.size)
theorem nm_rd961 {WW Y : World} {B g : Nat} (h : RdB WW B (some ⟨g, 0, none⟩) (manyL 1025)) (hB : B ≤ WW.heap.size) (hY : Below WW.heap.size WW Y) : RdB Y Y.heap.size (some ⟨g, 0, none⟩) (manyL 961) := by
  have := (nm_rd h hB hY).take_ 961
  rwa [manyL_take (by omega)] at this
set_option maxRecDepth 100000 in
set_option maxHeartbeats 16000000 in
theorem breaksNames_walk (w : World) :
    Calls Try.prog 3 #[] w fun e w' => e = .returned (.bool true) ∧ Below w.heap.size w w' := by
  obtain ⟨i0, hi, hz0, hz1, hz2⟩ := info_parts infoBlk
  have HI := Lib.hid hi
  have HZ0 := Lib.hid hz0
  have HZ1 := Lib.hid hz1
  have HZ2 := Lib.hid hz2
  clear hi hz0 hz1 hz2
  go_enter Try.func3, Try.ntmps3
  go_wp2_with fail
  have hb1 : Below w.heap.size w (w.alloc (.cells (badsL.flatMap Bk.cells).toArray 24)) := (Below.refl _ _).alloc (Nat.le_refl _) _
  have hr1 := rd_new w (badsL.flatMap Bk.cells) 24
  have hs1 : (w.alloc (.cells (badsL.flatMap Bk.cells).toArray 24)).heap.size = w.heap.size + 1 := by simp
  obtain ⟨wa, hwa⟩ : ∃ wa, w.alloc (.cells (badsL.flatMap Bk.cells).toArray 24) = wa := ⟨_, rfl⟩
  have HWA := Lib.hid hwa
  rw [hwa] at hb1 hr1 hs1
  have HR1 := Lib.hid (show RdB wa (w.heap.size + 1) (some ⟨w.heap.size, 0, none⟩) badsL from hr1)
  clear hr1
  simp only [badsL, List.flatMap_cons, List.flatMap_nil, Bk.cells, List.cons_append, List.nil_append, List.append_nil] at hwa
  have hwa2 : w.alloc (.cells #[.int .i64 128, .int .i64 2, .int .i64 0, .int .i64 0, .bool false, .int .u64 0, .int .i64 128, .int .i64 2, .int .i64 3, .int .i64 0, .bool false, .int .u64 0, .int .i64 128, .int .i64 3, .int .i64 1, .int .i64 0, .bool false, .int .u64 0, .int .i64 128, .int .i64 0, .int .i64 1, .int .i64 0, .bool false, .int .u64 0, .int .i64 129, .int .i64 2, .int .i64 1, .int .i64 0, .bool false, .int .u64 0, .int .i64 126, .int .i64 2, .int .i64 1, .int .i64 0, .bool false, .int .u64 0, .int .i64 2048, .int .i64 2, .int .i64 2, .int .i64 0, .bool false, .int .u64 0, .int .i64 128, .int .i64 1922, .int .i64 2, .int .i64 0, .bool false, .int .u64 0, .int .i64 128, .int .i64 9223372036854775806, .int .i64 2, .int .i64 0, .bool false, .int .u64 0, .int .i64 (-2), .int .i64 2, .int .i64 1, .int .i64 0, .bool false, .int .u64 0] 24) = wa := hwa
  rw [hwa2]
  clear hwa hwa2
  have hz1 := hb1.size
  go_wp2_with fail
  go_loopw [2] (fun i wr => ∃ k : Nat, k ≤ 10 ∧ i = .int .i64 k ∧ Below (w.heap.size + 1) wa wr) (fun i _ => 10 - (intOf i).toNat)
  case atStart => exact ⟨0, Nat.zero_le _, rfl, Below.refl _ _⟩
  case round =>
    obtain ⟨k, hk, rfl, hB⟩ := hrel
    have hz := hB.size
    by_cases hlt : k < 10
    · have hr2 := (RdB.from_ (show RdB wr (w.heap.size + 1) (some ⟨w.heap.size, 0, none⟩) badsL from HR1.out.below hB) k).take_ 1
      rw [Nat.zero_add] at hr2
      have HR2 := Lib.hid hr2
      have H8 := Lib.hid (badsL_8 k hlt)
      have HL1 := Lib.hid (show ((badsL.drop k).take 1).length = 1 by simp [badsL]; omega)
      clear hr2
      go_wp2_with fail
      refine (refused_c _ _ _ 1 _ HL1.out (by omega) (show RdB wr wr.heap.size _ _ from HR2.out.more (by omega)) H8.out).mono ?_
      rintro e w2 ⟨rfl, hB2⟩
      have hB3 := hB.trans (hB2.mono (by omega))
      go_wp2_with fail
      go_roundw
      case rel => exact ⟨k + 1, by omega, by go_num, hB3⟩
      case measure => simp [intOf]; omega
    · obtain rfl : k = 10 := by omega
      have hb2 := hb1.trans (hB.mono (by omega))
      have hz2 := hb2.size
      clear hB hz hk hlt
      obtain ⟨w2, hw2⟩ : ∃ w2, w2 = wr := ⟨_, rfl⟩
      subst hw2
      rw [show ((10 : Nat) : Int) = 10 from rfl]
      go_wp2_with fail
      go_loopw [3, 4] (fun v i wr => ∃ k : Nat, k ≤ 1025 ∧ i = .int .i64 k ∧ wr.ownsRow w.heap.size 24 6 v k ((manyL k).flatMap Bk.cells) ∧ Below w.heap.size w wr) (fun _ i _ => 1025 - (intOf i).toNat)
      case atStart => exact ⟨0, Nat.zero_le _, rfl, World.ownsRow_nil _ _ _ _, hb2⟩
      case round =>
        obtain ⟨k, hk, rfl, hown, hB⟩ := hrel
        have hz := hB.size
        by_cases hlt : k < 1025
        · have HN := Lib.hid (show (manyL (k + 1)).flatMap Bk.cells = (manyL k).flatMap Bk.cells ++ [.int .i64 (128 + 2 * (k : Int)), .int .i64 2, .int .i64 1, .int .i64 0, .bool true, .int .u64 0] by rw [manyL_snoc, flat_snoc]; rfl)
          go_wp2_with (at_builtin; refine wpList_append_own _ rfl _ _ 25 rfl w.heap.size 24 i0 _ 6 48 Try.underlying25 HI.out HZ0.out HZ1.out HZ2.out rfl (by decide) _ _ _ rfl (hown.alloc _) ⟨_, 0, none⟩ 1 1 [.int .i64 (128 + 2 * (k : Int)), .int .i64 2, .int .i64 1, .int .i64 0, .bool true, .int .u64 0] rfl rfl (news_new _ _ _) (by simp [Value.oneCell']) (by unfold maxLen; omega) (by omega) (le_alloc_ hB.size) ?_; intro v1 w2 hown1 hg1 _; have hB2 := below_append hB hB.size hown hg1)
          go_roundw
          case rel => exact ⟨k + 1, by omega, by go_num, by rw [HN.out]; exact hown1, hB2⟩
          case measure => simp [intOf]; omega
        · obtain rfl : k = 1025 := by omega
          clear hk hlt
          have hze := hown.2
          rcases hze with ⟨-, h0⟩ | ⟨g, cap, cur, rfl, -, -, hle, -⟩
          · simp at h0
          have hrm := Lib.hid (show RdB wr wr.heap.size (some ⟨g, 0, none⟩) (manyL 1025) from Rd.of_own hown)
          clear hown
          rw [show ((1025 : Nat) : Int) = 1025 from rfl]
          go_wp2_with fail
          have hr3 := hrm.out.take_ 960
          rw [manyL_take (by omega)] at hr3
          refine (end_c _ (manyL 960) _ 960 128 _ (manyL_len _) (by omega) hr3 (by omega)).mono ?_
          rintro e w3 ⟨rfl, hB3⟩
          have hz3 := hB3.size
          have hb3 := hB.trans (hB3.mono hz)
          have hrm3 := Lib.hid (show RdB w3 wr.heap.size (some ⟨g, 0, none⟩) (manyL 1025) from hrm.out.below hB3)
          rw [many960_end]
          clear hr3
          go_wp2_with fail
          refine (end_c none [] 0 0 2048 _ rfl (by omega) Rd.nil_ (by omega)).mono ?_
          rintro e w4 ⟨rfl, hB4⟩
          have hz4 := hB4.size
          have hb4 := hb3.trans (hB4.mono hb3.size)
          have hrm4 := Lib.hid (show RdB w4 wr.heap.size (some ⟨g, 0, none⟩) (manyL 1025) from hrm3.out.below (hB4.mono hz3))
          rw [nil_end]
          go_wp2_with fail
          refine (gaps_c none [] 0 0 _ rfl (by omega) Rd.nil_).mono ?_
          rintro e w5 ⟨rfl, hB5⟩
          have hz5 := hB5.size
          have hb5 := hb4.trans (hB5.mono hb4.size)
          have hrm5 := Lib.hid (show RdB w5 wr.heap.size (some ⟨g, 0, none⟩) (manyL 1025) from hrm4.out.below (hB5.mono (by omega)))
          rw [nil_gap]
          go_wp2_with fail
          refine (places_c none [] 0 0 128 _ rfl (by omega) Rd.nil_ (by omega)).mono ?_
          rintro e w6 ⟨⟨P, cp, rfl, -, -⟩, hB6⟩
          have hz6 := hB6.size
          have hb6 := hb5.trans (hB6.mono hb5.size)
          have hrm6 := Lib.hid (show RdB w6 wr.heap.size (some ⟨g, 0, none⟩) (manyL 1025) from hrm5.out.below (hB6.mono (by omega)))
          rw [show plOut [] 128 = [] from by decide +kernel, show stErr [] 128 = 0 from by decide +kernel]
          clear hrm hrm3 hrm4 hrm5
          go_wp2_with fail
          have hr7 := rd_new w6 (L46.flatMap Bk.cells) 24
          have hb6a := hb6.alloc hb6.size (.cells (L46.flatMap Bk.cells).toArray 24)
          have hz6a := hb6a.size
          refine (end_c _ L46 _ 1 128 _ rfl (by omega) (by rw [World.size_alloc]; exact hr7) (by omega)).mono ?_
          rintro e w7 ⟨rfl, hB7⟩
          have hb7 := hb6a.trans (hB7.mono hz6a)
          have hz7 : w6.heap.size + 1 ≤ w7.heap.size := by have := hB7.size; rw [World.size_alloc] at this; exact this
          have hrm7 := Lib.hid (show RdB w7 wr.heap.size (some ⟨g, 0, none⟩) (manyL 1025) from (hrm6.out.alloc (by omega) _).below (hB7.mono (by rw [World.size_alloc]; omega)))
          rw [show endRes L46 128 = _ from one_end]
          clear hr7 hrm6
          have hwr7 : wr.heap.size ≤ w7.heap.size := by omega
          have z20 : stErr exL 126 = 2 := by decide +kernel
          have z21 : stErr exL 129 = 2 := by decide +kernel
          have z22 : stErr exL 130 = 2 := by decide +kernel
          have z23 : stErr [] 2050 = 2 := by decide +kernel
          have z24 : stErr [] 9223372036854775807 = 2 := by decide +kernel
          have z81 : rowErr L02 = 8 := by decide +kernel
          have z82 : rowErr L10 = 8 := by decide +kernel
          have Z20 := Lib.hid z20
          have Z21 := Lib.hid z21
          have Z22 := Lib.hid z22
          have Z23 := Lib.hid z23
          have Z24 := Lib.hid z24
          have Z81 := Lib.hid z81
          have Z82 := Lib.hid z82
          clear z20 z21 z22 z23 z24 z81 z82 HWA HR1 hb1 hz1 hs1 hb2 hz2 hB hz hB3 hz3 hb3 hB4 hz4 hb4 hB5 hz5 hb5 hB6 hz6 hb6 hb6a hz6a hB7
          go_wp2_with fail
          have hcap : (961 : Int) ≤ (cap : Int) := by omega
          have ct0 : ∀ q : SW (fun X : World => Below w7.heap.size w7 X), q.w.cell? ⟨g, 0, none⟩ = some (.int .i64 128) := fun q => (many_at (Rd.below hrm7.out (q.ok.mono hwr7)) (k := 0) (by omega)).1
          have ct1 : ∀ q : SW (fun X : World => Below w7.heap.size w7 X), q.w.cell? ⟨g, 1, none⟩ = some (.int .i64 2) := fun q => (many_at (Rd.below hrm7.out (q.ok.mono hwr7)) (k := 0) (by omega)).2.1
          have ct2 : ∀ q : SW (fun X : World => Below w7.heap.size w7 X), q.w.cell? ⟨g, 2, none⟩ = some (.int .i64 1) := fun q => (many_at (Rd.below hrm7.out (q.ok.mono hwr7)) (k := 0) (by omega)).2.2.1
          have ct3 : ∀ q : SW (fun X : World => Below w7.heap.size w7 X), q.w.cell? ⟨g, 3, none⟩ = some (.int .i64 0) := fun q => (many_at (Rd.below hrm7.out (q.ok.mono hwr7)) (k := 0) (by omega)).2.2.2.1
          have ct4 : ∀ q : SW (fun X : World => Below w7.heap.size w7 X), q.w.cell? ⟨g, 4, none⟩ = some (.bool true) := fun q => (many_at (Rd.below hrm7.out (q.ok.mono hwr7)) (k := 0) (by omega)).2.2.2.2.1
          have ct5 : ∀ q : SW (fun X : World => Below w7.heap.size w7 X), q.w.cell? ⟨g, 5, none⟩ = some (.int .u64 0) := fun q => (many_at (Rd.below hrm7.out (q.ok.mono hwr7)) (k := 0) (by omega)).2.2.2.2.2
          have ct6 : ∀ q : SW (fun X : World => Below w7.heap.size w7 X), q.w.cell? ⟨g, 6, none⟩ = some (.int .i64 130) := fun q => (many_at (Rd.below hrm7.out (q.ok.mono hwr7)) (k := 1) (by omega)).1
          have ct7 : ∀ q : SW (fun X : World => Below w7.heap.size w7 X), q.w.cell? ⟨g, 7, none⟩ = some (.int .i64 2) := fun q => (many_at (Rd.below hrm7.out (q.ok.mono hwr7)) (k := 1) (by omega)).2.1
          have ct8 : ∀ q : SW (fun X : World => Below w7.heap.size w7 X), q.w.cell? ⟨g, 8, none⟩ = some (.int .i64 1) := fun q => (many_at (Rd.below hrm7.out (q.ok.mono hwr7)) (k := 1) (by omega)).2.2.1
          have ct9 : ∀ q : SW (fun X : World => Below w7.heap.size w7 X), q.w.cell? ⟨g, 9, none⟩ = some (.int .i64 0) := fun q => (many_at (Rd.below hrm7.out (q.ok.mono hwr7)) (k := 1) (by omega)).2.2.2.1
          have ct10 : ∀ q : SW (fun X : World => Below w7.heap.size w7 X), q.w.cell? ⟨g, 10, none⟩ = some (.bool true) := fun q => (many_at (Rd.below hrm7.out (q.ok.mono hwr7)) (k := 1) (by omega)).2.2.2.2.1
          have ct11 : ∀ q : SW (fun X : World => Below w7.heap.size w7 X), q.w.cell? ⟨g, 11, none⟩ = some (.int .u64 0) := fun q => (many_at (Rd.below hrm7.out (q.ok.mono hwr7)) (k := 1) (by omega)).2.2.2.2.2
          have ct12 : ∀ q : SW (fun X : World => Below w7.heap.size w7 X), q.w.cell? ⟨g, 12, none⟩ = some (.int .i64 132) := fun q => (many_at (Rd.below hrm7.out (q.ok.mono hwr7)) (k := 2) (by omega)).1
          have ct13 : ∀ q : SW (fun X : World => Below w7.heap.size w7 X), q.w.cell? ⟨g, 13, none⟩ = some (.int .i64 2) := fun q => (many_at (Rd.below hrm7.out (q.ok.mono hwr7)) (k := 2) (by omega)).2.1
          have ct14 : ∀ q : SW (fun X : World => Below w7.heap.size w7 X), q.w.cell? ⟨g, 14, none⟩ = some (.int .i64 1) := fun q => (many_at (Rd.below hrm7.out (q.ok.mono hwr7)) (k := 2) (by omega)).2.2.1
          have ct15 : ∀ q : SW (fun X : World => Below w7.heap.size w7 X), q.w.cell? ⟨g, 15, none⟩ = some (.int .i64 0) := fun q => (many_at (Rd.below hrm7.out (q.ok.mono hwr7)) (k := 2) (by omega)).2.2.2.1
          have ct16 : ∀ q : SW (fun X : World => Below w7.heap.size w7 X), q.w.cell? ⟨g, 16, none⟩ = some (.bool true) := fun q => (many_at (Rd.below hrm7.out (q.ok.mono hwr7)) (k := 2) (by omega)).2.2.2.2.1
          have ct17 : ∀ q : SW (fun X : World => Below w7.heap.size w7 X), q.w.cell? ⟨g, 17, none⟩ = some (.int .u64 0) := fun q => (many_at (Rd.below hrm7.out (q.ok.mono hwr7)) (k := 2) (by omega)).2.2.2.2.2
          refine wp_region_seq (S := fun X : World => Below w7.heap.size w7 X) ((0, 0, 0) :: (1, 1, 0) :: (0, 2, 0) :: (0, 3, 0) :: (0, 4, 0) :: (1, 5, 0) :: (0, 6, 0) :: (0, 7, 0) :: (0, 8, 0) :: (0, 9, 0) :: (1, 10, 0) :: (0, 11, 0) :: (0, 12, 0) :: (0, 13, 0) :: (0, 14, 0) :: (0, 15, 0) :: (0, 16, 0) :: (0, 17, 0) :: (0, 18, 0) :: (1, 19, 0) :: (1, 20, 0) :: (0, 21, 0) :: (0, 22, 0) :: (0, 23, 0) :: (0, 24, 0) :: (0, 25, 0) :: (0, 26, 0) :: (0, 27, 0) :: (0, 28, 0) :: (1, 29, 0) :: (1, 30, 0) :: (0, 31, 0) :: (0, 32, 0) :: (0, 33, 0) :: (0, 34, 0) :: (0, 35, 0) :: (0, 36, 0) :: (0, 37, 0) :: (0, 38, 0) :: (0, 39, 0) :: (0, 40, 0) :: (0, 41, 0) :: (0, 42, 0) :: (0, 43, 0) :: (0, 44, 0) :: (0, 45, 0) :: (0, 46, 0) :: (0, 47, 0) :: (0, 48, 0) :: (0, 49, 0) :: (0, 50, 0) :: (0, 51, 0) :: (0, 52, 0) :: (0, 53, 0) :: (0, 54, 0) :: (0, 55, 0) :: (0, 56, 0) :: (0, 57, 0) :: (0, 58, 0) :: (0, 59, 0) :: (0, 60, 0) :: (0, 61, 0) :: (1, 62, 0) :: (0, 63, 0) :: (0, 64, 0) :: (0, 65, 0) :: (0, 66, 0) :: (0, 67, 0) :: (0, 68, 0) :: (0, 69, 0) :: (0, 70, 0) :: (0, 71, 0) :: (0, 72, 0) :: (0, 73, 0) :: (1, 74, 0) :: (1, 75, 0) :: (0, 76, 0) :: (0, 77, 0) :: (1, 78, 0) :: (1, 79, 0) :: (0, 80, 0) :: (0, 81, 0) :: (1, 82, 0) :: (1, 83, 0) :: (0, 84, 0) :: (0, 85, 0) :: (1, 86, 0) :: (0, 87, 0) :: (0, 88, 0) :: (1, 89, 0) :: (0, 90, 0) :: (0, 91, 0) :: []) (.one _ true (none) :: .one _ false (some (some 74, true)) :: .one _ true (none) :: .one _ true (none) :: .one _ true (some (some 77, true)) :: .one _ false (some (some 77, true)) :: .one _ true (none) :: .one _ true (none) :: .one _ true (some (some 81, true)) :: .one _ true (some (some 81, true)) :: .one _ false (some (some 81, true)) :: .one _ true (none) :: .one _ true (none) :: .one _ true (some (some 86, true)) :: .one _ true (some (some 86, true)) :: .one _ true (some (some 86, true)) :: .one _ true (some (some 86, true)) :: .one _ true (some (some 86, true)) :: .one _ true (some (some 86, true)) :: .one _ false (some (some 86, true)) :: .one _ false (some (some 86, true)) :: .one _ true (none) :: .one _ true (none) :: .one _ true (some (some 96, true)) :: .one _ true (some (some 96, true)) :: .one _ true (some (some 96, true)) :: .one _ true (some (some 96, true)) :: .one _ true (some (some 96, true)) :: .one _ true (some (some 96, true)) :: .one _ false (some (some 96, true)) :: .one _ false (some (some 96, true)) :: .one _ true (none) :: .one _ true (none) :: .one _ true (some (some 106, true)) :: .one _ true (some (some 106, true)) :: .one _ true (none) :: .one _ true (none) :: .one _ true (some (some 110, true)) :: .one _ true (some (some 110, true)) :: .one _ true (none) :: .one _ true (none) :: .one _ true (some (some 114, true)) :: .one _ true (some (some 114, true)) :: .one _ true (none) :: .one _ true (none) :: .one _ true (some (some 118, true)) :: .one _ true (some (some 118, true)) :: .one _ true (none) :: .one _ true (none) :: .one _ true (some (some 122, true)) :: .one _ true (some (some 122, true)) :: .one _ true (none) :: .one _ true (none) :: .one _ true (some (some 126, true)) :: .one _ true (some (some 126, true)) :: .one _ true (none) :: .one _ true (none) :: .one _ true (some (some 130, true)) :: .one _ true (some (some 130, true)) :: .one _ true (none) :: .one _ true (none) :: .one _ true (some (some 134, true)) :: .one _ false (some (some 134, true)) :: .one _ true (some (some 134, true)) :: .one _ true (none) :: .one _ true (none) :: .one _ true (some (some 139, true)) :: .one _ true (some (some 139, true)) :: .one _ true (none) :: .one _ true (none) :: .one _ true (some (some 143, true)) :: .one _ true (some (some 143, true)) :: .one _ true (none) :: .one _ true (none) :: .one _ false (some (some 147, true)) :: .one _ false (some (some 147, true)) :: .one _ true (none) :: .one _ true (none) :: .one _ false (some (some 151, true)) :: .one _ false (some (some 151, true)) :: .one _ true (none) :: .one _ true (none) :: .one _ false (some (some 155, true)) :: .one _ false (some (some 155, true)) :: .one _ true (none) :: .one _ true (none) :: .one _ false (some (some 159, true)) :: .one _ true (none) :: .one _ true (none) :: .one _ false (some (some 162, true)) :: .one _ true (none) :: .one _ true (none) :: []) (by kernel_rfl) (by kernel_rfl) (by decide) (by show seqOk _ _ (((0, 0, 0) :: (1, 1, 0) :: (0, 2, 0) :: (0, 3, 0) :: (0, 4, 0) :: (1, 5, 0) :: (0, 6, 0) :: (0, 7, 0) :: (0, 8, 0) :: (0, 9, 0) :: []) ++ (((1, 10, 0) :: (0, 11, 0) :: (0, 12, 0) :: (0, 13, 0) :: (0, 14, 0) :: (0, 15, 0) :: (0, 16, 0) :: (0, 17, 0) :: (0, 18, 0) :: (1, 19, 0) :: []) ++ (((1, 20, 0) :: (0, 21, 0) :: (0, 22, 0) :: (0, 23, 0) :: (0, 24, 0) :: (0, 25, 0) :: (0, 26, 0) :: (0, 27, 0) :: (0, 28, 0) :: (1, 29, 0) :: []) ++ (((1, 30, 0) :: (0, 31, 0) :: (0, 32, 0) :: (0, 33, 0) :: (0, 34, 0) :: (0, 35, 0) :: (0, 36, 0) :: (0, 37, 0) :: (0, 38, 0) :: (0, 39, 0) :: []) ++ (((0, 40, 0) :: (0, 41, 0) :: (0, 42, 0) :: (0, 43, 0) :: (0, 44, 0) :: (0, 45, 0) :: (0, 46, 0) :: (0, 47, 0) :: (0, 48, 0) :: (0, 49, 0) :: []) ++ (((0, 50, 0) :: (0, 51, 0) :: (0, 52, 0) :: (0, 53, 0) :: (0, 54, 0) :: (0, 55, 0) :: (0, 56, 0) :: (0, 57, 0) :: (0, 58, 0) :: (0, 59, 0) :: []) ++ (((0, 60, 0) :: (0, 61, 0) :: (1, 62, 0) :: (0, 63, 0) :: (0, 64, 0) :: (0, 65, 0) :: (0, 66, 0) :: (0, 67, 0) :: (0, 68, 0) :: (0, 69, 0) :: []) ++ (((0, 70, 0) :: (0, 71, 0) :: (0, 72, 0) :: (0, 73, 0) :: (1, 74, 0) :: (1, 75, 0) :: (0, 76, 0) :: (0, 77, 0) :: (1, 78, 0) :: (1, 79, 0) :: []) ++ (((0, 80, 0) :: (0, 81, 0) :: (1, 82, 0) :: (1, 83, 0) :: (0, 84, 0) :: (0, 85, 0) :: (1, 86, 0) :: (0, 87, 0) :: (0, 88, 0) :: (1, 89, 0) :: []) ++ (((0, 90, 0) :: (0, 91, 0) :: []))))))))))) _ = true; refine seqOk_app _ (by as_aux_lemma => kernel_rfl) ?_; refine seqOk_app _ (by as_aux_lemma => kernel_rfl) ?_; refine seqOk_app _ (by as_aux_lemma => kernel_rfl) ?_; refine seqOk_app _ (by as_aux_lemma => kernel_rfl) ?_; refine seqOk_app _ (by as_aux_lemma => kernel_rfl) ?_; refine seqOk_app _ (by as_aux_lemma => kernel_rfl) ?_; refine seqOk_app _ (by as_aux_lemma => kernel_rfl) ?_; refine seqOk_app _ (by as_aux_lemma => kernel_rfl) ?_; refine seqOk_app _ (by as_aux_lemma => kernel_rfl) ?_; (as_aux_lemma => kernel_rfl)) (by rfl) (fun _ _ d _ _ h => by cases d <;> exact h) (Below.refl _ _).drew ?_
          have HX0 := Lib.hid ((Below.refl w7.heap.size w7).drew)
          obtain ⟨X0, hX0⟩ : ∃ X, w7.drew = X := ⟨_, rfl⟩
          rw [hX0] at HX0 ⊢
          clear hX0
          have hne : Nonempty (SW (fun X : World => Below w7.heap.size w7 X)) := ⟨⟨X0, HX0.out⟩⟩
          refine seq_take (by rfl) ?_
          intro K hK
          go_big_quiet_op
          go_big_quiet_on
          refine seq_do (by rfl) ?_
          intro K hK
          go_big_op
          refine (alive26_c _).mono ?_
          rintro e X1 ⟨rfl, hb⟩
          have HX1 := Lib.hid (HX0.out.trans (hb.mono HX0.out.size))
          refine hK _ _ HX1.out ?_
          clear hK K hb
          (try simp only [Act.put, List.setIfInBounds_toArray, List.set_cons_zero, List.set_cons_succ])
          refine seq_take (by rfl) ?_
          intro K hK
          go_big_quiet_op
          go_big_quiet_on
          refine seq_take (by rfl) ?_
          intro K hK
          go_big_quiet_op
          go_big_quiet_on
          refine seq_take (by rfl) ?_
          intro K hK
          go_big_quiet_op
          go_big_quiet_on
          refine seq_do (by rfl) ?_
          intro K hK
          go_big_op
          refine (refused_c (some ⟨g, 0, none⟩) (manyL 1025) cap 1025 _ (manyL_len _) (by omega) (nm_rd hrm7.out hwr7 HX1.out) manyL_1025).mono ?_
          rintro e X2 ⟨rfl, hb⟩
          have HX2 := Lib.hid (HX1.out.trans (hb.mono HX1.out.size))
          refine hK _ _ HX2.out ?_
          clear hK K hb
          (try simp only [Act.put, List.setIfInBounds_toArray, List.set_cons_zero, List.set_cons_succ])
          refine seq_take (by rfl) ?_
          intro K hK
          go_big_quiet_op
          go_big_quiet_on
          refine seq_take (by rfl) ?_
          intro K hK
          go_big_quiet_op
          go_big_quiet_on
          refine seq_take (by rfl) ?_
          intro K hK
          go_big_quiet_op
          go_big_quiet_on
          refine seq_take (by rfl) ?_
          intro K hK
          go_big_quiet_op
          go_big_quiet_on
          refine seq_do (by rfl) ?_
          intro K hK
          go_big_op
          refine (refused_c (some ⟨g, 0, none⟩) (manyL 961) cap 961 _ (manyL_len _) (by omega) (nm_rd961 hrm7.out hwr7 HX2.out) manyL_961).mono ?_
          rintro e X3 ⟨rfl, hb⟩
          have HX3 := Lib.hid (HX2.out.trans (hb.mono HX2.out.size))
          refine hK _ _ HX3.out ?_
          clear hK K hb
          (try simp only [Act.put, List.setIfInBounds_toArray, List.set_cons_zero, List.set_cons_succ])
          refine seq_take (by rfl) ?_
          intro K hK
          go_big_quiet_op
          go_big_quiet_on
          refine seq_take (by rfl) ?_
          intro K hK
          go_big_quiet_op
          go_big_quiet_on
          refine seq_take (by rfl) ?_
          intro K hK
          go_big_quiet_op
          go_big_quiet_on
          refine seq_take (by rfl) ?_
          intro K hK
          go_big_quiet_op
          go_big_quiet_on
          refine seq_take (by rfl) ?_
          intro K hK
          go_big_quiet_op
          go_big_quiet_on
          refine seq_take (by rfl) ?_
          intro K hK
          go_big_quiet_op
          go_big_quiet_on
          refine seq_take (by rfl) ?_
          intro K hK
          go_big_quiet_op
          go_big_quiet_on
          refine seq_take (by rfl) ?_
          intro K hK
          go_big_quiet_op
          go_big_quiet_on
          refine seq_do (by rfl) ?_
          intro K hK
          go_big_op
          have hb : Below X3.heap.size X3 (X3.alloc (.cells (L02.flatMap Bk.cells).toArray 24)) := (Below.refl _ _).alloc (Nat.le_refl _) _
          have hrn : RdB (X3.alloc (.cells (L02.flatMap Bk.cells).toArray 24)) (X3.alloc (.cells (L02.flatMap Bk.cells).toArray 24)).heap.size (some ⟨X3.heap.size, 0, none⟩) L02 := rd_new' rfl
          have HX4 := Lib.hid (HX3.out.trans (hb.mono HX3.out.size))
          have HRN := Lib.hid hrn
          refine hK _ (X3.alloc (.cells (L02.flatMap Bk.cells).toArray 24)) HX4.out ?_
          clear hK K hb hrn
          generalize X3.alloc (.cells (L02.flatMap Bk.cells).toArray 24) = X4 at HX4 HRN ⊢
          (try simp only [Act.put, List.setIfInBounds_toArray, List.set_cons_zero, List.set_cons_succ])
          refine seq_do (by rfl) ?_
          intro K hK
          go_big_op
          refine (refused_c _ L02 2 2 _ rfl (by omega) HRN.out Z81.out).mono ?_
          rintro e X5 ⟨rfl, hb⟩
          have HX5 := Lib.hid (HX4.out.trans (hb.mono HX4.out.size))
          refine hK _ _ HX5.out ?_
          clear hK K hb
          (try simp only [Act.put, List.setIfInBounds_toArray, List.set_cons_zero, List.set_cons_succ])
          clear HRN
          refine seq_take (by rfl) ?_
          intro K hK
          go_big_quiet_op
          go_big_quiet_on
          refine seq_take (by rfl) ?_
          intro K hK
          go_big_quiet_op
          go_big_quiet_on
          refine seq_take (by rfl) ?_
          intro K hK
          go_big_quiet_op
          go_big_quiet_on
          refine seq_take (by rfl) ?_
          intro K hK
          go_big_quiet_op
          go_big_quiet_on
          refine seq_take (by rfl) ?_
          intro K hK
          go_big_quiet_op
          go_big_quiet_on
          refine seq_take (by rfl) ?_
          intro K hK
          go_big_quiet_op
          go_big_quiet_on
          refine seq_take (by rfl) ?_
          intro K hK
          go_big_quiet_op
          go_big_quiet_on
          refine seq_take (by rfl) ?_
          intro K hK
          go_big_quiet_op
          go_big_quiet_on
          refine seq_do (by rfl) ?_
          intro K hK
          go_big_op
          have hb : Below X5.heap.size X5 (X5.alloc (.cells (L10.flatMap Bk.cells).toArray 24)) := (Below.refl _ _).alloc (Nat.le_refl _) _
          have hrn : RdB (X5.alloc (.cells (L10.flatMap Bk.cells).toArray 24)) (X5.alloc (.cells (L10.flatMap Bk.cells).toArray 24)).heap.size (some ⟨X5.heap.size, 0, none⟩) L10 := rd_new' rfl
          have HX6 := Lib.hid (HX5.out.trans (hb.mono HX5.out.size))
          have HRN := Lib.hid hrn
          refine hK _ (X5.alloc (.cells (L10.flatMap Bk.cells).toArray 24)) HX6.out ?_
          clear hK K hb hrn
          generalize X5.alloc (.cells (L10.flatMap Bk.cells).toArray 24) = X6 at HX6 HRN ⊢
          (try simp only [Act.put, List.setIfInBounds_toArray, List.set_cons_zero, List.set_cons_succ])
          refine seq_do (by rfl) ?_
          intro K hK
          go_big_op
          refine (refused_c _ L10 2 2 _ rfl (by omega) HRN.out Z82.out).mono ?_
          rintro e X7 ⟨rfl, hb⟩
          have HX7 := Lib.hid (HX6.out.trans (hb.mono HX6.out.size))
          refine hK _ _ HX7.out ?_
          clear hK K hb
          (try simp only [Act.put, List.setIfInBounds_toArray, List.set_cons_zero, List.set_cons_succ])
          clear HRN
          refine seq_take (by rfl) ?_
          intro K hK
          go_big_quiet_op
          go_big_quiet_on
          refine seq_take (by rfl) ?_
          intro K hK
          go_big_quiet_op
          go_big_quiet_on
          refine seq_take (by rfl) ?_
          intro K hK
          go_big_quiet_op
          go_big_quiet_on
          refine seq_take (by rfl) ?_
          intro K hK
          go_big_quiet_op
          go_big_quiet_on
          refine seq_take (by rfl) ?_
          intro K hK
          go_big_quiet_op
          go_big_quiet_on
          refine seq_take (by rfl) ?_
          intro K hK
          go_big_quiet_op
          go_big_quiet_on
          refine seq_take (by rfl) ?_
          intro K hK
          go_big_quiet_op
          go_big_quiet_on
          refine seq_take (by rfl) ?_
          intro K hK
          go_big_quiet_op
          go_big_quiet_on
          refine seq_take (by rfl) ?_
          intro K hK
          go_big_quiet_op
          go_big_quiet_on
          refine seq_take (by rfl) ?_
          intro K hK
          go_big_quiet_op
          go_big_quiet_on
          refine seq_take (by rfl) ?_
          intro K hK
          go_big_quiet_op
          go_big_quiet_on
          refine seq_take (by rfl) ?_
          intro K hK
          go_big_quiet_op
          go_big_quiet_on
          refine seq_take (by rfl) ?_
          intro K hK
          go_big_quiet_op
          go_big_quiet_on
          refine seq_take (by rfl) ?_
          intro K hK
          go_big_quiet_op
          go_big_quiet_on
          refine seq_take (by rfl) ?_
          intro K hK
          go_big_quiet_op
          go_big_quiet_on
          refine seq_take (by rfl) ?_
          intro K hK
          go_big_quiet_op
          go_big_quiet_on
          refine seq_take (by rfl) ?_
          intro K hK
          go_big_quiet_op
          go_big_quiet_on
          refine seq_take (by rfl) ?_
          intro K hK
          go_big_quiet_op
          go_big_quiet_on
          refine seq_take (by rfl) ?_
          intro K hK
          go_big_quiet_op
          go_big_quiet_on
          refine seq_take (by rfl) ?_
          intro K hK
          go_big_quiet_op
          go_big_quiet_on
          refine seq_take (by rfl) ?_
          intro K hK
          go_big_quiet_op
          go_big_quiet_on
          refine seq_take (by rfl) ?_
          intro K hK
          go_big_quiet_op
          go_big_quiet_on
          refine seq_take (by rfl) ?_
          intro K hK
          go_big_quiet_op
          go_big_quiet_on
          refine seq_take (by rfl) ?_
          intro K hK
          go_big_quiet_op
          go_big_quiet_on
          refine seq_take (by rfl) ?_
          intro K hK
          go_big_quiet_op
          go_big_quiet_on
          refine seq_take (by rfl) ?_
          intro K hK
          go_big_quiet_op
          go_big_quiet_on
          refine seq_take (by rfl) ?_
          intro K hK
          go_big_quiet_op
          go_big_quiet_on
          refine seq_take (by rfl) ?_
          intro K hK
          go_big_quiet_op
          go_big_quiet_on
          refine seq_take (by rfl) ?_
          intro K hK
          go_big_quiet_op
          go_big_quiet_on
          refine seq_take (by rfl) ?_
          intro K hK
          go_big_quiet_op
          go_big_quiet_on
          refine seq_take (by rfl) ?_
          intro K hK
          go_big_quiet_op
          go_big_quiet_on
          refine seq_do (by rfl) ?_
          intro K hK
          go_big_op
          refine hK _ _ HX7.out ?_
          clear hK K
          (try simp only [Act.put, List.setIfInBounds_toArray, List.set_cons_zero, List.set_cons_succ])
          refine seq_take (by rfl) ?_
          intro K hK
          go_big_quiet_op
          go_big_quiet_on
          refine seq_take (by rfl) ?_
          intro K hK
          go_big_quiet_op
          go_big_quiet_on
          refine seq_take (by rfl) ?_
          intro K hK
          go_big_quiet_op
          go_big_quiet_on
          refine seq_take (by rfl) ?_
          intro K hK
          go_big_quiet_op
          go_big_quiet_on
          refine seq_take (by rfl) ?_
          intro K hK
          go_big_quiet_op
          go_big_quiet_on
          refine seq_take (by rfl) ?_
          intro K hK
          go_big_quiet_op
          go_big_quiet_on
          refine seq_take (by rfl) ?_
          intro K hK
          go_big_quiet_op
          go_big_quiet_on
          refine seq_take (by rfl) ?_
          intro K hK
          go_big_quiet_op
          go_big_quiet_on
          refine seq_take (by rfl) ?_
          intro K hK
          go_big_quiet_op
          go_big_quiet_on
          refine seq_take (by rfl) ?_
          intro K hK
          go_big_quiet_op
          go_big_quiet_on
          refine seq_take (by rfl) ?_
          intro K hK
          go_big_quiet_op
          go_big_quiet_on
          refine seq_do (by rfl) ?_
          intro K hK
          go_big_op
          refine (example_c _).mono ?_
          rintro e Y ⟨rfl, rfl⟩
          have hb : Below X7.heap.size X7 (X7.alloc (.cells (exL.flatMap Bk.cells).toArray 24)) := (Below.refl _ _).alloc (Nat.le_refl _) _
          have HX8 := Lib.hid (HX7.out.trans (hb.mono HX7.out.size))
          have HRN := Lib.hid (exL_rd X7)
          refine hK _ _ HX8.out ?_
          clear hK K hb
          generalize X7.alloc (.cells (exL.flatMap Bk.cells).toArray 24) = X8 at HX8 HRN ⊢
          (try simp only [Act.put, List.setIfInBounds_toArray, List.set_cons_zero, List.set_cons_succ])
          refine seq_do (by rfl) ?_
          intro K hK
          go_big_op
          refine (wrong_c _ exL 4 4 126 _ exL_len (by omega) HRN.out (by omega) Z20.out).mono ?_
          rintro e X9 ⟨rfl, hb⟩
          have HX9 := Lib.hid (HX8.out.trans (hb.mono HX8.out.size))
          refine hK _ _ HX9.out ?_
          clear hK K hb
          (try simp only [Act.put, List.setIfInBounds_toArray, List.set_cons_zero, List.set_cons_succ])
          clear HRN
          refine seq_take (by rfl) ?_
          intro K hK
          go_big_quiet_op
          go_big_quiet_on
          refine seq_take (by rfl) ?_
          intro K hK
          go_big_quiet_op
          go_big_quiet_on
          refine seq_do (by rfl) ?_
          intro K hK
          go_big_op
          refine (example_c _).mono ?_
          rintro e Y ⟨rfl, rfl⟩
          have hb : Below X9.heap.size X9 (X9.alloc (.cells (exL.flatMap Bk.cells).toArray 24)) := (Below.refl _ _).alloc (Nat.le_refl _) _
          have HX10 := Lib.hid (HX9.out.trans (hb.mono HX9.out.size))
          have HRN := Lib.hid (exL_rd X9)
          refine hK _ _ HX10.out ?_
          clear hK K hb
          generalize X9.alloc (.cells (exL.flatMap Bk.cells).toArray 24) = X10 at HX10 HRN ⊢
          (try simp only [Act.put, List.setIfInBounds_toArray, List.set_cons_zero, List.set_cons_succ])
          refine seq_do (by rfl) ?_
          intro K hK
          go_big_op
          refine (wrong_c _ exL 4 4 129 _ exL_len (by omega) HRN.out (by omega) Z21.out).mono ?_
          rintro e X11 ⟨rfl, hb⟩
          have HX11 := Lib.hid (HX10.out.trans (hb.mono HX10.out.size))
          refine hK _ _ HX11.out ?_
          clear hK K hb
          (try simp only [Act.put, List.setIfInBounds_toArray, List.set_cons_zero, List.set_cons_succ])
          clear HRN
          refine seq_take (by rfl) ?_
          intro K hK
          go_big_quiet_op
          go_big_quiet_on
          refine seq_take (by rfl) ?_
          intro K hK
          go_big_quiet_op
          go_big_quiet_on
          refine seq_do (by rfl) ?_
          intro K hK
          go_big_op
          refine (example_c _).mono ?_
          rintro e Y ⟨rfl, rfl⟩
          have hb : Below X11.heap.size X11 (X11.alloc (.cells (exL.flatMap Bk.cells).toArray 24)) := (Below.refl _ _).alloc (Nat.le_refl _) _
          have HX12 := Lib.hid (HX11.out.trans (hb.mono HX11.out.size))
          have HRN := Lib.hid (exL_rd X11)
          refine hK _ _ HX12.out ?_
          clear hK K hb
          generalize X11.alloc (.cells (exL.flatMap Bk.cells).toArray 24) = X12 at HX12 HRN ⊢
          (try simp only [Act.put, List.setIfInBounds_toArray, List.set_cons_zero, List.set_cons_succ])
          refine seq_do (by rfl) ?_
          intro K hK
          go_big_op
          refine (wrong_c _ exL 4 4 130 _ exL_len (by omega) HRN.out (by omega) Z22.out).mono ?_
          rintro e X13 ⟨rfl, hb⟩
          have HX13 := Lib.hid (HX12.out.trans (hb.mono HX12.out.size))
          refine hK _ _ HX13.out ?_
          clear hK K hb
          (try simp only [Act.put, List.setIfInBounds_toArray, List.set_cons_zero, List.set_cons_succ])
          clear HRN
          refine seq_take (by rfl) ?_
          intro K hK
          go_big_quiet_op
          go_big_quiet_on
          refine seq_take (by rfl) ?_
          intro K hK
          go_big_quiet_op
          go_big_quiet_on
          refine seq_do (by rfl) ?_
          intro K hK
          go_big_op
          refine (wrong_c none [] 0 0 2050 _ List.length_nil (by omega) (rdB_nil _ _) (by omega) Z23.out).mono ?_
          rintro e X14 ⟨rfl, hb⟩
          have HX14 := Lib.hid (HX13.out.trans (hb.mono HX13.out.size))
          refine hK _ _ HX14.out ?_
          clear hK K hb
          (try simp only [Act.put, List.setIfInBounds_toArray, List.set_cons_zero, List.set_cons_succ])
          refine seq_take (by rfl) ?_
          intro K hK
          go_big_quiet_op
          go_big_quiet_on
          refine seq_take (by rfl) ?_
          intro K hK
          go_big_quiet_op
          go_big_quiet_on
          refine seq_do (by rfl) ?_
          intro K hK
          go_big_op
          refine (wrong_c none [] 0 0 9223372036854775807 _ List.length_nil (by omega) (rdB_nil _ _) (by omega) Z24.out).mono ?_
          rintro e X15 ⟨rfl, hb⟩
          have HX15 := Lib.hid (HX14.out.trans (hb.mono HX14.out.size))
          refine hK _ _ HX15.out ?_
          clear hK K hb
          (try simp only [Act.put, List.setIfInBounds_toArray, List.set_cons_zero, List.set_cons_succ])
          refine seq_take (by rfl) ?_
          intro K hK
          go_big_quiet_op
          go_big_quiet_on
          refine seq_take (by rfl) ?_
          intro K hK
          go_big_quiet_op
          go_big_quiet_on
          refine seq_nil ?_
          clear hne ct0 ct1 ct2 ct3 ct4 ct5 ct6 ct7 ct8 ct9 ct10 ct11 ct12 ct13 ct14 ct15 ct16 ct17
          go_wp2_with fail
          go_ret
          exact ⟨rfl, hb7.trans (HX15.out.mono hb7.size)⟩
end Go.Proofs.Ytpmfiibndiecpaa
