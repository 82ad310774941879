/- The law MarkNames: limits and errors. -/
import Derived.Test.YtpmfiibndiecpaaAl25
import Derived.Test.YtpmfiibndiecpaaRcRun
import Derived.Test.YtpmfiibndiecpaaMk256
namespace Go.Proofs.Ytpmfiibndiecpaa
open Go.RowKit

def mnaL : List Nat := buildL 256 [[1]] [⟨0, 2, 1, 0, false, 0⟩] []
theorem mna_len : mnaL.length = 256 := by decide +kernel
theorem mna_lt : ∀ x ∈ mnaL, x < 18446744073709551616 := by decide +kernel
theorem mna_fit : ∀ k, k < 1 → fits 256 [[1]] [⟨0, 2, 1, 0, false, 0⟩] k := by decide +kernel
theorem mna_slt : ∀ k, k < 0 → ([] : List Int)[k]?.getD 0 < 4294967296 ∧ -4294967296 < ([] : List Int)[k]?.getD 0 := by decide +kernel
set_option maxRecDepth 100000 in
theorem mna_c (w : World) : Calls Try.prog 32 #[.int .i64 256, .slice (some ⟨w.heap.size + 1, 0, none⟩) 1 1, .slice (some ⟨w.heap.size + 1 + 1, 0, none⟩) 1 1, .slice none 0 0] (((w.alloc (.cells #[.int .u8 1] 5)).alloc (.cells #[.slice (some ⟨w.heap.size, 0, none⟩) 1 1] 58)).alloc (.cells #[.int .i64 0, .int .i64 2, .int .i64 1, .int .i64 0, .bool false, .int .u64 0] 24)) fun e w' => OwnW w mnaL e w' := by
  have x0 := Bx.new w 5 #[.int .u8 1]
  have x1 := Bx.new (w.alloc (.cells #[.int .u8 1] 5)) 58 #[.slice (some ⟨w.heap.size, 0, none⟩) 1 1]
  have x2 := Bx.new ((w.alloc (.cells #[.int .u8 1] 5)).alloc (.cells #[.slice (some ⟨w.heap.size, 0, none⟩) 1 1] 58)) 24 #[.int .i64 0, .int .i64 2, .int .i64 1, .int .i64 0, .bool false, .int .u64 0]
  (try simp only [World.size_alloc] at x0 x1 x2)
  replace x0 := ((x0.alloc (.cells #[.slice (some ⟨w.heap.size, 0, none⟩) 1 1] 58)).alloc (.cells #[.int .i64 0, .int .i64 2, .int .i64 1, .int .i64 0, .bool false, .int .u64 0] 24))
  replace x1 := (x1.alloc (.cells #[.int .i64 0, .int .i64 2, .int .i64 1, .int .i64 0, .bool false, .int .u64 0] 24))
  have hbz : Below w.heap.size w (((w.alloc (.cells #[.int .u8 1] 5)).alloc (.cells #[.slice (some ⟨w.heap.size, 0, none⟩) 1 1] 58)).alloc (.cells #[.int .i64 0, .int .i64 2, .int .i64 1, .int .i64 0, .bool false, .int .u64 0] 24)) := by
    refine ((((Below.refl _ _).alloc ?_ _).alloc ?_ _).alloc ?_ _) <;> (try simp only [World.size_alloc]) <;> omega
  obtain ⟨Z, hZ⟩ : ∃ Z, (((w.alloc (.cells #[.int .u8 1] 5)).alloc (.cells #[.slice (some ⟨w.heap.size, 0, none⟩) 1 1] 58)).alloc (.cells #[.int .i64 0, .int .i64 2, .int .i64 1, .int .i64 0, .bool false, .int .u64 0] 24)) = Z := ⟨_, rfl⟩
  rw [hZ] at x0 x1 x2 hbz ⊢
  clear hZ
  have hT : RdT Z Z.heap.size (some ⟨w.heap.size + 1, 0, none⟩) [⟨some ⟨w.heap.size, 0, none⟩, 1, [1]⟩] := by
    refine ⟨Rd.of_bx x1 x1.lt, fun x hx => ?_⟩
    simp only [List.mem_cons, List.not_mem_nil, or_false] at hx
    rcases hx with rfl
    · exact ⟨Rd.of_bx x0 x0.lt, show (1 : Nat) ≤ 8 by decide, show kndOk [1] = true by decide⟩
  have hC := build_c (some ⟨w.heap.size + 1, 0, none⟩) (some ⟨w.heap.size + 1 + 1, 0, none⟩) none [⟨some ⟨w.heap.size, 0, none⟩, 1, [1]⟩] [⟨0, 2, 1, 0, false, 0⟩] [] 1 1 0 256 Z.heap.size Z (by omega) (by omega) hT (show (1 : Nat) ≤ 8 by decide) (show Rd _ _ _ _ from Rd.of_bx x2 x2.lt) Rd.nil_ (show (0 : Nat) ≤ 16 by decide) (Nat.le_refl _) (show (1 : Nat) ≤ 2048 by decide) (fun k hk => mna_fit k hk) (fun k hk => mna_slt k hk)
  refine hC.mono ?_
  intro e w1 h
  exact OwnW.mk_ hbz (show OwnW Z mnaL e w1 from h)
def mnbL : List Nat := buildL 256 [] [⟨0, 2, 1, 0, false, 0⟩] []
theorem mnb_len : mnbL.length = 256 := by decide +kernel
theorem mnb_lt : ∀ x ∈ mnbL, x < 18446744073709551616 := by decide +kernel
theorem mnb_fit : ∀ k, k < 1 → fits 256 [] [⟨0, 2, 1, 0, false, 0⟩] k := by decide +kernel
theorem mnb_slt : ∀ k, k < 0 → ([] : List Int)[k]?.getD 0 < 4294967296 ∧ -4294967296 < ([] : List Int)[k]?.getD 0 := by decide +kernel
set_option maxRecDepth 100000 in
theorem mnb_c (w : World) : Calls Try.prog 32 #[.int .i64 256, .slice none 0 0, .slice (some ⟨w.heap.size, 0, none⟩) 1 1, .slice none 0 0] (w.alloc (.cells #[.int .i64 0, .int .i64 2, .int .i64 1, .int .i64 0, .bool false, .int .u64 0] 24)) fun e w' => OwnW w mnbL e w' := by
  have x0 := Bx.new w 24 #[.int .i64 0, .int .i64 2, .int .i64 1, .int .i64 0, .bool false, .int .u64 0]
  (try simp only [World.size_alloc] at x0)
  have hbz : Below w.heap.size w (w.alloc (.cells #[.int .i64 0, .int .i64 2, .int .i64 1, .int .i64 0, .bool false, .int .u64 0] 24)) := by
    refine ((Below.refl _ _).alloc ?_ _) <;> (try simp only [World.size_alloc]) <;> omega
  obtain ⟨Z, hZ⟩ : ∃ Z, (w.alloc (.cells #[.int .i64 0, .int .i64 2, .int .i64 1, .int .i64 0, .bool false, .int .u64 0] 24)) = Z := ⟨_, rfl⟩
  rw [hZ] at x0 hbz ⊢
  clear hZ
  have hC := build_c none (some ⟨w.heap.size, 0, none⟩) none [] [⟨0, 2, 1, 0, false, 0⟩] [] 0 1 0 256 Z.heap.size Z (by omega) (by omega) RdT.nil_ (show (0 : Nat) ≤ 8 by decide) (show Rd _ _ _ _ from Rd.of_bx x0 x0.lt) Rd.nil_ (show (0 : Nat) ≤ 16 by decide) (Nat.le_refl _) (show (1 : Nat) ≤ 2048 by decide) (fun k hk => mnb_fit k hk) (fun k hk => mnb_slt k hk)
  refine hC.mono ?_
  intro e w1 h
  exact OwnW.mk_ hbz (show OwnW Z mnbL e w1 from h)
def mncL : List Nat := buildL 256 [] [] [128]
theorem mnc_len : mncL.length = 256 := by decide +kernel
theorem mnc_lt : ∀ x ∈ mncL, x < 18446744073709551616 := by decide +kernel
theorem mnc_fit : ∀ k, k < 0 → fits 256 [] [] k := by decide +kernel
theorem mnc_slt : ∀ k, k < 1 → ([128] : List Int)[k]?.getD 0 < 4294967296 ∧ -4294967296 < ([128] : List Int)[k]?.getD 0 := by decide +kernel
set_option maxRecDepth 100000 in
theorem mnc_c (w : World) : Calls Try.prog 32 #[.int .i64 256, .slice none 0 0, .slice none 0 0, .slice (some ⟨w.heap.size, 0, none⟩) 1 1] (w.alloc (.cells #[.int .i64 128] 3)) fun e w' => OwnW w mncL e w' := by
  have x0 := Bx.new w 3 #[.int .i64 128]
  (try simp only [World.size_alloc] at x0)
  have hbz : Below w.heap.size w (w.alloc (.cells #[.int .i64 128] 3)) := by
    refine ((Below.refl _ _).alloc ?_ _) <;> (try simp only [World.size_alloc]) <;> omega
  obtain ⟨Z, hZ⟩ : ∃ Z, (w.alloc (.cells #[.int .i64 128] 3)) = Z := ⟨_, rfl⟩
  rw [hZ] at x0 hbz ⊢
  clear hZ
  have hC := build_c none none (some ⟨w.heap.size, 0, none⟩) [] [] [128] 0 0 1 256 Z.heap.size Z (by omega) (by omega) RdT.nil_ (show (0 : Nat) ≤ 8 by decide) Rd.nil_ (show Rd _ _ _ _ from Rd.of_bx x0 x0.lt) (show (1 : Nat) ≤ 16 by decide) (Nat.le_refl _) (show (0 : Nat) ≤ 2048 by decide) (fun k hk => mnc_fit k hk) (fun k hk => mnc_slt k hk)
  refine hC.mono ?_
  intro e w1 h
  exact OwnW.mk_ hbz (show OwnW Z mncL e w1 from h)
def mndL : List Nat := buildL 256 [] [] [2000]
theorem mnd_len : mndL.length = 256 := by decide +kernel
theorem mnd_lt : ∀ x ∈ mndL, x < 18446744073709551616 := by decide +kernel
theorem mnd_fit : ∀ k, k < 0 → fits 256 [] [] k := by decide +kernel
theorem mnd_slt : ∀ k, k < 1 → ([2000] : List Int)[k]?.getD 0 < 4294967296 ∧ -4294967296 < ([2000] : List Int)[k]?.getD 0 := by decide +kernel
set_option maxRecDepth 100000 in
theorem mnd_c (w : World) : Calls Try.prog 32 #[.int .i64 256, .slice none 0 0, .slice none 0 0, .slice (some ⟨w.heap.size, 0, none⟩) 1 1] (w.alloc (.cells #[.int .i64 2000] 3)) fun e w' => OwnW w mndL e w' := by
  have x0 := Bx.new w 3 #[.int .i64 2000]
  (try simp only [World.size_alloc] at x0)
  have hbz : Below w.heap.size w (w.alloc (.cells #[.int .i64 2000] 3)) := by
    refine ((Below.refl _ _).alloc ?_ _) <;> (try simp only [World.size_alloc]) <;> omega
  obtain ⟨Z, hZ⟩ : ∃ Z, (w.alloc (.cells #[.int .i64 2000] 3)) = Z := ⟨_, rfl⟩
  rw [hZ] at x0 hbz ⊢
  clear hZ
  have hC := build_c none none (some ⟨w.heap.size, 0, none⟩) [] [] [2000] 0 0 1 256 Z.heap.size Z (by omega) (by omega) RdT.nil_ (show (0 : Nat) ≤ 8 by decide) Rd.nil_ (show Rd _ _ _ _ from Rd.of_bx x0 x0.lt) (show (1 : Nat) ≤ 16 by decide) (Nat.le_refl _) (show (0 : Nat) ≤ 2048 by decide) (fun k hk => mnd_fit k hk) (fun k hk => mnd_slt k hk)
  refine hC.mono ?_
  intro e w1 h
  exact OwnW.mk_ hbz (show OwnW Z mndL e w1 from h)
def mneL : List Nat := buildL 256 [[]] [⟨0, 2, 1, 0, true, 0⟩, ⟨0, 2, 1, 0, false, 0⟩, ⟨0, 2, 1, 0, false, 0⟩] [0, 132]
theorem mne_len : mneL.length = 256 := by decide +kernel
theorem mne_lt : ∀ x ∈ mneL, x < 18446744073709551616 := by decide +kernel
theorem mne_fit : ∀ k, k < 3 → fits 256 [[]] [⟨0, 2, 1, 0, true, 0⟩, ⟨0, 2, 1, 0, false, 0⟩, ⟨0, 2, 1, 0, false, 0⟩] k := by decide +kernel
theorem mne_slt : ∀ k, k < 2 → ([0, 132] : List Int)[k]?.getD 0 < 4294967296 ∧ -4294967296 < ([0, 132] : List Int)[k]?.getD 0 := by decide +kernel
set_option maxRecDepth 100000 in
theorem mne_c (w : World) : Calls Try.prog 32 #[.int .i64 256, .slice (some ⟨w.heap.size + 1, 0, none⟩) 1 1, .slice (some ⟨w.heap.size + 1 + 1, 0, none⟩) 3 3, .slice (some ⟨w.heap.size + 1 + 1 + 1, 0, none⟩) 2 2] ((((w.alloc (.cells #[] 5)).alloc (.cells #[.slice (some ⟨w.heap.size, 0, none⟩) 0 0] 58)).alloc (.cells #[.int .i64 0, .int .i64 2, .int .i64 1, .int .i64 0, .bool true, .int .u64 0, .int .i64 0, .int .i64 2, .int .i64 1, .int .i64 0, .bool false, .int .u64 0, .int .i64 0, .int .i64 2, .int .i64 1, .int .i64 0, .bool false, .int .u64 0] 24)).alloc (.cells #[.int .i64 0, .int .i64 132] 3)) fun e w' => OwnW w mneL e w' := by
  have x0 := Bx.new w 5 #[]
  have x1 := Bx.new (w.alloc (.cells #[] 5)) 58 #[.slice (some ⟨w.heap.size, 0, none⟩) 0 0]
  have x2 := Bx.new ((w.alloc (.cells #[] 5)).alloc (.cells #[.slice (some ⟨w.heap.size, 0, none⟩) 0 0] 58)) 24 #[.int .i64 0, .int .i64 2, .int .i64 1, .int .i64 0, .bool true, .int .u64 0, .int .i64 0, .int .i64 2, .int .i64 1, .int .i64 0, .bool false, .int .u64 0, .int .i64 0, .int .i64 2, .int .i64 1, .int .i64 0, .bool false, .int .u64 0]
  have x3 := Bx.new (((w.alloc (.cells #[] 5)).alloc (.cells #[.slice (some ⟨w.heap.size, 0, none⟩) 0 0] 58)).alloc (.cells #[.int .i64 0, .int .i64 2, .int .i64 1, .int .i64 0, .bool true, .int .u64 0, .int .i64 0, .int .i64 2, .int .i64 1, .int .i64 0, .bool false, .int .u64 0, .int .i64 0, .int .i64 2, .int .i64 1, .int .i64 0, .bool false, .int .u64 0] 24)) 3 #[.int .i64 0, .int .i64 132]
  (try simp only [World.size_alloc] at x0 x1 x2 x3)
  replace x0 := (((x0.alloc (.cells #[.slice (some ⟨w.heap.size, 0, none⟩) 0 0] 58)).alloc (.cells #[.int .i64 0, .int .i64 2, .int .i64 1, .int .i64 0, .bool true, .int .u64 0, .int .i64 0, .int .i64 2, .int .i64 1, .int .i64 0, .bool false, .int .u64 0, .int .i64 0, .int .i64 2, .int .i64 1, .int .i64 0, .bool false, .int .u64 0] 24)).alloc (.cells #[.int .i64 0, .int .i64 132] 3))
  replace x1 := ((x1.alloc (.cells #[.int .i64 0, .int .i64 2, .int .i64 1, .int .i64 0, .bool true, .int .u64 0, .int .i64 0, .int .i64 2, .int .i64 1, .int .i64 0, .bool false, .int .u64 0, .int .i64 0, .int .i64 2, .int .i64 1, .int .i64 0, .bool false, .int .u64 0] 24)).alloc (.cells #[.int .i64 0, .int .i64 132] 3))
  replace x2 := (x2.alloc (.cells #[.int .i64 0, .int .i64 132] 3))
  have hbz : Below w.heap.size w ((((w.alloc (.cells #[] 5)).alloc (.cells #[.slice (some ⟨w.heap.size, 0, none⟩) 0 0] 58)).alloc (.cells #[.int .i64 0, .int .i64 2, .int .i64 1, .int .i64 0, .bool true, .int .u64 0, .int .i64 0, .int .i64 2, .int .i64 1, .int .i64 0, .bool false, .int .u64 0, .int .i64 0, .int .i64 2, .int .i64 1, .int .i64 0, .bool false, .int .u64 0] 24)).alloc (.cells #[.int .i64 0, .int .i64 132] 3)) := by
    refine (((((Below.refl _ _).alloc ?_ _).alloc ?_ _).alloc ?_ _).alloc ?_ _) <;> (try simp only [World.size_alloc]) <;> omega
  obtain ⟨Z, hZ⟩ : ∃ Z, ((((w.alloc (.cells #[] 5)).alloc (.cells #[.slice (some ⟨w.heap.size, 0, none⟩) 0 0] 58)).alloc (.cells #[.int .i64 0, .int .i64 2, .int .i64 1, .int .i64 0, .bool true, .int .u64 0, .int .i64 0, .int .i64 2, .int .i64 1, .int .i64 0, .bool false, .int .u64 0, .int .i64 0, .int .i64 2, .int .i64 1, .int .i64 0, .bool false, .int .u64 0] 24)).alloc (.cells #[.int .i64 0, .int .i64 132] 3)) = Z := ⟨_, rfl⟩
  rw [hZ] at x0 x1 x2 x3 hbz ⊢
  clear hZ
  have hT : RdT Z Z.heap.size (some ⟨w.heap.size + 1, 0, none⟩) [⟨some ⟨w.heap.size, 0, none⟩, 0, []⟩] := by
    refine ⟨Rd.of_bx x1 x1.lt, fun x hx => ?_⟩
    simp only [List.mem_cons, List.not_mem_nil, or_false] at hx
    rcases hx with rfl
    · exact ⟨Rd.nil_, show (0 : Nat) ≤ 8 by decide, show kndOk [] = true by decide⟩
  have hC := build_c (some ⟨w.heap.size + 1, 0, none⟩) (some ⟨w.heap.size + 1 + 1, 0, none⟩) (some ⟨w.heap.size + 1 + 1 + 1, 0, none⟩) [⟨some ⟨w.heap.size, 0, none⟩, 0, []⟩] [⟨0, 2, 1, 0, true, 0⟩, ⟨0, 2, 1, 0, false, 0⟩, ⟨0, 2, 1, 0, false, 0⟩] [0, 132] 1 3 2 256 Z.heap.size Z (by omega) (by omega) hT (show (1 : Nat) ≤ 8 by decide) (show Rd _ _ _ _ from Rd.of_bx x2 x2.lt) (show Rd _ _ _ _ from Rd.of_bx x3 x3.lt) (show (2 : Nat) ≤ 16 by decide) (Nat.le_refl _) (show (3 : Nat) ≤ 2048 by decide) (fun k hk => mne_fit k hk) (fun k hk => mne_slt k hk)
  refine hC.mono ?_
  intro e w1 h
  exact OwnW.mk_ hbz (show OwnW Z mneL e w1 from h)

def mnB (k : Nat) : List Bk := List.replicate k ⟨0, 4, 1, 0, false, 0⟩
theorem mnB_snoc (k : Nat) : (mnB (k + 1)).flatMap Bk.cells = (mnB k).flatMap Bk.cells ++ [.int .i64 0, .int .i64 4, .int .i64 1, .int .i64 0, .bool false, .int .u64 0] := by
  unfold mnB
  rw [List.replicate_succ', flat_snoc]; rfl
theorem infoBlkN : (Try.prog.info? 24).map (fun i => (i.zero, i.size, i.bytes)) = some (some (.agg #[.int .i64 0, .int .i64 0, .int .i64 0, .int .i64 0, .bool false, .int .u64 0]), 6, 48) := by kernel_rfl
def mnfL : List Nat := buildL 256 [[1, 3]] (mnB 32) [0, 0, 252]
theorem mnf_len : mnfL.length = 256 := by decide +kernel
theorem mnf_lt : ∀ x ∈ mnfL, x < 18446744073709551616 := by decide +kernel
theorem mnf_fit : ∀ k, k < 32 → fits 256 [[1, 3]] (mnB 32) k := by decide +kernel
theorem mnf_slt : ∀ k, k < 3 → ([0, 0, 252] : List Int)[k]?.getD 0 < 4294967296 ∧ -4294967296 < ([0, 0, 252] : List Int)[k]?.getD 0 := by decide +kernel
set_option maxRecDepth 100000 in
theorem mnf_c (w : World) (g cap : Nat) (hrow : RdB w w.heap.size (some ⟨g, 0, none⟩) (mnB 32)) : Calls Try.prog 32 #[.int .i64 256, .slice (some ⟨w.heap.size + 1, 0, none⟩) 1 1, .slice (some ⟨g, 0, none⟩) 32 cap, .slice (some ⟨w.heap.size + 1 + 1, 0, none⟩) 3 3] (((w.alloc (.cells #[.int .u8 1, .int .u8 3] 5)).alloc (.cells #[.slice (some ⟨w.heap.size, 0, none⟩) 2 2] 58)).alloc (.cells #[.int .i64 0, .int .i64 0, .int .i64 252] 3)) fun e w' => OwnW w mnfL e w' := by
  have x0 := Bx.new w 5 #[.int .u8 1, .int .u8 3]
  have x1 := Bx.new (w.alloc (.cells #[.int .u8 1, .int .u8 3] 5)) 58 #[.slice (some ⟨w.heap.size, 0, none⟩) 2 2]
  have x2 := Bx.new ((w.alloc (.cells #[.int .u8 1, .int .u8 3] 5)).alloc (.cells #[.slice (some ⟨w.heap.size, 0, none⟩) 2 2] 58)) 3 #[.int .i64 0, .int .i64 0, .int .i64 252]
  (try simp only [World.size_alloc] at x0 x1 x2)
  replace x0 := ((x0.alloc (.cells #[.slice (some ⟨w.heap.size, 0, none⟩) 2 2] 58)).alloc (.cells #[.int .i64 0, .int .i64 0, .int .i64 252] 3))
  replace x1 := (x1.alloc (.cells #[.int .i64 0, .int .i64 0, .int .i64 252] 3))
  have hbz : Below w.heap.size w (((w.alloc (.cells #[.int .u8 1, .int .u8 3] 5)).alloc (.cells #[.slice (some ⟨w.heap.size, 0, none⟩) 2 2] 58)).alloc (.cells #[.int .i64 0, .int .i64 0, .int .i64 252] 3)) := by
    refine ((((Below.refl _ _).alloc ?_ _).alloc ?_ _).alloc ?_ _) <;> (try simp only [World.size_alloc]) <;> omega
  obtain ⟨Z, hZ⟩ : ∃ Z, (((w.alloc (.cells #[.int .u8 1, .int .u8 3] 5)).alloc (.cells #[.slice (some ⟨w.heap.size, 0, none⟩) 2 2] 58)).alloc (.cells #[.int .i64 0, .int .i64 0, .int .i64 252] 3)) = Z := ⟨_, rfl⟩
  rw [hZ] at x0 x1 x2 hbz ⊢
  clear hZ
  have hT : RdT Z Z.heap.size (some ⟨w.heap.size + 1, 0, none⟩) [⟨some ⟨w.heap.size, 0, none⟩, 2, [1, 3]⟩] := by
    refine ⟨Rd.of_bx x1 x1.lt, fun x hx => ?_⟩
    simp only [List.mem_cons, List.not_mem_nil, or_false] at hx
    rcases hx with rfl
    · exact ⟨Rd.of_bx x0 x0.lt, show (2 : Nat) ≤ 8 by decide, show kndOk [1, 3] = true by decide⟩
  have hrz : RdB Z Z.heap.size (some ⟨g, 0, none⟩) (mnB 32) := hrow.up hbz hbz.size
  have hC := build_c (some ⟨w.heap.size + 1, 0, none⟩) (some ⟨g, 0, none⟩) (some ⟨w.heap.size + 1 + 1, 0, none⟩) [⟨some ⟨w.heap.size, 0, none⟩, 2, [1, 3]⟩] (mnB 32) [0, 0, 252] 1 cap 3 256 Z.heap.size Z (by omega) (by omega) hT (show (1 : Nat) ≤ 8 by decide) hrz (show Rd _ _ _ _ from Rd.of_bx x2 x2.lt) (show (3 : Nat) ≤ 16 by decide) (Nat.le_refl _) (show (32 : Nat) ≤ 2048 by decide) (fun k hk => mnf_fit k hk) (fun k hk => mnf_slt k hk)
  refine hC.mono ?_
  intro e w1 h
  exact OwnW.mk_ hbz (show OwnW Z mnfL e w1 from h)

/-- The chain, its first j references. -/
def chT : Nat → List Nat
  | 0 => mnfL
  | j + 1 => if j = 0 then mnfL else (chT j).set (128 + 4 * j + 3) (124 + 4 * j)
theorem chT_succ {j : Nat} (h : 0 < j) : chT (j + 1) = (chT j).set (128 + 4 * j + 3) (124 + 4 * j) := by
  simp only [chT]
  rw [if_neg (by omega)]
theorem chT_len : ∀ j, (chT j).length = 256 := by
  intro j
  induction j with
  | zero => exact mnf_len
  | succ j ih =>
    simp only [chT]
    split
    · exact mnf_len
    · rw [List.length_set]; exact ih
def chL : List Nat := chT 32
theorem ch_lt : ∀ x ∈ chL, x < 18446744073709551616 := by decide +kernel
theorem mn_lt {l : List Nat} (h : ∀ x ∈ l, x < 18446744073709551616) (a v : Nat) (hv : v < 18446744073709551616) : ∀ x ∈ l.set a v, x < 18446744073709551616 := fun x hx => by
  rcases List.mem_or_eq_of_mem_set hx with h1 | rfl
  · exact h x h1
  · exact hv
theorem mn_hp8 (n : Nat) (h : sizeOk (n : Int) = false) : hpErr (List.replicate n 0) = 8 := by unfold hpErr; rw [List.length_replicate, h]; rfl
theorem mn_nil : hpErr [] = 8 := by decide +kernel
theorem mn_0 : hpErr (pairL.set 128 0) = 50 ∧ hpErr (pairL.set 97 1) = 50 ∧ hpErr mnaL = 50 ∧ hpErr mnbL = 50 := by decide +kernel
theorem mn_1 : hpErr (pairL.set 134 133) = 0 ∧ hpErr (pairL.set 134 136) = 0 ∧ hpErr (pairL.set 134 4294967428) = 0 ∧ hpErr mncL = 0 ∧ hpErr mndL = 0 := by decide +kernel
theorem mn_2 : rcRun (pairL.set 134 133) 20 = some none ∧ rcRun (pairL.set 134 136) 20 = some none ∧ rcRun (pairL.set 134 4294967428) 20 = some none ∧ rcRun mncL 20 = some none ∧ rcRun mndL 20 = some none := by decide +kernel
def mnS (n k : Nat) : List Bool := (List.range n).map fun a => a == k
theorem mn_3 : hpErr (pairL.set 130 77) = 0 ∧ slsOk (pairL.set 130 77) = true ∧ rcRun (pairL.set 130 77) 20 = some (some (mnS 256 132)) ∧ seenTo (mnS 256 132) 256 = [132] := by decide +kernel
theorem mn_4 : hpErr mneL = 0 ∧ slsOk mneL = true ∧ rcRun mneL 20 = some (some (mnS 256 132)) ∧ mkdL (hpOut mneL) = [128] ∧ ((wntL (mnS 256 132) (hpOut mneL)).map (wntE mneL (mnS 256 132))).map En.a = [128, 132] := by decide +kernel
def chS : List Bool := (List.range 256).map fun a => decide (128 ≤ a) && a % 4 == 0
theorem mn_5 : hpErr chL = 0 ∧ slsOk chL = true ∧ rcRun chL 100 = some (some chS) ∧ (seenTo chS 256).length = 32 := by decide +kernel
theorem mn_6 : rcErr (pairL.set 130 77) = 0 ∧ rcOut (pairL.set 130 77) = [132] := by
  obtain ⟨h1, h2, h3, h4⟩ := mn_3
  obtain ⟨g1, -, g3⟩ := rc_run h1 h2 h3
  rw [List.length_set, pairL_len, h4] at g3
  exact ⟨g1, g3⟩
theorem mn_7 : rcErr mneL = 0 ∧ (wtOut mneL).map En.a = [128, 132] := by
  obtain ⟨h1, h2, h3, -, h4⟩ := mn_4
  obtain ⟨g1, g2, -⟩ := rc_run h1 h2 h3
  exact ⟨g1, by rw [wtOut_eq g1, g2]; exact h4⟩
theorem mn_8 : rcErr chL = 0 ∧ (rcOut chL).length = 32 := by
  obtain ⟨h1, h2, h3, h4⟩ := mn_5
  obtain ⟨g1, -, g3⟩ := rc_run h1 h2 h3
  exact ⟨g1, by rw [g3, show chL.length = 256 from chT_len 32]; exact h4⟩
end Go.Proofs.Ytpmfiibndiecpaa
