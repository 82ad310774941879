/- The chapter's example of layer 27: the image with two objects, and what is found on it. -/
import Derived.Test.YtpmfiibndiecpaaKImage
import Derived.Test.YtpmfiibndiecpaaLw27
import Derived.Test.YtpmfiibndiecpaaSame
namespace Go.Proofs.Ytpmfiibndiecpaa
open Go.RowKit

set_option maxRecDepth 100000 in
set_option maxHeartbeats 2000000 in
theorem two27_c (w : World) : Calls Try.prog 22 #[] w fun e w' => OwnW w twoL e w' := by
  have HPL := Lib.hid pairL_len
  have HOL := Lib.hid oneL_len
  have HTW : Hid (twoL = pairL.set 132 (oneL[132]?.getD 0)) := Lib.hid rfl
  have HON : Hid (buildL 256 [] [obj4 false, obj4 true] [] = oneL) := Lib.hid rfl
  have HC := Lib.hid (fun W => pair_c W)
  unfold OwnW at HC
  rw [HPL.out] at HC
  obtain ⟨pl, hpl⟩ : ∃ pl, pairL = pl := ⟨_, rfl⟩
  obtain ⟨ol, hol⟩ : ∃ ol, oneL = ol := ⟨_, rfl⟩
  rw [hpl] at HPL HTW HC
  rw [hol] at HOL HTW HON
  obtain ⟨tw, htw⟩ : ∃ tw, twoL = tw := ⟨_, rfl⟩
  rw [htw] at HTW ⊢
  clear hpl hol htw
  go_enter Try.func22, Try.ntmps22
  go_wp2_with fail
  refine (HC.out _).mono ?_
  rintro e w1 ⟨g1, c1, rfl, hown1, hB1⟩
  have hz1 := hB1.size
  have x3 := Bx.new w1 24 #[.int .i64 0, .int .i64 4, .int .i64 1, .int .i64 0, .bool false, .int .u64 0, .int .i64 0, .int .i64 4, .int .i64 1, .int .i64 0, .bool true, .int .u64 0]
  have hbz := hB1.alloc hz1 (.cells #[.int .i64 0, .int .i64 4, .int .i64 1, .int .i64 0, .bool false, .int .u64 0, .int .i64 0, .int .i64 4, .int .i64 1, .int .i64 0, .bool true, .int .u64 0] 24)
  have hoz := hown1.alloc (.cells #[.int .i64 0, .int .i64 4, .int .i64 1, .int .i64 0, .bool false, .int .u64 0, .int .i64 0, .int .i64 4, .int .i64 1, .int .i64 0, .bool true, .int .u64 0] 24)
  have X := Lib.hid (And.intro x3 (And.intro hbz hoz))
  clear x3 hbz hoz hown1 hB1
  go_wp2_with fail
  obtain ⟨Z, hZ⟩ : ∃ Z, w1.alloc (.cells #[.int .i64 0, .int .i64 4, .int .i64 1, .int .i64 0, .bool false, .int .u64 0, .int .i64 0, .int .i64 4, .int .i64 1, .int .i64 0, .bool true, .int .u64 0] 24) = Z := ⟨_, rfl⟩
  rw [hZ] at X ⊢
  clear hZ
  obtain ⟨x3, hbz, hoz⟩ := X.out
  have HBC := Lib.hid (build_c none (some ⟨w1.heap.size, 0, none⟩) none [] [obj4 false, obj4 true] [] 0 2 0 256 Z.heap.size Z (by omega) (by omega) RdT.nil_ (show (0 : Nat) ≤ 8 by decide)
    (show Rd _ _ _ _ from Rd.of_bx x3 x3.lt) Rd.nil_ (show (0 : Nat) ≤ 16 by decide) (Nat.le_refl _) (show (2 : Nat) ≤ 2048 by decide) (fun k hk => fit_one k hk) (fun k hk => slot_none k hk))
  refine HBC.out.mono ?_
  rintro e w2 ⟨g2, c2, rfl, hown2, hB2⟩
  have hown2 : w2.ownsRow Z.heap.size 22 1 (.slice (some ⟨g2, 0, none⟩) 256 c2) 256 (ol.flatMap wordCells) := by
    rw [show buildL 256 (List.map Ty.l []) [obj4 false, obj4 true] [] = buildL 256 [] [obj4 false, obj4 true] [] from rfl, HON.out, HOL.out] at hown2
    exact hown2
  rw [show (buildL 256 (List.map Ty.l []) [obj4 false, obj4 true] []) = buildL 256 [] [obj4 false, obj4 true] [] from rfl, HON.out, HOL.out]
  have ho1 := own_below hoz hB2 (Nat.le_refl _)
  have d0 := (hown2.cellAt 132 (by omega)).trans (words_get ol 132 (by rw [HOL.out]; omega))
  have c0 := (ho1.cellAt 132 (by omega)).trans (words_get pl 132 (by rw [HPL.out]; omega))
  have f0 := ho1.frozenAt 132
  have HGET : Hid (ol[132]?.getD 0 = ol[132]'(by rw [HOL.out]; omega)) := Lib.hid (by simp [HOL.out])
  obtain ⟨u, hu⟩ : ∃ u, ((pl[132]'(by rw [HPL.out]; omega) : Nat) : Int) = u := ⟨_, rfl⟩
  rw [hu] at c0
  obtain ⟨v, hv⟩ : ∃ v, ol[132]'(by rw [HOL.out]; omega) = v := ⟨_, rfl⟩
  rw [hv] at d0 HGET
  have HO := Lib.hid ho1
  have HB := Lib.hid (hbz.trans (hB2.mono hbz.size))
  rw [HGET.out] at HTW
  clear hu hown2 ho1 hB2 x3 hoz hbz hv
  go_wp2_with fail
  go_ret
  have := OwnW.set_ HPL.out HO.out HB.out 132 v
  rw [← HTW.out] at this
  exact this
theorem two_hp : hpErr twoL = 0 := by decide +kernel
theorem two_wn : wnOut twoL = [⟨133, 128⟩] := by decide +kernel
theorem two_rd : rdErr (twoL.set 133 128) 128 128 = 0 := by decide +kernel
theorem two_mv : rdMv (twoL.set 133 128) 128 128 = [(132, 128)] := by decide +kernel
theorem two_lt : ∀ x ∈ twoL, x < 18446744073709551616 := by decide +kernel
theorem two_lt2 : ∀ x ∈ twoL.set 133 128, x < 18446744073709551616 := by decide +kernel

set_option maxRecDepth 100000 in
set_option maxHeartbeats 4000000 in
theorem alive27_c (w : World) : Calls Try.prog 27 #[] w fun e w' => e = .returned (.bool true) ∧ Below w.heap.size w w' := by
  have HL := Lib.hid twoL_len
  have HC := Lib.hid (fun W => two27_c W)
  unfold OwnW at HC
  rw [twoL_len] at HC
  have HWN := Lib.hid (fun A c W (h : RdW W W.heap.size A twoL) => fwWanted_c A twoL c 256 W twoL_len (by omega) h two_lt)
  unfold WnRes at HWN
  rw [two_hp, two_wn] at HWN
  have hl2 : (twoL.set 133 128).length = 256 := by rw [List.length_set, twoL_len]
  have HPT := Lib.hid (fun A c W (h : RdW W W.heap.size A twoL) => put27_c A twoL c 256 133 128 W.heap.size W twoL_len (by omega) (by omega) h (Nat.le_refl _))
  unfold OwnW at HPT
  rw [hl2] at HPT
  have HRD := Lib.hid (fun A c W (h : RdW W W.heap.size A (twoL.set 133 128)) => fwRead_c A (twoL.set 133 128) c 256 128 128 W hl2 (by omega) (by omega) (by omega) h two_lt2)
  unfold RdRes at HRD
  rw [two_rd, two_mv] at HRD
  have HSE := Lib.hid (fun A c B d W (h1 : RdE W W.heap.size A [⟨133, 128⟩]) (h2 : RdE W W.heap.size B [⟨133, 128⟩]) => sameEntries_c A B [⟨133, 128⟩] [⟨133, 128⟩] 1 1 c d W.heap.size W rfl rfl (by omega) h1 h2 (Nat.le_refl _))
  rw [show decide (([⟨133, 128⟩] : List En) = [⟨133, 128⟩]) = true from rfl] at HSE
  have HSM := Lib.hid (fun A c B d W (h1 : RdM W W.heap.size A [(132, 128)]) (h2 : RdM W W.heap.size B [(132, 128)]) => sameMoves_c A B [(132, 128)] [(132, 128)] 1 1 c d W.heap.size W rfl rfl (by omega) h1 h2 (Nat.le_refl _))
  rw [show decide (([(132, 128)] : List (Int × Int)) = [(132, 128)]) = true from rfl] at HSM
  obtain ⟨tw, htw⟩ : ∃ tw, twoL = tw := ⟨_, rfl⟩
  rw [htw] at HC HWN HPT HRD
  obtain ⟨tp, htp⟩ : ∃ tp, tw.set 133 128 = tp := ⟨_, rfl⟩
  rw [htp] at HPT HRD
  clear htw htp hl2
  go_enter Try.func27, Try.ntmps27
  go_wp2_with fail
  refine (HC.out _).mono ?_
  rintro e w1 ⟨g1, c1, rfl, hown1, hB1⟩
  have HO1 := Lib.hid hown1
  clear hown1
  go_wp2_with fail
  refine (HWN.out _ _ _ (Rd.of_own HO1.out)).mono ?_
  rintro e w2 ⟨⟨A2, c2, rfl, hr2, -⟩, hB2⟩
  have hb2 := hB1.trans (hB2.mono hB1.size)
  have HR2 := Lib.hid hr2
  clear hr2
  go_wp2_with fail
  refine (HC.out _).mono ?_
  rintro e w3 ⟨g3, c3, rfl, hown3, hB3⟩
  have hb3 := hb2.trans (hB3.mono hb2.size)
  have HO3 := Lib.hid hown3
  clear hown3
  go_wp2_with fail
  refine (HPT.out _ _ _ (Rd.of_own HO3.out)).mono ?_
  rintro e w4 ⟨g4, c4, rfl, hown4, hB4⟩
  have hb4 := hb3.trans (hB4.mono hb3.size)
  have HO4 := Lib.hid hown4
  clear hown4
  go_wp2_with fail
  refine (HRD.out _ _ _ (Rd.of_own HO4.out)).mono ?_
  rintro e w5 ⟨⟨A5, c5, rfl, hr5, -⟩, hB5⟩
  have hb5 := hb4.trans (hB5.mono hb4.size)
  have HR5 := Lib.hid hr5
  have HRE := Lib.hid (((HR2.out.up hB3 hB3.size).up hB4 hB4.size).up hB5 hB5.size)
  clear hr5
  go_wp2_with fail
  have xb := Bx.new w5 54 #[.int .i64 133, .int .u64 128]
  have HRA := Lib.hid (show RdE _ _ _ _ from (HRE.out.alloc (Nat.le_refl _) (.cells #[.int .i64 133, .int .u64 128] 54)).more (B' := (w5.alloc (.cells #[.int .i64 133, .int .u64 128] 54)).heap.size) (by simp))
  refine (HSE.out _ _ _ _ _ HRA.out (show Rd _ _ _ _ from Rd.of_bx xb xb.lt)).mono ?_
  rintro e w6 ⟨rfl, hB6⟩
  have hb6 := (hb5.alloc hb5.size (.cells #[.int .i64 133, .int .u64 128] 54)).trans (hB6.mono (by have := hb5.size; simp; omega))
  have HRM := Lib.hid ((HR5.out.alloc (Nat.le_refl _) (.cells #[.int .i64 133, .int .u64 128] 54)).up (B' := w6.heap.size) (hB6.mono (by simp)) (by have := hB6.size; simp at this; omega))
  clear xb
  go_wp2_with fail
  have xb := Bx.new w6 50 #[.int .i64 132, .int .i64 128]
  have HRN := Lib.hid (show RdM _ _ _ _ from (HRM.out.alloc (Nat.le_refl _) (.cells #[.int .i64 132, .int .i64 128] 50)).more (B' := (w6.alloc (.cells #[.int .i64 132, .int .i64 128] 50)).heap.size) (by simp))
  refine (HSM.out _ _ _ _ _ HRN.out (show Rd _ _ _ _ from Rd.of_bx xb xb.lt)).mono ?_
  rintro e w7 ⟨rfl, hB7⟩
  have hb7 := (hb6.alloc hb6.size (.cells #[.int .i64 132, .int .i64 128] 50)).trans (hB7.mono (by have := hb6.size; simp; omega))
  clear xb
  go_wp2_with fail
  go_ret
  exact ⟨rfl, hb7⟩
end Go.Proofs.Ytpmfiibndiecpaa
