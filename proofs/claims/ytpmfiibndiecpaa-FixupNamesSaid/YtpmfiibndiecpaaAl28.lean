/- The chapter's example of layer 28: the image with two objects, one going to 128, and what fixing finds on it. -/
import Derived.Test.YtpmfiibndiecpaaKImage
import Derived.Test.YtpmfiibndiecpaaKFix
import Derived.Test.YtpmfiibndiecpaaKMove
namespace Go.Proofs.Ytpmfiibndiecpaa
open Go.RowKit

def triL : List Nat := (pairL.set 132 (oneL[132]?.getD 0)).set 133 128
theorem triL_len : triL.length = 256 := by unfold triL; rw [List.length_set, List.length_set, pairL_len]

set_option maxRecDepth 100000 in
set_option maxHeartbeats 2000000 in
theorem two28_c (w : World) : Calls Try.prog 39 #[] w fun e w' => OwnW w triL e w' := by
  have HPL := Lib.hid pairL_len
  have HOL := Lib.hid oneL_len
  have HTW : Hid (triL = (pairL.set 132 (oneL[132]?.getD 0)).set 133 128) := Lib.hid rfl
  have HON : Hid (buildL 256 [] [obj4 false, obj4 true] [] = oneL) := Lib.hid rfl
  have HC := Lib.hid (fun W => pair_c W)
  unfold OwnW at HC
  rw [HPL.out] at HC
  obtain ⟨pl, hpl⟩ : ∃ pl, pairL = pl := ⟨_, rfl⟩
  obtain ⟨ol, hol⟩ : ∃ ol, oneL = ol := ⟨_, rfl⟩
  rw [hpl] at HPL HTW HC
  rw [hol] at HOL HTW HON
  obtain ⟨tw, htw⟩ : ∃ tw, triL = tw := ⟨_, rfl⟩
  rw [htw] at HTW ⊢
  clear hpl hol htw
  go_enter Try.func39, Try.ntmps39
  go_wp2_with fail
  refine (HC.out _).mono ?_
  rintro e w1 ⟨g1, c1, rfl, hown1, hB1⟩
  have hz1 := hB1.size
  have x3 := Bx.new w1 24 #[.int .i64 0, .int .i64 4, .int .i64 1, .int .i64 0, .bool false, .int .u64 0, .int .i64 0, .int .i64 4, .int .i64 1, .int .i64 0, .bool true, .int .u64 0]
  have hbz := hB1.alloc hz1 (.cells #[.int .i64 0, .int .i64 4, .int .i64 1, .int .i64 0, .bool false, .int .u64 0, .int .i64 0, .int .i64 4, .int .i64 1, .int .i64 0, .bool true, .int .u64 0] 24)
  have hoz := hown1.alloc (.cells #[.int .i64 0, .int .i64 4, .int .i64 1, .int .i64 0, .bool false, .int .u64 0, .int .i64 0, .int .i64 4, .int .i64 1, .int .i64 0, .bool true, .int .u64 0] 24)
  have X := Lib.hid (And.intro x3 (And.intro hbz hoz))
  clear x3 hbz hoz hown1 hB1
  go_wp2_with fail
  obtain ⟨Z, hZ⟩ : ∃ Z, w1.alloc (.cells #[.int .i64 0, .int .i64 4, .int .i64 1, .int .i64 0, .bool false, .int .u64 0, .int .i64 0, .int .i64 4, .int .i64 1, .int .i64 0, .bool true, .int .u64 0] 24) = Z := ⟨_, rfl⟩
  rw [hZ] at X ⊢
  clear hZ
  obtain ⟨x3, hbz, hoz⟩ := X.out
  have HBC := Lib.hid (build_c none (some ⟨w1.heap.size, 0, none⟩) none [] [obj4 false, obj4 true] [] 0 2 0 256 Z.heap.size Z (by omega) (by omega) RdT.nil_ (show (0 : Nat) ≤ 8 by decide)
    (show Rd _ _ _ _ from Rd.of_bx x3 x3.lt) Rd.nil_ (show (0 : Nat) ≤ 16 by decide) (Nat.le_refl _) (show (2 : Nat) ≤ 2048 by decide) (fun k hk => fit_one k hk) (fun k hk => slot_none k hk))
  refine HBC.out.mono ?_
  rintro e w2 ⟨g2, c2, rfl, hown2, hB2⟩
  have hown2 : w2.ownsRow Z.heap.size 22 1 (.slice (some ⟨g2, 0, none⟩) 256 c2) 256 (ol.flatMap wordCells) := by
    rw [show buildL 256 (List.map Ty.l []) [obj4 false, obj4 true] [] = buildL 256 [] [obj4 false, obj4 true] [] from rfl, HON.out, HOL.out] at hown2
    exact hown2
  rw [show (buildL 256 (List.map Ty.l []) [obj4 false, obj4 true] []) = buildL 256 [] [obj4 false, obj4 true] [] from rfl, HON.out, HOL.out]
  have ho1 := own_below hoz hB2 (Nat.le_refl _)
  have d0 := (hown2.cellAt 132 (by omega)).trans (words_get ol 132 (by rw [HOL.out]; omega))
  have c0 := (ho1.cellAt 132 (by omega)).trans (words_get pl 132 (by rw [HPL.out]; omega))
  have f0 := ho1.frozenAt 132
  have HGET : Hid (ol[132]?.getD 0 = ol[132]'(by rw [HOL.out]; omega)) := Lib.hid (by simp [HOL.out])
  obtain ⟨u, hu⟩ : ∃ u, ((pl[132]'(by rw [HPL.out]; omega) : Nat) : Int) = u := ⟨_, rfl⟩
  rw [hu] at c0
  obtain ⟨v, hv⟩ : ∃ v, ol[132]'(by rw [HOL.out]; omega) = v := ⟨_, rfl⟩
  rw [hv] at d0 HGET
  have ho2 := (ho1.stored 132 (.int .u64 ((v : Nat) : Int))).1
  have c1 := (ho2.cellAt 133 (by omega))
  rw [← words_set] at c1 ho2
  replace c1 := c1.trans (words_get (pl.set 132 v) 133 (by rw [List.length_set, HPL.out]; omega))
  have f1 := ho2.frozenAt 133
  obtain ⟨u1, hu1⟩ : ∃ u, (((pl.set 132 v)[133]'(by rw [List.length_set, HPL.out]; omega) : Nat) : Int) = u := ⟨_, rfl⟩
  rw [hu1] at c1
  have HO := Lib.hid ho2
  have HB := Lib.hid ((hbz.trans (hB2.mono hbz.size)).setCell (p := ⟨g1, 132, none⟩) (own_base ho1) (.int .u64 ((v : Nat) : Int)))
  rw [HGET.out] at HTW
  clear hu hown2 ho1 ho2 hu1 hB2 x3 hoz hbz hv
  go_wp2_with fail
  go_ret
  have := OwnW.set_ (show (pl.set 132 v).length = 256 by rw [List.length_set]; exact HPL.out) HO.out HB.out 133 128
  rw [← HTW.out] at this
  exact this
theorem tri_fsE : fsErr triL = 0 := by decide +kernel
theorem tri_fsO : ∃ v, fsOut triL = [⟨112, v⟩] := ⟨9223372041149743232, by decide +kernel⟩
theorem tri_obE : obErr triL 132 = 0 := by decide +kernel
theorem tri_obO : obOut triL 132 = [⟨134, 128⟩] := by decide +kernel
theorem tri_rsE : rsErr triL 132 = 0 := by decide +kernel
theorem tri_rsO : rsOut triL 132 = [134] := by decide +kernel
theorem tri_lt : ∀ x ∈ triL, x < 18446744073709551616 := by decide +kernel

set_option maxRecDepth 100000 in
set_option maxHeartbeats 4000000 in
theorem alive28_c (w : World) : Calls Try.prog 45 #[] w fun e w' => e = .returned (.bool true) ∧ Below w.heap.size w w' := by
  have HC := Lib.hid (fun W => two28_c W)
  unfold OwnW at HC
  rw [triL_len] at HC
  obtain ⟨v0, hv0⟩ := tri_fsO
  have HFS := Lib.hid (fun A c W (h : RdW W W.heap.size A triL) => fxSlots_c A triL c 256 W triL_len (by omega) h tri_lt)
  unfold FsRes at HFS
  rw [tri_fsE, hv0] at HFS
  have HOB := Lib.hid (fun A c W (h : RdW W W.heap.size A triL) => fxObject_c A triL c 256 132 W triL_len (by omega) h tri_lt)
  unfold ObRes at HOB
  rw [tri_obE, tri_obO] at HOB
  have HRF := Lib.hid (fun A c W (h : RdW W W.heap.size A triL) => fxRefsAt_c A triL c 256 132 W triL_len (by omega) h tri_lt)
  unfold RsRes at HRF
  rw [tri_rsE, tri_rsO] at HRF
  have HSE := Lib.hid (fun A c B d W (h1 : RdE W W.heap.size A [⟨134, 128⟩]) (h2 : RdE W W.heap.size B [⟨134, 128⟩]) => sameEntries_c A B [⟨134, 128⟩] [⟨134, 128⟩] 1 1 c d W.heap.size W rfl rfl (by omega) h1 h2 (Nat.le_refl _))
  rw [show decide (([⟨134, 128⟩] : List En) = [⟨134, 128⟩]) = true from rfl] at HSE
  have HSI := Lib.hid (fun A c B d W (h1 : RdI W W.heap.size A [134]) (h2 : RdI W W.heap.size B [134]) => sameInts_c A B [134] [134] 1 1 c d W.heap.size W rfl rfl (by omega) h1 h2 (Nat.le_refl _))
  rw [show decide (([134] : List Int) = [134]) = true from rfl] at HSI
  obtain ⟨tw, htw⟩ : ∃ tw, triL = tw := ⟨_, rfl⟩
  rw [htw] at HC HFS HOB HRF
  clear htw hv0
  go_enter Try.func45, Try.ntmps45
  go_wp2_with fail
  refine (HC.out _).mono ?_
  rintro e w1 ⟨g1, c1, rfl, hown1, hB1⟩
  have HO1 := Lib.hid hown1
  clear hown1
  go_wp2_with fail
  refine (HFS.out _ _ _ (Rd.of_own HO1.out)).mono ?_
  rintro e w2 ⟨⟨A2, c2, rfl, hr2, -⟩, hB2⟩
  have hb2 := hB1.trans (hB2.mono hB1.size)
  have HR2 := Lib.hid hr2
  clear hr2
  go_wp2_with fail
  refine (HC.out _).mono ?_
  rintro e w3 ⟨g3, c3, rfl, hown3, hB3⟩
  have hb3 := hb2.trans (hB3.mono hb2.size)
  have HO3 := Lib.hid hown3
  clear hown3
  go_wp2_with fail
  refine (HOB.out _ _ _ (Rd.of_own HO3.out)).mono ?_
  rintro e w4 ⟨⟨A4, c4, rfl, hr4, -⟩, hB4⟩
  have hb4 := hb3.trans (hB4.mono hb3.size)
  have HR4 := Lib.hid hr4
  clear hr4
  go_wp2_with fail
  refine (HC.out _).mono ?_
  rintro e w5 ⟨g5, c5, rfl, hown5, hB5⟩
  have hb5 := hb4.trans (hB5.mono hb4.size)
  have HO5 := Lib.hid hown5
  clear hown5
  go_wp2_with fail
  refine (HRF.out _ _ _ (Rd.of_own HO5.out)).mono ?_
  rintro e w6 ⟨⟨A6, c6, rfl, hr6, -⟩, hB6⟩
  have hb6 := hb5.trans (hB6.mono hb5.size)
  have hz6 := hb6.size
  have HR6 := Lib.hid hr6
  have HRS := Lib.hid ((((HR2.out.up hB3 hB3.size).up hB4 hB4.size).up hB5 hB5.size).up hB6 hB6.size)
  have HRE := Lib.hid ((HR4.out.up hB5 hB5.size).up hB6 hB6.size)
  obtain ⟨bS, oS, rfl, hbS, p0, -⟩ := RdE.at_ HRS.out (show 0 < 1 by decide)
  have p0 : w6.cell? ⟨bS, oS, none⟩ = some (.int .i64 112) := by simpa using p0
  clear hr6
  go_wp2_with fail
  have xb := Bx.new w6 54 #[.int .i64 134, .int .u64 128]
  have HRA := Lib.hid (show RdE _ _ _ _ from (HRE.out.alloc (Nat.le_refl _) (.cells #[.int .i64 134, .int .u64 128] 54)).more (B' := (w6.alloc (.cells #[.int .i64 134, .int .u64 128] 54)).heap.size) (by simp))
  refine (HSE.out _ _ _ _ _ HRA.out (show Rd _ _ _ _ from Rd.of_bx xb xb.lt)).mono ?_
  rintro e w7 ⟨rfl, hB7⟩
  have hb7 := (hb6.alloc hb6.size (.cells #[.int .i64 134, .int .u64 128] 54)).trans (hB7.mono (by have := hb6.size; simp; omega))
  have HRI := Lib.hid ((HR6.out.alloc (Nat.le_refl _) (.cells #[.int .i64 134, .int .u64 128] 54)).up (B' := w7.heap.size) (hB7.mono (by simp)) (by have := hB7.size; simp at this; omega))
  clear xb
  go_wp2_with fail
  have xb := Bx.new w7 3 #[.int .i64 134]
  have HRN := Lib.hid (show RdI _ _ _ _ from (HRI.out.alloc (Nat.le_refl _) (.cells #[.int .i64 134] 3)).more (B' := (w7.alloc (.cells #[.int .i64 134] 3)).heap.size) (by simp))
  refine (HSI.out _ _ _ _ _ HRN.out (show Rd _ _ _ _ from Rd.of_bx xb xb.lt)).mono ?_
  rintro e w8 ⟨rfl, hB8⟩
  have hb8 := (hb7.alloc hb7.size (.cells #[.int .i64 134] 3)).trans (hB8.mono (by have := hb7.size; simp; omega))
  clear xb
  go_wp2_with fail
  go_ret
  exact ⟨rfl, hb8⟩
end Go.Proofs.Ytpmfiibndiecpaa
