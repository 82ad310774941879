/- The chapter's example of layer 29: a marked object behind a free extent, and its move. -/
import Derived.Test.YtkcancjalpjbgaaSldM
import Derived.Test.YtkcancjalpjbgaaSldU
import Derived.Test.YtkcancjalpjbgaaPair
namespace Go.Proofs.Ytkcancjalpjbgaa
open Go.RowKit

def free2 : Bk := ⟨0, 2, 2, 0, false, 0⟩
def obj4n : Bk := ⟨0, 4, 1, 0, true, 128⟩
def nearB : List Nat := buildL 256 [[1, 1]] [free2, obj4n] []
def nearL : List Nat := (nearB.set 132 7).set 133 8
theorem nearB_len : nearB.length = 256 := by decide +kernel
theorem nearL_len : nearL.length = 256 := by unfold nearL; rw [List.length_set, List.length_set, nearB_len]
theorem fit_near : ∀ k, k < 2 → fits 256 [[1, 1]] [free2, obj4n] k := by decide +kernel
theorem near_lt : ∀ x ∈ nearL, x < 18446744073709551616 := by decide +kernel
theorem near_err : mvErr nearL 130 128 = 0 := by decide +kernel
def nearE : List En := mvOut nearL 130 128
theorem nearE_len : nearE.length = 4 := by decide +kernel
theorem nearE_in : ∀ e ∈ nearE, 0 ≤ e.a ∧ e.a < (256 : Int) := by decide +kernel
theorem nearE_0 : nearE[0]?.map En.a = some 128 := by decide +kernel
theorem nearE_3 : nearE[3]? = some ⟨131, 8⟩ := by decide +kernel
def nearX : List Nat := putE nearL nearE
theorem nearX_len : nearX.length = 256 := by unfold nearX; rw [putE_len, nearL_len]
theorem nearX_v : nearX[129]? = some 0 ∧ nearX[130]? = some 7 ∧ nearX[133]? = some 8 := by decide +kernel

set_option maxRecDepth 100000 in
set_option maxHeartbeats 2000000 in
theorem near_c (w : World) : Calls Try.prog 54 #[] w fun e w' => OwnW w nearL e w' := by
  have hlen := nearB_len
  have HNL : Hid (nearL = (nearB.set 132 7).set 133 8) := Lib.hid rfl
  have HNB : Hid (buildL 256 [[1, 1]] [free2, obj4n] [] = nearB) := Lib.hid rfl
  have x0 := Bx.new w 5 #[.int .u8 1, .int .u8 1]
  have x1 := Bx.new (w.alloc (.cells #[.int .u8 1, .int .u8 1] 5)) 81 #[.slice (some ⟨w.heap.size, 0, none⟩) 2 2]
  have x2 := Bx.new ((w.alloc (.cells #[.int .u8 1, .int .u8 1] 5)).alloc (.cells #[.slice (some ⟨w.heap.size, 0, none⟩) 2 2] 81)) 26 #[.int .i64 0, .int .i64 2, .int .i64 2, .int .i64 0, .bool false, .int .u64 0, .int .i64 0, .int .i64 4, .int .i64 1, .int .i64 0, .bool true, .int .u64 128]
  simp only [World.size_alloc] at x0 x1 x2
  replace x0 := (x0.alloc (.cells #[.slice (some ⟨w.heap.size, 0, none⟩) 2 2] 81)).alloc (.cells #[.int .i64 0, .int .i64 2, .int .i64 2, .int .i64 0, .bool false, .int .u64 0, .int .i64 0, .int .i64 4, .int .i64 1, .int .i64 0, .bool true, .int .u64 128] 26)
  replace x1 := x1.alloc (.cells #[.int .i64 0, .int .i64 2, .int .i64 2, .int .i64 0, .bool false, .int .u64 0, .int .i64 0, .int .i64 4, .int .i64 1, .int .i64 0, .bool true, .int .u64 128] 26)
  have hbz : Below w.heap.size w (((w.alloc (.cells #[.int .u8 1, .int .u8 1] 5)).alloc (.cells #[.slice (some ⟨w.heap.size, 0, none⟩) 2 2] 81)).alloc (.cells #[.int .i64 0, .int .i64 2, .int .i64 2, .int .i64 0, .bool false, .int .u64 0, .int .i64 0, .int .i64 4, .int .i64 1, .int .i64 0, .bool true, .int .u64 128] 26)) := by
    refine (((Below.refl _ _).alloc (Nat.le_refl _) _).alloc ?_ _).alloc ?_ _ <;> simp only [World.size_alloc] <;> omega
  have X := Lib.hid (And.intro x0 (And.intro x1 (And.intro x2 hbz)))
  clear x0 x1 x2 hbz
  go_enter Try.func54, Try.ntmps54
  go_wp2_with fail
  obtain ⟨Z, hZ⟩ : ∃ Z, ((w.alloc (.cells #[.int .u8 1, .int .u8 1] 5)).alloc (.cells #[.slice (some ⟨w.heap.size, 0, none⟩) 2 2] 81)).alloc (.cells #[.int .i64 0, .int .i64 2, .int .i64 2, .int .i64 0, .bool false, .int .u64 0, .int .i64 0, .int .i64 4, .int .i64 1, .int .i64 0, .bool true, .int .u64 128] 26) = Z := ⟨_, rfl⟩
  rw [hZ] at X ⊢
  clear hZ
  obtain ⟨x0, x1, x2, hbz⟩ := X.out
  have hT : RdT Z Z.heap.size (some ⟨w.heap.size + 1, 0, none⟩) [⟨some ⟨w.heap.size, 0, none⟩, 2, [1, 1]⟩] := by
    refine ⟨Rd.of_bx x1 x1.lt, fun x hx => ?_⟩
    simp only [List.mem_cons, List.not_mem_nil, or_false] at hx
    subst hx
    exact ⟨Rd.of_bx x0 x0.lt, show (2 : Nat) ≤ 8 by decide, show kndOk [1, 1] = true by decide⟩
  have HC := Lib.hid (build_c (some ⟨w.heap.size + 1, 0, none⟩) (some ⟨w.heap.size + 1 + 1, 0, none⟩) none [⟨some ⟨w.heap.size, 0, none⟩, 2, [1, 1]⟩] [free2, obj4n] [] 1 2 0 256 Z.heap.size Z (by omega) (by omega) hT (show (1 : Nat) ≤ 8 by decide)
    (show Rd _ _ _ _ from Rd.of_bx x2 x2.lt) Rd.nil_ (show (0 : Nat) ≤ 16 by decide) (Nat.le_refl _) (show (2 : Nat) ≤ 2048 by decide) (fun k hk => fit_near k hk) (fun k hk => slot_none k hk))
  refine HC.out.mono ?_
  rintro e w1 ⟨g, c, rfl, hown, hB⟩
  rw [show (buildL 256 (List.map Ty.l [⟨some ⟨w.heap.size, 0, none⟩, 2, [1, 1]⟩]) [free2, obj4n] []) = buildL 256 [[1, 1]] [free2, obj4n] [] from rfl, HNB.out, hlen] at hown
  rw [show (buildL 256 (List.map Ty.l [⟨some ⟨w.heap.size, 0, none⟩, 2, [1, 1]⟩]) [free2, obj4n] []) = buildL 256 [[1, 1]] [free2, obj4n] [] from rfl, HNB.out, hlen]
  obtain ⟨bl, hbl⟩ : ∃ bl, nearB = bl := ⟨_, rfl⟩
  rw [hbl] at hown HNL hlen
  have c0 := (hown.cellAt 132 (by omega)).trans (words_get bl 132 (by rw [hlen]; omega))
  have f0 := hown.frozenAt 132
  have c1 := (hown.cellAt 133 (by omega)).trans (words_get bl 133 (by rw [hlen]; omega))
  have f1 := hown.frozenAt 133
  obtain ⟨u, hu⟩ : ∃ u, ((bl[132]'(by rw [hlen]; omega) : Nat) : Int) = u := ⟨_, rfl⟩
  obtain ⟨v, hv⟩ : ∃ v, ((bl[133]'(by rw [hlen]; omega) : Nat) : Int) = v := ⟨_, rfl⟩
  rw [hu] at c0
  rw [hv] at c1
  have HO := Lib.hid hown
  have HB := Lib.hid hB
  have HLN := Lib.hid hlen
  have HBZ := Lib.hid hbz
  clear hu hv hbl hown hB x0 x1 x2 hT hbz hlen
  go_wp2_with fail
  go_ret
  have h1 := (HO.out.stored 132 (.int .u64 ((7 : Nat) : Int))).1
  rw [← words_set] at h1
  have h2 := OwnW.mk_ HBZ.out (OwnW.set_ (by rw [List.length_set]; exact HLN.out) h1 (HB.out.setCell (p := ⟨g, 132, none⟩) (own_base HO.out) _) 133 8)
  rw [← HNL.out] at h2
  exact h2

set_option maxRecDepth 100000 in
set_option maxHeartbeats 4000000 in
theorem alive29_c (w : World) : Calls Try.prog 24 #[] w fun e w' => e = .returned (.bool true) ∧ Below w.heap.size w w' := by
  have HC := Lib.hid (fun W => near_c W)
  unfold OwnW at HC
  rw [nearL_len] at HC
  have hout : mvOut nearL 130 128 = nearE := rfl
  have HMV := Lib.hid (fun A c W (h : RdW W W.heap.size A nearL) => sMove_c A nearL c 256 130 128 W nearL_len (by omega) (by omega) (by omega) h near_lt)
  unfold MvRes at HMV
  rw [near_err, hout, nearE_len] at HMV
  have HPT := Lib.hid (fun A B c d W (h : RdW W W.heap.size A nearL) (h2 : RdE W W.heap.size B nearE) => sPut_c A B nearL nearE c d 256 4 W.heap.size W nearL_len nearE_len (by decide) (by omega) nearE_in h h2 (Nat.le_refl _))
  unfold OwnV at HPT
  have hX : putE nearL nearE = nearX := rfl
  rw [hX, nearX_len] at HPT
  obtain ⟨v0, v1, v2⟩ := nearX_v
  have hxl := nearX_len
  have hel := nearE_len
  have he0 := nearE_0
  have he3 := nearE_3
  clear hX hout
  generalize nearX = X at HPT v0 v1 v2 hxl
  generalize nearE = E at HMV HPT hel he0 he3
  generalize nearL = L at HC HMV HPT
  obtain ⟨x0, hx0, hx0a⟩ : ∃ x, E[0]? = some x ∧ x.a = 128 := by
    cases h : E[0]? with
    | none => rw [h] at he0; cases he0
    | some x => rw [h] at he0; exact ⟨x, rfl, by simpa using he0⟩
  obtain ⟨hx0l, hx0e⟩ := List.getElem?_eq_some_iff.1 hx0
  obtain ⟨hx3l, hx3e⟩ := List.getElem?_eq_some_iff.1 he3
  obtain ⟨l0, e0⟩ := List.getElem?_eq_some_iff.1 v0
  obtain ⟨l1, e1⟩ := List.getElem?_eq_some_iff.1 v1
  obtain ⟨l2, e2⟩ := List.getElem?_eq_some_iff.1 v2
  clear he0 he3 hx0 v0 v1 v2 hel hxl
  go_enter Try.func24, Try.ntmps24
  go_wp2_with fail
  refine (HC.out _).mono ?_
  rintro e w1 ⟨g1, c1, rfl, hown1, hB1⟩
  have HO1 := Lib.hid hown1
  clear hown1
  go_wp2_with fail
  refine (HMV.out _ _ _ (Rd.of_own HO1.out)).mono ?_
  rintro e w2 ⟨⟨A2, c2, rfl, hr2, -⟩, hB2⟩
  have hb2 := hB1.trans (hB2.mono hB1.size)
  have HR2 := Lib.hid hr2
  clear hr2
  go_wp2_with fail
  refine (HC.out _).mono ?_
  rintro e w3 ⟨g3, c3, rfl, hown3, hB3⟩
  have hb3 := hb2.trans (hB3.mono hb2.size)
  have HO3 := Lib.hid hown3
  have HR3 := Lib.hid (HR2.out.up hB3 hB3.size)
  clear hown3
  go_wp2_with fail
  refine (HPT.out _ _ _ _ _ (Rd.of_own HO3.out) HR3.out).mono ?_
  rintro e w4 ⟨g4, c4, rfl, hown4, hB4⟩
  have hb4 := hb3.trans (hB4.mono hb3.size)
  have hR := HR3.out.up hB4 hB4.size
  have hW := Rd.of_own hown4
  obtain ⟨b, off, rfl, hb, p0, -⟩ := RdE.at_ hR hx0l
  obtain ⟨b', off', hA, hb', p3, p3'⟩ := RdE.at_ hR hx3l
  cases hA
  obtain ⟨b, off, hA, hb', q0⟩ := RdW.at_ hW l0
  cases hA
  obtain ⟨b, off, hA, hb', q1⟩ := RdW.at_ hW l1
  cases hA
  obtain ⟨b, off, hA, hb', q2⟩ := RdW.at_ hW l2
  cases hA
  rw [hx0e, hx0a] at p0
  rw [hx3e] at p3 p3'
  rw [e0] at q0
  rw [e1] at q1
  rw [e2] at q2
  dsimp only at p3 p3'
  simp only [Nat.zero_mul, Nat.add_zero, Nat.zero_add, Nat.reduceMul, Int.cast_ofNat_Int] at p0 p3 p3' q0 q1 q2
  clear hR hW hown4 HR2 HR3 HO1 HO3 HC HMV HPT hx0e hx0a hx3e e0 e1 e2 hx0l hx3l l0 l1 l2
  go_wp2_with fail
  go_ret
  exact ⟨rfl, hb4⟩
end Go.Proofs.Ytkcancjalpjbgaa
