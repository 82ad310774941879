/- The law EffortNames: limits and errors of efforts. -/
import Derived.Test.YtpfbppjjegialaaGng
import Derived.Test.YtpfbppjjegialaaAl34
import Derived.Test.YtpfbppjjegialaaBnd
import Derived.Test.YtpfbppjjegialaaEnt11
import Derived.Test.YtpfbppjjegialaaCmp
import Derived.Test.YtpfbppjjegialaaFrsh
namespace Go.Proofs.Ytpfbppjjegialaa
open Go.RowKit

def BxL (w : World) (g : Nat) (t : TypeId) (cs : Array Value) : Prop := Bx w g t cs
theorem BxL.up {w w1 : World} {g : Nat} {t : TypeId} {cs : Array Value} (h : BxL w g t cs) (hb : Below w.heap.size w w1) (_ : w.heap.size ≤ w1.heap.size) : BxL w1 g t cs := Bx.up h hb (Bx.lt h)
theorem row_s (a : Int) (n : Nat) (w : World) (ha : -10000 ≤ a) (ha2 : a ≤ 10000) (hn : n ≤ 2000) :
    Calls Try.prog 18 #[.int .i64 a, .int .i64 (n : Int)] w fun e w' => ∃ A c, e = .returned (.slice A n c) ∧ RdE w' w'.heap.size A (rowL a n) ∧ Below w.heap.size w w' := by
  refine (row_c a n w ha ha2 hn).mono ?_
  rintro e w1 ⟨v, rfl, hown, hB⟩
  obtain ⟨A, c, rfl⟩ := own_slice hown
  exact ⟨A, c, rfl, Rd.of_own hown, hB⟩
theorem sum2_c (l1 l2 : List En) (n1 n2 c1 c2 : Nat) (A1 A2 : Option Addr) (w : World) (e1 : l1.length = n1) (e2 : l2.length = n2) (m1 : n1 ≤ 1000) (m2 : n2 ≤ 1000) (h1 : RdE w w.heap.size A1 l1) (h2 : RdE w w.heap.size A2 l2) :
    Calls Try.prog 19 #[.slice (some ⟨w.heap.size, 0, none⟩) 2 2] (w.alloc (.cells #[.slice A1 n1 c1, .slice A2 n2 c2] 24)) fun e w' => e = .returned (sumRes [addrs l1, addrs l2]) ∧ Below w.heap.size w w' := by
  subst e1 e2
  have xb := Bx.new w 24 #[.slice A1 l1.length c1, .slice A2 l2.length c2]
  have hba : Below w.heap.size w (w.alloc (.cells #[.slice A1 l1.length c1, .slice A2 l2.length c2] 24)) := (Below.refl _ _).alloc (Nat.le_refl _) _
  refine (sum_n (some ⟨w.heap.size, 0, none⟩) [⟨A1, c1, l1⟩, ⟨A2, c2, l2⟩] 2 2 _ rfl (by omega) (show Rd _ _ _ _ from Rd.of_bx xb xb.lt) (fun x hx => ?_)).mono ?_
  · simp only [List.mem_cons, List.not_mem_nil, or_false] at hx
    rcases hx with rfl | rfl
    · exact ⟨by unfold maxLen; dsimp only; omega, h1.up hba hba.size⟩
    · exact ⟨by unfold maxLen; dsimp only; omega, h2.up hba hba.size⟩
  · rintro e w1 ⟨rfl, hB⟩
    exact ⟨rfl, hba.trans (hB.mono hba.size)⟩
theorem sum3_c (l1 l2 : List En) (n1 n2 c1 c2 : Nat) (A1 A2 : Option Addr) (w : World) (e1 : l1.length = n1) (e2 : l2.length = n2) (m1 : n1 ≤ 1000) (m2 : n2 ≤ 1000) (h1 : RdE w w.heap.size A1 l1) (h2 : RdE w w.heap.size A2 l2) :
    Calls Try.prog 19 #[.slice (some ⟨w.heap.size, 0, none⟩) 3 3] (w.alloc (.cells #[.slice A1 n1 c1, .slice none 0 0, .slice A2 n2 c2] 24)) fun e w' => e = .returned (sumRes [addrs l1, [], addrs l2]) ∧ Below w.heap.size w w' := by
  subst e1 e2
  have xb := Bx.new w 24 #[.slice A1 l1.length c1, .slice none 0 0, .slice A2 l2.length c2]
  have hba : Below w.heap.size w (w.alloc (.cells #[.slice A1 l1.length c1, .slice none 0 0, .slice A2 l2.length c2] 24)) := (Below.refl _ _).alloc (Nat.le_refl _) _
  refine (sum_n (some ⟨w.heap.size, 0, none⟩) [⟨A1, c1, l1⟩, ⟨none, 0, []⟩, ⟨A2, c2, l2⟩] 3 3 _ rfl (by omega) (show Rd _ _ _ _ from Rd.of_bx xb xb.lt) (fun x hx => ?_)).mono ?_
  · simp only [List.mem_cons, List.not_mem_nil, or_false] at hx
    rcases hx with rfl | rfl | rfl
    · exact ⟨by unfold maxLen; dsimp only; omega, h1.up hba hba.size⟩
    · exact ⟨by unfold maxLen; dsimp only [List.length_nil]; omega, Rd.nil_⟩
    · exact ⟨by unfold maxLen; dsimp only; omega, h2.up hba hba.size⟩
  · rintro e w1 ⟨rfl, hB⟩
    exact ⟨rfl, hba.trans (hB.mono hba.size)⟩
theorem gng_of {f k : Nat} {x : List Nat} {r s u n : Int} (ho : ∀ v ∈ x, v < 18446744073709551616) (h : (rsAllC f k x).map (fun r => (r.1, sumErr (r.2.1.map addrs), smS (r.2.1.map addrs), smF (r.2.1.map addrs), smN (r.2.1.map addrs))) = some (0, r, s, u, n)) :
    gngRes x = .tuple #[.agg #[.int .i64 s, .int .i64 u, .int .i64 n], .int .i64 r] := by
  cases hr : rsAllC f k x with
  | none => rw [hr] at h; cases h
  | some q =>
    rw [hr] at h
    simp only [Option.map_some, Option.some.injEq, Prod.mk.injEq] at h
    obtain ⟨h1, h2, h3, h4, h5⟩ := h
    unfold gngRes
    rw [rsAllC_ok ho hr, if_pos h1, sumRes, effV, h2, h3, h4, h5]
theorem gng_bad {f k : Nat} {x : List Nat} {r : Int} (ho : ∀ v ∈ x, v < 18446744073709551616) (h : (rsAllC f k x).map (fun r => r.1) = some r) (h0 : r ≠ 0) : gngRes x = .tuple #[.agg #[.int .i64 0, .int .i64 0, .int .i64 0], .int .i64 r] := by
  cases hr : rsAllC f k x with
  | none => rw [hr] at h; cases h
  | some q =>
    rw [hr] at h
    simp only [Option.map_some, Option.some.injEq] at h
    unfold gngRes
    rw [rsAllC_ok ho hr, if_neg (by rw [h]; exact h0), effV, h]
def enwL : List Nat := buildL 256 [] [] []
theorem enw_len : enwL.length = 256 := by decide +kernel
theorem enw_lt : ∀ x ∈ enwL, x < 18446744073709551616 := by decide +kernel
theorem enw_fit : ∀ k, k < 0 → fits 256 [] [] k := by decide +kernel
theorem enw_slt : ∀ k, k < 0 → ([] : List Int)[k]?.getD 0 < 4294967296 ∧ -4294967296 < ([] : List Int)[k]?.getD 0 := by decide +kernel
set_option maxRecDepth 100000 in
theorem enw_c (w : World) : Calls Try.prog 7 #[.int .i64 256, .slice none 0 0, .slice none 0 0, .slice none 0 0] w fun e w' => OwnW w enwL e w' := by
  have hbz : Below w.heap.size w w := Below.refl _ _
  obtain ⟨Z, hZ⟩ : ∃ Z, w = Z := ⟨_, rfl⟩
  rw [hZ] at  hbz ⊢
  clear hZ
  have hC := build_c none none none [] [] [] 0 0 0 256 Z.heap.size Z (by omega) (by omega) RdT.nil_ (show (0 : Nat) ≤ 8 by decide) Rd.nil_ Rd.nil_ (show (0 : Nat) ≤ 16 by decide) (Nat.le_refl _) (show (0 : Nat) ≤ 2048 by decide) (fun k hk => enw_fit k hk) (fun k hk => enw_slt k hk)
  refine hC.mono ?_
  intro e w1 h
  exact OwnW.mk_ hbz (show OwnW Z enwL e w1 from h)

def en4L : List Nat := putE enwL (phE 4 128 128)
theorem en4_len : en4L.length = 256 := by unfold en4L; rw [putE_len, enw_len]
theorem en4_lt : ∀ x ∈ en4L, x < 18446744073709551616 := by decide +kernel
theorem en_0 : (rsAllC 40 14 enwL).map (fun r => (r.1, sumErr (r.2.1.map addrs), smS (r.2.1.map addrs), smF (r.2.1.map addrs), smN (r.2.1.map addrs))) = some (0, 0, 0, 0, 0) := by decide +kernel
theorem en_4 : (rsAllC 40 14 en4L).map (fun r => (r.1, sumErr (r.2.1.map addrs), smS (r.2.1.map addrs), smF (r.2.1.map addrs), smN (r.2.1.map addrs))) = some (0, 0, 17, 6, 4) := by decide +kernel
theorem en_n : (rsAllC 40 14 []).map (fun r => r.1) = some 8 := by decide +kernel

set_option maxRecDepth 100000 in
set_option maxHeartbeats 16000000 in
theorem effortNames_walk (w : World) : Calls Try.prog 5 #[] w fun e w' => e = .returned (.bool true) ∧ Below w.heap.size w w' := by
  have HB0 := Lib.hid (Below.refl w.heap.size w)
  have OA := Lib.hid (fun A c W (h : RdE W W.heap.size A (rowL 0 33)) => of_c A (rowL 0 33) c W (show (33 : Nat) ≤ 9223372036854775807 by omega) h)
  rw [show effRes (addrs (rowL 0 33)) = .tuple #[.agg #[.int .i64 0, .int .i64 0, .int .i64 0], .int .i64 4] by kernel_rfl, show ((rowL 0 33) : List En).length = 33 from rfl] at OA
  have OB := Lib.hid (fun A c W (h : RdE W W.heap.size A (rowL (-1) 1)) => of_c A (rowL (-1) 1) c W (show (1 : Nat) ≤ 9223372036854775807 by omega) h)
  rw [show effRes (addrs (rowL (-1) 1)) = .tuple #[.agg #[.int .i64 0, .int .i64 0, .int .i64 0], .int .i64 2] by kernel_rfl, show ((rowL (-1) 1) : List En).length = 1 from rfl] at OB
  have OC := Lib.hid (fun A c W (h : RdE W W.heap.size A (rowL 2047 2)) => of_c A (rowL 2047 2) c W (show (2 : Nat) ≤ 9223372036854775807 by omega) h)
  rw [show effRes (addrs (rowL 2047 2)) = .tuple #[.agg #[.int .i64 0, .int .i64 0, .int .i64 0], .int .i64 2] by kernel_rfl, show ((rowL 2047 2) : List En).length = 2 from rfl] at OC
  have OD := Lib.hid (fun A c W (h : RdE W W.heap.size A [⟨5, 0⟩, ⟨6, 0⟩, ⟨5, 1⟩]) => of_c A [⟨5, 0⟩, ⟨6, 0⟩, ⟨5, 1⟩] c W (show (3 : Nat) ≤ 9223372036854775807 by omega) h)
  rw [show effRes (addrs [⟨5, 0⟩, ⟨6, 0⟩, ⟨5, 1⟩]) = .tuple #[.agg #[.int .i64 0, .int .i64 0, .int .i64 0], .int .i64 2] by kernel_rfl, show ([⟨5, 0⟩, ⟨6, 0⟩, ⟨5, 1⟩] : List En).length = 3 from rfl] at OD
  have BA := Lib.hid (fun W => bound_c 248 W)
  rw [show bdRes 248 = .tuple #[.agg #[.int .i64 0, .int .i64 0, .int .i64 0], .int .i64 2] by kernel_rfl] at BA
  have BB := Lib.hid (fun W => bound_c 2056 W)
  rw [show bdRes 2056 = .tuple #[.agg #[.int .i64 0, .int .i64 0, .int .i64 0], .int .i64 2] by kernel_rfl] at BB
  have BC := Lib.hid (fun W => bound_c 257 W)
  rw [show bdRes 257 = .tuple #[.agg #[.int .i64 0, .int .i64 0, .int .i64 0], .int .i64 2] by kernel_rfl] at BC
  have BD := Lib.hid (fun W => bound_c 256 W)
  rw [show bdRes 256 = .tuple #[.agg #[.int .i64 2760, .int .i64 2760, .int .i64 2760], .int .i64 0] by kernel_rfl] at BD
  have BE := Lib.hid (fun W => bound_c 2048 W)
  rw [show bdRes 2048 = .tuple #[.agg #[.int .i64 38600, .int .i64 38600, .int .i64 38600], .int .i64 0] by kernel_rfl] at BE
  have HLw := Lib.hid (fun W => enw_c W)
  unfold OwnW at HLw
  rw [enw_len] at HLw
  have GA := Lib.hid (fun A c W (hc : 256 ≤ c) (h : RdW W W.heap.size A enwL) => going_c A enwL c 256 W enw_len (by omega) hc h enw_lt)
  rw [gng_of enw_lt en_0] at GA
  have GB := Lib.hid (fun A c W (hc : 256 ≤ c) (h : RdW W W.heap.size A en4L) => going_c A en4L c 256 W en4_len (by omega) hc h en4_lt)
  rw [gng_of en4_lt en_4] at GB
  have GC := Lib.hid (fun W => going_c none [] 0 0 W rfl (by omega) (Nat.le_refl _) Rd.nil_ (fun x hx => by simp at hx))
  rw [gng_bad (fun x hx => by simp at hx) en_n (by decide)] at GC
  have HEN := Lib.hid (fun W => ent11_c 4 128 128 W (by omega) (by omega) (by omega))
  unfold phV at HEN
  simp only [Int.cast_ofNat_Int] at HEN
  have HPT := Lib.hid (fun A B c d W (h : RdW W W.heap.size A enwL) (h2 : RdE W W.heap.size B (phE 4 128 128)) => put25_c A B enwL (phE 4 128 128) c d 256 3 W.heap.size W enw_len rfl (by omega) (by omega) (by omega) h h2 (Nat.le_refl _))
  unfold OwnW at HPT
  rw [show putE enwL (phE 4 128 128) = en4L from rfl, en4_len] at HPT
  have S1 := Lib.hid (show sumRes [addrs (rowL 0 1), addrs (rowL 0 33)] = .tuple #[.agg #[.int .i64 0, .int .i64 0, .int .i64 0], .int .i64 4] by kernel_rfl)
  have S2 := Lib.hid (show sumRes [addrs (rowL 0 1), [], addrs (rowL 7 2)] = .tuple #[.agg #[.int .i64 13, .int .i64 9, .int .i64 8], .int .i64 0] by kernel_rfl)
  have T0 := Lib.hid (show effRes (addrs []) = .tuple #[effV 0 0 0, .int .i64 0] by kernel_rfl)
  have T1 := Lib.hid (show effRes (addrs (rowL 2047 1)) = .tuple #[effV 5 4 4, .int .i64 0] by kernel_rfl)
  have T2 := Lib.hid (show effRes (addrs (rowL 15 2)) = .tuple #[effV 8 5 4, .int .i64 0] by kernel_rfl)
  have T3 := Lib.hid (show effRes (addrs (rowL 16 5)) = .tuple #[effV 17 5 4, .int .i64 0] by kernel_rfl)
  generalize enwL = lw at *
  generalize en4L = l4 at *
  go_enter Try.func5, Try.ntmps5
  go_wp2_with fail
  refine (row_s 0 33 _ (by omega) (by omega) (by omega)).mono ?_
  rintro e w_1 ⟨A1, c1, rfl, hr1, hB1⟩
  have HB1 := Lib.hid (HB0.out.trans (hB1.mono HB0.out.size))
  have R_1 := Lib.hid (show RdE _ _ _ (rowL 0 33) from hr1)
  clear hB1 hr1
  go_wp2_with fail
  refine (OA.out _ _ _ R_1.out).mono ?_
  rintro e w_2 ⟨rfl, hB2⟩
  have HB2 := Lib.hid (HB1.out.trans (hB2.mono HB1.out.size))
  clear hB2
  have xb := Bx.new w_2 45 #[.int .i64 0, .int .i64 0, .int .i64 0]
  have hba : Below w_2.heap.size w_2 (w_2.alloc (.cells #[.int .i64 0, .int .i64 0, .int .i64 0] 45)) := (Below.refl _ _).alloc (Nat.le_refl _) _
  go_upto_region 2 with (fail)
  obtain ⟨w_3, hW⟩ : ∃ W, w_2.alloc (.cells #[.int .i64 0, .int .i64 0, .int .i64 0] 45) = W := ⟨_, rfl⟩
  rw [hW] at xb hba ⊢
  clear hW
  have HB3 := Lib.hid (HB2.out.trans (hba.mono HB2.out.size))
  clear xb hba
  go_wp2_with fail
  refine (row_s (-1) 1 _ (by omega) (by omega) (by omega)).mono ?_
  rintro e w_4 ⟨A4, c4, rfl, hr4, hB4⟩
  have HB4 := Lib.hid (HB3.out.trans (hB4.mono HB3.out.size))
  have R_4 := Lib.hid (show RdE _ _ _ (rowL (-1) 1) from hr4)
  clear hB4 hr4
  go_wp2_with fail
  refine (OB.out _ _ _ R_4.out).mono ?_
  rintro e w_5 ⟨rfl, hB5⟩
  have HB5 := Lib.hid (HB4.out.trans (hB5.mono HB4.out.size))
  clear hB5
  have xb := Bx.new w_5 45 #[.int .i64 0, .int .i64 0, .int .i64 0]
  have hba : Below w_5.heap.size w_5 (w_5.alloc (.cells #[.int .i64 0, .int .i64 0, .int .i64 0] 45)) := (Below.refl _ _).alloc (Nat.le_refl _) _
  go_upto_region 3 with (fail)
  obtain ⟨w_6, hW⟩ : ∃ W, w_5.alloc (.cells #[.int .i64 0, .int .i64 0, .int .i64 0] 45) = W := ⟨_, rfl⟩
  rw [hW] at xb hba ⊢
  clear hW
  have HB6 := Lib.hid (HB5.out.trans (hba.mono HB5.out.size))
  clear xb hba
  go_wp2_with fail
  refine (row_s 2047 2 _ (by omega) (by omega) (by omega)).mono ?_
  rintro e w_7 ⟨A7, c7, rfl, hr7, hB7⟩
  have HB7 := Lib.hid (HB6.out.trans (hB7.mono HB6.out.size))
  have R_7 := Lib.hid (show RdE _ _ _ (rowL 2047 2) from hr7)
  clear hB7 hr7
  go_wp2_with fail
  refine (OC.out _ _ _ R_7.out).mono ?_
  rintro e w_8 ⟨rfl, hB8⟩
  have HB8 := Lib.hid (HB7.out.trans (hB8.mono HB7.out.size))
  clear hB8
  have xb := Bx.new w_8 45 #[.int .i64 0, .int .i64 0, .int .i64 0]
  have hba : Below w_8.heap.size w_8 (w_8.alloc (.cells #[.int .i64 0, .int .i64 0, .int .i64 0] 45)) := (Below.refl _ _).alloc (Nat.le_refl _) _
  go_upto_region 4 with (fail)
  obtain ⟨w_9, hW⟩ : ∃ W, w_8.alloc (.cells #[.int .i64 0, .int .i64 0, .int .i64 0] 45) = W := ⟨_, rfl⟩
  rw [hW] at xb hba ⊢
  clear hW
  have HB9 := Lib.hid (HB8.out.trans (hba.mono HB8.out.size))
  clear xb hba
  go_wp2_with fail
  have xb := Bx.new w_9 50 #[.int .i64 5, .int .u64 0, .int .i64 6, .int .u64 0, .int .i64 5, .int .u64 1]
  have hba : Below w_9.heap.size w_9 (w_9.alloc (.cells #[.int .i64 5, .int .u64 0, .int .i64 6, .int .u64 0, .int .i64 5, .int .u64 1] 50)) := (Below.refl _ _).alloc (Nat.le_refl _) _
  refine (OD.out _ _ _ (show Rd _ _ _ _ from Rd.of_bx xb xb.lt)).mono ?_
  rintro e w_10 ⟨rfl, hB10⟩
  have hbb := hba.trans (hB10.mono hba.size)
  have HB10 := Lib.hid (HB9.out.trans (hbb.mono HB9.out.size))
  clear hB10 hbb hba
  have xb := Bx.new w_10 45 #[.int .i64 0, .int .i64 0, .int .i64 0]
  have hba : Below w_10.heap.size w_10 (w_10.alloc (.cells #[.int .i64 0, .int .i64 0, .int .i64 0] 45)) := (Below.refl _ _).alloc (Nat.le_refl _) _
  go_upto_region 5 with (fail)
  obtain ⟨w_11, hW⟩ : ∃ W, w_10.alloc (.cells #[.int .i64 0, .int .i64 0, .int .i64 0] 45) = W := ⟨_, rfl⟩
  rw [hW] at xb hba ⊢
  clear hW
  have HB11 := Lib.hid (HB10.out.trans (hba.mono HB10.out.size))
  clear xb hba
  go_wp2_with fail
  refine (row_s 0 1 _ (by omega) (by omega) (by omega)).mono ?_
  rintro e w_12 ⟨A12, c12, rfl, hr12, hB12⟩
  have HB12 := Lib.hid (HB11.out.trans (hB12.mono HB11.out.size))
  have R_12 := Lib.hid (show RdE _ _ _ (rowL 0 1) from hr12)
  clear hB12 hr12
  go_wp2_with fail
  refine (row_s 0 33 _ (by omega) (by omega) (by omega)).mono ?_
  rintro e w_13 ⟨A13, c13, rfl, hr13, hB13⟩
  have R_13 := Lib.hid (R_12.out.up hB13 hB13.size)
  have HB13 := Lib.hid (HB12.out.trans (hB13.mono HB12.out.size))
  have Q_13 := Lib.hid (show RdE _ _ _ (rowL 0 33) from hr13)
  clear hB13 hr13
  go_wp2_with fail
  refine (sum2_c (rowL 0 1) (rowL 0 33) 1 33 _ _ _ _ _ rfl rfl (by omega) (by omega) R_13.out Q_13.out).mono ?_
  rintro e w_14 ⟨rfl, hB14⟩
  have HB14 := Lib.hid (HB13.out.trans (hB14.mono HB13.out.size))
  clear hB14
  rw [S1.out]
  have xb := Bx.new w_14 45 #[.int .i64 0, .int .i64 0, .int .i64 0]
  have hba : Below w_14.heap.size w_14 (w_14.alloc (.cells #[.int .i64 0, .int .i64 0, .int .i64 0] 45)) := (Below.refl _ _).alloc (Nat.le_refl _) _
  go_upto_region 6 with (fail)
  obtain ⟨w_15, hW⟩ : ∃ W, w_14.alloc (.cells #[.int .i64 0, .int .i64 0, .int .i64 0] 45) = W := ⟨_, rfl⟩
  rw [hW] at xb hba ⊢
  clear hW
  have HB15 := Lib.hid (HB14.out.trans (hba.mono HB14.out.size))
  clear xb hba
  go_wp2_with fail
  refine (row_s 0 1 _ (by omega) (by omega) (by omega)).mono ?_
  rintro e w_16 ⟨A16, c16, rfl, hr16, hB16⟩
  have HB16 := Lib.hid (HB15.out.trans (hB16.mono HB15.out.size))
  have R_16 := Lib.hid (show RdE _ _ _ (rowL 0 1) from hr16)
  clear hB16 hr16
  go_wp2_with fail
  refine (row_s 7 2 _ (by omega) (by omega) (by omega)).mono ?_
  rintro e w_17 ⟨A17, c17, rfl, hr17, hB17⟩
  have R_17 := Lib.hid (R_16.out.up hB17 hB17.size)
  have HB17 := Lib.hid (HB16.out.trans (hB17.mono HB16.out.size))
  have Q_17 := Lib.hid (show RdE _ _ _ (rowL 7 2) from hr17)
  clear hB17 hr17
  go_wp2_with fail
  refine (sum3_c (rowL 0 1) (rowL 7 2) 1 2 _ _ _ _ _ rfl rfl (by omega) (by omega) R_17.out Q_17.out).mono ?_
  rintro e w_18 ⟨rfl, hB18⟩
  have HB18 := Lib.hid (HB17.out.trans (hB18.mono HB17.out.size))
  clear hB18
  rw [S2.out]
  have xb := Bx.new w_18 45 #[.int .i64 13, .int .i64 9, .int .i64 8]
  have hba : Below w_18.heap.size w_18 (w_18.alloc (.cells #[.int .i64 13, .int .i64 9, .int .i64 8] 45)) := (Below.refl _ _).alloc (Nat.le_refl _) _
  go_upto_region 7 with (fail)
  obtain ⟨w_19, hW⟩ : ∃ W, w_18.alloc (.cells #[.int .i64 13, .int .i64 9, .int .i64 8] 45) = W := ⟨_, rfl⟩
  rw [hW] at xb hba ⊢
  clear hW
  have HB19 := Lib.hid (HB18.out.trans (hba.mono HB18.out.size))
  have XA_19 := Lib.hid (show BxL _ _ _ _ from xb)
  clear xb hba
  go_wp2_with fail
  refine (BA.out _).mono ?_
  rintro e w_20 ⟨rfl, hB20⟩
  have XA_20 := Lib.hid (XA_19.out.up hB20 hB20.size)
  have HB20 := Lib.hid (HB19.out.trans (hB20.mono HB19.out.size))
  clear hB20
  have xb := Bx.new w_20 45 #[.int .i64 0, .int .i64 0, .int .i64 0]
  have hba : Below w_20.heap.size w_20 (w_20.alloc (.cells #[.int .i64 0, .int .i64 0, .int .i64 0] 45)) := (Below.refl _ _).alloc (Nat.le_refl _) _
  go_upto_region 8 with (fail)
  obtain ⟨w_21, hW⟩ : ∃ W, w_20.alloc (.cells #[.int .i64 0, .int .i64 0, .int .i64 0] 45) = W := ⟨_, rfl⟩
  rw [hW] at xb hba ⊢
  clear hW
  have XA_21 := Lib.hid (XA_20.out.up hba hba.size)
  have HB21 := Lib.hid (HB20.out.trans (hba.mono HB20.out.size))
  clear xb hba
  go_wp2_with fail
  refine (BB.out _).mono ?_
  rintro e w_22 ⟨rfl, hB22⟩
  have XA_22 := Lib.hid (XA_21.out.up hB22 hB22.size)
  have HB22 := Lib.hid (HB21.out.trans (hB22.mono HB21.out.size))
  clear hB22
  have xb := Bx.new w_22 45 #[.int .i64 0, .int .i64 0, .int .i64 0]
  have hba : Below w_22.heap.size w_22 (w_22.alloc (.cells #[.int .i64 0, .int .i64 0, .int .i64 0] 45)) := (Below.refl _ _).alloc (Nat.le_refl _) _
  go_upto_region 9 with (fail)
  obtain ⟨w_23, hW⟩ : ∃ W, w_22.alloc (.cells #[.int .i64 0, .int .i64 0, .int .i64 0] 45) = W := ⟨_, rfl⟩
  rw [hW] at xb hba ⊢
  clear hW
  have XA_23 := Lib.hid (XA_22.out.up hba hba.size)
  have HB23 := Lib.hid (HB22.out.trans (hba.mono HB22.out.size))
  clear xb hba
  go_wp2_with fail
  refine (BC.out _).mono ?_
  rintro e w_24 ⟨rfl, hB24⟩
  have XA_24 := Lib.hid (XA_23.out.up hB24 hB24.size)
  have HB24 := Lib.hid (HB23.out.trans (hB24.mono HB23.out.size))
  clear hB24
  have xb := Bx.new w_24 45 #[.int .i64 0, .int .i64 0, .int .i64 0]
  have hba : Below w_24.heap.size w_24 (w_24.alloc (.cells #[.int .i64 0, .int .i64 0, .int .i64 0] 45)) := (Below.refl _ _).alloc (Nat.le_refl _) _
  go_upto_region 10 with (fail)
  obtain ⟨w_25, hW⟩ : ∃ W, w_24.alloc (.cells #[.int .i64 0, .int .i64 0, .int .i64 0] 45) = W := ⟨_, rfl⟩
  rw [hW] at xb hba ⊢
  clear hW
  have XA_25 := Lib.hid (XA_24.out.up hba hba.size)
  have HB25 := Lib.hid (HB24.out.trans (hba.mono HB24.out.size))
  clear xb hba
  go_wp2_with fail
  refine (BD.out _).mono ?_
  rintro e w_26 ⟨rfl, hB26⟩
  have XA_26 := Lib.hid (XA_25.out.up hB26 hB26.size)
  have HB26 := Lib.hid (HB25.out.trans (hB26.mono HB25.out.size))
  clear hB26
  have xb := Bx.new w_26 45 #[.int .i64 2760, .int .i64 2760, .int .i64 2760]
  have hba : Below w_26.heap.size w_26 (w_26.alloc (.cells #[.int .i64 2760, .int .i64 2760, .int .i64 2760] 45)) := (Below.refl _ _).alloc (Nat.le_refl _) _
  go_upto_region 11 with (fail)
  obtain ⟨w_27, hW⟩ : ∃ W, w_26.alloc (.cells #[.int .i64 2760, .int .i64 2760, .int .i64 2760] 45) = W := ⟨_, rfl⟩
  rw [hW] at xb hba ⊢
  clear hW
  have XA_27 := Lib.hid (XA_26.out.up hba hba.size)
  have HB27 := Lib.hid (HB26.out.trans (hba.mono HB26.out.size))
  have XB_27 := Lib.hid (show BxL _ _ _ _ from xb)
  clear xb hba
  go_wp2_with fail
  refine (BE.out _).mono ?_
  rintro e w_28 ⟨rfl, hB28⟩
  have XA_28 := Lib.hid (XA_27.out.up hB28 hB28.size)
  have XB_28 := Lib.hid (XB_27.out.up hB28 hB28.size)
  have HB28 := Lib.hid (HB27.out.trans (hB28.mono HB27.out.size))
  clear hB28
  have xb := Bx.new w_28 45 #[.int .i64 38600, .int .i64 38600, .int .i64 38600]
  have hba : Below w_28.heap.size w_28 (w_28.alloc (.cells #[.int .i64 38600, .int .i64 38600, .int .i64 38600] 45)) := (Below.refl _ _).alloc (Nat.le_refl _) _
  go_upto_region 12 with (fail)
  obtain ⟨w_29, hW⟩ : ∃ W, w_28.alloc (.cells #[.int .i64 38600, .int .i64 38600, .int .i64 38600] 45) = W := ⟨_, rfl⟩
  rw [hW] at xb hba ⊢
  clear hW
  have XA_29 := Lib.hid (XA_28.out.up hba hba.size)
  have XB_29 := Lib.hid (XB_28.out.up hba hba.size)
  have HB29 := Lib.hid (HB28.out.trans (hba.mono HB28.out.size))
  have XC_29 := Lib.hid (show BxL _ _ _ _ from xb)
  clear xb hba
  go_wp2_with fail
  refine (HLw.out _).mono ?_
  rintro e w_30 ⟨g30, c30, rfl, hown30, hB30⟩
  have XA_30 := Lib.hid (XA_29.out.up hB30 hB30.size)
  have XB_30 := Lib.hid (XB_29.out.up hB30 hB30.size)
  have XC_30 := Lib.hid (XC_29.out.up hB30 hB30.size)
  have HB30 := Lib.hid (HB29.out.trans (hB30.mono HB29.out.size))
  have W_30 := Lib.hid (show RdW _ _ _ lw from Rd.of_own hown30)
  have CP30 := Lib.hid (own_capR hown30)
  clear hB30 hown30
  go_wp2_with fail
  refine (GA.out _ _ _ CP30.out W_30.out).mono ?_
  rintro e w_31 ⟨rfl, hB31⟩
  have XA_31 := Lib.hid (XA_30.out.up hB31 hB31.size)
  have XB_31 := Lib.hid (XB_30.out.up hB31 hB31.size)
  have XC_31 := Lib.hid (XC_30.out.up hB31 hB31.size)
  have W_31 := Lib.hid (W_30.out.up hB31 hB31.size)
  have HB31 := Lib.hid (HB30.out.trans (hB31.mono HB30.out.size))
  clear hB31
  have xb := Bx.new w_31 45 #[.int .i64 0, .int .i64 0, .int .i64 0]
  have hba : Below w_31.heap.size w_31 (w_31.alloc (.cells #[.int .i64 0, .int .i64 0, .int .i64 0] 45)) := (Below.refl _ _).alloc (Nat.le_refl _) _
  go_upto_region 14 with (fail)
  obtain ⟨w_32, hW⟩ : ∃ W, w_31.alloc (.cells #[.int .i64 0, .int .i64 0, .int .i64 0] 45) = W := ⟨_, rfl⟩
  rw [hW] at xb hba ⊢
  clear hW
  have XA_32 := Lib.hid (XA_31.out.up hba hba.size)
  have XB_32 := Lib.hid (XB_31.out.up hba hba.size)
  have XC_32 := Lib.hid (XC_31.out.up hba hba.size)
  have W_32 := Lib.hid (W_31.out.up hba hba.size)
  have HB32 := Lib.hid (HB31.out.trans (hba.mono HB31.out.size))
  have XD_32 := Lib.hid (show BxL _ _ _ _ from xb)
  clear xb hba
  go_wp2_with fail
  refine (HEN.out _).mono ?_
  rintro e w_33 ⟨⟨g33, rfl, hr33⟩, hB33⟩
  have XA_33 := Lib.hid (XA_32.out.up hB33 hB33.size)
  have XB_33 := Lib.hid (XB_32.out.up hB33 hB33.size)
  have XC_33 := Lib.hid (XC_32.out.up hB33 hB33.size)
  have W_33 := Lib.hid (W_32.out.up hB33 hB33.size)
  have XD_33 := Lib.hid (XD_32.out.up hB33 hB33.size)
  have HB33 := Lib.hid (HB32.out.trans (hB33.mono HB32.out.size))
  have P_33 := Lib.hid (hr33)
  clear hB33 hr33
  go_wp2_with fail
  refine (HPT.out _ _ _ _ _ W_33.out P_33.out).mono ?_
  rintro e w_34 ⟨g34, c34, rfl, hown34, hB34⟩
  have XA_34 := Lib.hid (XA_33.out.up hB34 hB34.size)
  have XB_34 := Lib.hid (XB_33.out.up hB34 hB34.size)
  have XC_34 := Lib.hid (XC_33.out.up hB34 hB34.size)
  have XD_34 := Lib.hid (XD_33.out.up hB34 hB34.size)
  have HB34 := Lib.hid (HB33.out.trans (hB34.mono HB33.out.size))
  have U_34 := Lib.hid (show RdW _ _ _ l4 from Rd.of_own hown34)
  have CP34 := Lib.hid (own_capR hown34)
  clear hB34 hown34
  go_wp2_with fail
  refine (GB.out _ _ _ CP34.out U_34.out).mono ?_
  rintro e w_35 ⟨rfl, hB35⟩
  have XA_35 := Lib.hid (XA_34.out.up hB35 hB35.size)
  have XB_35 := Lib.hid (XB_34.out.up hB35 hB35.size)
  have XC_35 := Lib.hid (XC_34.out.up hB35 hB35.size)
  have XD_35 := Lib.hid (XD_34.out.up hB35 hB35.size)
  have HB35 := Lib.hid (HB34.out.trans (hB35.mono HB34.out.size))
  clear hB35
  have xb := Bx.new w_35 45 #[.int .i64 17, .int .i64 6, .int .i64 4]
  have hba : Below w_35.heap.size w_35 (w_35.alloc (.cells #[.int .i64 17, .int .i64 6, .int .i64 4] 45)) := (Below.refl _ _).alloc (Nat.le_refl _) _
  go_upto_region 15 with (fail)
  obtain ⟨w_36, hW⟩ : ∃ W, w_35.alloc (.cells #[.int .i64 17, .int .i64 6, .int .i64 4] 45) = W := ⟨_, rfl⟩
  rw [hW] at xb hba ⊢
  clear hW
  have XA_36 := Lib.hid (XA_35.out.up hba hba.size)
  have XB_36 := Lib.hid (XB_35.out.up hba hba.size)
  have XC_36 := Lib.hid (XC_35.out.up hba hba.size)
  have XD_36 := Lib.hid (XD_35.out.up hba hba.size)
  have HB36 := Lib.hid (HB35.out.trans (hba.mono HB35.out.size))
  have XE_36 := Lib.hid (show BxL _ _ _ _ from xb)
  clear xb hba
  go_wp2_with fail
  refine (GC.out _).mono ?_
  rintro e w_37 ⟨rfl, hB37⟩
  have XA_37 := Lib.hid (XA_36.out.up hB37 hB37.size)
  have XB_37 := Lib.hid (XB_36.out.up hB37 hB37.size)
  have XC_37 := Lib.hid (XC_36.out.up hB37 hB37.size)
  have XD_37 := Lib.hid (XD_36.out.up hB37 hB37.size)
  have XE_37 := Lib.hid (XE_36.out.up hB37 hB37.size)
  have HB37 := Lib.hid (HB36.out.trans (hB37.mono HB36.out.size))
  clear hB37
  have xb := Bx.new w_37 45 #[.int .i64 0, .int .i64 0, .int .i64 0]
  have hba : Below w_37.heap.size w_37 (w_37.alloc (.cells #[.int .i64 0, .int .i64 0, .int .i64 0] 45)) := (Below.refl _ _).alloc (Nat.le_refl _) _
  go_upto_region 16 with (fail)
  obtain ⟨w_38, hW⟩ : ∃ W, w_37.alloc (.cells #[.int .i64 0, .int .i64 0, .int .i64 0] 45) = W := ⟨_, rfl⟩
  rw [hW] at xb hba ⊢
  clear hW
  have XA_38 := Lib.hid (XA_37.out.up hba hba.size)
  have XB_38 := Lib.hid (XB_37.out.up hba hba.size)
  have XC_38 := Lib.hid (XC_37.out.up hba hba.size)
  have XD_38 := Lib.hid (XD_37.out.up hba hba.size)
  have XE_38 := Lib.hid (XE_37.out.up hba hba.size)
  have HB38 := Lib.hid (HB37.out.trans (hba.mono HB37.out.size))
  clear xb hba
  go_wp2_with fail
  refine (alive34_c _).mono ?_
  rintro e w_39 ⟨rfl, hB39⟩
  have XA_39 := Lib.hid (XA_38.out.up hB39 hB39.size)
  have XB_39 := Lib.hid (XB_38.out.up hB39 hB39.size)
  have XC_39 := Lib.hid (XC_38.out.up hB39 hB39.size)
  have XD_39 := Lib.hid (XD_38.out.up hB39 hB39.size)
  have XE_39 := Lib.hid (XE_38.out.up hB39 hB39.size)
  have HB39 := Lib.hid (HB38.out.trans (hB39.mono HB38.out.size))
  clear hB39
  go_wp2_with fail
  refine (takes_yes none [] 0 0 0 0 _ (by simp) Rd.nil_ T0.out).mono ?_
  rintro e w_40 ⟨rfl, hB40⟩
  have XA_40 := Lib.hid (XA_39.out.up hB40 hB40.size)
  have XB_40 := Lib.hid (XB_39.out.up hB40 hB40.size)
  have XC_40 := Lib.hid (XC_39.out.up hB40 hB40.size)
  have XD_40 := Lib.hid (XD_39.out.up hB40 hB40.size)
  have XE_40 := Lib.hid (XE_39.out.up hB40 hB40.size)
  have HB40 := Lib.hid (HB39.out.trans (hB40.mono HB39.out.size))
  clear hB40
  go_wp2_with fail
  refine (row_s 2047 1 _ (by omega) (by omega) (by omega)).mono ?_
  rintro e w_41 ⟨A41, c41, rfl, hr41, hB41⟩
  have XA_41 := Lib.hid (XA_40.out.up hB41 hB41.size)
  have XB_41 := Lib.hid (XB_40.out.up hB41 hB41.size)
  have XC_41 := Lib.hid (XC_40.out.up hB41 hB41.size)
  have XD_41 := Lib.hid (XD_40.out.up hB41 hB41.size)
  have XE_41 := Lib.hid (XE_40.out.up hB41 hB41.size)
  have HB41 := Lib.hid (HB40.out.trans (hB41.mono HB40.out.size))
  have R_41 := Lib.hid (show RdE _ _ _ (rowL 2047 1) from hr41)
  clear hB41 hr41
  go_wp2_with fail
  refine (takes_yes _ (rowL 2047 1) _ 5 4 4 _ (by simp [rowL_len]) R_41.out T1.out).mono ?_
  rintro e w_42 ⟨rfl, hB42⟩
  have XA_42 := Lib.hid (XA_41.out.up hB42 hB42.size)
  have XB_42 := Lib.hid (XB_41.out.up hB42 hB42.size)
  have XC_42 := Lib.hid (XC_41.out.up hB42 hB42.size)
  have XD_42 := Lib.hid (XD_41.out.up hB42 hB42.size)
  have XE_42 := Lib.hid (XE_41.out.up hB42 hB42.size)
  have HB42 := Lib.hid (HB41.out.trans (hB42.mono HB41.out.size))
  clear hB42
  go_wp2_with fail
  refine (row_s 15 2 _ (by omega) (by omega) (by omega)).mono ?_
  rintro e w_43 ⟨A43, c43, rfl, hr43, hB43⟩
  have XA_43 := Lib.hid (XA_42.out.up hB43 hB43.size)
  have XB_43 := Lib.hid (XB_42.out.up hB43 hB43.size)
  have XC_43 := Lib.hid (XC_42.out.up hB43 hB43.size)
  have XD_43 := Lib.hid (XD_42.out.up hB43 hB43.size)
  have XE_43 := Lib.hid (XE_42.out.up hB43 hB43.size)
  have HB43 := Lib.hid (HB42.out.trans (hB43.mono HB42.out.size))
  have R_43 := Lib.hid (show RdE _ _ _ (rowL 15 2) from hr43)
  clear hB43 hr43
  go_wp2_with fail
  refine (takes_yes _ (rowL 15 2) _ 8 5 4 _ (by simp [rowL_len]) R_43.out T2.out).mono ?_
  rintro e w_44 ⟨rfl, hB44⟩
  have XA_44 := Lib.hid (XA_43.out.up hB44 hB44.size)
  have XB_44 := Lib.hid (XB_43.out.up hB44 hB44.size)
  have XC_44 := Lib.hid (XC_43.out.up hB44 hB44.size)
  have XD_44 := Lib.hid (XD_43.out.up hB44 hB44.size)
  have XE_44 := Lib.hid (XE_43.out.up hB44 hB44.size)
  have HB44 := Lib.hid (HB43.out.trans (hB44.mono HB43.out.size))
  clear hB44
  go_wp2_with fail
  refine (row_s 16 5 _ (by omega) (by omega) (by omega)).mono ?_
  rintro e w_45 ⟨A45, c45, rfl, hr45, hB45⟩
  have XA_45 := Lib.hid (XA_44.out.up hB45 hB45.size)
  have XB_45 := Lib.hid (XB_44.out.up hB45 hB45.size)
  have XC_45 := Lib.hid (XC_44.out.up hB45 hB45.size)
  have XD_45 := Lib.hid (XD_44.out.up hB45 hB45.size)
  have XE_45 := Lib.hid (XE_44.out.up hB45 hB45.size)
  have HB45 := Lib.hid (HB44.out.trans (hB45.mono HB44.out.size))
  have R_45 := Lib.hid (show RdE _ _ _ (rowL 16 5) from hr45)
  clear hB45 hr45
  go_wp2_with fail
  refine (takes_yes _ (rowL 16 5) _ 17 5 4 _ (by simp [rowL_len]) R_45.out T3.out).mono ?_
  rintro e w_46 ⟨rfl, hB46⟩
  have XA_46 := Lib.hid (XA_45.out.up hB46 hB46.size)
  have XB_46 := Lib.hid (XB_45.out.up hB46 hB46.size)
  have XC_46 := Lib.hid (XC_45.out.up hB46 hB46.size)
  have XD_46 := Lib.hid (XD_45.out.up hB46 hB46.size)
  have XE_46 := Lib.hid (XE_45.out.up hB46 hB46.size)
  have HB46 := Lib.hid (HB45.out.trans (hB46.mono HB45.out.size))
  clear hB46
  obtain ⟨a0, a1, a2, a3, a4, a5, az⟩ := (show Bx _ _ _ _ from XA_46.out).c3
  obtain ⟨b0, b1, b2, b3, b4, b5, bz⟩ := (show Bx _ _ _ _ from XB_46.out).c3
  obtain ⟨c0, c1, c2, c3, c4, c5, cz⟩ := (show Bx _ _ _ _ from XC_46.out).c3
  obtain ⟨d0, d1, d2, d3, d4, d5, dz⟩ := (show Bx _ _ _ _ from XD_46.out).c3
  obtain ⟨e0, e1, e2, e3, e4, e5, ez⟩ := (show Bx _ _ _ _ from XE_46.out).c3
  go_wp2_with fail
  go_ret
  exact ⟨rfl, HB46.out⟩
end Go.Proofs.Ytpfbppjjegialaa
