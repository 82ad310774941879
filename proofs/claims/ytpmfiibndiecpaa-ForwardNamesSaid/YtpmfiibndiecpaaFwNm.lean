/- The law ForwardNames: limits and errors. -/
import Derived.Test.YtpmfiibndiecpaaAl27
import Derived.Test.YtpmfiibndiecpaaMk256
namespace Go.Proofs.Ytpmfiibndiecpaa
open Go.RowKit

def tpL : List Nat := twoL.set 133 128
theorem tp_len : tpL.length = 256 := by unfold tpL; rw [List.length_set, twoL_len]
theorem tp_lt : ∀ x ∈ tpL, x < 18446744073709551616 := two_lt2
theorem set_len (a v : Nat) : (tpL.set a v).length = 256 := by rw [List.length_set, tp_len]
theorem set_lt {l : List Nat} (h : ∀ x ∈ l, x < 18446744073709551616) (a v : Nat) (hv : v < 18446744073709551616) : ∀ x ∈ l.set a v, x < 18446744073709551616 := fun x hx => by
  rcases List.mem_or_eq_of_mem_set hx with h1 | rfl
  · exact h x h1
  · exact hv
theorem fn_1 : rdErr tpL 129 128 = 2 ∧ rdErr tpL 130 129 = 2 ∧ rdErr tpL 126 126 = 2 ∧ rdErr tpL 128 130 = 2 ∧ rdErr tpL 258 128 = 2 ∧ rdErr tpL (-2) (-4) = 2 ∧ rdErr [] 128 128 = 8 := by decide +kernel
theorem fn_2 : rdErr tpL 130 128 = 50 ∧ rdErr (tpL.set 133 130) 128 128 = 50 ∧ rdErr (tpL.set 133 0) 128 128 = 50 ∧ rdErr (tpL.set 97 0) 128 128 = 50 ∧ rdErr tpL 132 130 = 50 := by decide +kernel
theorem fn_3 : rdErr tpL 256 128 = 0 ∧ rdMv tpL 256 128 = [] ∧ rdErr (tpL.set 133 132) 132 132 = 0 ∧ rdMv (tpL.set 133 132) 132 132 = [(132, 132)] := by decide +kernel
theorem fn_4 : hpErr ((tpL.set 129 5).set 137 9) = 0 ∧ wnOut ((tpL.set 129 5).set 137 9) = [⟨129, 0⟩] := by decide +kernel
theorem fn_5 : hpErr [] = 8 ∧ wnOut [] = [] := by decide +kernel

set_option maxRecDepth 100000 in
set_option maxHeartbeats 16000000 in
theorem forwardNames_walk (w : World) : Calls Try.prog 4 #[] w fun e w' => e = .returned (.bool true) ∧ Below w.heap.size w w' := by
  obtain ⟨r1, r2, r3, r4, r5, r6, r7⟩ := fn_1
  obtain ⟨q1, q2, q3, q4, q5⟩ := fn_2
  obtain ⟨s1, s2, s3, s4⟩ := fn_3
  obtain ⟨z1, z2, z3⟩ := zero256
  have HTL := Lib.hid twoL_len
  have HC := Lib.hid (fun W => two27_c W)
  unfold OwnW at HC
  rw [twoL_len] at HC
  have HP0 := Lib.hid (fun A c W (h : RdW W W.heap.size A twoL) => put27_c A twoL c 256 133 128 W.heap.size W twoL_len (by omega) (by omega) h (Nat.le_refl _))
  unfold OwnW at HP0
  rw [show twoL.set 133 128 = tpL from rfl, tp_len] at HP0
  have HPUT : Hid (∀ (l : List Nat) (_ : l.length = 256) (a v : Nat) (_ : a < 256) A c W (_ : RdW W W.heap.size A l), Calls Try.prog 21 #[.slice A 256 c, .int .i64 (a : Int), .int .u64 (v : Int)] W fun e w' => ∃ g c, e = .returned (.slice (some ⟨g, 0, none⟩) 256 c) ∧ w'.ownsRow W.heap.size 22 1 (.slice (some ⟨g, 0, none⟩) 256 c) 256 ((l.set a v).flatMap wordCells) ∧ Below W.heap.size W w') := Lib.hid fun l hl a v ha A c W h => by
    have := put27_c A l c 256 a v W.heap.size W hl (by omega) ha h (Nat.le_refl _)
    unfold OwnW at this
    rw [List.length_set, hl] at this
    exact this
  have HRD : Hid (∀ (l : List Nat) (_ : l.length = 256) (_ : ∀ x ∈ l, x < 18446744073709551616) (f s r : Int) (_ : -9223372036854775808 ≤ f ∧ f ≤ 9223372036854775807) (_ : -9223372036854775808 ≤ s ∧ s ≤ 9223372036854775807) (_ : rdErr l f s = r) A c W (_ : RdW W W.heap.size A l), Calls Try.prog 24 #[.slice A 256 c, .int .i64 f, .int .i64 s, .int .i64 r] W fun e w' => e = .returned (.bool true) ∧ Below W.heap.size W w') := Lib.hid fun l hl hlt f s r hf hs hr A c W h => by
    have := reads27_c A l c 256 f s r W hl (by omega) hf hs h hlt
    rw [hr, decide_eq_true rfl] at this
    exact this
  have HN8 := Lib.hid (fun c W => reads27_c none [] c 0 128 128 8 W rfl (by omega) (by omega) (by omega) Rd.nil_ (fun x hx => by simp at hx))
  rw [r7, decide_eq_true rfl] at HN8
  have HW0 := Lib.hid (fun c W => fwWanted_c none [] c 0 W rfl (by omega) Rd.nil_ (fun x hx => by simp at hx))
  unfold WnRes at HW0
  rw [fn_5.1, fn_5.2] at HW0
  have HWZ := Lib.hid (fun A c W (h : RdW W W.heap.size A (List.replicate 256 0)) => fwWanted_c A (List.replicate 256 0) c 256 W z3 (by omega) h zero_lt)
  unfold WnRes at HWZ
  rw [z1, z2] at HWZ
  have HK1 := Lib.hid (fun A c W (h : RdW W W.heap.size A tpL) => fwRead_c A tpL c 256 256 128 W tp_len (by omega) (by omega) (by omega) h tp_lt)
  unfold RdRes at HK1
  rw [s1, s2] at HK1
  have HK2 := Lib.hid (fun A c W (h : RdW W W.heap.size A (tpL.set 133 132)) => fwRead_c A (tpL.set 133 132) c 256 132 132 W (set_len _ _) (by omega) (by omega) (by omega) h (set_lt tp_lt _ _ (by omega)))
  unfold RdRes at HK2
  rw [s3, s4] at HK2
  have HW3 := Lib.hid (fun A c W (h : RdW W W.heap.size A ((tpL.set 129 5).set 137 9)) => fwWanted_c A ((tpL.set 129 5).set 137 9) c 256 W (by rw [List.length_set]; exact set_len _ _) (by omega) h (set_lt (set_lt tp_lt _ _ (by omega)) _ _ (by omega)))
  unfold WnRes at HW3
  rw [fn_4.1, fn_4.2] at HW3
  have HTO1 := Lib.hid (fun A c W (h : RdM W W.heap.size A [(2, 1), (4, 3), (4, 9)]) => fwTo_c A [(2, 1), (4, 3), (4, 9)] c 3 W.heap.size 4 W rfl (by omega) h (Nat.le_refl _))
  rw [show mvTo [(2, 1), (4, 3), (4, 9)] 4 = some 3 by decide +kernel] at HTO1
  have HTO2 := Lib.hid (fun c W => fwTo_c none [] c 0 W.heap.size 0 W rfl (by omega) Rd.nil_ (Nat.le_refl _))
  rw [show mvTo [] 0 = none from rfl] at HTO2
  have HSE := Lib.hid (fun A c B d W (h1 : RdE W W.heap.size A [⟨129, 0⟩]) (h2 : RdE W W.heap.size B [⟨129, 0⟩]) => sameEntries_c A B [⟨129, 0⟩] [⟨129, 0⟩] 1 1 c d W.heap.size W rfl rfl (by omega) h1 h2 (Nat.le_refl _))
  rw [show decide (([⟨129, 0⟩] : List En) = [⟨129, 0⟩]) = true from rfl] at HSE
  have HSM := Lib.hid (fun A c B d W (h1 : RdM W W.heap.size A [(132, 132)]) (h2 : RdM W W.heap.size B [(132, 132)]) => sameMoves_c A B [(132, 132)] [(132, 132)] 1 1 c d W.heap.size W rfl rfl (by omega) h1 h2 (Nat.le_refl _))
  rw [show decide (([(132, 132)] : List (Int × Int)) = [(132, 132)]) = true from rfl] at HSM
  have FA1 := Lib.hid (HRD.out tpL tp_len tp_lt 129 128 2 (by omega) (by omega) r1)
  have FA2 := Lib.hid (HRD.out tpL tp_len tp_lt 130 129 2 (by omega) (by omega) r2)
  have FA3 := Lib.hid (HRD.out tpL tp_len tp_lt 126 126 2 (by omega) (by omega) r3)
  have FA4 := Lib.hid (HRD.out tpL tp_len tp_lt 128 130 2 (by omega) (by omega) r4)
  have FA5 := Lib.hid (HRD.out tpL tp_len tp_lt 258 128 2 (by omega) (by omega) r5)
  have FA6 := Lib.hid (HRD.out tpL tp_len tp_lt (-2) (-4) 2 (by omega) (by omega) r6)
  have FC1 := Lib.hid (HRD.out tpL tp_len tp_lt 130 128 50 (by omega) (by omega) q1)
  have FC2 := Lib.hid (HRD.out (tpL.set 133 130) (set_len _ _) (set_lt tp_lt _ _ (by omega)) 128 128 50 (by omega) (by omega) q2)
  have FC3 := Lib.hid (HRD.out (tpL.set 133 0) (set_len _ _) (set_lt tp_lt _ _ (by omega)) 128 128 50 (by omega) (by omega) q3)
  have FC4 := Lib.hid (HRD.out (tpL.set 97 0) (set_len _ _) (set_lt tp_lt _ _ (by omega)) 128 128 50 (by omega) (by omega) q4)
  have FC5 := Lib.hid (HRD.out tpL tp_len tp_lt 132 130 50 (by omega) (by omega) q5)
  have FP1 := Lib.hid (HPUT.out tpL tp_len 133 130 (by omega))
  have FP2 := Lib.hid (HPUT.out tpL tp_len 133 0 (by omega))
  have FP3 := Lib.hid (HPUT.out tpL tp_len 97 0 (by omega))
  have FP4 := Lib.hid (HPUT.out tpL tp_len 133 132 (by omega))
  have FP5 := Lib.hid (HPUT.out tpL tp_len 129 5 (by omega))
  have FP6 := Lib.hid (HPUT.out (tpL.set 129 5) (set_len _ _) 137 9 (by omega))
  clear HRD HPUT r1 r2 r3 r4 r5 r6 r7 q1 q2 q3 q4 q5 s1 s2 s3 s4 z1 z2 z3
  generalize tpL = tp at *
  generalize twoL = tw at *
  generalize tp.set 133 130 = t1 at *
  generalize tp.set 133 0 = t2 at *
  generalize tp.set 97 0 = t3 at *
  generalize tp.set 133 132 = t4 at *
  generalize (tp.set 129 5).set 137 9 = t6 at *
  generalize tp.set 129 5 = t5 at *
  go_enter Try.func4, Try.ntmps4
  go_wp2_with fail
  refine (HC.out _).mono ?_
  rintro e w1 ⟨g1, c1, rfl, hown1, hB1⟩
  go_wp2_with fail
  refine (HP0.out _ _ _ (Rd.of_own hown1)).mono ?_
  rintro e w2 ⟨g2, c2, rfl, hown2, hB2⟩
  have HBI := Lib.hid (hB1.trans (hB2.mono hB1.size))
  have HR := Lib.hid (show RdW w2 w2.heap.size (some ⟨g2, 0, none⟩) tp from Rd.of_own hown2)
  have HB2 := Lib.hid (Below.refl w2.heap.size w2)
  clear hown1 hown2 hB1 hB2
  go_wp2_with fail
  refine (HW0.out _ _).mono ?_
  rintro e w3 ⟨⟨A3, c3, rfl, -, -⟩, hB3⟩
  have HB3 := Lib.hid (HB2.out.trans (hB3.mono HB2.out.size))
  clear hB3
  obtain ⟨W4, hmk, hr4, hB4⟩ := mk256 w3
  have HB4 := Lib.hid (HB3.out.trans (hB4.mono HB3.out.size))
  have HR4 := Lib.hid hr4
  clear hr4 hB4
  go_wp2_with fail
  clear hmk
  refine (HWZ.out _ _ _ HR4.out).mono ?_
  rintro e w5 ⟨⟨A5, c5, rfl, -, -⟩, hB5⟩
  have HB5 := Lib.hid (HB4.out.trans (hB5.mono HB4.out.size))
  clear hB5
  go_wp2_with fail
  refine (FA1.out _ _ _ (HR.out.up HB5.out HB5.out.size)).mono ?_
  rintro e w6 ⟨rfl, hB6⟩
  have HB6 := Lib.hid (HB5.out.trans (hB6.mono HB5.out.size))
  clear hB6
  go_wp2_with fail
  refine (FA2.out _ _ _ (HR.out.up HB6.out HB6.out.size)).mono ?_
  rintro e w7 ⟨rfl, hB7⟩
  have HB7 := Lib.hid (HB6.out.trans (hB7.mono HB6.out.size))
  clear hB7
  go_wp2_with fail
  refine (FA3.out _ _ _ (HR.out.up HB7.out HB7.out.size)).mono ?_
  rintro e w8 ⟨rfl, hB8⟩
  have HB8 := Lib.hid (HB7.out.trans (hB8.mono HB7.out.size))
  clear hB8
  go_wp2_with fail
  refine (FA4.out _ _ _ (HR.out.up HB8.out HB8.out.size)).mono ?_
  rintro e w9 ⟨rfl, hB9⟩
  have HB9 := Lib.hid (HB8.out.trans (hB9.mono HB8.out.size))
  clear hB9
  go_wp2_with fail
  refine (FA5.out _ _ _ (HR.out.up HB9.out HB9.out.size)).mono ?_
  rintro e w10 ⟨rfl, hB10⟩
  have HB10 := Lib.hid (HB9.out.trans (hB10.mono HB9.out.size))
  clear hB10
  go_wp2_with fail
  refine (FA6.out _ _ _ (HR.out.up HB10.out HB10.out.size)).mono ?_
  rintro e w11 ⟨rfl, hB11⟩
  have HB11 := Lib.hid (HB10.out.trans (hB11.mono HB10.out.size))
  clear hB11
  go_wp2_with fail
  refine (HN8.out _ _).mono ?_
  rintro e w12 ⟨rfl, hB12⟩
  have HB12 := Lib.hid (HB11.out.trans (hB12.mono HB11.out.size))
  clear hB12
  go_wp2_with fail
  refine (FC1.out _ _ _ (HR.out.up HB12.out HB12.out.size)).mono ?_
  rintro e w13 ⟨rfl, hB13⟩
  have HB13 := Lib.hid (HB12.out.trans (hB13.mono HB12.out.size))
  clear hB13
  go_wp2_with fail
  refine (FP1.out _ _ _ (HR.out.up HB13.out HB13.out.size)).mono ?_
  rintro e w14 ⟨g14, c14, rfl, hown14, hB14⟩
  have HO14 := Lib.hid hown14
  clear hown14
  have HB14 := Lib.hid (HB13.out.trans (hB14.mono HB13.out.size))
  clear hB14
  go_wp2_with fail
  refine (FC2.out _ _ _ (Rd.of_own HO14.out)).mono ?_
  rintro e w15 ⟨rfl, hB15⟩
  have HB15 := Lib.hid (HB14.out.trans (hB15.mono HB14.out.size))
  clear hB15
  go_wp2_with fail
  refine (FP2.out _ _ _ (HR.out.up HB15.out HB15.out.size)).mono ?_
  rintro e w16 ⟨g16, c16, rfl, hown16, hB16⟩
  have HO16 := Lib.hid hown16
  clear hown16
  have HB16 := Lib.hid (HB15.out.trans (hB16.mono HB15.out.size))
  clear hB16
  go_wp2_with fail
  refine (FC3.out _ _ _ (Rd.of_own HO16.out)).mono ?_
  rintro e w17 ⟨rfl, hB17⟩
  have HB17 := Lib.hid (HB16.out.trans (hB17.mono HB16.out.size))
  clear hB17
  go_wp2_with fail
  refine (FP3.out _ _ _ (HR.out.up HB17.out HB17.out.size)).mono ?_
  rintro e w18 ⟨g18, c18, rfl, hown18, hB18⟩
  have HO18 := Lib.hid hown18
  clear hown18
  have HB18 := Lib.hid (HB17.out.trans (hB18.mono HB17.out.size))
  clear hB18
  go_wp2_with fail
  refine (FC4.out _ _ _ (Rd.of_own HO18.out)).mono ?_
  rintro e w19 ⟨rfl, hB19⟩
  have HB19 := Lib.hid (HB18.out.trans (hB19.mono HB18.out.size))
  clear hB19
  go_wp2_with fail
  refine (FC5.out _ _ _ (HR.out.up HB19.out HB19.out.size)).mono ?_
  rintro e w20 ⟨rfl, hB20⟩
  have HB20 := Lib.hid (HB19.out.trans (hB20.mono HB19.out.size))
  clear hB20
  go_wp2_with fail
  refine (HK1.out _ _ _ (HR.out.up HB20.out HB20.out.size)).mono ?_
  rintro e w21 ⟨⟨A21, c21, rfl, -, -⟩, hB21⟩
  have HB21 := Lib.hid (HB20.out.trans (hB21.mono HB20.out.size))
  clear hB21
  go_wp2_with fail
  refine (FP4.out _ _ _ (HR.out.up HB21.out HB21.out.size)).mono ?_
  rintro e w22 ⟨g22, c22, rfl, hown22, hB22⟩
  have HO22 := Lib.hid hown22
  clear hown22
  have HB22 := Lib.hid (HB21.out.trans (hB22.mono HB21.out.size))
  clear hB22
  go_wp2_with fail
  refine (HK2.out _ _ _ (Rd.of_own HO22.out)).mono ?_
  rintro e w23 ⟨⟨A23, c23, rfl, hr, -⟩, hB23⟩
  have HM0 := Lib.hid hr
  clear hr
  have HB23 := Lib.hid (HB22.out.trans (hB23.mono HB22.out.size))
  clear hB23
  go_wp2_with fail
  refine (FP5.out _ _ _ (HR.out.up HB23.out HB23.out.size)).mono ?_
  rintro e w24 ⟨g24, c24, rfl, hown24, hB24⟩
  have HO24 := Lib.hid hown24
  have HM24 := Lib.hid (HM0.out.up hB24 hB24.size)
  clear hown24
  have HB24 := Lib.hid (HB23.out.trans (hB24.mono HB23.out.size))
  clear hB24
  go_wp2_with fail
  refine (FP6.out _ _ _ (Rd.of_own HO24.out)).mono ?_
  rintro e w25 ⟨g25, c25, rfl, hown25, hB25⟩
  have HO25 := Lib.hid hown25
  have HM25 := Lib.hid (HM24.out.up hB25 hB25.size)
  clear hown25
  have HB25 := Lib.hid (HB24.out.trans (hB25.mono HB24.out.size))
  clear hB25
  go_wp2_with fail
  refine (HW3.out _ _ _ (Rd.of_own HO25.out)).mono ?_
  rintro e w26 ⟨⟨A26, c26, rfl, hr, -⟩, hB26⟩
  have HN26 := Lib.hid hr
  have HM26 := Lib.hid (HM25.out.up hB26 hB26.size)
  clear hr
  have HB26 := Lib.hid (HB25.out.trans (hB26.mono HB25.out.size))
  clear hB26
  go_wp2_with fail
  have xb := Bx.new w26 50 #[.int .i64 2, .int .i64 1, .int .i64 4, .int .i64 3, .int .i64 4, .int .i64 9]
  have hba : Below w26.heap.size w26 (w26.alloc (.cells #[.int .i64 2, .int .i64 1, .int .i64 4, .int .i64 3, .int .i64 4, .int .i64 9] 50)) := (Below.refl _ _).alloc (Nat.le_refl _) _
  refine (HTO1.out _ _ _ (show Rd _ _ _ _ from Rd.of_bx xb xb.lt)).mono ?_
  rintro e w27 ⟨rfl, hB27⟩
  have hbb := hba.trans (hB27.mono hba.size)
  have HM27 := Lib.hid (HM26.out.up hbb hbb.size)
  have HN27 := Lib.hid (HN26.out.up hbb hbb.size)
  have HB27 := Lib.hid (HB26.out.trans (hbb.mono HB26.out.size))
  clear hbb hba xb hB27
  go_wp2_with fail
  refine (HTO2.out _ _).mono ?_
  rintro e w28 ⟨rfl, hB28⟩
  have HM28 := Lib.hid (HM27.out.up hB28 hB28.size)
  have HN28 := Lib.hid (HN27.out.up hB28 hB28.size)
  have HB28 := Lib.hid (HB27.out.trans (hB28.mono HB27.out.size))
  clear hB28
  go_wp2_with fail
  refine (alive27_c _).mono ?_
  rintro e w29 ⟨rfl, hB29⟩
  have HM29 := Lib.hid (HM28.out.up hB29 hB29.size)
  have HN29 := Lib.hid (HN28.out.up hB29 hB29.size)
  have HB29 := Lib.hid (HB28.out.trans (hB29.mono HB28.out.size))
  clear hB29
  go_wp2_with fail
  have xb := Bx.new w29 50 #[.int .i64 132, .int .i64 132]
  have hba : Below w29.heap.size w29 (w29.alloc (.cells #[.int .i64 132, .int .i64 132] 50)) := (Below.refl _ _).alloc (Nat.le_refl _) _
  have hrm := HM29.out.up hba hba.size
  refine (HSM.out _ _ _ _ _ hrm (show Rd _ _ _ _ from Rd.of_bx xb xb.lt)).mono ?_
  rintro e w30 ⟨rfl, hB30⟩
  have hbb := hba.trans (hB30.mono hba.size)
  have HN30 := Lib.hid (HN29.out.up hbb hbb.size)
  have HB30 := Lib.hid (HB29.out.trans (hbb.mono HB29.out.size))
  clear hbb hba xb hrm hB30
  go_wp2_with fail
  have xb := Bx.new w30 54 #[.int .i64 129, .int .u64 0]
  have hba : Below w30.heap.size w30 (w30.alloc (.cells #[.int .i64 129, .int .u64 0] 54)) := (Below.refl _ _).alloc (Nat.le_refl _) _
  have hrm := HN30.out.up hba hba.size
  refine (HSE.out _ _ _ _ _ hrm (show Rd _ _ _ _ from Rd.of_bx xb xb.lt)).mono ?_
  rintro e w31 ⟨rfl, hB31⟩
  have hbb := hba.trans (hB31.mono hba.size)
  have HB31 := Lib.hid (HB30.out.trans (hbb.mono HB30.out.size))
  clear hbb hba xb hrm hB31
  go_wp2_with fail
  go_ret
  exact ⟨rfl, HBI.out.trans (HB31.out.mono HBI.out.size)⟩
end Go.Proofs.Ytpmfiibndiecpaa
