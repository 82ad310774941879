/- The law MarkNames: limits and errors. -/
import Derived.Test.YtpmfiibndiecpaaMkNP
namespace Go.Proofs.Ytpmfiibndiecpaa
open Go.RowKit

set_option maxRecDepth 100000 in
set_option maxHeartbeats 2000000 in
theorem fails25_c (A : Option Addr) (ws : List Nat) (c n : Nat) (r h : Int) (w : World) (hn : ws.length = n) (hm : n ≤ 9223372036854775807) (hr : RdW w w.heap.size A ws) (ho : ∀ x ∈ ws, x < 18446744073709551616) (h1 : rcErr ws = r) (h2 : hpErr ws = h) :
    Calls Try.prog 30 #[.slice A n c, .int .i64 r, .int .i64 h] w fun e w' => e = .returned (.bool true) ∧ Below w.heap.size w w' := by
  have HR := Lib.hid hr
  have HC := Lib.hid (mReached_c A ws c n w hn hm hr ho)
  have HW := Lib.hid (fun W (h : RdW W W.heap.size A ws) => mWanted_c A ws c n W hn hm h ho)
  have HM := Lib.hid (fun W (h : RdW W W.heap.size A ws) => mMarked_c A ws c n W hn hm h ho)
  have HK := Lib.hid (fun W (h : RdW W W.heap.size A ws) => mCheck_c A ws c n W hn hm h ho)
  unfold RcdRes at HC
  unfold WtRes at HW
  unfold MdRes at HM
  rw [h1] at HC HW
  rw [h2] at HM HK
  clear hr ho h1 h2 hn hm
  go_enter Try.func30, Try.ntmps30
  go_wp2_with fail
  refine HC.out.mono ?_
  rintro e w1 ⟨⟨A1, c1, rfl, -, -⟩, hB1⟩
  have HB1 := Lib.hid hB1
  clear hB1
  go_wp2_with fail
  refine (HW.out _ (HR.out.up HB1.out HB1.out.size)).mono ?_
  rintro e w2 ⟨⟨A2, c2, rfl, -, -⟩, hB2⟩
  have HB2 := Lib.hid (HB1.out.trans (hB2.mono HB1.out.size))
  clear hB2
  go_wp2_with fail
  refine (HM.out _ (HR.out.up HB2.out HB2.out.size)).mono ?_
  rintro e w3 ⟨⟨A3, c3, rfl, -, -⟩, hB3⟩
  have HB3 := Lib.hid (HB2.out.trans (hB3.mono HB2.out.size))
  clear hB3
  go_wp2_with fail
  refine (HK.out _ (HR.out.up HB3.out HB3.out.size)).mono ?_
  rintro e w4 ⟨rfl, hB4⟩
  have HB4 := Lib.hid (HB3.out.trans (hB4.mono HB3.out.size))
  clear hB4
  go_wp2_with fail
  go_ret
  exact ⟨rfl, HB4.out⟩
set_option maxRecDepth 100000 in
set_option maxHeartbeats 2000000 in
theorem spoilt25_c (a v : Nat) (ha : a < 256) (w : World) :
    Calls Try.prog 31 #[.int .i64 (a : Int), .int .u64 (v : Int)] w fun e w' => OwnW w (pairL.set a v) e w' := by
  have HC := Lib.hid (pair_c w)
  have HL := Lib.hid pairL_len
  unfold OwnW at HC
  rw [pairL_len] at HC
  have ha1 : (a : Int) < 256 := by omega
  have ha0 : (0 : Int) ≤ (a : Int) := by omega
  generalize pairL = pl at HC HL ⊢
  go_enter Try.func31, Try.ntmps31
  go_wp2_with fail
  refine HC.out.mono ?_
  rintro e w1 ⟨g, c, rfl, hown, hB⟩
  have c0 := (hown.cellAt a (by omega)).trans (words_get pl a (by rw [HL.out]; exact ha))
  have f0 := hown.frozenAt a
  obtain ⟨u, hu⟩ : ∃ u, ((pl[a]'(by rw [HL.out]; exact ha) : Nat) : Int) = u := ⟨_, rfl⟩
  rw [hu] at c0
  have HO := Lib.hid hown
  have HB := Lib.hid hB
  clear hown hB hu
  go_wp2_with fail
  go_ret
  exact OwnW.set_ HL.out HO.out HB.out a v

set_option maxRecDepth 100000 in
set_option maxHeartbeats 16000000 in
theorem markNames_walk (w : World) : Calls Try.prog 5 #[] w fun e w' => e = .returned (.bool true) ∧ Below w.heap.size w w' := by
  have HB0 := Lib.hid (Below.refl w.heap.size w)
  obtain ⟨i0, hi, hz0, hz1, hz2⟩ := info_parts infoBlkN
  have HI := Lib.hid hi
  have HZ0 := Lib.hid hz0
  have HZ1 := Lib.hid hz1
  have HZ2 := Lib.hid hz2
  clear hi hz0 hz1 hz2
  have HLa := Lib.hid (fun W => mna_c W)
  unfold OwnW at HLa
  rw [mna_len] at HLa
  have HLb := Lib.hid (fun W => mnb_c W)
  unfold OwnW at HLb
  rw [mnb_len] at HLb
  have HLc := Lib.hid (fun W => mnc_c W)
  unfold OwnW at HLc
  rw [mnc_len] at HLc
  have HLd := Lib.hid (fun W => mnd_c W)
  unfold OwnW at HLd
  rw [mnd_len] at HLd
  have HLe := Lib.hid (fun W => mne_c W)
  unfold OwnW at HLe
  rw [mne_len] at HLe
  have HLf := Lib.hid (fun W g cap h => mnf_c W g cap h)
  unfold OwnW at HLf
  rw [mnf_len] at HLf
  have F0 := Lib.hid (fun c W => fails25_c none [] c 0 8 8 W rfl (by omega) Rd.nil_ (fun x hx => by simp at hx) (rcr_hp mn_nil (by decide)) mn_nil)
  have Z248 := Lib.hid (fun A c W (h : RdW W W.heap.size A (List.replicate 248 0)) => fails25_c A (List.replicate 248 0) c 248 8 8 W (List.length_replicate ..) (by omega) h (fun x hx => by rw [List.eq_of_mem_replicate hx]; omega) (rcr_hp (mn_hp8 248 (by decide)) (by decide)) (mn_hp8 248 (by decide)))
  have Z257 := Lib.hid (fun A c W (h : RdW W W.heap.size A (List.replicate 257 0)) => fails25_c A (List.replicate 257 0) c 257 8 8 W (List.length_replicate ..) (by omega) h (fun x hx => by rw [List.eq_of_mem_replicate hx]; omega) (rcr_hp (mn_hp8 257 (by decide)) (by decide)) (mn_hp8 257 (by decide)))
  have Z2056 := Lib.hid (fun A c W (h : RdW W W.heap.size A (List.replicate 2056 0)) => fails25_c A (List.replicate 2056 0) c 2056 8 8 W (List.length_replicate ..) (by omega) h (fun x hx => by rw [List.eq_of_mem_replicate hx]; omega) (rcr_hp (mn_hp8 2056 (by decide)) (by decide)) (mn_hp8 2056 (by decide)))
  have Z256 := Lib.hid (fun A c W (h : RdW W W.heap.size A (List.replicate 256 0)) => fails25_c A (List.replicate 256 0) c 256 50 50 W (List.length_replicate ..) (by omega) h (fun x hx => by rw [List.eq_of_mem_replicate hx]; omega) (rcr_hp zero256.1 (by decide)) zero256.1)
  have S1 := Lib.hid (fun A c W (h : RdW W W.heap.size A (pairL.set 128 0)) => fails25_c A (pairL.set 128 0) c 256 50 50 W (by rw [List.length_set]; exact pairL_len) (by omega) h (mn_lt pairL_lt 128 0 (by omega)) (rcr_hp mn_0.1 (by decide)) mn_0.1)
  have P1 := Lib.hid (fun W => spoilt25_c 128 0 (by omega) W)
  unfold OwnW at P1
  rw [List.length_set, pairL_len] at P1
  simp only [Int.cast_ofNat_Int] at P1
  have S2 := Lib.hid (fun A c W (h : RdW W W.heap.size A (pairL.set 97 1)) => fails25_c A (pairL.set 97 1) c 256 50 50 W (by rw [List.length_set]; exact pairL_len) (by omega) h (mn_lt pairL_lt 97 1 (by omega)) (rcr_hp mn_0.2.1 (by decide)) mn_0.2.1)
  have P2 := Lib.hid (fun W => spoilt25_c 97 1 (by omega) W)
  unfold OwnW at P2
  rw [List.length_set, pairL_len] at P2
  simp only [Int.cast_ofNat_Int] at P2
  have S3 := Lib.hid (fun A c W (h : RdW W W.heap.size A (pairL.set 134 133)) => fails25_c A (pairL.set 134 133) c 256 50 0 W (by rw [List.length_set]; exact pairL_len) (by omega) h (mn_lt pairL_lt 134 133 (by omega)) (rcr_bad mn_1.1 mn_2.1) mn_1.1)
  have P3 := Lib.hid (fun W => spoilt25_c 134 133 (by omega) W)
  unfold OwnW at P3
  rw [List.length_set, pairL_len] at P3
  simp only [Int.cast_ofNat_Int] at P3
  have S4 := Lib.hid (fun A c W (h : RdW W W.heap.size A (pairL.set 134 136)) => fails25_c A (pairL.set 134 136) c 256 50 0 W (by rw [List.length_set]; exact pairL_len) (by omega) h (mn_lt pairL_lt 134 136 (by omega)) (rcr_bad mn_1.2.1 mn_2.2.1) mn_1.2.1)
  have P4 := Lib.hid (fun W => spoilt25_c 134 136 (by omega) W)
  unfold OwnW at P4
  rw [List.length_set, pairL_len] at P4
  simp only [Int.cast_ofNat_Int] at P4
  have S5 := Lib.hid (fun A c W (h : RdW W W.heap.size A (pairL.set 134 4294967428)) => fails25_c A (pairL.set 134 4294967428) c 256 50 0 W (by rw [List.length_set]; exact pairL_len) (by omega) h (mn_lt pairL_lt 134 4294967428 (by omega)) (rcr_bad mn_1.2.2.1 mn_2.2.2.1) mn_1.2.2.1)
  have P5 := Lib.hid (fun W => spoilt25_c 134 4294967428 (by omega) W)
  unfold OwnW at P5
  rw [List.length_set, pairL_len] at P5
  simp only [Int.cast_ofNat_Int] at P5
  have P6 := Lib.hid (fun W => spoilt25_c 130 77 (by omega) W)
  unfold OwnW at P6
  rw [List.length_set, pairL_len] at P6
  simp only [Int.cast_ofNat_Int] at P6
  have Fa := Lib.hid (fun A c W (h : RdW W W.heap.size A mnaL) => fails25_c A mnaL c 256 50 50 W mna_len (by omega) h mna_lt (rcr_hp mn_0.2.2.1 (by decide)) mn_0.2.2.1)
  have Fb := Lib.hid (fun A c W (h : RdW W W.heap.size A mnbL) => fails25_c A mnbL c 256 50 50 W mnb_len (by omega) h mnb_lt (rcr_hp mn_0.2.2.2 (by decide)) mn_0.2.2.2)
  have Fc := Lib.hid (fun A c W (h : RdW W W.heap.size A mncL) => fails25_c A mncL c 256 50 0 W mnc_len (by omega) h mnc_lt (rcr_bad mn_1.2.2.2.1 mn_2.2.2.2.1) mn_1.2.2.2.1)
  have Fd := Lib.hid (fun A c W (h : RdW W W.heap.size A mndL) => fails25_c A mndL c 256 50 0 W mnd_len (by omega) h mnd_lt (rcr_bad mn_1.2.2.2.2 mn_2.2.2.2.2) mn_1.2.2.2.2)
  have HRE := Lib.hid (fun A B c d W (h : RdW W W.heap.size A (pairL.set 130 77)) (h2 : RdI W W.heap.size B [132]) => reaches_c A B (pairL.set 130 77) [132] c 256 1 d W (by rw [List.length_set]; exact pairL_len) rfl (by omega) mn_6.1 mn_6.2 (by omega) h h2 (mn_lt pairL_lt 130 77 (by omega)))
  have HMD := Lib.hid (fun A c W (h : RdW W W.heap.size A mneL) => mMarked_c A mneL c 256 W mne_len (by omega) h mne_lt)
  unfold MdRes at HMD
  rw [mn_4.1, mn_4.2.2.2.1] at HMD
  have HWT := Lib.hid (fun A c W (h : RdW W W.heap.size A mneL) => mWanted_c A mneL c 256 W mne_len (by omega) h mne_lt)
  unfold WtRes at HWT
  rw [mn_7.1] at HWT
  have v1 := mn_7.2
  obtain ⟨E, hE⟩ : ∃ E, wtOut mneL = E := ⟨_, rfl⟩
  rw [hE] at HWT v1
  clear hE
  obtain ⟨x0, x1, rfl⟩ : ∃ x0 x1, E = [x0, x1] := by
    rcases E with _ | ⟨a, _ | ⟨b, _ | ⟨d, l⟩⟩⟩
    · simp at v1
    · simp at v1
    · exact ⟨a, b, rfl⟩
    · simp at v1
  simp only [List.map_cons, List.map_nil, List.cons.injEq, and_true] at v1
  obtain ⟨e0, e1⟩ := v1
  obtain ⟨xa, xv⟩ := x0
  obtain ⟨ya, yv⟩ := x1
  dsimp only at e0 e1
  subst e0 e1
  have HRC := Lib.hid (fun A c W (h : RdW W W.heap.size A chL) => mReached_c A chL c 256 W (chT_len 32) (by omega) h ch_lt)
  unfold RcdRes at HRC
  rw [mn_8.1, mn_8.2] at HRC
  have HSI := Lib.hid (fun A c B d W (h1 : RdI W W.heap.size A [128]) (h2 : RdI W W.heap.size B [128]) => sameInts_c A B [128] [128] 1 1 c d W.heap.size W rfl rfl (by omega) h1 h2 (Nat.le_refl _))
  rw [show decide (([128] : List Int) = [128]) = true from rfl] at HSI
  have HCH := Lib.hid (fun j (h : 0 < j) => chT_succ h)
  have HCL := Lib.hid chT_len
  have HC1 : Hid (chT 1 = mnfL) := Lib.hid rfl
  have HCE : Hid (chT 32 = chL) := Lib.hid rfl
  generalize pairL.set 128 0 = u0 at *
  generalize pairL.set 97 1 = u1 at *
  generalize pairL.set 134 133 = u2 at *
  generalize pairL.set 134 136 = u3 at *
  generalize pairL.set 134 4294967428 = u4 at *
  generalize pairL.set 130 77 = u5 at *
  generalize mnaL = la at *
  generalize mnbL = lb at *
  generalize mncL = lc at *
  generalize mndL = ld at *
  generalize mneL = le at *
  generalize mnfL = lf at *
  generalize chT = ct at *
  generalize chL = cl at *
  go_enter Try.func5, Try.ntmps5
  go_wp2_with fail
  refine (F0.out _ _).mono ?_
  rintro e w_1 ⟨rfl, hB1⟩
  have HB1 := Lib.hid (HB0.out.trans (hB1.mono HB0.out.size))
  clear hB1
  obtain ⟨w_2, hmk, hr, hb⟩ := mkN 248 (by omega) w_1
  simp only [Int.cast_ofNat_Int] at hmk
  have HB2 := Lib.hid (HB1.out.trans (hb.mono HB1.out.size))
  have Z_2 := Lib.hid hr
  clear hr hb
  go_wp2_with fail
  clear hmk
  refine (Z248.out _ _ _ Z_2.out).mono ?_
  rintro e w_3 ⟨rfl, hB3⟩
  have HB3 := Lib.hid (HB2.out.trans (hB3.mono HB2.out.size))
  clear hB3
  obtain ⟨w_4, hmk, hr, hb⟩ := mkN 257 (by omega) w_3
  simp only [Int.cast_ofNat_Int] at hmk
  have HB4 := Lib.hid (HB3.out.trans (hb.mono HB3.out.size))
  have Z_4 := Lib.hid hr
  clear hr hb
  go_wp2_with fail
  clear hmk
  refine (Z257.out _ _ _ Z_4.out).mono ?_
  rintro e w_5 ⟨rfl, hB5⟩
  have HB5 := Lib.hid (HB4.out.trans (hB5.mono HB4.out.size))
  clear hB5
  obtain ⟨w_6, hmk, hr, hb⟩ := mkN 2056 (by omega) w_5
  simp only [Int.cast_ofNat_Int] at hmk
  have HB6 := Lib.hid (HB5.out.trans (hb.mono HB5.out.size))
  have Z_6 := Lib.hid hr
  clear hr hb
  go_wp2_with fail
  clear hmk
  refine (Z2056.out _ _ _ Z_6.out).mono ?_
  rintro e w_7 ⟨rfl, hB7⟩
  have HB7 := Lib.hid (HB6.out.trans (hB7.mono HB6.out.size))
  clear hB7
  obtain ⟨w_8, hmk, hr, hb⟩ := mk256 w_7
  have HB8 := Lib.hid (HB7.out.trans (hb.mono HB7.out.size))
  have Z_8 := Lib.hid hr
  clear hr hb
  go_wp2_with fail
  clear hmk
  refine (Z256.out _ _ _ Z_8.out).mono ?_
  rintro e w_9 ⟨rfl, hB9⟩
  have HB9 := Lib.hid (HB8.out.trans (hB9.mono HB8.out.size))
  clear hB9
  go_wp2_with fail
  refine (P1.out _).mono ?_
  rintro e w_10 ⟨g10, c10, rfl, hown10, hB10⟩
  have HB10 := Lib.hid (HB9.out.trans (hB10.mono HB9.out.size))
  have U_10 := Lib.hid (show RdW _ _ _ u0 from Rd.of_own hown10)
  clear hB10 hown10
  go_wp2_with fail
  refine (S1.out _ _ _ U_10.out).mono ?_
  rintro e w_11 ⟨rfl, hB11⟩
  have HB11 := Lib.hid (HB10.out.trans (hB11.mono HB10.out.size))
  clear hB11
  go_wp2_with fail
  refine (P2.out _).mono ?_
  rintro e w_12 ⟨g12, c12, rfl, hown12, hB12⟩
  have HB12 := Lib.hid (HB11.out.trans (hB12.mono HB11.out.size))
  have U_12 := Lib.hid (show RdW _ _ _ u1 from Rd.of_own hown12)
  clear hB12 hown12
  go_wp2_with fail
  refine (S2.out _ _ _ U_12.out).mono ?_
  rintro e w_13 ⟨rfl, hB13⟩
  have HB13 := Lib.hid (HB12.out.trans (hB13.mono HB12.out.size))
  clear hB13
  go_wp2_with fail
  refine (HLa.out _).mono ?_
  rintro e w_14 ⟨g14, c14, rfl, hown14, hB14⟩
  have HB14 := Lib.hid (HB13.out.trans (hB14.mono HB13.out.size))
  have U_14 := Lib.hid (show RdW _ _ _ la from Rd.of_own hown14)
  clear hB14 hown14
  go_wp2_with fail
  refine (Fa.out _ _ _ U_14.out).mono ?_
  rintro e w_15 ⟨rfl, hB15⟩
  have HB15 := Lib.hid (HB14.out.trans (hB15.mono HB14.out.size))
  clear hB15
  go_wp2_with fail
  refine (HLb.out _).mono ?_
  rintro e w_16 ⟨g16, c16, rfl, hown16, hB16⟩
  have HB16 := Lib.hid (HB15.out.trans (hB16.mono HB15.out.size))
  have U_16 := Lib.hid (show RdW _ _ _ lb from Rd.of_own hown16)
  clear hB16 hown16
  go_wp2_with fail
  refine (Fb.out _ _ _ U_16.out).mono ?_
  rintro e w_17 ⟨rfl, hB17⟩
  have HB17 := Lib.hid (HB16.out.trans (hB17.mono HB16.out.size))
  clear hB17
  go_wp2_with fail
  refine (P3.out _).mono ?_
  rintro e w_18 ⟨g18, c18, rfl, hown18, hB18⟩
  have HB18 := Lib.hid (HB17.out.trans (hB18.mono HB17.out.size))
  have U_18 := Lib.hid (show RdW _ _ _ u2 from Rd.of_own hown18)
  clear hB18 hown18
  go_wp2_with fail
  refine (S3.out _ _ _ U_18.out).mono ?_
  rintro e w_19 ⟨rfl, hB19⟩
  have HB19 := Lib.hid (HB18.out.trans (hB19.mono HB18.out.size))
  clear hB19
  go_wp2_with fail
  refine (P4.out _).mono ?_
  rintro e w_20 ⟨g20, c20, rfl, hown20, hB20⟩
  have HB20 := Lib.hid (HB19.out.trans (hB20.mono HB19.out.size))
  have U_20 := Lib.hid (show RdW _ _ _ u3 from Rd.of_own hown20)
  clear hB20 hown20
  go_wp2_with fail
  refine (S4.out _ _ _ U_20.out).mono ?_
  rintro e w_21 ⟨rfl, hB21⟩
  have HB21 := Lib.hid (HB20.out.trans (hB21.mono HB20.out.size))
  clear hB21
  go_wp2_with fail
  refine (P5.out _).mono ?_
  rintro e w_22 ⟨g22, c22, rfl, hown22, hB22⟩
  have HB22 := Lib.hid (HB21.out.trans (hB22.mono HB21.out.size))
  have U_22 := Lib.hid (show RdW _ _ _ u4 from Rd.of_own hown22)
  clear hB22 hown22
  go_wp2_with fail
  refine (S5.out _ _ _ U_22.out).mono ?_
  rintro e w_23 ⟨rfl, hB23⟩
  have HB23 := Lib.hid (HB22.out.trans (hB23.mono HB22.out.size))
  clear hB23
  go_wp2_with fail
  refine (HLc.out _).mono ?_
  rintro e w_24 ⟨g24, c24, rfl, hown24, hB24⟩
  have HB24 := Lib.hid (HB23.out.trans (hB24.mono HB23.out.size))
  have U_24 := Lib.hid (show RdW _ _ _ lc from Rd.of_own hown24)
  clear hB24 hown24
  go_wp2_with fail
  refine (Fc.out _ _ _ U_24.out).mono ?_
  rintro e w_25 ⟨rfl, hB25⟩
  have HB25 := Lib.hid (HB24.out.trans (hB25.mono HB24.out.size))
  clear hB25
  go_wp2_with fail
  refine (HLd.out _).mono ?_
  rintro e w_26 ⟨g26, c26, rfl, hown26, hB26⟩
  have HB26 := Lib.hid (HB25.out.trans (hB26.mono HB25.out.size))
  have U_26 := Lib.hid (show RdW _ _ _ ld from Rd.of_own hown26)
  clear hB26 hown26
  go_wp2_with fail
  refine (Fd.out _ _ _ U_26.out).mono ?_
  rintro e w_27 ⟨rfl, hB27⟩
  have HB27 := Lib.hid (HB26.out.trans (hB27.mono HB26.out.size))
  clear hB27
  go_wp2_with fail
  refine (P6.out _).mono ?_
  rintro e w_28 ⟨g28, c28, rfl, hown28, hB28⟩
  have HB28 := Lib.hid (HB27.out.trans (hB28.mono HB27.out.size))
  have L_28 := Lib.hid (show RdW _ _ _ u5 from Rd.of_own hown28)
  clear hB28 hown28
  go_wp2_with fail
  refine (HLe.out _).mono ?_
  rintro e w_29 ⟨g29, c29, rfl, hown29, hB29⟩
  have L_29 := Lib.hid (L_28.out.up hB29 hB29.size)
  have HB29 := Lib.hid (HB28.out.trans (hB29.mono HB28.out.size))
  have M_29 := Lib.hid (show RdW _ _ _ le from Rd.of_own hown29)
  clear hB29 hown29
  go_wp2_with fail
  refine (HMD.out _ _ _ M_29.out).mono ?_
  rintro e w_30 ⟨⟨A30, c30, rfl, hr30, -⟩, hB30⟩
  have L_30 := Lib.hid (L_29.out.up hB30 hB30.size)
  have M_30 := Lib.hid (M_29.out.up hB30 hB30.size)
  have HB30 := Lib.hid (HB29.out.trans (hB30.mono HB29.out.size))
  have I_30 := Lib.hid (hr30)
  clear hB30 hr30
  go_wp2_with fail
  refine (HWT.out _ _ _ M_30.out).mono ?_
  rintro e w_31 ⟨⟨A31, c31, rfl, hr31, -⟩, hB31⟩
  have L_31 := Lib.hid (L_30.out.up hB31 hB31.size)
  have I_31 := Lib.hid (I_30.out.up hB31 hB31.size)
  have HB31 := Lib.hid (HB30.out.trans (hB31.mono HB30.out.size))
  have E_31 := Lib.hid (hr31)
  clear hB31 hr31
  go_wp2_with fail
  have HSN := Lib.hid (fun k => mnB_snoc k)
  go_loopw [10, 11] (fun v i wr => ∃ k : Nat, k ≤ 32 ∧ i = .int .i64 k ∧ wr.ownsRow w_31.heap.size 24 6 v k ((mnB k).flatMap Bk.cells) ∧ Below w_31.heap.size w_31 wr) (fun _ i _ => 32 - (intOf i).toNat)
  case atStart => exact ⟨0, Nat.zero_le _, rfl, World.ownsRow_nil _ _ _ _, Below.refl _ _⟩
  case round =>
    obtain ⟨k, hk, rfl, hown, hB⟩ := hrel
    have hz := hB.size
    by_cases hlt : k < 32
    · have HN := Lib.hid (HSN.out k)
      go_wp2_with (at_builtin; refine wpList_append_own _ rfl _ _ 25 rfl w_31.heap.size 24 i0 _ 6 48 Try.underlying25 HI.out HZ0.out HZ1.out HZ2.out rfl (by decide) _ _ _ rfl (hown.alloc _) ⟨_, 0, none⟩ 1 1 [.int .i64 0, .int .i64 4, .int .i64 1, .int .i64 0, .bool false, .int .u64 0] rfl rfl (news_new _ _ _) (by simp [Value.oneCell']) (by unfold maxLen; omega) (by omega) (le_alloc_ hB.size) ?_; intro v1 w2 hown1 hg1 _; have hB2 := below_append hB hB.size hown hg1)
      go_roundw
      case rel => exact ⟨k + 1, by omega, by go_num, by rw [HN.out]; exact hown1, hB2⟩
      case measure => simp [intOf]; omega
    · obtain rfl : k = 32 := by omega
      obtain ⟨g, cap, rfl⟩ := own_some hown (by omega)
      obtain ⟨w_32, hW⟩ : ∃ W, wr = W := ⟨_, rfl⟩
      subst hW
      have L_32 := Lib.hid (L_31.out.up hB hB.size)
      have I_32 := Lib.hid (I_31.out.up hB hB.size)
      have E_32 := Lib.hid (E_31.out.up hB hB.size)
      have HB32 := Lib.hid (HB31.out.trans (hB.mono HB31.out.size))
      have G_32 := Lib.hid (show RdB _ _ _ _ from Rd.of_own hown)
      clear hown hB hz hk hlt HSN
      rw [show ((32 : Nat) : Int) = 32 from rfl]
      go_wp2_with fail
      refine (HLf.out _ _ _ G_32.out).mono ?_
      rintro e x ⟨gc, dc, rfl, hown, hB⟩
      rw [← HC1.out] at hown
      have HO := Lib.hid hown
      have HBX := Lib.hid hB
      clear hown hB
      go_wp2_with fail
      go_loopw [13] (fun i wq => ∃ j : Nat, 1 ≤ j ∧ j ≤ 32 ∧ i = .int .i64 j ∧ wq.ownsRow wr.heap.size 22 1 (.slice (some ⟨gc, 0, none⟩) 256 dc) 256 ((ct j).flatMap wordCells) ∧ Below wr.heap.size wr wq) (fun i _ => 32 - (intOf i).toNat)
      case atStart => exact ⟨1, by omega, by omega, rfl, HO.out, HBX.out⟩
      case round =>
        obtain ⟨j, hj1, hj, rfl, hown, hB⟩ := hrel
        by_cases hlt : j < 32
        · have HS := Lib.hid (HCH.out j (by omega))
          have hlen := HCL.out j
          obtain ⟨cj, hcj⟩ : ∃ cj, ct j = cj := ⟨_, rfl⟩
          rw [hcj] at hown HS hlen
          have c0 := (hown.cellAt (128 + 4 * j + 3) (by omega)).trans (words_get cj (128 + 4 * j + 3) (by rw [hlen]; omega))
          have f0 := hown.frozenAt (128 + 4 * j + 3)
          obtain ⟨u, hu⟩ : ∃ u, ((cj[128 + 4 * j + 3]'(by rw [hlen]; omega) : Nat) : Int) = u := ⟨_, rfl⟩
          rw [hu] at c0
          have hst := OwnW.set_ hlen hown hB (128 + 4 * j + 3) (124 + 4 * j)
          have HST := Lib.hid hst
          have w1 : IntKind.i64.wrap (4 * (j : Int)) = 4 * (j : Int) := IntWalk.i64_in _ (by omega)
          have w2 : IntKind.i64.wrap (128 + 4 * (j : Int)) = 128 + 4 * (j : Int) := IntWalk.i64_in _ (by omega)
          have w3 : IntKind.i64.wrap (128 + 4 * (j : Int) + 3) = 128 + 4 * (j : Int) + 3 := IntWalk.i64_in _ (by omega)
          have w4 : IntKind.i64.wrap (128 + 4 * (j : Int) - 4) = 128 + 4 * (j : Int) - 4 := IntWalk.i64_in _ (by omega)
          have w5 : IntKind.u64.wrap (128 + 4 * (j : Int) - 4) = 128 + 4 * (j : Int) - 4 := IntWalk.u64_in _ (by omega)
          have w6 : (128 + 4 * (j : Int) + 3).toNat = 128 + 4 * j + 3 := by omega
          have w7 : (0 : Int) ≤ 128 + 4 * (j : Int) + 3 := by omega
          have w8 : 128 + 4 * (j : Int) + 3 < 256 := by omega
          clear hown hB hst hu hcj
          go_wp2_with fail
          go_roundw
          case rel =>
            obtain ⟨g2, c2, e2, o2, b2⟩ := HST.out
            have e3 : ((124 + 4 * j : Nat) : Int) = 128 + 4 * (j : Int) - 4 := by omega
            rw [List.length_set, hlen] at e2 o2
            cases e2
            rw [← HS.out, e3] at o2
            rw [e3] at b2
            exact ⟨j + 1, by omega, by omega, by go_num, o2, b2⟩
          case measure => simp [intOf]; omega
        · obtain rfl : j = 32 := by omega
          rw [HCE.out] at hown
          have L_33 := Lib.hid (L_32.out.up hB hB.size)
          have I_33 := Lib.hid (I_32.out.up hB hB.size)
          have E_33 := Lib.hid (E_32.out.up hB hB.size)
          have HB33 := Lib.hid (HB32.out.trans (hB.mono HB32.out.size))
          have C_33 := Lib.hid (show RdW _ _ _ cl from Rd.of_own hown)
          clear hown hB hj hj1 hlt HBX HO
          rw [show ((32 : Nat) : Int) = 32 from rfl]
          go_wp2_with fail
          refine (HRC.out _ _ _ C_33.out).mono ?_
          rintro e w_34 ⟨⟨A34, c34, rfl, -, -⟩, hB34⟩
          have L_34 := Lib.hid (L_33.out.up hB34 hB34.size)
          have I_34 := Lib.hid (I_33.out.up hB34 hB34.size)
          have E_34 := Lib.hid (E_33.out.up hB34 hB34.size)
          have HB34 := Lib.hid (HB33.out.trans (hB34.mono HB33.out.size))
          clear hB34
          go_wp2_with fail
          refine (alive25_c _).mono ?_
          rintro e w_35 ⟨rfl, hB35⟩
          have L_35 := Lib.hid (L_34.out.up hB35 hB35.size)
          have I_35 := Lib.hid (I_34.out.up hB35 hB35.size)
          have E_35 := Lib.hid (E_34.out.up hB35 hB35.size)
          have HB35 := Lib.hid (HB34.out.trans (hB35.mono HB34.out.size))
          clear hB35
          go_wp2_with fail
          have xb := Bx.new w_35 3 #[.int .i64 132]
          have hba : Below w_35.heap.size w_35 (w_35.alloc (.cells #[.int .i64 132] 3)) := (Below.refl _ _).alloc (Nat.le_refl _) _
          refine (HRE.out _ _ _ _ _ (L_35.out.up hba hba.size) (show Rd _ _ _ _ from Rd.of_bx xb xb.lt)).mono ?_
          rintro e w_36 ⟨rfl, hB36⟩
          have hbb := hba.trans (hB36.mono hba.size)
          have I_36 := Lib.hid (I_35.out.up hbb hbb.size)
          have E_36 := Lib.hid (E_35.out.up hbb hbb.size)
          have HB36 := Lib.hid (HB35.out.trans (hbb.mono HB35.out.size))
          clear hB36 hbb hba
          go_wp2_with fail
          have xb := Bx.new w_36 3 #[.int .i64 128]
          have hba : Below w_36.heap.size w_36 (w_36.alloc (.cells #[.int .i64 128] 3)) := (Below.refl _ _).alloc (Nat.le_refl _) _
          refine (HSI.out _ _ _ _ _ (I_36.out.up hba hba.size) (show Rd _ _ _ _ from Rd.of_bx xb xb.lt)).mono ?_
          rintro e w_37 ⟨rfl, hB37⟩
          have hbb := hba.trans (hB37.mono hba.size)
          have E_37 := Lib.hid (E_36.out.up hbb hbb.size)
          have HB37 := Lib.hid (HB36.out.trans (hbb.mono HB36.out.size))
          clear hB37 hbb hba
          obtain ⟨b, off, eA, hb, p0, -⟩ := RdE.at_ E_37.out (show 0 < 2 by omega)
          obtain ⟨b2, off2, eB, hb2, p1, -⟩ := RdE.at_ E_37.out (show 1 < 2 by omega)
          cases eA
          cases eB
          simp only [List.getElem_cons_zero, List.getElem_cons_succ, Nat.zero_mul, Nat.add_zero, Nat.one_mul] at p0 p1
          go_wp2_with fail
          go_ret
          exact ⟨rfl, HB37.out⟩
end Go.Proofs.Ytpmfiibndiecpaa
