/- The law ResumeNames: phases and errors. -/
import Derived.Test.YtpfbppjjegialaaRsNP
namespace Go.Proofs.Ytpfbppjjegialaa
open Go.RowKit

theorem mkstR {w w1 : World} {xs : List Nat} {g c n : Nat} (hown : w1.ownsRow w.heap.size 31 1 (.slice (some ⟨g, 0, none⟩) n c) n (xs.flatMap wordCells)) (hB : Below w.heap.size w w1) (j v : Nat) :
    (w1.setCell ⟨g, j, none⟩ (.int .u64 (v : Int))).ownsRow w.heap.size 31 1 (.slice (some ⟨g, 0, none⟩) n c) n ((xs.set j v).flatMap wordCells) ∧ Below w.heap.size w (w1.setCell ⟨g, j, none⟩ (.int .u64 (v : Int))) := by
  have hs := (hown.stored j (.int .u64 (v : Int))).1
  rw [← words_set] at hs
  exact ⟨hs, hB.setCell (p := ⟨g, j, none⟩) (own_base hown) _⟩

set_option maxRecDepth 100000 in
set_option maxHeartbeats 16000000 in
theorem resumeNames_walk (w : World) : Calls Try.prog 3 #[] w fun e w' => e = .returned (.bool true) ∧ Below w.heap.size w w' := by
  have HB0 := Lib.hid (Below.refl w.heap.size w)
  have HLw := Lib.hid (fun W => rnw_c W)
  unfold OwnW at HLw
  rw [rnw_len] at HLw
  have HLx := Lib.hid (fun W => rnx_c W)
  unfold OwnW at HLx
  rw [rnx_len] at HLx
  have HNA := Lib.hid (fun c W => rNext_c none [] c 0 W rfl (by omega) (Nat.zero_le c) Rd.nil_ (fun x hx => by simp at hx))
  unfold NxRes at HNA
  rw [rsNxC_ok rn_nx.1] at HNA
  have HNB := Lib.hid (fun A c W (hc : 256 ≤ c) (h : RdW W W.heap.size A (List.replicate 256 0)) => rNext_c A (List.replicate 256 0) c 256 W zero256.2.2 (by omega) hc h zero_lt)
  unfold NxRes at HNB
  rw [rsNxC_ok rn_nx.2] at HNB
  have E0 := Lib.hid (fun A c W (hc : 256 ≤ c) (h : RdW W W.heap.size A rnwL) => ends33_c A rnwL c 256 0 0 W rnw_len (by omega) hc h rnw_lt (rn_all rnw_lt rn_0))
  (try simp only [Int.cast_ofNat_Int] at E0)
  have P1 := Lib.hid (fun A c W (h : RdW W W.heap.size A rnwL) => at33_c A rnwL c 256 1 0 0 W.heap.size W rnw_len (by omega) (by omega) (by omega) (by omega) (by omega) h (Nat.le_refl _))
  unfold OwnW at P1
  rw [putE_len, rnw_len] at P1
  (try simp only [Int.cast_ofNat_Int] at P1)
  have E1 := Lib.hid (fun A c W (hc : 256 ≤ c) (h : RdW W W.heap.size A (putE rnwL (phE 1 0 0))) => ends33_c A (putE rnwL (phE 1 0 0)) c 256 5 0 W (by rw [putE_len]; exact rnw_len) (by omega) hc h (rn_lt rnw_lt 1 0 0 (by omega) (by omega) (by omega)) (rn_all (rn_lt rnw_lt 1 0 0 (by omega) (by omega) (by omega)) rn_1))
  (try simp only [Int.cast_ofNat_Int] at E1)
  have P2 := Lib.hid (fun A c W (h : RdW W W.heap.size A rnwL) => at33_c A rnwL c 256 2 0 0 W.heap.size W rnw_len (by omega) (by omega) (by omega) (by omega) (by omega) h (Nat.le_refl _))
  unfold OwnW at P2
  rw [putE_len, rnw_len] at P2
  (try simp only [Int.cast_ofNat_Int] at P2)
  have E2 := Lib.hid (fun A c W (hc : 256 ≤ c) (h : RdW W W.heap.size A (putE rnwL (phE 2 0 0))) => ends33_c A (putE rnwL (phE 2 0 0)) c 256 4 0 W (by rw [putE_len]; exact rnw_len) (by omega) hc h (rn_lt rnw_lt 2 0 0 (by omega) (by omega) (by omega)) (rn_all (rn_lt rnw_lt 2 0 0 (by omega) (by omega) (by omega)) rn_2))
  (try simp only [Int.cast_ofNat_Int] at E2)
  have P3 := Lib.hid (fun A c W (h : RdW W W.heap.size A rnwL) => at33_c A rnwL c 256 3 0 0 W.heap.size W rnw_len (by omega) (by omega) (by omega) (by omega) (by omega) h (Nat.le_refl _))
  unfold OwnW at P3
  rw [putE_len, rnw_len] at P3
  (try simp only [Int.cast_ofNat_Int] at P3)
  have E3 := Lib.hid (fun A c W (hc : 256 ≤ c) (h : RdW W W.heap.size A (putE rnwL (phE 3 0 0))) => ends33_c A (putE rnwL (phE 3 0 0)) c 256 3 0 W (by rw [putE_len]; exact rnw_len) (by omega) hc h (rn_lt rnw_lt 3 0 0 (by omega) (by omega) (by omega)) (rn_all (rn_lt rnw_lt 3 0 0 (by omega) (by omega) (by omega)) rn_3))
  (try simp only [Int.cast_ofNat_Int] at E3)
  have P4 := Lib.hid (fun A c W (h : RdW W W.heap.size A rnwL) => at33_c A rnwL c 256 3 256 0 W.heap.size W rnw_len (by omega) (by omega) (by omega) (by omega) (by omega) h (Nat.le_refl _))
  unfold OwnW at P4
  rw [putE_len, rnw_len] at P4
  (try simp only [Int.cast_ofNat_Int] at P4)
  have E4 := Lib.hid (fun A c W (hc : 256 ≤ c) (h : RdW W W.heap.size A (putE rnwL (phE 3 256 0))) => ends33_c A (putE rnwL (phE 3 256 0)) c 256 2 0 W (by rw [putE_len]; exact rnw_len) (by omega) hc h (rn_lt rnw_lt 3 256 0 (by omega) (by omega) (by omega)) (rn_all (rn_lt rnw_lt 3 256 0 (by omega) (by omega) (by omega)) rn_4))
  (try simp only [Int.cast_ofNat_Int] at E4)
  have P5 := Lib.hid (fun A c W (h : RdW W W.heap.size A rnwL) => at33_c A rnwL c 256 4 128 128 W.heap.size W rnw_len (by omega) (by omega) (by omega) (by omega) (by omega) h (Nat.le_refl _))
  unfold OwnW at P5
  rw [putE_len, rnw_len] at P5
  (try simp only [Int.cast_ofNat_Int] at P5)
  have E5 := Lib.hid (fun A c W (hc : 256 ≤ c) (h : RdW W W.heap.size A (putE rnwL (phE 4 128 128))) => ends33_c A (putE rnwL (phE 4 128 128)) c 256 1 0 W (by rw [putE_len]; exact rnw_len) (by omega) hc h (rn_lt rnw_lt 4 128 128 (by omega) (by omega) (by omega)) (rn_all (rn_lt rnw_lt 4 128 128 (by omega) (by omega) (by omega)) rn_5))
  (try simp only [Int.cast_ofNat_Int] at E5)
  have P6 := Lib.hid (fun A c W (h : RdW W W.heap.size A rnwL) => at33_c A rnwL c 256 4 128 130 W.heap.size W rnw_len (by omega) (by omega) (by omega) (by omega) (by omega) h (Nat.le_refl _))
  unfold OwnW at P6
  rw [putE_len, rnw_len] at P6
  (try simp only [Int.cast_ofNat_Int] at P6)
  have E6 := Lib.hid (fun A c W (hc : 256 ≤ c) (h : RdW W W.heap.size A (putE rnwL (phE 4 128 130))) => ends33_c A (putE rnwL (phE 4 128 130)) c 256 0 50 W (by rw [putE_len]; exact rnw_len) (by omega) hc h (rn_lt rnw_lt 4 128 130 (by omega) (by omega) (by omega)) (rn_all (rn_lt rnw_lt 4 128 130 (by omega) (by omega) (by omega)) rn_6))
  (try simp only [Int.cast_ofNat_Int] at E6)
  have E7 := Lib.hid (fun W => ends33_c none [] 0 0 0 8 W rfl (by omega) (Nat.le_refl _) Rd.nil_ (fun x hx => by simp at hx) (rn_all (fun x hx => by simp at hx) rn_7))
  (try simp only [Int.cast_ofNat_Int] at E7)
  have P8 := Lib.hid (fun A c W (h : RdW W W.heap.size A rnX) => at33_c A rnX c 256 3 0 0 W.heap.size W rnX_len (by omega) (by omega) (by omega) (by omega) (by omega) h (Nat.le_refl _))
  unfold OwnW at P8
  rw [putE_len, rnX_len] at P8
  (try simp only [Int.cast_ofNat_Int] at P8)
  have E8 := Lib.hid (fun A c W (hc : 256 ≤ c) (h : RdW W W.heap.size A (putE rnX (phE 3 0 0))) => ends33_c A (putE rnX (phE 3 0 0)) c 256 0 50 W (by rw [putE_len]; exact rnX_len) (by omega) hc h (rn_lt rnX_lt 3 0 0 (by omega) (by omega) (by omega)) (rn_all (rn_lt rnX_lt 3 0 0 (by omega) (by omega) (by omega)) rn_8))
  (try simp only [Int.cast_ofNat_Int] at E8)
  have P9 := Lib.hid (fun A c W (h : RdW W W.heap.size A rnX) => at33_c A rnX c 256 1 0 0 W.heap.size W rnX_len (by omega) (by omega) (by omega) (by omega) (by omega) h (Nat.le_refl _))
  unfold OwnW at P9
  rw [putE_len, rnX_len] at P9
  (try simp only [Int.cast_ofNat_Int] at P9)
  have E9 := Lib.hid (fun A c W (hc : 256 ≤ c) (h : RdW W W.heap.size A (putE rnX (phE 1 0 0))) => ends33_c A (putE rnX (phE 1 0 0)) c 256 9 0 W (by rw [putE_len]; exact rnX_len) (by omega) hc h (rn_lt rnX_lt 1 0 0 (by omega) (by omega) (by omega)) (rn_all (rn_lt rnX_lt 1 0 0 (by omega) (by omega) (by omega)) rn_9))
  (try simp only [Int.cast_ofNat_Int] at E9)
  obtain ⟨El, hl1, hl2⟩ : ∃ E, rsNx (putE rnwL (phE 4 128 128)) = (0, false, E) ∧ E.length = 5 := by
    have h := rn_last
    cases hr : rsNxC 20 (putE rnwL (phE 4 128 128)) with
    | none => rw [hr] at h; cases h
    | some r =>
      rw [hr] at h
      simp only [Option.map_some, Option.some.injEq, Prod.mk.injEq] at h
      exact ⟨r.2.2, by rw [rsNxC_ok hr, ← h.1, ← h.2.1], h.2.2⟩
  have HNL := Lib.hid (fun A c W (hc : 256 ≤ c) (h : RdW W W.heap.size A (putE rnwL (phE 4 128 128))) => rNext_c A (putE rnwL (phE 4 128 128)) c 256 W (by rw [putE_len]; exact rnw_len) (by omega) hc h (rn_lt rnw_lt 4 128 128 (by omega) (by omega) (by omega)))
  unfold NxRes at HNL
  rw [hl1] at HNL
  dsimp only at HNA HNB HNL
  rw [hl2] at HNL
  clear hl1 hl2
  simp only [List.length_nil] at HNA HNB
  have HXLN := Lib.hid rnx_len
  have HST : Hid (rnX = rnxL.set 130 132) := Lib.hid rfl
  generalize putE rnwL (phE 1 0 0) = q1 at *
  generalize putE rnwL (phE 2 0 0) = q2 at *
  generalize putE rnwL (phE 3 0 0) = q3 at *
  generalize putE rnwL (phE 3 256 0) = q4 at *
  generalize putE rnwL (phE 4 128 128) = q5 at *
  generalize putE rnwL (phE 4 128 130) = q6 at *
  generalize putE rnX (phE 3 0 0) = q8 at *
  generalize putE rnX (phE 1 0 0) = q9 at *
  generalize rnwL = lw at *
  generalize rnxL = lx at *
  generalize rnX = xX at *
  go_enter Try.func3, Try.ntmps3
  go_wp2_with fail
  refine (HLw.out _).mono ?_
  rintro e w_1 ⟨g1, c1, rfl, hown1, hB1⟩
  have HB1 := Lib.hid (HB0.out.trans (hB1.mono HB0.out.size))
  have W_1 := Lib.hid (show RdW _ _ _ lw from Rd.of_own hown1)
  have CP1 := Lib.hid (own_capR hown1)
  clear hB1 hown1
  go_wp2_with fail
  refine (HNA.out _ _).mono ?_
  rintro e w_2 ⟨⟨A2, c2, rfl, -⟩, hB2⟩
  have W_2 := Lib.hid (W_1.out.up hB2 hB2.size)
  have HB2 := Lib.hid (HB1.out.trans (hB2.mono HB1.out.size))
  clear hB2
  obtain ⟨w_3, hmk, hr, hb⟩ := mk256 w_2
  have W_3 := Lib.hid (W_2.out.up hb hb.size)
  have HB3 := Lib.hid (HB2.out.trans (hb.mono HB2.out.size))
  have Z_3 := Lib.hid hr
  clear hr hb
  go_wp2_with fail
  clear hmk
  refine (HNB.out _ _ _ (Nat.le_refl _) Z_3.out).mono ?_
  rintro e w_4 ⟨⟨A4, c4, rfl, -⟩, hB4⟩
  have W_4 := Lib.hid (W_3.out.up hB4 hB4.size)
  have HB4 := Lib.hid (HB3.out.trans (hB4.mono HB3.out.size))
  clear hB4
  go_wp2_with fail
  refine (P5.out _ _ _ W_4.out).mono ?_
  rintro e w_5 ⟨g5, c5, rfl, hown5, hB5⟩
  have W_5 := Lib.hid (W_4.out.up hB5 hB5.size)
  have HB5 := Lib.hid (HB4.out.trans (hB5.mono HB4.out.size))
  have U_5 := Lib.hid (show RdW _ _ _ q5 from Rd.of_own hown5)
  have CP5 := Lib.hid (own_capR hown5)
  clear hB5 hown5
  go_wp2_with fail
  refine (HNL.out _ _ _ CP5.out U_5.out).mono ?_
  rintro e w_6 ⟨⟨A6, c6, rfl, -⟩, hB6⟩
  have W_6 := Lib.hid (W_5.out.up hB6 hB6.size)
  have HB6 := Lib.hid (HB5.out.trans (hB6.mono HB5.out.size))
  clear hB6
  go_wp2_with fail
  refine (HLx.out _).mono ?_
  rintro e x ⟨gx, dx, rfl, hown, hB⟩
  have c0 := (hown.cellAt 130 (by omega)).trans (words_get lx 130 (by rw [HXLN.out]; omega))
  have f0 := hown.frozenAt 130
  have hs2 := mkstR hown hB 130 132
  rw [← HST.out] at hs2
  have HS2 := Lib.hid hs2
  obtain ⟨u6, hu6⟩ : ∃ u, ((lx[130]'(by rw [HXLN.out]; omega) : Nat) : Int) = u := ⟨_, rfl⟩
  rw [hu6] at c0
  clear hs2 hu6 hown hB
  go_upto_region 7 with (fail)
  obtain ⟨w_7, hW⟩ : ∃ W, x.setCell ⟨gx, 130, none⟩ (.int .u64 132) = W := ⟨_, rfl⟩
  obtain ⟨hs1, hs2⟩ := HS2.out
  have hs1 : w_7.ownsRow w_6.heap.size 31 1 (.slice (some ⟨gx, 0, none⟩) 256 dx) 256 (xX.flatMap wordCells) := by rw [← hW]; exact hs1
  have hs2 : Below w_6.heap.size w_6 w_7 := by rw [← hW]; exact hs2
  rw [hW]
  have W_7 := Lib.hid (W_6.out.up hs2 hs2.size)
  have HB7 := Lib.hid (HB6.out.trans (hs2.mono HB6.out.size))
  have X_7 := Lib.hid (show RdW _ _ _ xX from Rd.of_own hs1)
  clear hs1 hs2 hW c0 f0 HS2
  go_wp2_with fail
  refine (alive33_c _).mono ?_
  rintro e w_8 ⟨rfl, hB8⟩
  have W_8 := Lib.hid (W_7.out.up hB8 hB8.size)
  have X_8 := Lib.hid (X_7.out.up hB8 hB8.size)
  have HB8 := Lib.hid (HB7.out.trans (hB8.mono HB7.out.size))
  clear hB8
  go_wp2_with fail
  refine (E0.out _ _ _ CP1.out W_8.out).mono ?_
  rintro e w_9 ⟨rfl, hB9⟩
  have W_9 := Lib.hid (W_8.out.up hB9 hB9.size)
  have X_9 := Lib.hid (X_8.out.up hB9 hB9.size)
  have HB9 := Lib.hid (HB8.out.trans (hB9.mono HB8.out.size))
  clear hB9
  go_wp2_with fail
  refine (P1.out _ _ _ W_9.out).mono ?_
  rintro e w_10 ⟨g10, c10, rfl, hown10, hB10⟩
  have W_10 := Lib.hid (W_9.out.up hB10 hB10.size)
  have X_10 := Lib.hid (X_9.out.up hB10 hB10.size)
  have HB10 := Lib.hid (HB9.out.trans (hB10.mono HB9.out.size))
  have U_10 := Lib.hid (show RdW _ _ _ q1 from Rd.of_own hown10)
  have CP10 := Lib.hid (own_capR hown10)
  clear hB10 hown10
  go_wp2_with fail
  refine (E1.out _ _ _ CP10.out U_10.out).mono ?_
  rintro e w_11 ⟨rfl, hB11⟩
  have W_11 := Lib.hid (W_10.out.up hB11 hB11.size)
  have X_11 := Lib.hid (X_10.out.up hB11 hB11.size)
  have HB11 := Lib.hid (HB10.out.trans (hB11.mono HB10.out.size))
  clear hB11
  go_wp2_with fail
  refine (P2.out _ _ _ W_11.out).mono ?_
  rintro e w_12 ⟨g12, c12, rfl, hown12, hB12⟩
  have W_12 := Lib.hid (W_11.out.up hB12 hB12.size)
  have X_12 := Lib.hid (X_11.out.up hB12 hB12.size)
  have HB12 := Lib.hid (HB11.out.trans (hB12.mono HB11.out.size))
  have U_12 := Lib.hid (show RdW _ _ _ q2 from Rd.of_own hown12)
  have CP12 := Lib.hid (own_capR hown12)
  clear hB12 hown12
  go_wp2_with fail
  refine (E2.out _ _ _ CP12.out U_12.out).mono ?_
  rintro e w_13 ⟨rfl, hB13⟩
  have W_13 := Lib.hid (W_12.out.up hB13 hB13.size)
  have X_13 := Lib.hid (X_12.out.up hB13 hB13.size)
  have HB13 := Lib.hid (HB12.out.trans (hB13.mono HB12.out.size))
  clear hB13
  go_wp2_with fail
  refine (P3.out _ _ _ W_13.out).mono ?_
  rintro e w_14 ⟨g14, c14, rfl, hown14, hB14⟩
  have W_14 := Lib.hid (W_13.out.up hB14 hB14.size)
  have X_14 := Lib.hid (X_13.out.up hB14 hB14.size)
  have HB14 := Lib.hid (HB13.out.trans (hB14.mono HB13.out.size))
  have U_14 := Lib.hid (show RdW _ _ _ q3 from Rd.of_own hown14)
  have CP14 := Lib.hid (own_capR hown14)
  clear hB14 hown14
  go_wp2_with fail
  refine (E3.out _ _ _ CP14.out U_14.out).mono ?_
  rintro e w_15 ⟨rfl, hB15⟩
  have W_15 := Lib.hid (W_14.out.up hB15 hB15.size)
  have X_15 := Lib.hid (X_14.out.up hB15 hB15.size)
  have HB15 := Lib.hid (HB14.out.trans (hB15.mono HB14.out.size))
  clear hB15
  go_wp2_with fail
  refine (P4.out _ _ _ W_15.out).mono ?_
  rintro e w_16 ⟨g16, c16, rfl, hown16, hB16⟩
  have W_16 := Lib.hid (W_15.out.up hB16 hB16.size)
  have X_16 := Lib.hid (X_15.out.up hB16 hB16.size)
  have HB16 := Lib.hid (HB15.out.trans (hB16.mono HB15.out.size))
  have U_16 := Lib.hid (show RdW _ _ _ q4 from Rd.of_own hown16)
  have CP16 := Lib.hid (own_capR hown16)
  clear hB16 hown16
  go_wp2_with fail
  refine (E4.out _ _ _ CP16.out U_16.out).mono ?_
  rintro e w_17 ⟨rfl, hB17⟩
  have W_17 := Lib.hid (W_16.out.up hB17 hB17.size)
  have X_17 := Lib.hid (X_16.out.up hB17 hB17.size)
  have HB17 := Lib.hid (HB16.out.trans (hB17.mono HB16.out.size))
  clear hB17
  go_wp2_with fail
  refine (P5.out _ _ _ W_17.out).mono ?_
  rintro e w_18 ⟨g18, c18, rfl, hown18, hB18⟩
  have W_18 := Lib.hid (W_17.out.up hB18 hB18.size)
  have X_18 := Lib.hid (X_17.out.up hB18 hB18.size)
  have HB18 := Lib.hid (HB17.out.trans (hB18.mono HB17.out.size))
  have U_18 := Lib.hid (show RdW _ _ _ q5 from Rd.of_own hown18)
  have CP18 := Lib.hid (own_capR hown18)
  clear hB18 hown18
  go_wp2_with fail
  refine (E5.out _ _ _ CP18.out U_18.out).mono ?_
  rintro e w_19 ⟨rfl, hB19⟩
  have W_19 := Lib.hid (W_18.out.up hB19 hB19.size)
  have X_19 := Lib.hid (X_18.out.up hB19 hB19.size)
  have HB19 := Lib.hid (HB18.out.trans (hB19.mono HB18.out.size))
  clear hB19
  go_wp2_with fail
  refine (P6.out _ _ _ W_19.out).mono ?_
  rintro e w_20 ⟨g20, c20, rfl, hown20, hB20⟩
  have W_20 := Lib.hid (W_19.out.up hB20 hB20.size)
  have X_20 := Lib.hid (X_19.out.up hB20 hB20.size)
  have HB20 := Lib.hid (HB19.out.trans (hB20.mono HB19.out.size))
  have U_20 := Lib.hid (show RdW _ _ _ q6 from Rd.of_own hown20)
  have CP20 := Lib.hid (own_capR hown20)
  clear hB20 hown20
  go_wp2_with fail
  refine (E6.out _ _ _ CP20.out U_20.out).mono ?_
  rintro e w_21 ⟨rfl, hB21⟩
  have W_21 := Lib.hid (W_20.out.up hB21 hB21.size)
  have X_21 := Lib.hid (X_20.out.up hB21 hB21.size)
  have HB21 := Lib.hid (HB20.out.trans (hB21.mono HB20.out.size))
  clear hB21
  go_wp2_with fail
  refine (E7.out _).mono ?_
  rintro e w_22 ⟨rfl, hB22⟩
  have W_22 := Lib.hid (W_21.out.up hB22 hB22.size)
  have X_22 := Lib.hid (X_21.out.up hB22 hB22.size)
  have HB22 := Lib.hid (HB21.out.trans (hB22.mono HB21.out.size))
  clear hB22
  go_wp2_with fail
  refine (P8.out _ _ _ X_22.out).mono ?_
  rintro e w_23 ⟨g23, c23, rfl, hown23, hB23⟩
  have W_23 := Lib.hid (W_22.out.up hB23 hB23.size)
  have X_23 := Lib.hid (X_22.out.up hB23 hB23.size)
  have HB23 := Lib.hid (HB22.out.trans (hB23.mono HB22.out.size))
  have U_23 := Lib.hid (show RdW _ _ _ q8 from Rd.of_own hown23)
  have CP23 := Lib.hid (own_capR hown23)
  clear hB23 hown23
  go_wp2_with fail
  refine (E8.out _ _ _ CP23.out U_23.out).mono ?_
  rintro e w_24 ⟨rfl, hB24⟩
  have W_24 := Lib.hid (W_23.out.up hB24 hB24.size)
  have X_24 := Lib.hid (X_23.out.up hB24 hB24.size)
  have HB24 := Lib.hid (HB23.out.trans (hB24.mono HB23.out.size))
  clear hB24
  go_wp2_with fail
  refine (P9.out _ _ _ X_24.out).mono ?_
  rintro e w_25 ⟨g25, c25, rfl, hown25, hB25⟩
  have W_25 := Lib.hid (W_24.out.up hB25 hB25.size)
  have X_25 := Lib.hid (X_24.out.up hB25 hB25.size)
  have HB25 := Lib.hid (HB24.out.trans (hB25.mono HB24.out.size))
  have U_25 := Lib.hid (show RdW _ _ _ q9 from Rd.of_own hown25)
  have CP25 := Lib.hid (own_capR hown25)
  clear hB25 hown25
  go_wp2_with fail
  refine (E9.out _ _ _ CP25.out U_25.out).mono ?_
  rintro e w_26 ⟨rfl, hB26⟩
  have W_26 := Lib.hid (W_25.out.up hB26 hB26.size)
  have X_26 := Lib.hid (X_25.out.up hB26 hB26.size)
  have HB26 := Lib.hid (HB25.out.trans (hB26.mono HB25.out.size))
  clear hB26
  go_wp2_with fail
  go_ret
  exact ⟨rfl, HB26.out⟩
end Go.Proofs.Ytpfbppjjegialaa
