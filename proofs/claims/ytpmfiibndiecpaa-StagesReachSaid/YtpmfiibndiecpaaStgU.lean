/- The law StagesReach: in the phases of marks and of next-words what is reached stays, and in the first it is what is marked in the end; a phase line that changes is that of the next phase. -/
import Derived.Test.YtpmfiibndiecpaaStgV
namespace Go.Proofs.Ytpmfiibndiecpaa
open Go.RowKit

theorem rcOut_len2 (ws : List Nat) : (rcOut ws).length ≤ ws.length := by
  unfold rcOut
  split
  · rw [List.length_map]
    refine Nat.le_trans (List.length_filter_le _ _) ?_
    rw [List.length_range]; exact Nat.le_refl _
  · exact Nat.zero_le _
theorem lnV_ok {ws : List Nat} (h : lnErr ws = 0) : lnV ws = phV (wd ws 16) (wd ws 17) (wd ws 18) := by unfold lnV; rw [if_pos h]

set_option maxRecDepth 100000 in
set_option maxHeartbeats 16000000 in
theorem stagesReach_walk (w : World) (A : Option Addr) (ws : List Nat) (c : Nat) (hn : ws.length ≤ maxLen) (_hc : ws.length ≤ c) (hr : RdW w w.heap.size A ws) (ho : ∀ x ∈ ws, x < 18446744073709551616) :
    Calls Try.prog 11 #[.slice A ws.length c] w fun e w' => e = .returned (.bool true) ∧ Below w.heap.size w w' := by
  unfold maxLen at hn
  have HR := Lib.hid hr
  have HO := Lib.hid ho
  clear hr ho
  cases hg : greatW ws.length
  · have HG := Lib.hid hg
    have hgn := greatW_no hg
    have hlen : ws.length ≤ 2060 := by omega
    have HAL := Lib.hid (fun W (h : RdW W W.heap.size A ws) => sgAll_c A ws c ws.length W rfl hn _hc h HO.out)
    have HLN := Lib.hid (fun W (h : RdW W W.heap.size A ws) => line_c A ws c ws.length W rfl hn _hc h HO.out)
    unfold AlRes at HAL
    obtain ⟨err, outs, y, hall⟩ : ∃ err outs y, sgAll ws = (err, outs, y) := ⟨_, _, _, rfl⟩
    rw [hall] at HAL
    dsimp only at HAL
    by_cases h0 : err = 0
    · subst h0
      by_cases hpos : 0 < outs.length
      · obtain ⟨l1, l2, l3, l4, l5, l6⟩ := line_end HO.out hall hpos
        obtain ⟨y1, y2⟩ := end_word HO.out hall
        have hrp := fun hp => reach_plain HO.out hall hpos hp
        have hLY := fun A2 c2 W (hc2 : ws.length ≤ c2) (h : RdW W W.heap.size A2 y) => line_c A2 y c2 ws.length W y2 hn hc2 h y1
        have hRW := fun W (h : RdW W W.heap.size A ws) => mReached_c A ws c ws.length W rfl hn h HO.out
        have hRY := fun A2 c2 W (h : RdW W W.heap.size A2 y) => mReached_c A2 y c2 ws.length W y2 hn h y1
        have hMY := fun A2 c2 W (h : RdW W W.heap.size A2 y) => mMarked_c A2 y c2 ws.length W y2 hn h y1
        unfold RcdRes at hRW hRY
        unfold MdRes at hMY
        rw [lnV_ok l1, l1] at HLN
        rw [lnV_ok l2, l2] at hLY
        unfold phV at HLN hLY
        obtain ⟨P, hP⟩ : ∃ P, wd ws 16 = P := ⟨_, rfl⟩
        obtain ⟨F, hF⟩ : ∃ P, wd ws 17 = P := ⟨_, rfl⟩
        obtain ⟨T, hT⟩ : ∃ P, wd ws 18 = P := ⟨_, rfl⟩
        obtain ⟨P2, hP2⟩ : ∃ P, wd y 16 = P := ⟨_, rfl⟩
        obtain ⟨F2, hF2⟩ : ∃ P, wd y 17 = P := ⟨_, rfl⟩
        obtain ⟨T2, hT2⟩ : ∃ P, wd y 18 = P := ⟨_, rfl⟩
        rw [hP, hF, hT] at HLN
        rw [hP2, hF2, hT2] at hLY
        rw [hP] at l3 l4 l5 l6 hrp
        rw [hP2] at l3 l4
        obtain ⟨R, hR⟩ : ∃ R, rcOut ws = R := ⟨_, rfl⟩
        obtain ⟨rE, hrE⟩ : ∃ R, rcErr ws = R := ⟨_, rfl⟩
        have hRl : R.length ≤ 2060 := by rw [← hR]; exact Nat.le_trans (rcOut_len2 ws) hlen
        have HYN := Lib.hid y2
        have HLY := Lib.hid hLY
        have hpos2 : ∀ L : List Ch, L.map Ch.l = outs → 0 < L.length := fun L h => by rw [← h, List.length_map] at hpos; exact hpos
        have HPOS := Lib.hid hpos2
        rw [hR, hrE] at hRW hrp
        have HRW := Lib.hid hRW
        have HRY := Lib.hid hRY
        have HMY := Lib.hid hMY
        have HRP := Lib.hid hrp
        have hways : (P = 3 ∧ P2 = 3) ∨ (P = 3 ∧ P2 = 4) ∨ (P = 4 ∧ P2 = 4) ∨ (P = 1 ∧ P2 = 1) ∨ (P = 1 ∧ P2 = 2) ∨ (P = 2 ∧ P2 = 2) ∨ (P = 2 ∧ P2 = 3) := by
          by_cases h4 : P = 4
          · have := l4 h4; omega
          · omega
        clear hg hgn hall y1 y2 hrp hLY hpos hpos2 l1 l2 l3 l4 l5 l6 hP hF hT hP2 hF2 hT2 hR hrE hRW hRY hMY
        rcases hways with ⟨rfl, rfl⟩ | ⟨rfl, rfl⟩ | ⟨rfl, rfl⟩ | hways
        · go_enter Try.func11, Try.ntmps11
          go_wp2_with fail
          refine (alive31_c w).mono ?_
          rintro e w1 ⟨rfl, hB1⟩
          go_wp2_with fail
          refine (great25_c A ws.length c _ hn).mono ?_
          rintro e w1' ⟨rfl, rfl⟩
          rw [HG.out]
          go_wp2_with fail
          refine (HAL.out _ (HR.out.up hB1 hB1.size)).mono ?_
          rintro e w3 ⟨⟨L, B3, d3, vx, rfl, hL, -, hx, -⟩, hB3⟩
          obtain ⟨g3, c3, rfl, -, hx3⟩ := hx trivial
          have hLp := HPOS.out L hL
          have HB3 := Lib.hid (hB1.trans (hB3.mono hB1.size))
          have HW3 := Lib.hid (HR.out.up HB3.out HB3.out.size)
          have HC3 := Lib.hid (own_capR hx3)
          have HX3 := Lib.hid (Rd.of_own hx3)
          clear hx hx3 hB1 hB3 hL
          have hll : decide (L.length = 0) = false := by rw [decide_eq_false_iff_not]; omega
          have hlli : ((L.length : Int) == 0) = false := by rw [beq_eq_false_iff_ne]; omega
          go_wp2_with fail
          refine (HLN.out _ HW3.out).mono ?_
          rintro e w4 ⟨rfl, hB4⟩
          have hba := (Below.refl w4.heap.size w4).alloc (Nat.le_refl _) (.cells #[.int .i64 3, .int .i64 (F : Int), .int .i64 (T : Int)] 76)
          have bx4 := Bx.new w4 76 #[.int .i64 3, .int .i64 (F : Int), .int .i64 (T : Int)]
          have hb4 := HB3.out.trans (hB4.mono HB3.out.size)
          have HB4 := Lib.hid (hb4.trans (hba.mono hb4.size))
          have HX4 := Lib.hid ((HX3.out.up hB4 hB4.size).up hba hba.size)
          have HW4 := Lib.hid (HR.out.up HB4.out HB4.out.size)
          have BX4 := Lib.hid bx4
          clear hB4 hb4 hba bx4
          go_upto_region 6 with (fail)
          obtain ⟨W4, hW4⟩ : ∃ W, w4.alloc (.cells #[.int .i64 3, .int .i64 (F : Int), .int .i64 (T : Int)] 76) = W := ⟨_, rfl⟩
          rw [hW4] at HB4 HX4 HW4 BX4 ⊢
          clear hW4
          go_wp2_with fail
          refine (HLY.out _ _ _ HC3.out HX4.out).mono ?_
          rintro e w5 ⟨rfl, hB5⟩
          have hba := (Below.refl w5.heap.size w5).alloc (Nat.le_refl _) (.cells #[.int .i64 3, .int .i64 (F2 : Int), .int .i64 (T2 : Int)] 76)
          have bx5 := Bx.new w5 76 #[.int .i64 3, .int .i64 (F2 : Int), .int .i64 (T2 : Int)]
          have hb5 := HB4.out.trans (hB5.mono HB4.out.size)
          have HB5 := Lib.hid (hb5.trans (hba.mono hb5.size))
          have HX5 := Lib.hid ((HX4.out.up hB5 hB5.size).up hba hba.size)
          have HW5 := Lib.hid (HR.out.up HB5.out HB5.out.size)
          have bz := BX4.out.up hB5 BX4.out.lt
          have BZ5 := Lib.hid (bz.up hba bz.lt)
          have BX5 := Lib.hid bx5
          clear hB5 hb5 hba bx5 bz
          go_upto_region 9 with (fail)
          obtain ⟨W5, hW5⟩ : ∃ W, w5.alloc (.cells #[.int .i64 3, .int .i64 (F2 : Int), .int .i64 (T2 : Int)] 76) = W := ⟨_, rfl⟩
          rw [hW5] at HB5 HX5 HW5 BX5 BZ5 ⊢
          clear hW5 BX4 HX4 HW4 HX3 HW3
          obtain ⟨n0, -, -, nf0, -, -, hgn⟩ := BX5.out.c3
          obtain ⟨o0, -, -, of0, -, -, hgo⟩ := BZ5.out.c3
          go_wp2_with fail
          go_ret
          exact ⟨rfl, HB5.out⟩
        · go_enter Try.func11, Try.ntmps11
          go_wp2_with fail
          refine (alive31_c w).mono ?_
          rintro e w1 ⟨rfl, hB1⟩
          go_wp2_with fail
          refine (great25_c A ws.length c _ hn).mono ?_
          rintro e w1' ⟨rfl, rfl⟩
          rw [HG.out]
          go_wp2_with fail
          refine (HAL.out _ (HR.out.up hB1 hB1.size)).mono ?_
          rintro e w3 ⟨⟨L, B3, d3, vx, rfl, hL, -, hx, -⟩, hB3⟩
          obtain ⟨g3, c3, rfl, -, hx3⟩ := hx trivial
          have hLp := HPOS.out L hL
          have HB3 := Lib.hid (hB1.trans (hB3.mono hB1.size))
          have HW3 := Lib.hid (HR.out.up HB3.out HB3.out.size)
          have HC3 := Lib.hid (own_capR hx3)
          have HX3 := Lib.hid (Rd.of_own hx3)
          clear hx hx3 hB1 hB3 hL
          have hll : decide (L.length = 0) = false := by rw [decide_eq_false_iff_not]; omega
          have hlli : ((L.length : Int) == 0) = false := by rw [beq_eq_false_iff_ne]; omega
          go_wp2_with fail
          refine (HLN.out _ HW3.out).mono ?_
          rintro e w4 ⟨rfl, hB4⟩
          have hba := (Below.refl w4.heap.size w4).alloc (Nat.le_refl _) (.cells #[.int .i64 3, .int .i64 (F : Int), .int .i64 (T : Int)] 76)
          have bx4 := Bx.new w4 76 #[.int .i64 3, .int .i64 (F : Int), .int .i64 (T : Int)]
          have hb4 := HB3.out.trans (hB4.mono HB3.out.size)
          have HB4 := Lib.hid (hb4.trans (hba.mono hb4.size))
          have HX4 := Lib.hid ((HX3.out.up hB4 hB4.size).up hba hba.size)
          have HW4 := Lib.hid (HR.out.up HB4.out HB4.out.size)
          have BX4 := Lib.hid bx4
          clear hB4 hb4 hba bx4
          go_upto_region 6 with (fail)
          obtain ⟨W4, hW4⟩ : ∃ W, w4.alloc (.cells #[.int .i64 3, .int .i64 (F : Int), .int .i64 (T : Int)] 76) = W := ⟨_, rfl⟩
          rw [hW4] at HB4 HX4 HW4 BX4 ⊢
          clear hW4
          go_wp2_with fail
          refine (HLY.out _ _ _ HC3.out HX4.out).mono ?_
          rintro e w5 ⟨rfl, hB5⟩
          have hba := (Below.refl w5.heap.size w5).alloc (Nat.le_refl _) (.cells #[.int .i64 4, .int .i64 (F2 : Int), .int .i64 (T2 : Int)] 76)
          have bx5 := Bx.new w5 76 #[.int .i64 4, .int .i64 (F2 : Int), .int .i64 (T2 : Int)]
          have hb5 := HB4.out.trans (hB5.mono HB4.out.size)
          have HB5 := Lib.hid (hb5.trans (hba.mono hb5.size))
          have HX5 := Lib.hid ((HX4.out.up hB5 hB5.size).up hba hba.size)
          have HW5 := Lib.hid (HR.out.up HB5.out HB5.out.size)
          have bz := BX4.out.up hB5 BX4.out.lt
          have BZ5 := Lib.hid (bz.up hba bz.lt)
          have BX5 := Lib.hid bx5
          clear hB5 hb5 hba bx5 bz
          go_upto_region 9 with (fail)
          obtain ⟨W5, hW5⟩ : ∃ W, w5.alloc (.cells #[.int .i64 4, .int .i64 (F2 : Int), .int .i64 (T2 : Int)] 76) = W := ⟨_, rfl⟩
          rw [hW5] at HB5 HX5 HW5 BX5 BZ5 ⊢
          clear hW5 BX4 HX4 HW4 HX3 HW3
          obtain ⟨n0, -, -, nf0, -, -, hgn⟩ := BX5.out.c3
          obtain ⟨o0, -, -, of0, -, -, hgo⟩ := BZ5.out.c3
          go_wp2_with fail
          go_ret
          exact ⟨rfl, HB5.out⟩
        · go_enter Try.func11, Try.ntmps11
          go_wp2_with fail
          refine (alive31_c w).mono ?_
          rintro e w1 ⟨rfl, hB1⟩
          go_wp2_with fail
          refine (great25_c A ws.length c _ hn).mono ?_
          rintro e w1' ⟨rfl, rfl⟩
          rw [HG.out]
          go_wp2_with fail
          refine (HAL.out _ (HR.out.up hB1 hB1.size)).mono ?_
          rintro e w3 ⟨⟨L, B3, d3, vx, rfl, hL, -, hx, -⟩, hB3⟩
          obtain ⟨g3, c3, rfl, -, hx3⟩ := hx trivial
          have hLp := HPOS.out L hL
          have HB3 := Lib.hid (hB1.trans (hB3.mono hB1.size))
          have HW3 := Lib.hid (HR.out.up HB3.out HB3.out.size)
          have HC3 := Lib.hid (own_capR hx3)
          have HX3 := Lib.hid (Rd.of_own hx3)
          clear hx hx3 hB1 hB3 hL
          have hll : decide (L.length = 0) = false := by rw [decide_eq_false_iff_not]; omega
          have hlli : ((L.length : Int) == 0) = false := by rw [beq_eq_false_iff_ne]; omega
          go_wp2_with fail
          refine (HLN.out _ HW3.out).mono ?_
          rintro e w4 ⟨rfl, hB4⟩
          have hba := (Below.refl w4.heap.size w4).alloc (Nat.le_refl _) (.cells #[.int .i64 4, .int .i64 (F : Int), .int .i64 (T : Int)] 76)
          have bx4 := Bx.new w4 76 #[.int .i64 4, .int .i64 (F : Int), .int .i64 (T : Int)]
          have hb4 := HB3.out.trans (hB4.mono HB3.out.size)
          have HB4 := Lib.hid (hb4.trans (hba.mono hb4.size))
          have HX4 := Lib.hid ((HX3.out.up hB4 hB4.size).up hba hba.size)
          have HW4 := Lib.hid (HR.out.up HB4.out HB4.out.size)
          have BX4 := Lib.hid bx4
          clear hB4 hb4 hba bx4
          go_upto_region 6 with (fail)
          obtain ⟨W4, hW4⟩ : ∃ W, w4.alloc (.cells #[.int .i64 4, .int .i64 (F : Int), .int .i64 (T : Int)] 76) = W := ⟨_, rfl⟩
          rw [hW4] at HB4 HX4 HW4 BX4 ⊢
          clear hW4
          go_wp2_with fail
          refine (HLY.out _ _ _ HC3.out HX4.out).mono ?_
          rintro e w5 ⟨rfl, hB5⟩
          have hba := (Below.refl w5.heap.size w5).alloc (Nat.le_refl _) (.cells #[.int .i64 4, .int .i64 (F2 : Int), .int .i64 (T2 : Int)] 76)
          have bx5 := Bx.new w5 76 #[.int .i64 4, .int .i64 (F2 : Int), .int .i64 (T2 : Int)]
          have hb5 := HB4.out.trans (hB5.mono HB4.out.size)
          have HB5 := Lib.hid (hb5.trans (hba.mono hb5.size))
          have HX5 := Lib.hid ((HX4.out.up hB5 hB5.size).up hba hba.size)
          have HW5 := Lib.hid (HR.out.up HB5.out HB5.out.size)
          have bz := BX4.out.up hB5 BX4.out.lt
          have BZ5 := Lib.hid (bz.up hba bz.lt)
          have BX5 := Lib.hid bx5
          clear hB5 hb5 hba bx5 bz
          go_upto_region 9 with (fail)
          obtain ⟨W5, hW5⟩ : ∃ W, w5.alloc (.cells #[.int .i64 4, .int .i64 (F2 : Int), .int .i64 (T2 : Int)] 76) = W := ⟨_, rfl⟩
          rw [hW5] at HB5 HX5 HW5 BX5 BZ5 ⊢
          clear hW5 BX4 HX4 HW4 HX3 HW3
          obtain ⟨n0, -, -, nf0, -, -, hgn⟩ := BX5.out.c3
          obtain ⟨o0, -, -, of0, -, -, hgo⟩ := BZ5.out.c3
          go_wp2_with fail
          go_ret
          exact ⟨rfl, HB5.out⟩
        · have HSI := Lib.hid (fun A1 B1 c1 d1 W (h : RdI W W.heap.size A1 R) (h2 : RdI W W.heap.size B1 R) => sameInts_c A1 B1 R R R.length R.length c1 d1 W.heap.size W rfl rfl (by omega) h h2 (Nat.le_refl _))
          rw [show decide (R = R) = true by simp] at HSI
          rcases hways with ⟨rfl, rfl⟩ | ⟨rfl, rfl⟩ | ⟨rfl, rfl⟩ | ⟨rfl, rfl⟩
          · obtain ⟨e1, e2, e3, e4⟩ := HRP.out (.inl rfl)
            rw [e1, e2] at HRY
            rw [e3] at HMY
            obtain ⟨e5, e6⟩ := e4 rfl
            rw [e6] at HMY
            subst e5
            clear e1 e2 e3 e4 e6 HRP
            go_enter Try.func11, Try.ntmps11
            go_wp2_with fail
            refine (alive31_c w).mono ?_
            rintro e w1 ⟨rfl, hB1⟩
            go_wp2_with fail
            refine (great25_c A ws.length c _ hn).mono ?_
            rintro e w1' ⟨rfl, rfl⟩
            rw [HG.out]
            go_wp2_with fail
            refine (HAL.out _ (HR.out.up hB1 hB1.size)).mono ?_
            rintro e w3 ⟨⟨L, B3, d3, vx, rfl, hL, -, hx, -⟩, hB3⟩
            obtain ⟨g3, c3, rfl, -, hx3⟩ := hx trivial
            have hLp := HPOS.out L hL
            have HB3 := Lib.hid (hB1.trans (hB3.mono hB1.size))
            have HW3 := Lib.hid (HR.out.up HB3.out HB3.out.size)
            have HC3 := Lib.hid (own_capR hx3)
            have HX3 := Lib.hid (Rd.of_own hx3)
            clear hx hx3 hB1 hB3 hL
            have hll : decide (L.length = 0) = false := by rw [decide_eq_false_iff_not]; omega
            have hlli : ((L.length : Int) == 0) = false := by rw [beq_eq_false_iff_ne]; omega
            go_wp2_with fail
            refine (HLN.out _ HW3.out).mono ?_
            rintro e w4 ⟨rfl, hB4⟩
            have hba := (Below.refl w4.heap.size w4).alloc (Nat.le_refl _) (.cells #[.int .i64 1, .int .i64 (F : Int), .int .i64 (T : Int)] 76)
            have bx4 := Bx.new w4 76 #[.int .i64 1, .int .i64 (F : Int), .int .i64 (T : Int)]
            have hb4 := HB3.out.trans (hB4.mono HB3.out.size)
            have HB4 := Lib.hid (hb4.trans (hba.mono hb4.size))
            have HX4 := Lib.hid ((HX3.out.up hB4 hB4.size).up hba hba.size)
            have HW4 := Lib.hid (HR.out.up HB4.out HB4.out.size)
            have BX4 := Lib.hid bx4
            clear hB4 hb4 hba bx4
            go_upto_region 6 with (fail)
            obtain ⟨W4, hW4⟩ : ∃ W, w4.alloc (.cells #[.int .i64 1, .int .i64 (F : Int), .int .i64 (T : Int)] 76) = W := ⟨_, rfl⟩
            rw [hW4] at HB4 HX4 HW4 BX4 ⊢
            clear hW4
            go_wp2_with fail
            refine (HLY.out _ _ _ HC3.out HX4.out).mono ?_
            rintro e w5 ⟨rfl, hB5⟩
            have hba := (Below.refl w5.heap.size w5).alloc (Nat.le_refl _) (.cells #[.int .i64 1, .int .i64 (F2 : Int), .int .i64 (T2 : Int)] 76)
            have bx5 := Bx.new w5 76 #[.int .i64 1, .int .i64 (F2 : Int), .int .i64 (T2 : Int)]
            have hb5 := HB4.out.trans (hB5.mono HB4.out.size)
            have HB5 := Lib.hid (hb5.trans (hba.mono hb5.size))
            have HX5 := Lib.hid ((HX4.out.up hB5 hB5.size).up hba hba.size)
            have HW5 := Lib.hid (HR.out.up HB5.out HB5.out.size)
            have bz := BX4.out.up hB5 BX4.out.lt
            have BZ5 := Lib.hid (bz.up hba bz.lt)
            have BX5 := Lib.hid bx5
            clear hB5 hb5 hba bx5 bz
            go_upto_region 9 with (fail)
            obtain ⟨W5, hW5⟩ : ∃ W, w5.alloc (.cells #[.int .i64 1, .int .i64 (F2 : Int), .int .i64 (T2 : Int)] 76) = W := ⟨_, rfl⟩
            rw [hW5] at HB5 HX5 HW5 BX5 BZ5 ⊢
            clear hW5 BX4 HX4 HW4 HX3 HW3
            obtain ⟨n0, -, -, nf0, -, -, hgn⟩ := BX5.out.c3
            obtain ⟨o0, -, -, of0, -, -, hgo⟩ := BZ5.out.c3
            go_wp2_with fail
            refine (HRW.out _ HW5.out).mono ?_
            rintro e w6 ⟨⟨A6, c6, rfl, hr6, -⟩, hB6⟩
            have HB6 := Lib.hid (HB5.out.trans (hB6.mono HB5.out.size))
            have HX6 := Lib.hid (HX5.out.up hB6 hB6.size)
            have HR6 := Lib.hid hr6
            have BZ6 := Lib.hid (BZ5.out.up hB6 BZ5.out.lt)
            clear hr6 hB6 n0 nf0 hgn o0 of0 hgo
            go_wp2_with fail
            refine (HRY.out _ _ _ HX6.out).mono ?_
            rintro e w7 ⟨⟨A7, c7, rfl, hr7, -⟩, hB7⟩
            have HB7 := Lib.hid (HB6.out.trans (hB7.mono HB6.out.size))
            have HX7 := Lib.hid (HX6.out.up hB7 hB7.size)
            have HR7 := Lib.hid (HR6.out.up hB7 hB7.size)
            have HS7 := Lib.hid hr7
            have BZ7 := Lib.hid (BZ6.out.up hB7 BZ6.out.lt)
            clear hr7 hB7
            go_wp2_with fail
            refine (HMY.out _ _ _ HX7.out).mono ?_
            rintro e w8 ⟨⟨A8, c8, rfl, hr8, -⟩, hB8⟩
            have HB8 := Lib.hid (HB7.out.trans (hB8.mono HB7.out.size))
            have HR8 := Lib.hid (HR7.out.up hB8 hB8.size)
            have HS8 := Lib.hid (HS7.out.up hB8 hB8.size)
            have HM8 := Lib.hid hr8
            have BZ8 := Lib.hid (BZ7.out.up hB8 BZ7.out.lt)
            clear hr8 hB8
            go_wp2_with fail
            refine (HSI.out _ _ _ _ _ HR8.out HS8.out).mono ?_
            rintro e w9 ⟨rfl, hB9⟩
            have HB9 := Lib.hid (HB8.out.trans (hB9.mono HB8.out.size))
            have HR9 := Lib.hid (HR8.out.up hB9 hB9.size)
            have HM9 := Lib.hid (HM8.out.up hB9 hB9.size)
            have BZ9 := Lib.hid (BZ8.out.up hB9 BZ8.out.lt)
            obtain ⟨o0, -, -, of0, -, -, hgo⟩ := BZ9.out.c3
            clear hB9
            go_wp2_with fail
            refine (HSI.out _ _ _ _ _ HR9.out HM9.out).mono ?_
            rintro e w10 ⟨rfl, hB10⟩
            have HB10 := Lib.hid (HB9.out.trans (hB10.mono HB9.out.size))
            clear hB10
            go_wp2_with fail
            go_ret
            exact ⟨rfl, HB10.out⟩
          · obtain ⟨e1, e2, e3, e4⟩ := HRP.out (.inl rfl)
            rw [e1, e2] at HRY
            rw [e3] at HMY
            obtain ⟨e5, e6⟩ := e4 rfl
            rw [e6] at HMY
            subst e5
            clear e1 e2 e3 e4 e6 HRP
            go_enter Try.func11, Try.ntmps11
            go_wp2_with fail
            refine (alive31_c w).mono ?_
            rintro e w1 ⟨rfl, hB1⟩
            go_wp2_with fail
            refine (great25_c A ws.length c _ hn).mono ?_
            rintro e w1' ⟨rfl, rfl⟩
            rw [HG.out]
            go_wp2_with fail
            refine (HAL.out _ (HR.out.up hB1 hB1.size)).mono ?_
            rintro e w3 ⟨⟨L, B3, d3, vx, rfl, hL, -, hx, -⟩, hB3⟩
            obtain ⟨g3, c3, rfl, -, hx3⟩ := hx trivial
            have hLp := HPOS.out L hL
            have HB3 := Lib.hid (hB1.trans (hB3.mono hB1.size))
            have HW3 := Lib.hid (HR.out.up HB3.out HB3.out.size)
            have HC3 := Lib.hid (own_capR hx3)
            have HX3 := Lib.hid (Rd.of_own hx3)
            clear hx hx3 hB1 hB3 hL
            have hll : decide (L.length = 0) = false := by rw [decide_eq_false_iff_not]; omega
            have hlli : ((L.length : Int) == 0) = false := by rw [beq_eq_false_iff_ne]; omega
            go_wp2_with fail
            refine (HLN.out _ HW3.out).mono ?_
            rintro e w4 ⟨rfl, hB4⟩
            have hba := (Below.refl w4.heap.size w4).alloc (Nat.le_refl _) (.cells #[.int .i64 1, .int .i64 (F : Int), .int .i64 (T : Int)] 76)
            have bx4 := Bx.new w4 76 #[.int .i64 1, .int .i64 (F : Int), .int .i64 (T : Int)]
            have hb4 := HB3.out.trans (hB4.mono HB3.out.size)
            have HB4 := Lib.hid (hb4.trans (hba.mono hb4.size))
            have HX4 := Lib.hid ((HX3.out.up hB4 hB4.size).up hba hba.size)
            have HW4 := Lib.hid (HR.out.up HB4.out HB4.out.size)
            have BX4 := Lib.hid bx4
            clear hB4 hb4 hba bx4
            go_upto_region 6 with (fail)
            obtain ⟨W4, hW4⟩ : ∃ W, w4.alloc (.cells #[.int .i64 1, .int .i64 (F : Int), .int .i64 (T : Int)] 76) = W := ⟨_, rfl⟩
            rw [hW4] at HB4 HX4 HW4 BX4 ⊢
            clear hW4
            go_wp2_with fail
            refine (HLY.out _ _ _ HC3.out HX4.out).mono ?_
            rintro e w5 ⟨rfl, hB5⟩
            have hba := (Below.refl w5.heap.size w5).alloc (Nat.le_refl _) (.cells #[.int .i64 2, .int .i64 (F2 : Int), .int .i64 (T2 : Int)] 76)
            have bx5 := Bx.new w5 76 #[.int .i64 2, .int .i64 (F2 : Int), .int .i64 (T2 : Int)]
            have hb5 := HB4.out.trans (hB5.mono HB4.out.size)
            have HB5 := Lib.hid (hb5.trans (hba.mono hb5.size))
            have HX5 := Lib.hid ((HX4.out.up hB5 hB5.size).up hba hba.size)
            have HW5 := Lib.hid (HR.out.up HB5.out HB5.out.size)
            have bz := BX4.out.up hB5 BX4.out.lt
            have BZ5 := Lib.hid (bz.up hba bz.lt)
            have BX5 := Lib.hid bx5
            clear hB5 hb5 hba bx5 bz
            go_upto_region 9 with (fail)
            obtain ⟨W5, hW5⟩ : ∃ W, w5.alloc (.cells #[.int .i64 2, .int .i64 (F2 : Int), .int .i64 (T2 : Int)] 76) = W := ⟨_, rfl⟩
            rw [hW5] at HB5 HX5 HW5 BX5 BZ5 ⊢
            clear hW5 BX4 HX4 HW4 HX3 HW3
            obtain ⟨n0, -, -, nf0, -, -, hgn⟩ := BX5.out.c3
            obtain ⟨o0, -, -, of0, -, -, hgo⟩ := BZ5.out.c3
            go_wp2_with fail
            refine (HRW.out _ HW5.out).mono ?_
            rintro e w6 ⟨⟨A6, c6, rfl, hr6, -⟩, hB6⟩
            have HB6 := Lib.hid (HB5.out.trans (hB6.mono HB5.out.size))
            have HX6 := Lib.hid (HX5.out.up hB6 hB6.size)
            have HR6 := Lib.hid hr6
            have BZ6 := Lib.hid (BZ5.out.up hB6 BZ5.out.lt)
            clear hr6 hB6 n0 nf0 hgn o0 of0 hgo
            go_wp2_with fail
            refine (HRY.out _ _ _ HX6.out).mono ?_
            rintro e w7 ⟨⟨A7, c7, rfl, hr7, -⟩, hB7⟩
            have HB7 := Lib.hid (HB6.out.trans (hB7.mono HB6.out.size))
            have HX7 := Lib.hid (HX6.out.up hB7 hB7.size)
            have HR7 := Lib.hid (HR6.out.up hB7 hB7.size)
            have HS7 := Lib.hid hr7
            have BZ7 := Lib.hid (BZ6.out.up hB7 BZ6.out.lt)
            clear hr7 hB7
            go_wp2_with fail
            refine (HMY.out _ _ _ HX7.out).mono ?_
            rintro e w8 ⟨⟨A8, c8, rfl, hr8, -⟩, hB8⟩
            have HB8 := Lib.hid (HB7.out.trans (hB8.mono HB7.out.size))
            have HR8 := Lib.hid (HR7.out.up hB8 hB8.size)
            have HS8 := Lib.hid (HS7.out.up hB8 hB8.size)
            have HM8 := Lib.hid hr8
            have BZ8 := Lib.hid (BZ7.out.up hB8 BZ7.out.lt)
            clear hr8 hB8
            go_wp2_with fail
            refine (HSI.out _ _ _ _ _ HR8.out HS8.out).mono ?_
            rintro e w9 ⟨rfl, hB9⟩
            have HB9 := Lib.hid (HB8.out.trans (hB9.mono HB8.out.size))
            have HR9 := Lib.hid (HR8.out.up hB9 hB9.size)
            have HM9 := Lib.hid (HM8.out.up hB9 hB9.size)
            have BZ9 := Lib.hid (BZ8.out.up hB9 BZ8.out.lt)
            obtain ⟨o0, -, -, of0, -, -, hgo⟩ := BZ9.out.c3
            clear hB9
            go_wp2_with fail
            refine (HSI.out _ _ _ _ _ HR9.out HM9.out).mono ?_
            rintro e w10 ⟨rfl, hB10⟩
            have HB10 := Lib.hid (HB9.out.trans (hB10.mono HB9.out.size))
            clear hB10
            go_wp2_with fail
            go_ret
            exact ⟨rfl, HB10.out⟩
          · obtain ⟨e1, e2, e3, e4⟩ := HRP.out (.inr rfl)
            rw [e1, e2] at HRY
            rw [e3] at HMY
            obtain ⟨M, hM⟩ : ∃ M, mkdL (hpOut y) = M := ⟨_, rfl⟩
            rw [hM] at HMY
            clear e1 e2 e3 e4 hM HRP
            go_enter Try.func11, Try.ntmps11
            go_wp2_with fail
            refine (alive31_c w).mono ?_
            rintro e w1 ⟨rfl, hB1⟩
            go_wp2_with fail
            refine (great25_c A ws.length c _ hn).mono ?_
            rintro e w1' ⟨rfl, rfl⟩
            rw [HG.out]
            go_wp2_with fail
            refine (HAL.out _ (HR.out.up hB1 hB1.size)).mono ?_
            rintro e w3 ⟨⟨L, B3, d3, vx, rfl, hL, -, hx, -⟩, hB3⟩
            obtain ⟨g3, c3, rfl, -, hx3⟩ := hx trivial
            have hLp := HPOS.out L hL
            have HB3 := Lib.hid (hB1.trans (hB3.mono hB1.size))
            have HW3 := Lib.hid (HR.out.up HB3.out HB3.out.size)
            have HC3 := Lib.hid (own_capR hx3)
            have HX3 := Lib.hid (Rd.of_own hx3)
            clear hx hx3 hB1 hB3 hL
            have hll : decide (L.length = 0) = false := by rw [decide_eq_false_iff_not]; omega
            have hlli : ((L.length : Int) == 0) = false := by rw [beq_eq_false_iff_ne]; omega
            go_wp2_with fail
            refine (HLN.out _ HW3.out).mono ?_
            rintro e w4 ⟨rfl, hB4⟩
            have hba := (Below.refl w4.heap.size w4).alloc (Nat.le_refl _) (.cells #[.int .i64 2, .int .i64 (F : Int), .int .i64 (T : Int)] 76)
            have bx4 := Bx.new w4 76 #[.int .i64 2, .int .i64 (F : Int), .int .i64 (T : Int)]
            have hb4 := HB3.out.trans (hB4.mono HB3.out.size)
            have HB4 := Lib.hid (hb4.trans (hba.mono hb4.size))
            have HX4 := Lib.hid ((HX3.out.up hB4 hB4.size).up hba hba.size)
            have HW4 := Lib.hid (HR.out.up HB4.out HB4.out.size)
            have BX4 := Lib.hid bx4
            clear hB4 hb4 hba bx4
            go_upto_region 6 with (fail)
            obtain ⟨W4, hW4⟩ : ∃ W, w4.alloc (.cells #[.int .i64 2, .int .i64 (F : Int), .int .i64 (T : Int)] 76) = W := ⟨_, rfl⟩
            rw [hW4] at HB4 HX4 HW4 BX4 ⊢
            clear hW4
            go_wp2_with fail
            refine (HLY.out _ _ _ HC3.out HX4.out).mono ?_
            rintro e w5 ⟨rfl, hB5⟩
            have hba := (Below.refl w5.heap.size w5).alloc (Nat.le_refl _) (.cells #[.int .i64 2, .int .i64 (F2 : Int), .int .i64 (T2 : Int)] 76)
            have bx5 := Bx.new w5 76 #[.int .i64 2, .int .i64 (F2 : Int), .int .i64 (T2 : Int)]
            have hb5 := HB4.out.trans (hB5.mono HB4.out.size)
            have HB5 := Lib.hid (hb5.trans (hba.mono hb5.size))
            have HX5 := Lib.hid ((HX4.out.up hB5 hB5.size).up hba hba.size)
            have HW5 := Lib.hid (HR.out.up HB5.out HB5.out.size)
            have bz := BX4.out.up hB5 BX4.out.lt
            have BZ5 := Lib.hid (bz.up hba bz.lt)
            have BX5 := Lib.hid bx5
            clear hB5 hb5 hba bx5 bz
            go_upto_region 9 with (fail)
            obtain ⟨W5, hW5⟩ : ∃ W, w5.alloc (.cells #[.int .i64 2, .int .i64 (F2 : Int), .int .i64 (T2 : Int)] 76) = W := ⟨_, rfl⟩
            rw [hW5] at HB5 HX5 HW5 BX5 BZ5 ⊢
            clear hW5 BX4 HX4 HW4 HX3 HW3
            obtain ⟨n0, -, -, nf0, -, -, hgn⟩ := BX5.out.c3
            obtain ⟨o0, -, -, of0, -, -, hgo⟩ := BZ5.out.c3
            go_wp2_with fail
            refine (HRW.out _ HW5.out).mono ?_
            rintro e w6 ⟨⟨A6, c6, rfl, hr6, -⟩, hB6⟩
            have HB6 := Lib.hid (HB5.out.trans (hB6.mono HB5.out.size))
            have HX6 := Lib.hid (HX5.out.up hB6 hB6.size)
            have HR6 := Lib.hid hr6
            have BZ6 := Lib.hid (BZ5.out.up hB6 BZ5.out.lt)
            clear hr6 hB6 n0 nf0 hgn o0 of0 hgo
            go_wp2_with fail
            refine (HRY.out _ _ _ HX6.out).mono ?_
            rintro e w7 ⟨⟨A7, c7, rfl, hr7, -⟩, hB7⟩
            have HB7 := Lib.hid (HB6.out.trans (hB7.mono HB6.out.size))
            have HX7 := Lib.hid (HX6.out.up hB7 hB7.size)
            have HR7 := Lib.hid (HR6.out.up hB7 hB7.size)
            have HS7 := Lib.hid hr7
            have BZ7 := Lib.hid (BZ6.out.up hB7 BZ6.out.lt)
            clear hr7 hB7
            go_wp2_with fail
            refine (HMY.out _ _ _ HX7.out).mono ?_
            rintro e w8 ⟨⟨A8, c8, rfl, hr8, -⟩, hB8⟩
            have HB8 := Lib.hid (HB7.out.trans (hB8.mono HB7.out.size))
            have HR8 := Lib.hid (HR7.out.up hB8 hB8.size)
            have HS8 := Lib.hid (HS7.out.up hB8 hB8.size)
            have HM8 := Lib.hid hr8
            have BZ8 := Lib.hid (BZ7.out.up hB8 BZ7.out.lt)
            clear hr8 hB8
            go_wp2_with fail
            refine (HSI.out _ _ _ _ _ HR8.out HS8.out).mono ?_
            rintro e w9 ⟨rfl, hB9⟩
            have HB9 := Lib.hid (HB8.out.trans (hB9.mono HB8.out.size))
            have HR9 := Lib.hid (HR8.out.up hB9 hB9.size)
            have HM9 := Lib.hid (HM8.out.up hB9 hB9.size)
            have BZ9 := Lib.hid (BZ8.out.up hB9 BZ8.out.lt)
            obtain ⟨o0, -, -, of0, -, -, hgo⟩ := BZ9.out.c3
            clear hB9
            go_wp2_with fail
            go_ret
            exact ⟨rfl, HB9.out⟩
          · obtain ⟨e1, e2, e3, e4⟩ := HRP.out (.inr rfl)
            rw [e1, e2] at HRY
            rw [e3] at HMY
            obtain ⟨M, hM⟩ : ∃ M, mkdL (hpOut y) = M := ⟨_, rfl⟩
            rw [hM] at HMY
            clear e1 e2 e3 e4 hM HRP
            go_enter Try.func11, Try.ntmps11
            go_wp2_with fail
            refine (alive31_c w).mono ?_
            rintro e w1 ⟨rfl, hB1⟩
            go_wp2_with fail
            refine (great25_c A ws.length c _ hn).mono ?_
            rintro e w1' ⟨rfl, rfl⟩
            rw [HG.out]
            go_wp2_with fail
            refine (HAL.out _ (HR.out.up hB1 hB1.size)).mono ?_
            rintro e w3 ⟨⟨L, B3, d3, vx, rfl, hL, -, hx, -⟩, hB3⟩
            obtain ⟨g3, c3, rfl, -, hx3⟩ := hx trivial
            have hLp := HPOS.out L hL
            have HB3 := Lib.hid (hB1.trans (hB3.mono hB1.size))
            have HW3 := Lib.hid (HR.out.up HB3.out HB3.out.size)
            have HC3 := Lib.hid (own_capR hx3)
            have HX3 := Lib.hid (Rd.of_own hx3)
            clear hx hx3 hB1 hB3 hL
            have hll : decide (L.length = 0) = false := by rw [decide_eq_false_iff_not]; omega
            have hlli : ((L.length : Int) == 0) = false := by rw [beq_eq_false_iff_ne]; omega
            go_wp2_with fail
            refine (HLN.out _ HW3.out).mono ?_
            rintro e w4 ⟨rfl, hB4⟩
            have hba := (Below.refl w4.heap.size w4).alloc (Nat.le_refl _) (.cells #[.int .i64 2, .int .i64 (F : Int), .int .i64 (T : Int)] 76)
            have bx4 := Bx.new w4 76 #[.int .i64 2, .int .i64 (F : Int), .int .i64 (T : Int)]
            have hb4 := HB3.out.trans (hB4.mono HB3.out.size)
            have HB4 := Lib.hid (hb4.trans (hba.mono hb4.size))
            have HX4 := Lib.hid ((HX3.out.up hB4 hB4.size).up hba hba.size)
            have HW4 := Lib.hid (HR.out.up HB4.out HB4.out.size)
            have BX4 := Lib.hid bx4
            clear hB4 hb4 hba bx4
            go_upto_region 6 with (fail)
            obtain ⟨W4, hW4⟩ : ∃ W, w4.alloc (.cells #[.int .i64 2, .int .i64 (F : Int), .int .i64 (T : Int)] 76) = W := ⟨_, rfl⟩
            rw [hW4] at HB4 HX4 HW4 BX4 ⊢
            clear hW4
            go_wp2_with fail
            refine (HLY.out _ _ _ HC3.out HX4.out).mono ?_
            rintro e w5 ⟨rfl, hB5⟩
            have hba := (Below.refl w5.heap.size w5).alloc (Nat.le_refl _) (.cells #[.int .i64 3, .int .i64 (F2 : Int), .int .i64 (T2 : Int)] 76)
            have bx5 := Bx.new w5 76 #[.int .i64 3, .int .i64 (F2 : Int), .int .i64 (T2 : Int)]
            have hb5 := HB4.out.trans (hB5.mono HB4.out.size)
            have HB5 := Lib.hid (hb5.trans (hba.mono hb5.size))
            have HX5 := Lib.hid ((HX4.out.up hB5 hB5.size).up hba hba.size)
            have HW5 := Lib.hid (HR.out.up HB5.out HB5.out.size)
            have bz := BX4.out.up hB5 BX4.out.lt
            have BZ5 := Lib.hid (bz.up hba bz.lt)
            have BX5 := Lib.hid bx5
            clear hB5 hb5 hba bx5 bz
            go_upto_region 9 with (fail)
            obtain ⟨W5, hW5⟩ : ∃ W, w5.alloc (.cells #[.int .i64 3, .int .i64 (F2 : Int), .int .i64 (T2 : Int)] 76) = W := ⟨_, rfl⟩
            rw [hW5] at HB5 HX5 HW5 BX5 BZ5 ⊢
            clear hW5 BX4 HX4 HW4 HX3 HW3
            obtain ⟨n0, -, -, nf0, -, -, hgn⟩ := BX5.out.c3
            obtain ⟨o0, -, -, of0, -, -, hgo⟩ := BZ5.out.c3
            go_wp2_with fail
            refine (HRW.out _ HW5.out).mono ?_
            rintro e w6 ⟨⟨A6, c6, rfl, hr6, -⟩, hB6⟩
            have HB6 := Lib.hid (HB5.out.trans (hB6.mono HB5.out.size))
            have HX6 := Lib.hid (HX5.out.up hB6 hB6.size)
            have HR6 := Lib.hid hr6
            have BZ6 := Lib.hid (BZ5.out.up hB6 BZ5.out.lt)
            clear hr6 hB6 n0 nf0 hgn o0 of0 hgo
            go_wp2_with fail
            refine (HRY.out _ _ _ HX6.out).mono ?_
            rintro e w7 ⟨⟨A7, c7, rfl, hr7, -⟩, hB7⟩
            have HB7 := Lib.hid (HB6.out.trans (hB7.mono HB6.out.size))
            have HX7 := Lib.hid (HX6.out.up hB7 hB7.size)
            have HR7 := Lib.hid (HR6.out.up hB7 hB7.size)
            have HS7 := Lib.hid hr7
            have BZ7 := Lib.hid (BZ6.out.up hB7 BZ6.out.lt)
            clear hr7 hB7
            go_wp2_with fail
            refine (HMY.out _ _ _ HX7.out).mono ?_
            rintro e w8 ⟨⟨A8, c8, rfl, hr8, -⟩, hB8⟩
            have HB8 := Lib.hid (HB7.out.trans (hB8.mono HB7.out.size))
            have HR8 := Lib.hid (HR7.out.up hB8 hB8.size)
            have HS8 := Lib.hid (HS7.out.up hB8 hB8.size)
            have HM8 := Lib.hid hr8
            have BZ8 := Lib.hid (BZ7.out.up hB8 BZ7.out.lt)
            clear hr8 hB8
            go_wp2_with fail
            refine (HSI.out _ _ _ _ _ HR8.out HS8.out).mono ?_
            rintro e w9 ⟨rfl, hB9⟩
            have HB9 := Lib.hid (HB8.out.trans (hB9.mono HB8.out.size))
            have HR9 := Lib.hid (HR8.out.up hB9 hB9.size)
            have HM9 := Lib.hid (HM8.out.up hB9 hB9.size)
            have BZ9 := Lib.hid (BZ8.out.up hB9 BZ8.out.lt)
            obtain ⟨o0, -, -, of0, -, -, hgo⟩ := BZ9.out.c3
            clear hB9
            go_wp2_with fail
            go_ret
            exact ⟨rfl, HB9.out⟩
      · have hno : outs = [] := List.eq_nil_of_length_eq_zero (by omega)
        subst hno
        have hck := (sg_on HO.out hall).1
        have l1 := ck_ln hck
        rw [lnV_ok l1, l1] at HLN
        unfold phV at HLN
        clear hall hg hgn hpos hck l1
        go_enter Try.func11, Try.ntmps11
        go_wp2_with fail
        refine (alive31_c w).mono ?_
        rintro e w1 ⟨rfl, hB1⟩
        go_wp2_with fail
        refine (great25_c A ws.length c _ hn).mono ?_
        rintro e w1' ⟨rfl, rfl⟩
        rw [HG.out]
        go_wp2_with fail
        refine (HAL.out _ (HR.out.up hB1 hB1.size)).mono ?_
        rintro e w3 ⟨⟨L, B3, d3, vx, rfl, hL, -, -, -⟩, hB3⟩
        have HB3 := Lib.hid (hB1.trans (hB3.mono hB1.size))
        have HW3 := Lib.hid (HR.out.up HB3.out HB3.out.size)
        obtain rfl : L = [] := List.map_eq_nil_iff.1 hL
        clear hB1 hB3 hL
        go_wp2_with fail
        refine (HLN.out _ HW3.out).mono ?_
        rintro e w4 ⟨rfl, hB4⟩
        have HB4 := Lib.hid (HB3.out.trans (hB4.mono HB3.out.size))
        clear hB4
        go_wp2_with fail
        go_ret
        exact ⟨rfl, HB4.out.alloc HB4.out.size _⟩
    · have hno : (err == 0) = false := by rw [beq_eq_false_iff_ne]; exact h0
      have hne : (err != 0) = true := by rw [bne_iff_ne]; exact h0
      have dn0 : decide (err = 0) = false := by rw [decide_eq_false_iff_not]; exact h0
      have hv : ∃ x y z : Nat, lnV ws = phV x y z := by
        unfold lnV
        split
        · exact ⟨_, _, _, rfl⟩
        · exact ⟨0, 0, 0, rfl⟩
      obtain ⟨x1, x2, x3, hv⟩ := hv
      rw [hv] at HLN
      unfold phV at HLN
      obtain ⟨q, hq⟩ : ∃ q, lnErr ws = q := ⟨_, rfl⟩
      rw [hq] at HLN
      clear hall hg hgn hv hq h0
      go_enter Try.func11, Try.ntmps11
      go_wp2_with fail
      refine (alive31_c w).mono ?_
      rintro e w1 ⟨rfl, hB1⟩
      go_wp2_with fail
      refine (great25_c A ws.length c _ hn).mono ?_
      rintro e w1' ⟨rfl, rfl⟩
      rw [HG.out]
      go_wp2_with fail
      refine (HAL.out _ (HR.out.up hB1 hB1.size)).mono ?_
      rintro e w3 ⟨⟨L, B3, d3, vx, rfl, -, -, -, -⟩, hB3⟩
      have HB3 := Lib.hid (hB1.trans (hB3.mono hB1.size))
      have HW3 := Lib.hid (HR.out.up HB3.out HB3.out.size)
      clear hB1 hB3
      go_wp2_with fail
      refine (HLN.out _ HW3.out).mono ?_
      rintro e w4 ⟨rfl, hB4⟩
      have HB4 := Lib.hid (HB3.out.trans (hB4.mono HB3.out.size))
      clear hB4
      go_wp2_with fail
      go_ret
      exact ⟨rfl, HB4.out.alloc HB4.out.size _⟩
  · have HG := Lib.hid hg
    clear hg
    go_enter Try.func11, Try.ntmps11
    go_wp2_with fail
    refine (alive31_c w).mono ?_
    rintro e w1 ⟨rfl, hB1⟩
    go_wp2_with fail
    refine (great25_c A ws.length c _ hn).mono ?_
    rintro e w1' ⟨rfl, rfl⟩
    rw [HG.out]
    go_wp2_with fail
    go_ret
    exact ⟨rfl, hB1⟩
end Go.Proofs.Ytpmfiibndiecpaa
