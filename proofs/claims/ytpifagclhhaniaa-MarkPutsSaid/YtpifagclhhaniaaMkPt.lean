/- The law MarkPuts: for words that are not great, with the wanted entries in their places the marked objects are the reached ones. -/
import Derived.Test.YtpifagclhhaniaaAl25
namespace Go.Proofs.Ytpifagclhhaniaa
open Go.RowKit

set_option maxRecDepth 100000 in
set_option maxHeartbeats 16000000 in
theorem markPuts_walk (w : World) (A : Option Addr) (ws : List Nat) (c : Nat) (hn : ws.length ≤ maxLen) (_hc : ws.length ≤ c) (hr : RdW w w.heap.size A ws) (ho : ∀ x ∈ ws, x < 18446744073709551616) :
    Calls Try.prog 4 #[.slice A ws.length c] w fun e w' => e = .returned (.bool true) ∧ Below w.heap.size w w' := by
  unfold maxLen at hn
  have HR := Lib.hid hr
  have HO := Lib.hid ho
  clear hr ho
  cases hg : greatW ws.length
  · have HG := Lib.hid hg
    have hgn := greatW_no hg
    have hlen : ws.length ≤ 2060 := by omega
    have HWN := Lib.hid (fun W (h : RdW W W.heap.size A ws) => mWanted_c A ws c ws.length W rfl hn h HO.out)
    unfold WtRes at HWN
    have HRC := Lib.hid (fun W (h : RdW W W.heap.size A ws) => mReached_c A ws c ws.length W rfl hn h HO.out)
    unfold RcdRes at HRC
    by_cases h0 : rcErr ws = 0
    · obtain ⟨g1, g2, g3, g4, g5⟩ := puts_plain h0
      obtain ⟨hrow, hrow2⟩ := wt_rows h0
      have hwv := wtOut_v h0
      have hb := fr_bd ws (hpErr_zero (rcErr_zero h0).1).1
      have hxl : (putE ws (wtOut ws)).length = ws.length := putE_len _ _
      have hxo := putE_lt (wtOut ws) ws HO.out hwv
      have hel : (wtOut ws).length ≤ 1024 := by
        rw [wtOut_eq h0, List.length_map]
        have h1 := wntL_len (seenL ws) (hpOut ws)
        have h2 := hpOut_len ws
        omega
      have hrl : (rcOut ws).length ≤ 2060 := by
        rw [rcOut_seen h0]
        have := seenTo_len (seenL ws) ws.length
        omega
      rw [h0] at HWN HRC
      have HPT := Lib.hid (fun A2 B d W (h : RdW W W.heap.size A2 ws) (h2 : RdE W W.heap.size B (wtOut ws)) => put25_c A2 B ws (wtOut ws) c d ws.length (wtOut ws).length W.heap.size W rfl rfl (by omega) (by omega) (by omega) h h2 (Nat.le_refl _))
      unfold OwnW at HPT
      rw [hxl] at HPT
      have HR2 := Lib.hid (fun A2 c2 W (h : RdW W W.heap.size A2 (putE ws (wtOut ws))) => mReached_c A2 (putE ws (wtOut ws)) c2 ws.length W hxl hn h hxo)
      unfold RcdRes at HR2
      rw [g1, g2] at HR2
      have HMK := Lib.hid (fun A2 c2 W (h : RdW W W.heap.size A2 (putE ws (wtOut ws))) => mMarked_c A2 (putE ws (wtOut ws)) c2 ws.length W hxl hn h hxo)
      unfold MdRes at HMK
      rw [g3, g4] at HMK
      have HW2 := Lib.hid (fun A2 c2 W (h : RdW W W.heap.size A2 (putE ws (wtOut ws))) => mWanted_c A2 (putE ws (wtOut ws)) c2 ws.length W hxl hn h hxo)
      unfold WtRes at HW2
      rw [g1, g5] at HW2
      have HSI := Lib.hid (fun A1 B1 c1 d1 W (h : RdI W W.heap.size A1 (rcOut ws)) (h2 : RdI W W.heap.size B1 (rcOut ws)) => sameInts_c A1 B1 (rcOut ws) (rcOut ws) (rcOut ws).length (rcOut ws).length c1 d1 W.heap.size W rfl rfl (by omega) h h2 (Nat.le_refl _))
      rw [show decide (rcOut ws = rcOut ws) = true by simp] at HSI
      have HROW := Lib.hid hrow
      have HROW2 := Lib.hid hrow2
      have hb1 := hb.1
      clear hg hgn h0 g1 g2 g3 g4 g5 hrow hrow2 hwv hxl hxo hb
      generalize rcOut ws = R at HRC HR2 HMK HSI hrl
      generalize putE ws (wtOut ws) = x at HPT HR2 HMK HW2
      generalize wtOut ws = E at HWN HPT HROW HROW2 hel
      go_enter Try.func4, Try.ntmps4
      go_wp2_with fail
      refine (alive25_c w).mono ?_
      rintro e w1 ⟨rfl, hB1⟩
      go_wp2_with fail
      refine (great25_c A ws.length c _ hn).mono ?_
      rintro e w1' ⟨rfl, rfl⟩
      rw [HG.out]
      go_wp2_with fail
      refine (HWN.out _ (HR.out.up hB1 hB1.size)).mono ?_
      rintro e w2 ⟨⟨A2, c2, rfl, hr2, -⟩, hB2⟩
      have HE2 := Lib.hid hr2
      have HB2 := Lib.hid (hB1.trans (hB2.mono hB1.size))
      have HRW := Lib.hid (HR.out.up HB2.out HB2.out.size)
      clear hr2 hB2 hB1
      go_wp2_with fail
      refine (HRC.out _ HRW.out).mono ?_
      rintro e w3 ⟨⟨A3, c3, rfl, hr3, -⟩, hB3⟩
      have HB3 := Lib.hid (HB2.out.trans (hB3.mono HB2.out.size))
      have HE3 := Lib.hid (HE2.out.up hB3 hB3.size)
      have HRW3 := Lib.hid (HRW.out.up hB3 hB3.size)
      have HR3 := Lib.hid hr3
      clear hr3 hB3
      go_wp2_with fail
      go_loopw [8] (fun i wr => ∃ m : Nat, m ≤ E.length ∧ i = .int .i64 m ∧ Below w3.heap.size w3 wr) (fun i _ => E.length - (intOf i).toNat)
      case atStart => exact ⟨0, by omega, rfl, Below.refl _ _⟩
      case round =>
        obtain ⟨m, hm, rfl, hB⟩ := hrel
        have hz := hB.size
        by_cases hlt : m < E.length
        · obtain ⟨e1, e2⟩ := HROW.out m _ (List.getElem?_eq_getElem hlt)
          have e3 := fun x (h : E[m - 1]? = some x) (h0 : 0 < m) => HROW2.out (m - 1) x E[m] h (by rw [show m - 1 + 1 = m by omega]; exact List.getElem?_eq_getElem hlt)
          obtain ⟨b2, off2, rfl, hbw2, r0, -⟩ := RdE.at_ (Rd.below HE3.out hB) hlt
          obtain ⟨y, hy⟩ : ∃ y, E[m].a = y := ⟨_, rfl⟩
          rw [hy] at r0 e1 e2 e3
          have hmi : (m : Int) < (E.length : Int) := by omega
          have hm0 : (0 : Int) ≤ (m : Int) := by omega
          clear hy
          have hd1 : decide (y < 128) = false := by rw [decide_eq_false_iff_not]; omega
          have hd2 : decide ((ws.length : Int) ≤ y) = false := by rw [decide_eq_false_iff_not]; omega
          by_cases hc0 : m = 0
          · have hd0 : decide ((0 : Int) < (m : Int)) = false := by rw [decide_eq_false_iff_not]; omega
            have hd0n : decide (0 < m) = false := by rw [decide_eq_false_iff_not]; omega
            clear e3 hc0
            go_wp2_with fail
            go_quiet (fail)
            go_wp2_with fail
            go_roundw
            case rel => exact ⟨m + 1, by omega, by go_num, by first | exact hB | exact below_drewN hB _ | exact hB.drew⟩
            case measure => simp [intOf]; omega
          · have hlm1 : m - 1 < E.length := by omega
            have e4 := e3 E[m - 1] (List.getElem?_eq_getElem hlm1) (by omega)
            obtain ⟨b4, off4, hA4, hbw4, r2, -⟩ := RdE.at_ (Rd.below HE3.out hB) hlm1
            cases hA4
            obtain ⟨y2, hy2⟩ : ∃ y2, E[m - 1].a = y2 := ⟨_, rfl⟩
            rw [hy2] at r2 e4
            have hm0' : (0 : Int) < (m : Int) := by omega
            have hd0 : decide ((0 : Int) < (m : Int)) = true := by rw [decide_eq_true_iff]; omega
            have hd0n : decide (0 < m) = true := by rw [decide_eq_true_iff]; omega
            have hmi1 : (m : Int) - 1 < (E.length : Int) := by omega
            have hmi2 : (0 : Int) ≤ (m : Int) - 1 := by omega
            have hmw : IntKind.i64.wrap ((m : Int) - 1) = (m : Int) - 1 := IntWalk.i64_in _ (by omega)
            have hmt : ((m : Int) - 1).toNat = m - 1 := by omega
            have hd3 : decide (y ≤ y2) = false := by rw [decide_eq_false_iff_not]; omega
            clear e3 hy2 hc0
            go_wp2_with fail
            go_quiet (fail)
            go_wp2_with fail
            go_roundw
            case rel => exact ⟨m + 1, by omega, by go_num, by first | exact hB | exact below_drewN hB _ | exact hB.drew⟩
            case measure => simp [intOf]; omega
        · obtain rfl : m = E.length := by omega
          have HRW4 := Lib.hid (HRW3.out.up hB hz)
          have HE4 := Lib.hid (HE3.out.up hB hz)
          have HR4 := Lib.hid (HR3.out.up hB hz)
          have HB4 := Lib.hid (HB3.out.trans (hB.mono HB3.out.size))
          clear hB hz
          go_wp2_with fail
          refine (HPT.out A _ _ wr HRW4.out (show RdE _ _ _ _ from HE4.out)).mono ?_
          rintro e w5 ⟨g5, c5, rfl, hown5, hB5⟩
          have HB5 := Lib.hid (HB4.out.trans (hB5.mono HB4.out.size))
          have HR5 := Lib.hid (HR4.out.up hB5 hB5.size)
          have HX5 := Lib.hid (Rd.of_own hown5)
          clear hown5 hB5
          go_wp2_with fail
          refine (HR2.out _ _ _ HX5.out).mono ?_
          rintro e w6 ⟨⟨A6, c6, rfl, hr6, -⟩, hB6⟩
          have HB6 := Lib.hid (HB5.out.trans (hB6.mono HB5.out.size))
          have HR6 := Lib.hid (HR5.out.up hB6 hB6.size)
          have HX6 := Lib.hid (HX5.out.up hB6 hB6.size)
          have HS6 := Lib.hid hr6
          clear hr6 hB6
          go_wp2_with fail
          refine (HMK.out _ _ _ HX6.out).mono ?_
          rintro e w7 ⟨⟨A7, c7, rfl, hr7, -⟩, hB7⟩
          have HB7 := Lib.hid (HB6.out.trans (hB7.mono HB6.out.size))
          have HR7 := Lib.hid (HR6.out.up hB7 hB7.size)
          have HX7 := Lib.hid (HX6.out.up hB7 hB7.size)
          have HS7 := Lib.hid (HS6.out.up hB7 hB7.size)
          have HM7 := Lib.hid hr7
          clear hr7 hB7
          go_wp2_with fail
          refine (HW2.out _ _ _ HX7.out).mono ?_
          rintro e w8 ⟨⟨A8, c8, rfl, -, -⟩, hB8⟩
          have HB8 := Lib.hid (HB7.out.trans (hB8.mono HB7.out.size))
          have HR8 := Lib.hid (HR7.out.up hB8 hB8.size)
          have HS8 := Lib.hid (HS7.out.up hB8 hB8.size)
          have HM8 := Lib.hid (HM7.out.up hB8 hB8.size)
          clear hB8
          go_wp2_with fail
          refine (HSI.out _ _ _ _ _ (show RdI _ _ _ _ from HR8.out) (show RdI _ _ _ _ from HS8.out)).mono ?_
          rintro e w9 ⟨rfl, hB9⟩
          have HB9 := Lib.hid (HB8.out.trans (hB9.mono HB8.out.size))
          have HR9 := Lib.hid (HR8.out.up hB9 hB9.size)
          have HM9 := Lib.hid (HM8.out.up hB9 hB9.size)
          clear hB9
          go_wp2_with fail
          refine (HSI.out _ _ _ _ _ (show RdI _ _ _ _ from HR9.out) (show RdI _ _ _ _ from HM9.out)).mono ?_
          rintro e w10 ⟨rfl, hB10⟩
          have HB10 := Lib.hid (HB9.out.trans (hB10.mono HB9.out.size))
          go_wp2_with fail
          go_ret
          exact ⟨rfl, HB10.out⟩
    · have hn1 : (rcErr ws != 0) = true := by rw [bne_iff_ne]; exact h0
      have hwn1 : wtOut ws = [] := by unfold wtOut; rw [if_neg h0]
      obtain ⟨r, hr⟩ : ∃ r, rcErr ws = r := ⟨_, rfl⟩
      obtain ⟨q, hq⟩ : ∃ q, rcOut ws = q := ⟨_, rfl⟩
      rw [hwn1, hr] at HWN
      rw [hr, hq] at HRC
      rw [hr] at hn1
      have hn2 : ((r : Int) != r) = false := by rw [bne_eq_false_iff_eq]
      clear hg hgn h0 hr hwn1 hq
      go_enter Try.func4, Try.ntmps4
      go_wp2_with fail
      refine (alive25_c w).mono ?_
      rintro e w1 ⟨rfl, hB1⟩
      go_wp2_with fail
      refine (great25_c A ws.length c _ hn).mono ?_
      rintro e w1' ⟨rfl, rfl⟩
      rw [HG.out]
      go_wp2_with fail
      refine (HWN.out _ (HR.out.up hB1 hB1.size)).mono ?_
      rintro e w2 ⟨⟨A2, c2, rfl, -, -⟩, hB2⟩
      have HB2 := Lib.hid (hB1.trans (hB2.mono hB1.size))
      clear hB1 hB2
      go_wp2_with fail
      refine (HRC.out _ (HR.out.up HB2.out HB2.out.size)).mono ?_
      rintro e w3 ⟨⟨A3, c3, rfl, -, -⟩, hB3⟩
      have HB3 := Lib.hid (HB2.out.trans (hB3.mono HB2.out.size))
      clear hB3
      go_wp2_with fail
      go_ret
      exact ⟨rfl, HB3.out⟩
  · have HG := Lib.hid hg
    clear hg
    go_enter Try.func4, Try.ntmps4
    go_wp2_with fail
    refine (alive25_c w).mono ?_
    rintro e w1 ⟨rfl, hB1⟩
    go_wp2_with fail
    refine (great25_c A ws.length c _ hn).mono ?_
    rintro e w1' ⟨rfl, rfl⟩
    rw [HG.out]
    go_wp2_with fail
    go_ret
    exact ⟨rfl, hB1⟩
end Go.Proofs.Ytpifagclhhaniaa
