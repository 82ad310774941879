/- The references that are fixed once: the law's walk. -/
import Derived.Test.YtpifagclhhaniaaFxOP
import Derived.Test.YtpifagclhhaniaaAl28
import Derived.Test.YtpifagclhhaniaaKMove
import Derived.Test.YtpifagclhhaniaaRch
namespace Go.Proofs.Ytpifagclhhaniaa
open Go.RowKit

theorem ob_no {ws : List Nat} {a : Int} (h : obErr ws a ≠ 0) : obOut ws a = [] := by
  by_cases h0 : fxErr ws = 0
  · cases hb : objF (frOut ws 128) a with
    | none => exact (ob_none h0 hb).2
    | some b =>
      cases hmk : b.mark with
      | false => exact (ob_unmk h0 hb hmk).2
      | true =>
        cases ho : obFix ws (fxMv ws) (rfsB ws b) with
        | none => exact (ob_bad h0 hb hmk ho).2
        | some o => exact absurd (ob_ok h0 hb hmk ho).1 h
  · exact (ob_err rfl h0).2
theorem en_lt {l : List En} (h : l.Pairwise (fun a b => a.a < b.a)) {j k : Nat} (hk : k < l.length) (hj : j < k) : l[j].a < l[k].a := List.pairwise_iff_getElem.1 h j k (by omega) hk hj

set_option maxRecDepth 100000 in
set_option maxHeartbeats 16000000 in
theorem fixupOnce_walk (w : World) (A : Option Addr) (ws : List Nat) (c : Nat) (hn : ws.length ≤ maxLen) (_hc : ws.length ≤ c) (hr : RdW w w.heap.size A ws) (ho : ∀ x ∈ ws, x < 18446744073709551616) (a : Int) (_ha : -9223372036854775808 ≤ a ∧ a ≤ 9223372036854775807) :
    Calls Try.prog 8 #[.slice A ws.length c, .int .i64 a] w fun e w' => e = .returned (.bool true) ∧ Below w.heap.size w w' := by
  unfold maxLen at hn
  have HR := Lib.hid hr
  have HO := Lib.hid ho
  clear hr ho
  cases hg : greatW ws.length
  · have HG := Lib.hid hg
    have hgn := greatW_no hg
    have HOB := Lib.hid (fun W (h : RdW W W.heap.size A ws) => fxObject_c A ws c ws.length a W rfl hn h HO.out)
    unfold ObRes at HOB
    by_cases h0 : obErr ws a = 0
    · obtain ⟨f, hb1, g3, g4, g5, g6, g7, g8, g9, g10⟩ := ob_plain h0
      rw [h0] at HOB
      have hxl : (putE ws (obOut ws a)).length = ws.length := putE_len _ _
      have hmvl := rdMv_len ws 128 128
      have HRD := Lib.hid (fun W (h : RdW W W.heap.size A ws) => fwRead_c A ws c ws.length 128 128 W rfl hn (by omega) (by omega) h HO.out)
      unfold RdRes at HRD
      rw [g3] at HRD
      have HRF := Lib.hid (fun W (h : RdW W W.heap.size A ws) => fxRefsAt_c A ws c ws.length a W rfl hn h HO.out)
      unfold RsRes at HRF
      rw [g4] at HRF
      have HPT := Lib.hid (fun B d W (h : RdW W W.heap.size A ws) (h2 : RdE W W.heap.size B (obOut ws a)) => put25_c A B ws (obOut ws a) c d ws.length (obOut ws a).length W.heap.size W rfl rfl (by omega) (by omega) (by omega) h h2 (Nat.le_refl _))
      unfold OwnW at HPT
      rw [hxl] at HPT
      have HTO := Lib.hid (fun A2 c2 a W (h : RdM W W.heap.size A2 (rdMv ws 128 128)) => fwTo_c A2 (rdMv ws 128 128) c2 (rdMv ws 128 128).length W.heap.size a W rfl (by omega) h (Nat.le_refl _))
      have HF := Lib.hid g7
      unfold okFx at HF
      have HU := Lib.hid g8
      have HE1 := Lib.hid (fun k (hk : k < (obOut ws a).length) => g9 _ (List.getElem_mem hk))
      have HE2 := Lib.hid (fun j k (hk : k < (obOut ws a).length) (hj : j < k) => en_lt g10 hk hj)
      generalize rdMv ws 128 128 = mv at HRD HTO HF hmvl
      have HXL := Lib.hid hxl
      generalize putE ws (obOut ws a) = x at HPT HF HU HXL
      generalize obOut ws a = E at HOB HPT HE1 HE2 g6
      generalize rsOut ws a = R at HRF HF HU g5
      obtain ⟨hlen1, hlen2⟩ := hb1
      have hR8 : decide ((8 : Int) < (R.length : Int)) = false := by rw [decide_eq_false_iff_not]; omega
      have hE8 : decide ((8 : Int) < (E.length : Int)) = false := by rw [decide_eq_false_iff_not]; omega
      have hR8n : decide (8 < R.length) = false := by rw [decide_eq_false_iff_not]; omega
      have hE8n : decide (8 < E.length) = false := by rw [decide_eq_false_iff_not]; omega
      have hwl : IntKind.u64.wrap (ws.length : Int) = (ws.length : Int) := IntWalk.u64_in _ (by omega)
      obtain ⟨i1, hj, hy0, hy1, hy2⟩ := info_parts infoBool'
      have HIB := Lib.hid (And.intro hj (And.intro hy0 (And.intro hy1 hy2)))
      clear hg hgn h0 g3 g4 g7 g8 g9 g10 hxl hj hy0 hy1 hy2
      go_enter Try.func8, Try.ntmps8
      go_wp2_with fail
      refine (alive28_c w).mono ?_
      rintro e w1 ⟨rfl, hB1⟩
      go_wp2_with fail
      refine (great25_c A ws.length c _ hn).mono ?_
      rintro e w1' ⟨rfl, rfl⟩
      rw [HG.out]
      go_wp2_with fail
      refine (HOB.out _ (HR.out.up hB1 hB1.size)).mono ?_
      rintro e w2 ⟨⟨A2, c2, rfl, hr2, -⟩, hB2⟩
      have HB2 := Lib.hid (hB1.trans (hB2.mono hB1.size))
      have HE2' := Lib.hid hr2
      have HW2 := Lib.hid (HR.out.up HB2.out HB2.out.size)
      clear hr2 hB2 hB1
      go_wp2_with fail
      refine (HRD.out w2 HW2.out).mono ?_
      rintro e w3 ⟨⟨A3, c3, rfl, hr3, -⟩, hB3⟩
      have HB3 := Lib.hid (HB2.out.trans (hB3.mono HB2.out.size))
      have HM3 := Lib.hid hr3
      have HW3 := Lib.hid (HW2.out.up hB3 hB3.size)
      have HE3 := Lib.hid (HE2'.out.up hB3 hB3.size)
      clear hr3 hB3
      go_wp2_with fail
      refine (HRF.out w3 HW3.out).mono ?_
      rintro e w4 ⟨⟨A4, c4, rfl, hr4, -⟩, hB4⟩
      have HB4 := Lib.hid (HB3.out.trans (hB4.mono HB3.out.size))
      have HM4 := Lib.hid (HM3.out.up hB4 hB4.size)
      have HW4 := Lib.hid (HW3.out.up hB4 hB4.size)
      have HE4 := Lib.hid (HE3.out.up hB4 hB4.size)
      have HR4 := Lib.hid hr4
      clear hr4 hB4
      go_wp2_with fail
      refine (HPT.out A2 _ w4 HW4.out (show RdE _ _ _ _ from HE4.out)).mono ?_
      rintro e w6 ⟨g6, c6, rfl, hown6, hB6⟩
      have HB6 := Lib.hid (HB4.out.trans (hB6.mono HB4.out.size))
      have HM6 := Lib.hid (HM4.out.up hB6 hB6.size)
      have HW6 := Lib.hid (HW4.out.up hB6 hB6.size)
      have HE6 := Lib.hid (HE4.out.up hB6 hB6.size)
      have HR6 := Lib.hid (HR4.out.up hB6 hB6.size)
      have HX6 := Lib.hid (Rd.of_own hown6)
      clear hown6 hB6
      obtain ⟨W3, hmk, hown0, hg0⟩ := run_make_full (P := Try.prog) w6 w6.heap.size 33 4 i1 (.bool false) 1 Try.underlying33 HIB.out.1 HIB.out.2.1 HIB.out.2.2.1 .i64 .i64 ws.length (by rw [HIB.out.2.2.2]; omega) (by unfold maxLen; omega) (Nat.le_refl _)
      have hSE : W3.ownsRow w6.heap.size 4 1 (.slice (some ⟨w6.heap.size, 0, none⟩) ws.length ws.length) ws.length ((List.replicate ws.length false).flatMap boolCells) := by
        rw [bools_zero, ← toList_madeCells_one]; have := hown0; rw [Nat.mul_one] at this; exact this
      have HSE := Lib.hid hSE
      have HB7 := Lib.hid ((Below.refl w6.heap.size w6).grown hg0 (Nat.le_refl _) (fun k hk => by cases hk))
      clear hown0 hg0 hSE
      go_wp2_with fail
      go_loopw [14] (fun i wr => ∃ (k : Nat) (fl : List Bool), k ≤ R.length ∧ i = .int .i64 k ∧ fl.length = ws.length ∧ Hid (∀ i, i < k → fl[f i]?.getD false = true) ∧ wr.ownsRow w6.heap.size 4 1 (.slice (some ⟨w6.heap.size, 0, none⟩) ws.length ws.length) ws.length (fl.flatMap boolCells) ∧ Below w6.heap.size w6 wr) (fun i _ => R.length - (intOf i).toNat)
      case atStart => exact ⟨0, List.replicate ws.length false, Nat.zero_le _, rfl, by simp, Lib.hid (fun i h => absurd h (by omega)), HSE.out, HB7.out⟩
      case round =>
        obtain ⟨k, fl, hk, rfl, hfl, HFL, hown, hB⟩ := hrel
        have hz := hB.size
        by_cases hlt : k < R.length
        · obtain ⟨e1, e2, e3, e4⟩ := HF.out k hlt
          obtain ⟨bR, oR, rfl, hbR, r0⟩ := RdI.at_ (Rd.below HR6.out hB) hlt
          rw [e1] at r0
          obtain ⟨j, hj⟩ : ∃ j, f k = j := ⟨_, rfl⟩
          rw [hj] at r0 e2 e3 e4
          obtain ⟨bW, oW, rfl, hbW, x0⟩ := RdW.at_ (Rd.below HW6.out hB) e3
          rw [← wd_get] at x0
          obtain ⟨bX, oX, eX, hbX, y0⟩ := RdW.at_ (Rd.below HX6.out hB) (show j < x.length by rw [HXL.out]; exact e3)
          rw [← wd_get] at y0
          cases eX
          rw [Nat.zero_add] at y0
          have c0 := (hown.cellAt j (by omega)).trans (bools_get fl j (by omega))
          have f0 := hown.frozenAt j
          have HHN := Lib.hid (show (wr.setCell ⟨w6.heap.size, j, none⟩ (.bool true)).ownsRow w6.heap.size 4 1 (.slice (some ⟨w6.heap.size, 0, none⟩) ws.length ws.length) ws.length ((fl.set j true).flatMap boolCells) by
            rw [bools_set]; exact (hown.stored j (.bool true)).1)
          have HBN := Lib.hid (hB.setCell (p := ⟨w6.heap.size, j, none⟩) (Nat.le_refl _) (.bool true))
          have HFN : Hid (∀ i, i < k + 1 → (fl.set j true)[f i]?.getD false = true) := Lib.hid fun i hi => by
            rw [List.getElem?_set]
            split
            · rw [if_pos (by omega)]; rfl
            · rename_i hne
              rcases Nat.lt_or_ge i k with h5 | h5
              · exact HFL.out i h5
              · have : i = k := by omega
                subst this
                exact absurd hj.symm hne
          have hflN : (fl.set j true).length = ws.length := by rw [List.length_set, hfl]
          obtain ⟨v, hv⟩ : ∃ v, wd ws j = v := ⟨_, rfl⟩
          obtain ⟨u, hu⟩ : ∃ u, wd x j = u := ⟨_, rfl⟩
          rw [hv] at x0 e4
          rw [hu] at y0 e4
          have hki : (k : Int) < (R.length : Int) := by omega
          have hk0 : (0 : Int) ≤ (k : Int) := by omega
          have hji : (j : Int) < (ws.length : Int) := by omega
          have hj0 : (0 : Int) ≤ (j : Int) := by omega
          have hjx : (j : Int) < (x.length : Int) := by rw [HXL.out]; exact hji
          have hd1 : decide ((j : Int) < a) = false := by rw [decide_eq_false_iff_not]; omega
          have hd2 : decide ((ws.length : Int) ≤ (j : Int)) = false := by rw [decide_eq_false_iff_not]; omega
          have hd2n : decide (ws.length ≤ j) = false := by rw [decide_eq_false_iff_not]; omega
          have hvl : v < ws.length := by rcases e4 with h5 | ⟨h5, t, m, -, -, -, h6, h7⟩ <;> omega
          have hwv : IntKind.i64.wrap (v : Int) = (v : Int) := IntWalk.i64_in _ (by omega)
          have hd3 : decide ((ws.length : Int) ≤ (v : Int)) = false := by rw [decide_eq_false_iff_not]; omega
          have hd3n : decide (ws.length ≤ v) = false := by rw [decide_eq_false_iff_not]; omega
          have n1 : bR ≠ w6.heap.size := by omega
          have n2 : w6.heap.size ≠ bR := by omega
          have n3 : bW ≠ w6.heap.size := by omega
          have n4 : w6.heap.size ≠ bW := by omega
          have hgb : w6.heap.size < wr.heap.size := (hown.lt w6.heap.size rfl).2
          have hsz : (wr.setCell ⟨w6.heap.size, j, none⟩ (.bool true)).heap.size = wr.heap.size := World.size_setCell ..
          have HXC := Lib.hid (show (wr.setCell ⟨w6.heap.size, j, none⟩ (.bool true)).cell? ⟨g6, j, none⟩ = some (.int .u64 (u : Int)) from (World.cell?_setCell_far wr _ _ _ (by show w6.heap.size ≠ g6; omega)).trans y0)
          have HRC := Lib.hid (show (wr.setCell ⟨w6.heap.size, j, none⟩ (.bool true)).cell? ⟨bR, oR + k, none⟩ = some (.int .i64 (j : Int)) from (World.cell?_setCell_far wr _ _ _ (by show w6.heap.size ≠ bR; omega)).trans r0)
          have HMN := Lib.hid (HM6.out.up HBN.out HBN.out.size)
          clear hv hu hown hB e1 y0
          have HT := Lib.hid (HTO.out A3 c3 (v : Int) (wr.setCell ⟨w6.heap.size, j, none⟩ (.bool true)) HMN.out)
          rcases e4 with ⟨h5, h6⟩ | ⟨h5, t, m, h6, h7, h8, h9, h10⟩
          · obtain ⟨q1, hq1⟩ : ∃ q, (mvTo mv (v : Int)).getD 0 = q := ⟨_, rfl⟩
            obtain ⟨q2, hq2⟩ : ∃ q, (mvTo mv (v : Int)).isSome = q := ⟨_, rfl⟩
            rw [hq1, hq2] at HT
            have z1 : ((v : Int) == 0) = true := by rw [beq_iff_eq]; omega
            have z1n : (v == 0) = true := by rw [beq_iff_eq]; omega
            have z2 : ((u : Int) != 0) = false := by rw [bne_eq_false_iff_eq]; omega
            have z2n : (u != 0) = false := by rw [bne_eq_false_iff_eq]; omega
            have z3 : decide ((0 : Int) < (v : Int)) = false := by rw [decide_eq_false_iff_not]; omega
            have z3n : decide (0 < v) = false := by rw [decide_eq_false_iff_not]; omega
            clear hq1 hq2 h5 h6
            go_wp2_with fail
            refine HT.out.mono ?_
            rintro e w9 ⟨rfl, hB9⟩
            have HB9 := Lib.hid (HBN.out.trans (hB9.mono HBN.out.size))
            have HO9 := Lib.hid (own_below HHN.out hB9 (Nat.le_refl _))
            have y9 := (hB9.cell (p := ⟨g6, j, none⟩) (by rw [hsz]; show g6 < _; omega)).trans HXC.out
            have r9 := (hB9.cell (p := ⟨bR, oR + k, none⟩) (by rw [hsz]; show bR < _; omega)).trans HRC.out
            clear hB9
            go_wp2_with fail
            go_roundw
            case rel => exact ⟨k + 1, fl.set j true, by omega, by go_num, hflN, HFN, HO9.out, HB9.out⟩
            case measure => simp [intOf]; omega
          · rw [h6] at HT
            dsimp only [Option.getD_some, Option.isSome_some] at HT
            obtain rfl : u = t := h7
            have z1 : ((v : Int) == 0) = false := by rw [beq_eq_false_iff_ne]; omega
            have z1n : (v == 0) = false := by rw [beq_eq_false_iff_ne]; omega
            have z2 : ((u : Int) != (u : Int)) = false := by simp
            have z3 : decide ((0 : Int) < (v : Int)) = true := by rw [decide_eq_true_iff]; omega
            have z3n : decide (0 < v) = true := by rw [decide_eq_true_iff]; omega
            have hwu : IntKind.u64.wrap (u : Int) = (u : Int) := IntWalk.u64_in _ (by omega)
            clear h6 h5 h8 h9 h10
            go_wp2_with fail
            refine HT.out.mono ?_
            rintro e w9 ⟨rfl, hB9⟩
            have HB9 := Lib.hid (HBN.out.trans (hB9.mono HBN.out.size))
            have HO9 := Lib.hid (own_below HHN.out hB9 (Nat.le_refl _))
            have y9 := (hB9.cell (p := ⟨g6, j, none⟩) (by rw [hsz]; show g6 < _; omega)).trans HXC.out
            have r9 := (hB9.cell (p := ⟨bR, oR + k, none⟩) (by rw [hsz]; show bR < _; omega)).trans HRC.out
            clear hB9
            go_wp2_with fail
            go_roundw
            case rel => exact ⟨k + 1, fl.set j true, by omega, by go_num, hflN, HFN, HO9.out, HB9.out⟩
            case measure => simp [intOf]; omega
        · obtain rfl : k = R.length := by omega
          have HOL := Lib.hid hown
          have HBL := Lib.hid hB
          have hfl2 := hfl
          have HFF : Hid (∀ j, fl[j]?.getD false = false → wd x j = wd ws j) := Lib.hid fun j hj => HU.out j fun i hi e => by
            have := HFL.out i hi
            rw [e, hj] at this; cases this
          have hgb : w6.heap.size < wr.heap.size := (hown.lt w6.heap.size rfl).2
          have HXr := Lib.hid (HX6.out.up hB hz)
          have HWr := Lib.hid (HW6.out.up hB hz)
          have HEr := Lib.hid (HE6.out.up hB hz)
          have HBr := Lib.hid (HB6.out.trans (hB.mono HB6.out.size))
          obtain ⟨wL, hwL⟩ : ∃ wL, wr = wL := ⟨_, rfl⟩
          rw [hwL] at HOL HXr HWr HEr HBr hgb ⊢
          clear hwL hown hB hz HBL
          go_wp2_with fail
          go_loopw [18] (fun i wr => ∃ k : Nat, k ≤ ws.length ∧ i = .int .i64 k ∧ Below wL.heap.size wL wr) (fun i _ => ws.length - (intOf i).toNat)
          case atStart => exact ⟨0, Nat.zero_le _, rfl, Below.refl _ _⟩
          case round =>
            obtain ⟨k, hk, rfl, hB⟩ := hrel
            have hz := hB.size
            by_cases hlt : k < ws.length
            · have c0 := ((own_below HOL.out hB (Nat.le_refl _)).cellAt k (by omega)).trans (bools_get fl k (by omega))
              obtain ⟨bW, oW, rfl, hbW, x0⟩ := RdW.at_ (Rd.below HWr.out hB) hlt
              rw [← wd_get] at x0
              obtain ⟨bX, oX, eX, hbX, y0⟩ := RdW.at_ (Rd.below HXr.out hB) (show k < x.length by rw [HXL.out]; exact hlt)
              rw [← wd_get] at y0
              cases eX
              rw [Nat.zero_add] at y0
              have hkx : (k : Int) < (x.length : Int) := by rw [HXL.out]; omega
              have hki : (k : Int) < (ws.length : Int) := by omega
              have hk0 : (0 : Int) ≤ (k : Int) := by omega
              have HFk := HFF.out k
              obtain ⟨v, hv⟩ : ∃ v, wd ws k = v := ⟨_, rfl⟩
              obtain ⟨u, hu⟩ : ∃ u, wd x k = u := ⟨_, rfl⟩
              obtain ⟨b, hb⟩ : ∃ b, fl[k]?.getD false = b := ⟨_, rfl⟩
              rw [hv] at x0 HFk
              rw [hu] at y0 HFk
              rw [hb] at c0 HFk
              clear hv hu hb
              cases b
              · obtain rfl : u = v := HFk rfl
                have z2 : ((u : Int) != (u : Int)) = false := by simp
                clear HFk
                go_wp2_with fail
                go_quiet (fail)
                go_wp2_with fail
                go_roundw
                case rel => exact ⟨k + 1, by omega, by go_num, by first | exact hB | exact below_drewN hB _ | exact hB.drew⟩
                case measure => simp [intOf]; omega
              · clear HFk
                go_wp2_with fail
                go_quiet (fail)
                go_wp2_with fail
                go_roundw
                case rel => exact ⟨k + 1, by omega, by go_num, by first | exact hB | exact below_drewN hB _ | exact hB.drew⟩
                case measure => simp [intOf]; omega
            · obtain rfl : k = ws.length := by omega
              have HE9 := Lib.hid (HEr.out.up hB hz)
              have HW9 := Lib.hid (HWr.out.up hB hz)
              have HB9 := Lib.hid (HBr.out.trans (hB.mono HBr.out.size))
              obtain ⟨wM, hwM⟩ : ∃ wM, wr = wM := ⟨_, rfl⟩
              rw [hwM] at HE9 HW9 HB9 ⊢
              clear hB hz hwM
              go_wp2_with fail
              go_loopw [19] (fun i wr => ∃ m : Nat, m ≤ E.length ∧ i = .int .i64 m ∧ Below wM.heap.size wM wr) (fun i _ => E.length - (intOf i).toNat)
              case atStart => exact ⟨0, by omega, rfl, Below.refl _ _⟩
              case round =>
                obtain ⟨m, hm, rfl, hB⟩ := hrel
                have hz := hB.size
                by_cases hlt : m < E.length
                · obtain ⟨r, e1, e2, e3, e4⟩ := HE1.out m hlt
                  obtain ⟨b2, off2, rfl, hbw2, r0, r1⟩ := RdE.at_ (Rd.below HE9.out hB) hlt
                  obtain ⟨bW, oW, rfl, hbW, x0⟩ := RdW.at_ (Rd.below HW9.out hB) e2
                  rw [← wd_get] at x0
                  have e5 := fun (h : m - 1 < m) => HE2.out (m - 1) m hlt h
                  rw [e1] at r0 e5
                  obtain ⟨y, hy⟩ : ∃ y, E[m].v = y := ⟨_, rfl⟩
                  rw [hy] at r1 e3
                  obtain ⟨v, hv⟩ : ∃ v, wd ws r = v := ⟨_, rfl⟩
                  rw [hv] at x0 e3
                  have hmi : (m : Int) < (E.length : Int) := by omega
                  have hm0 : (0 : Int) ≤ (m : Int) := by omega
                  have hri : (r : Int) < (ws.length : Int) := by omega
                  have hr0 : (0 : Int) ≤ (r : Int) := by omega
                  have hd1 : decide ((r : Int) < 0) = false := by rw [decide_eq_false_iff_not]; omega
                  have hd2 : decide ((ws.length : Int) ≤ (r : Int)) = false := by rw [decide_eq_false_iff_not]; omega
                  have hd2n : decide (ws.length ≤ r) = false := by rw [decide_eq_false_iff_not]; omega
                  have hd4 : ((v : Int) == (y : Int)) = false := by rw [beq_eq_false_iff_ne]; omega
                  have hd4n : (v == y) = false := by rw [beq_eq_false_iff_ne]; omega
                  clear hy hv e1 e3 e4
                  by_cases hc0 : m = 0
                  · have hd0 : decide ((0 : Int) < (m : Int)) = false := by rw [decide_eq_false_iff_not]; omega
                    have hd0n : decide (0 < m) = false := by rw [decide_eq_false_iff_not]; omega
                    clear e5 hc0
                    go_wp2_with fail
                    go_quiet (fail)
                    go_wp2_with fail
                    go_roundw
                    case rel => exact ⟨m + 1, by omega, by go_num, by first | exact hB | exact below_drewN hB _ | exact hB.drew⟩
                    case measure => simp [intOf]; omega
                  · have hlm1 : m - 1 < E.length := by omega
                    have e6 := e5 (by omega)
                    obtain ⟨r2, e7, -, -, -⟩ := HE1.out (m - 1) hlm1
                    obtain ⟨b4, off4, hA4, hbw4, r4, -⟩ := RdE.at_ (Rd.below HE9.out hB) hlm1
                    cases hA4
                    rw [e7] at r4 e6
                    have hm0' : (0 : Int) < (m : Int) := by omega
                    have hd0 : decide ((0 : Int) < (m : Int)) = true := by rw [decide_eq_true_iff]; omega
                    have hd0n : decide (0 < m) = true := by rw [decide_eq_true_iff]; omega
                    have hmi1 : (m : Int) - 1 < (E.length : Int) := by omega
                    have hmi2 : (0 : Int) ≤ (m : Int) - 1 := by omega
                    have hmw : IntKind.i64.wrap ((m : Int) - 1) = (m : Int) - 1 := IntWalk.i64_in _ (by omega)
                    have hmt : ((m : Int) - 1).toNat = m - 1 := by omega
                    have hd3 : decide ((r : Int) ≤ (r2 : Int)) = false := by rw [decide_eq_false_iff_not]; omega
                    have hd3n : decide (r ≤ r2) = false := by rw [decide_eq_false_iff_not]; omega
                    clear e5 e6 e7 hc0
                    go_wp2_with fail
                    go_quiet (fail)
                    go_wp2_with fail
                    go_roundw
                    case rel => exact ⟨m + 1, by omega, by go_num, by first | exact hB | exact below_drewN hB _ | exact hB.drew⟩
                    case measure => simp [intOf]; omega
                · obtain rfl : m = E.length := by omega
                  go_wp2_with fail
                  go_ret
                  exact ⟨rfl, HB9.out.trans (hB.mono HB9.out.size)⟩
    · obtain ⟨r, hr⟩ : ∃ r, obErr ws a = r := ⟨_, rfl⟩
      have hq : obOut ws a = [] := ob_no h0
      rw [hr, hq] at HOB
      rw [hr] at h0
      have hrn : (r != 0) = true := by rw [bne_iff_ne]; exact h0
      clear hr hq hg hgn
      go_enter Try.func8, Try.ntmps8
      go_wp2_with fail
      refine (alive28_c w).mono ?_
      rintro e w1 ⟨rfl, hB1⟩
      go_wp2_with fail
      refine (great25_c A ws.length c _ hn).mono ?_
      rintro e w1' ⟨rfl, rfl⟩
      rw [HG.out]
      go_wp2_with fail
      refine (HOB.out _ (HR.out.up hB1 hB1.size)).mono ?_
      rintro e w2 ⟨⟨A2, c2, rfl, -, -⟩, hB2⟩
      have hb2 := hB1.trans (hB2.mono hB1.size)
      go_wp2_with fail
      go_ret
      exact ⟨rfl, hb2⟩
  · have HG := Lib.hid hg
    clear hg
    go_enter Try.func8, Try.ntmps8
    go_wp2_with fail
    refine (alive28_c w).mono ?_
    rintro e w1 ⟨rfl, hB1⟩
    go_wp2_with fail
    refine (great25_c A ws.length c _ hn).mono ?_
    rintro e w1' ⟨rfl, rfl⟩
    rw [HG.out]
    go_wp2_with fail
    go_ret
    exact ⟨rfl, hB1⟩
end Go.Proofs.Ytpifagclhhaniaa
