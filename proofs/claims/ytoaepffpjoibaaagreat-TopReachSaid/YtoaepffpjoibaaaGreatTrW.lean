/- TopReach: the walk. -/
import Derived.Test.YtoaepffpjoibaaaGreatTrA
import Derived.Test.YtoaepffpjoibaaaGreatR19C
import Derived.Test.YtoaepffpjoibaaaGreatKRch
import Derived.Test.YtoaepffpjoibaaaGreatKHeap
import Derived.Test.YtoaepffpjoibaaaGreatKMove
import Derived.Test.YtoaepffpjoibaaaGreatKHead
import Derived.Test.YtoaepffpjoibaaaGreatKPlace
import Derived.Test.YtoaepffpjoibaaaGreatBrkM
namespace Go.Proofs.YtoaepffpjoibaaaGreat
open Go.RowKit

theorem tr_place {w x : List Nat} (T : Tr w x) {k : Nat} (h : k < (hpOut x).length) : ∃ (v : Int), (placesOf (hpOut x) 128)[k]? = some v ∧ mvTo (moves (hpOut x) 128) (hpOut x)[k].at_ = if (hpOut x)[k].mark = true then some v else none := by
  have hbl := (hp_fr T.hp).2.2.2
  have hpl : k < (placesOf (hpOut x) 128).length := by rw [placesOf_len]; exact h
  refine ⟨(placesOf (hpOut x) 128)[k], List.getElem?_eq_getElem hpl, ?_⟩
  rw [mvTo_place (hp_row T.hp).2 k h, List.getElem?_eq_getElem hpl]
  have hm := blocks_mk hbl (by omega) _ (List.getElem_mem h)
  cases hq : (hpOut x)[k].mark with
  | false => simp [liveB, hq]
  | true => simp [liveB, hq, hm hq]
set_option maxRecDepth 100000 in
set_option maxHeartbeats 16000000 in
theorem topReach_walk (A : Option Addr) (ws : List Nat) (c n : Nat) (w : World) (hn : ws.length = n) (hm : n ≤ 9223372036854775807) (hc : n ≤ c) (hr : RdW w w.heap.size A ws) (ho : ∀ x ∈ ws, x < 18446744073709551616) :
    Calls Tryz.prog 3 #[.slice A n c] w fun e w' => e = .returned (.bool true) ∧ Below w.heap.size w w' := by
  subst hn
  have HAL := Lib.hid (alive30t_c w)
  have HGR := Lib.hid (fun W => great25_c A ws.length c W hm)
  have HR := Lib.hid hr
  cases hg : greatW ws.length
  case true =>
    rw [hg] at HGR
    clear hr ho hm hc hg
    go_enter Tryz.func3, Tryz.ntmps3
    go_wp2_with fail
    refine HAL.out.mono ?_
    rintro e w1 ⟨rfl, hB1⟩
    go_wp2_with fail
    refine (HGR.out _).mono ?_
    rintro e w2 ⟨rfl, rfl⟩
    go_wp2_with fail
    go_ret
    exact ⟨rfl, hB1⟩
  case false =>
    rw [hg] at HGR
    have HCH := Lib.hid (fun W (h : RdW W W.heap.size A ws) => r19Check_c A ws c ws.length W rfl hm hc h ho)
    by_cases h0 : layErr ws ≠ 0
    · have h0b : ((layErr ws) != (0 : Int)) = true := by rw [bne_iff_ne]; exact h0
      obtain ⟨r, hr2⟩ : ∃ r, layErr ws = r := ⟨_, rfl⟩
      rw [hr2] at HCH h0b
      clear hr ho hm hc hg h0 hr2
      go_enter Tryz.func3, Tryz.ntmps3
      go_wp2_with fail
      refine HAL.out.mono ?_
      rintro e w1 ⟨rfl, hB1⟩
      have HB1 := Lib.hid hB1
      clear hB1
      go_wp2_with fail
      refine (HGR.out _).mono ?_
      rintro e w2 ⟨rfl, rfl⟩
      go_wp2_with fail
      refine (HCH.out _ (HR.out.up HB1.out HB1.out.size)).mono ?_
      rintro e w3 ⟨rfl, hB3⟩
      have HB3 := Lib.hid (HB1.out.trans (hB3.mono HB1.out.size))
      clear hB3
      go_wp2_with fail
      go_ret
      exact ⟨rfl, HB3.out⟩
    · have h0 : layErr ws = 0 := Decidable.not_not.1 h0
      have hlay : lay ws = true := by
        unfold layErr at h0
        split at h0
        · split at h0
          · assumption
          · cases h0
        · cases h0
      obtain ⟨t, L⟩ := lay_of hlay
      have hrc := L.rc
      obtain ⟨hp1, T⟩ := tr_of hrc ho
      have hlt1 : ∀ v ∈ putE ws (wtOut ws), v < 18446744073709551616 := putE_lt _ _ ho (wtOut_v hrc)
      have hl1 : (putE ws (wtOut ws)).length = ws.length := putE_len _ _
      have hwl : (wtOut ws).length ≤ 1000000 := by
        rw [wtOut_eq hrc, List.length_map]
        have h1 := wntL_len (seenL ws) (hpOut ws)
        have h2 := hpOut_len ws
        omega
      have hnl : (wnOut (putE ws (wtOut ws))).length ≤ 1000000 := by have := (wnOut_bd hp1).1; omega
      obtain ⟨x1, hx1⟩ : ∃ x1, putE ws (wtOut ws) = x1 := ⟨_, rfl⟩
      rw [hx1] at hp1 T hlt1 hl1 hnl
      obtain ⟨x, hx⟩ : ∃ x, putE x1 (wnOut x1) = x := ⟨_, rfl⟩
      rw [hx] at T
      have hb := (sizeOk_iff _).1 T.size
      have hlx := T.len
      have htm := tr_mv T
      rw [T.mkd] at htm
      obtain ⟨f1, f2, -, -⟩ := hp_fr T.hp
      have hbx := hpOut_len x
      have HRC := Lib.hid (fun W (h : RdW W W.heap.size A ws) => mReached_c A ws c ws.length W rfl hm h ho)
      unfold RcdRes at HRC
      rw [hrc] at HRC
      have HWT := Lib.hid (fun W (h : RdW W W.heap.size A ws) => mWanted_c A ws c ws.length W rfl hm h ho)
      unfold WtRes at HWT
      rw [hrc] at HWT
      have HP1 := Lib.hid (fun B d W (h : RdW W W.heap.size A ws) (h2 : RdE W W.heap.size B (wtOut ws)) => putW_c A B ws (wtOut ws) c d ws.length (wtOut ws).length W rfl rfl (by omega) (by omega) hwl h h2)
      rw [hx1] at HP1
      have HWN := Lib.hid (fun A c W (h : RdW W W.heap.size A x1) => fwWanted_c A x1 c ws.length W hl1 hm h hlt1)
      unfold WnRes at HWN
      rw [hp1] at HWN
      have HP2 := Lib.hid (fun A c B d W (h : RdW W W.heap.size A x1) (h2 : RdE W W.heap.size B (wnOut x1)) => putW_c A B x1 (wnOut x1) c d ws.length (wnOut x1).length W hl1 rfl (by omega) (by omega) hnl h h2)
      rw [hx] at HP2
      have HMD := Lib.hid (fun A c W (h : RdW W W.heap.size A x) => mMarked_c A x c ws.length W hlx hm h T.lt)
      unfold MdRes at HMD
      rw [T.hp, T.mkd] at HMD
      have HRD := Lib.hid (fun A c W (h : RdW W W.heap.size A x) => fwRead_c A x c ws.length 128 128 W hlx hm (by omega) (by omega) h T.lt)
      unfold RdRes at HRD
      rw [T.rd, T.mv] at HRD
      have HFR := Lib.hid (fun A c W (h : RdW W W.heap.size A x) => from_c A x c ws.length 128 W hlx hm h T.lt)
      unfold FrRes at HFR
      rw [f1, f2] at HFR
      have HTP := Lib.hid (fun k h => tr_place T (k := k) h)
      have HFX := Lib.hid (fun A2 MA c2 mc W (hc2 : ws.length ≤ c2) (h : RdW W W.heap.size A2 x) (h2 : RdM W W.heap.size MA (moves (hpOut x) 128)) => fixed30_c A2 MA ws x (moves (hpOut x) 128) c2 ws.length t mc _ (endOf (hpOut x) 128) W hlx L T hc2 rfl rfl rfl h h2)
      have hrl : (rcOut ws).length ≤ 1000000 := by
        rw [← htm, List.length_map]
        have h1 := moves_len_le (hpOut x) 128
        omega
      have hml : (moves (hpOut x) 128).length = (rcOut ws).length := by rw [← htm, List.length_map]
      obtain ⟨R, hR⟩ : ∃ R, rcOut ws = R := ⟨_, rfl⟩
      obtain ⟨M, hM⟩ : ∃ M, moves (hpOut x) 128 = M := ⟨_, rfl⟩
      obtain ⟨BL, hBL⟩ : ∃ BL, hpOut x = BL := ⟨_, rfl⟩
      rw [hR] at HRC HMD hrl hml
      rw [hM] at HRD hml HTP HFX
      have hst := T.st
      rw [hBL] at HFR HTP HFX hbx hst
      have HSI := Lib.hid (fun A B c d W (h1 : RdI W W.heap.size A R) (h2 : RdI W W.heap.size B R) => sameInts_c A B R R R.length R.length c d W.heap.size W rfl rfl hrl h1 h2 (Nat.le_refl _))
      rw [show decide (R = R) = true from decide_eq_true rfl] at HSI
      have HPL := Lib.hid (fun A c W (h : RdB W W.heap.size A BL) => places_c A BL c BL.length 128 W rfl (by omega) h (by omega))
      unfold PlRes plOut at HPL
      rw [hst, if_pos rfl, placesOf_len] at HPL
      have HEN := Lib.hid (fun A c W (h : RdB W W.heap.size A BL) => end_c A BL c BL.length 128 W rfl (by omega) h (by omega))
      rw [endRes_ok hst] at HEN
      have HTO := Lib.hid (fun A c a W (h : RdM W W.heap.size A M) => fwTo_c A M c M.length W.heap.size a W rfl (by omega) h (Nat.le_refl _))
      rw [hml] at HRD HTO HFX
      have HPN : Hid ((placesOf BL 128).length = BL.length) := Lib.hid (placesOf_len _ _)
      obtain ⟨PL, hPL⟩ : ∃ PL, placesOf BL 128 = PL := ⟨_, rfl⟩
      obtain ⟨en, hen⟩ : ∃ en, endOf BL 128 = en := ⟨_, rfl⟩
      obtain ⟨E1, hE1⟩ : ∃ E1, wtOut ws = E1 := ⟨_, rfl⟩
      obtain ⟨E2, hE2⟩ : ∃ E2, wnOut x1 = E2 := ⟨_, rfl⟩
      rw [hPL] at HPL HTP HPN
      rw [hen] at HEN HFX
      rw [hE1] at HWT HP1
      rw [hE2] at HWN HP2
      have hd1 : ((R.length : Int) != (R.length : Int)) = false := bne_self_eq_false _
      have hd2 : ((BL.length : Int) != (BL.length : Int)) = false := bne_self_eq_false _
      rw [h0] at HCH
      have HLB : Hid (BL.length ≤ 1000000) := Lib.hid (by omega)
      clear hr ho hm hc hg h0 hlay L T hrc hp1 hlt1 hl1 hwl hnl hx1 hx hb hlx htm f1 f2 hbx hrl hml hR hM hBL hst hPL hen hE1 hE2
      go_enter Tryz.func3, Tryz.ntmps3
      go_wp2_with fail
      refine HAL.out.mono ?_
      rintro e w1 ⟨rfl, hB1⟩
      have HB1 := Lib.hid hB1
      clear hB1
      go_wp2_with fail
      refine (HGR.out _).mono ?_
      rintro e w2 ⟨rfl, rfl⟩
      go_wp2_with fail
      refine (HCH.out _ (HR.out.up HB1.out HB1.out.size)).mono ?_
      rintro e w3 ⟨rfl, hB3⟩
      have HB3 := Lib.hid (HB1.out.trans (hB3.mono HB1.out.size))
      clear hB3
      go_wp2_with fail
      refine (HRC.out _ (HR.out.up HB3.out HB3.out.size)).mono ?_
      rintro e w4 ⟨⟨A4, c4, rfl, hr4, -⟩, hB4⟩
      have HB4 := Lib.hid (HB3.out.trans (hB4.mono HB3.out.size))
      have HI4 := Lib.hid hr4
      clear hr4 hB4
      go_wp2_with fail
      refine (HWT.out _ (HR.out.up HB4.out HB4.out.size)).mono ?_
      rintro e w5 ⟨⟨A5, c5, rfl, hr5, -⟩, hB5⟩
      have HB5 := Lib.hid (HB4.out.trans (hB5.mono HB4.out.size))
      have HI5 := Lib.hid (HI4.out.up hB5 hB5.size)
      have HE5 := Lib.hid hr5
      clear hr5 hB5
      go_wp2_with fail
      refine (HP1.out _ _ _ (HR.out.up HB5.out HB5.out.size) HE5.out).mono ?_
      rintro e w6 ⟨⟨g6, d6, rfl, -, hr6⟩, hB6⟩
      have HB6 := Lib.hid (HB5.out.trans (hB6.mono HB5.out.size))
      have HI6 := Lib.hid (HI5.out.up hB6 hB6.size)
      have HR6 := Lib.hid hr6
      clear hr6 hB6
      go_wp2_with fail
      refine (HWN.out _ _ _ HR6.out).mono ?_
      rintro e w7 ⟨⟨A7, c7, rfl, hr7, -⟩, hB7⟩
      have HB7 := Lib.hid (HB6.out.trans (hB7.mono HB6.out.size))
      have HI7 := Lib.hid (HI6.out.up hB7 hB7.size)
      have HR7 := Lib.hid (HR6.out.up hB7 hB7.size)
      have HE7 := Lib.hid hr7
      clear hr7 hB7
      go_wp2_with fail
      refine (HP2.out _ _ _ _ _ HR7.out HE7.out).mono ?_
      rintro e w8 ⟨⟨g8, d8, rfl, hd8, hr8⟩, hB8⟩
      have HB8 := Lib.hid (HB7.out.trans (hB8.mono HB7.out.size))
      have HI8 := Lib.hid (HI7.out.up hB8 hB8.size)
      have HR8 := Lib.hid hr8
      have HD8 := Lib.hid hd8
      clear hr8 hB8 hd8
      go_wp2_with fail
      refine (HMD.out _ _ _ HR8.out).mono ?_
      rintro e w9 ⟨⟨A9, c9, rfl, hr9, -⟩, hB9⟩
      have HB9 := Lib.hid (HB8.out.trans (hB9.mono HB8.out.size))
      have HI9 := Lib.hid (HI8.out.up hB9 hB9.size)
      have HR9 := Lib.hid (HR8.out.up hB9 hB9.size)
      have HK9 := Lib.hid hr9
      clear hr9 hB9
      go_wp2_with fail
      refine (HRD.out _ _ _ HR9.out).mono ?_
      rintro e w10 ⟨⟨A10, c10, rfl, hr10, -⟩, hB10⟩
      have HB10 := Lib.hid (HB9.out.trans (hB10.mono HB9.out.size))
      have HI10 := Lib.hid (HI9.out.up hB10 hB10.size)
      have HR10 := Lib.hid (HR9.out.up hB10 hB10.size)
      have HK10 := Lib.hid (HK9.out.up hB10 hB10.size)
      have HM10 := Lib.hid hr10
      clear hr10 hB10
      go_wp2_with fail
      refine (HFR.out _ _ _ HR10.out).mono ?_
      rintro e w11 ⟨⟨A11, c11, rfl, hr11, -⟩, hB11⟩
      have HB11 := Lib.hid (HB10.out.trans (hB11.mono HB10.out.size))
      have HI11 := Lib.hid (HI10.out.up hB11 hB11.size)
      have HR11 := Lib.hid (HR10.out.up hB11 hB11.size)
      have HK11 := Lib.hid (HK10.out.up hB11 hB11.size)
      have HM11 := Lib.hid (HM10.out.up hB11 hB11.size)
      have HL11 := Lib.hid hr11
      clear hr11 hB11
      go_wp2_with fail
      refine (HSI.out _ _ _ _ _ HI11.out HK11.out).mono ?_
      rintro e w12 ⟨rfl, hB12⟩
      have HB12 := Lib.hid (HB11.out.trans (hB12.mono HB11.out.size))
      have HR12 := Lib.hid (HR11.out.up hB12 hB12.size)
      have HM12 := Lib.hid (HM11.out.up hB12 hB12.size)
      have HL12 := Lib.hid (HL11.out.up hB12 hB12.size)
      clear hB12
      go_wp2_with fail
      refine (HPL.out _ _ _ HL12.out).mono ?_
      rintro e w13 ⟨⟨A13, c13, rfl, hr13, -⟩, hB13⟩
      have HB13 := Lib.hid (HB12.out.trans (hB13.mono HB12.out.size))
      have HR13 := Lib.hid (HR12.out.up hB13 hB13.size)
      have HM13 := Lib.hid (HM12.out.up hB13 hB13.size)
      have HL13 := Lib.hid (HL12.out.up hB13 hB13.size)
      have HQ13 := Lib.hid hr13
      clear hr13 hB13
      go_wp2_with fail
      refine (HEN.out _ _ _ HL13.out).mono ?_
      rintro e w14 ⟨rfl, hB14⟩
      have HB14 := Lib.hid (HB13.out.trans (hB14.mono HB13.out.size))
      have HR14 := Lib.hid (HR13.out.up hB14 hB14.size)
      have HM14 := Lib.hid (HM13.out.up hB14 hB14.size)
      have HL14 := Lib.hid (HL13.out.up hB14 hB14.size)
      have HQ14 := Lib.hid (HQ13.out.up hB14 hB14.size)
      clear hB14
      go_wp2_with fail
      go_loopw [21] (fun i wr => ∃ j : Nat, j ≤ BL.length ∧ i = .int .i64 j ∧ Below w14.heap.size w14 wr) (fun i _ => BL.length - (intOf i).toNat)
      case atStart => exact ⟨0, Nat.zero_le _, rfl, Below.refl _ _⟩
      case round =>
        obtain ⟨j, hj, rfl, hB⟩ := hrel
        have hz := hB.size
        have HBx := Lib.hid hB
        by_cases hlt : j < BL.length
        · obtain ⟨b, off, hA11, hb, p0, -, -, -, p4, -⟩ := RdB.at_ (Rd.below HL14.out hB) hlt
          obtain ⟨b2, off2, hA13, hb2, q0⟩ := RdI.at_ (Rd.below HQ14.out hB) (k := j) (by rw [HPN.out]; exact hlt)
          obtain ⟨v, hv, hto⟩ := HTP.out j hlt
          have hv2 : PL[j]'(by rw [HPN.out]; exact hlt) = v := by
            rw [List.getElem?_eq_getElem (by rw [HPN.out]; exact hlt)] at hv
            exact Option.some.inj hv
          rw [hv2] at q0
          obtain ⟨ba, hba⟩ : ∃ ba, BL[j].at_ = ba := ⟨_, rfl⟩
          obtain ⟨bm, hbm⟩ : ∃ bm, BL[j].mark = bm := ⟨_, rfl⟩
          rw [hba] at p0 hto
          rw [hbm] at p4 hto
          subst hA11 hA13
          have HTA := Lib.hid (HTO.out A10 c10 ba wr (HM14.out.up hB hz))
          rw [hto] at HTA
          have hji : (j : Int) < (BL.length : Int) := by omega
          have hj0 : (0 : Int) ≤ (j : Int) := by omega
          have HP4 := Lib.hid p4
          have HQ0 := Lib.hid q0
          have hvv : (v != v) = false := bne_self_eq_false _
          have hlb := HLB.out
          cases bm
          all_goals
            simp only [if_true, Bool.false_eq_true, if_false, Option.getD_some, Option.getD_none, Option.isSome_some, Option.isSome_none] at HTA
            clear hto hbm hba hv hv2 hB p4 q0
            go_wp2_with fail
            refine HTA.out.mono ?_
            rintro e w15 ⟨rfl, hB15⟩
            have HB15 := Lib.hid (HBx.out.trans (hB15.mono hz))
            have r4 := (hB15.cell (p := ⟨b, off + j * 6 + 4, none⟩) (Nat.lt_of_lt_of_le hb hz)).trans HP4.out
            have r0 := (hB15.cell (p := ⟨b2, off2 + j, none⟩) (Nat.lt_of_lt_of_le hb2 hz)).trans HQ0.out
            clear hB15 p0
            go_wp2_with fail
            go_roundw
            case rel => exact ⟨j + 1, by omega, by go_num, HB15.out⟩
            case measure => simp [intOf]; omega
        · have hjd : decide ((j : Int) < (BL.length : Int)) = false := by rw [decide_eq_false_iff_not]; omega
          have hjdn : decide (j < BL.length) = false := by rw [decide_eq_false_iff_not]; exact hlt
          clear hB
          go_wp2_with fail
          refine (HFX.out _ _ _ _ wr HD8.out (HR14.out.up HBx.out hz) (HM14.out.up HBx.out hz)).mono ?_
          rintro e w16 ⟨rfl, hB16⟩
          have HB16 := Lib.hid (HB14.out.trans ((HBx.out.trans (hB16.mono hz)).mono HB14.out.size))
          clear hB16
          go_wp2_with fail
          go_ret
          exact ⟨rfl, HB16.out⟩
theorem topReach_row (w : World) (A : Option Addr) (ws : List Nat) (c : Nat) (hn : ws.length ≤ maxLen) (hc : ws.length ≤ c) (hr : RdW w w.heap.size A ws) (ho : ∀ x ∈ ws, x < 18446744073709551616) :
    Calls Tryz.prog 3 #[.slice A ws.length c] w fun e w' => e = .returned (.bool true) ∧ Below w.heap.size w w' := topReach_walk A ws c ws.length w rfl (by unfold maxLen at hn; omega) hc hr ho
end Go.Proofs.YtoaepffpjoibaaaGreat
