/- The law FixupStill: the walk. -/
import Derived.Test.YtpifagclhhaniaaFxTP
import Derived.Test.YtpifagclhhaniaaR25C
import Derived.Test.YtpifagclhhaniaaAl28
namespace Go.Proofs.Ytpifagclhhaniaa
open Go.RowKit

theorem endOf_ge28 : ∀ {l : List Bk} {s : Int}, (∀ b ∈ l, 0 ≤ b.size) → s ≤ endOf l s := by
  intro l
  induction l with
  | nil => intro s _; exact Int.le_refl _
  | cons b l ih =>
    intro s h
    have h1 := h b (by simp)
    simp only [endOf]
    split
    · have := ih (s := s + b.size) (fun c hc => h c (by simp [hc])); omega
    · exact ih (fun c hc => h c (by simp [hc]))
theorem wantE_val28 : ∀ {l : List Bk} {s : Int}, 0 ≤ s → (∀ b ∈ l, 0 ≤ b.size) → ∀ e ∈ wantE l s, (e.v : Int) ≤ endOf l s := by
  intro l
  induction l with
  | nil => intro s _ _ e h; simp [wantE] at h
  | cons b l ih =>
    intro s hs h e he
    have h1 := h b (by simp)
    have hl : ∀ c ∈ l, 0 ≤ c.size := fun c hc => h c (by simp [hc])
    have hns : s ≤ nextS b s := by unfold nextS; split <;> omega
    have hge := endOf_ge28 (l := l) (s := nextS b s) hl
    have hen : endOf (b :: l) s = endOf l (nextS b s) := by simp only [endOf, nextS]; split <;> rfl
    rw [hen]
    simp only [wantE, List.mem_append] at he
    rcases he with he | he
    · split at he
      · simp only [List.mem_cons, List.not_mem_nil, or_false] at he
        subst he
        show ((wantN b s : Nat) : Int) ≤ _
        unfold wantN
        split <;> omega
      · simp at he
    · exact ih (by omega) hl e he
theorem wnOut_bd {x : List Nat} (h : hpErr x = 0) : (wnOut x).length ≤ 1024 ∧ ∀ e ∈ wnOut x, e.v < 18446744073709551616 := by
  have hw : wnOut x = wantE (hpOut x) 128 := by unfold wnOut; rw [if_pos h]
  rw [hw]
  refine ⟨Nat.le_trans (wantE_len _ _) (hpOut_len x), fun e he => ?_⟩
  obtain ⟨hre, hs1, hs2, hs3⟩ := stErr_zero (hp_fr h).2.2.1
  have h1 := wantE_val28 (l := hpOut x) (s := 128) (by omega) (fun b hb => by
    obtain ⟨i, hi, rfl⟩ := List.getElem_of_mem hb
    have := size_bd' (hp_fr h).2.2.1 hi; omega) e he
  have h2 := endOf_bd hre (Nat.le_refl _) hs1 hs2
  rw [List.take_length] at h2
  omega
/-- Whether the first k moves are none. -/
def allS (M : List (Int × Int)) (k : Nat) : Bool := (M.take k).all fun m => m.1 == m.2
theorem allS_succ {M : List (Int × Int)} {k : Nat} (h : k < M.length) : allS M (k + 1) = (allS M k && (M[k].1 == M[k].2)) := by
  unfold allS
  rw [List.take_succ_eq_append_getElem h, List.all_append]
  simp
theorem allS_end {M : List (Int × Int)} (h : allS M M.length = true) : ∀ m ∈ M, m.1 = m.2 := by
  unfold allS at h
  rw [List.take_length, List.all_eq_true] at h
  intro m hm
  exact beq_iff_eq.1 (h m hm)

set_option maxRecDepth 100000 in
set_option maxHeartbeats 16000000 in
theorem fixupStill_walk (w : World) (A : Option Addr) (ws : List Nat) (c : Nat) (hn : ws.length ≤ maxLen) (_hc : ws.length ≤ c) (hr : RdW w w.heap.size A ws) (ho : ∀ x ∈ ws, x < 18446744073709551616) :
    Calls Try.prog 14 #[.slice A ws.length c] w fun e w' => e = .returned (.bool true) ∧ Below w.heap.size w w' := by
  unfold maxLen at hn
  have HR := Lib.hid hr
  have HO := Lib.hid ho
  clear hr ho
  cases hg : greatW ws.length
  · have HG := Lib.hid hg
    have hgn := greatW_no hg
    have hlen : ws.length ≤ 2060 := by omega
    have HCK := Lib.hid (fun W (h : RdW W W.heap.size A ws) => mCheck_c A ws c ws.length W rfl hn h HO.out)
    by_cases hp : hpErr ws = 0
    · have H25 := Lib.hid (fun W (h : RdW W W.heap.size A ws) => ref25Check_c A ws c ws.length W rfl hp h HO.out)
      have HWN := Lib.hid (fun W (h : RdW W W.heap.size A ws) => mWanted_c A ws c ws.length W rfl hn h HO.out)
      unfold WtRes at HWN
      rw [hp] at HCK
      by_cases h0 : rcErr ws = 0
      · obtain ⟨x1, x2, M, e1, e2, g1, g2, g3, g4, g5, g6⟩ := still_plain h0 HO.out
        have hb := fr_bd ws (hpErr_zero hp).1
        have hwv := wtOut_v h0
        have hel : (wtOut ws).length ≤ 1024 := by
          rw [wtOut_eq h0, List.length_map]
          have h1 := wntL_len (seenL ws) (hpOut ws)
          have h2 := hpOut_len ws
          omega
        have hx1 : x1.length = ws.length := by rw [e1, putE_len]
        have ho1 : ∀ x ∈ x1, x < 18446744073709551616 := by rw [e1]; exact putE_lt (wtOut ws) ws HO.out hwv
        obtain ⟨hel2, hwv2⟩ := wnOut_bd g1
        have hx2 : x2.length = ws.length := by rw [e2, putE_len, hx1]
        have ho2 : ∀ x ∈ x2, x < 18446744073709551616 := by rw [e2]; exact putE_lt (wnOut x1) x1 ho1 hwv2
        have hml : M.length ≤ 2048 := by rw [← g3]; exact rdMv_len x2 128 128
        have HP1 := Lib.hid (fun B d W (h : RdW W W.heap.size A ws) (h2 : RdE W W.heap.size B (wtOut ws)) => put25_c A B ws (wtOut ws) c d ws.length (wtOut ws).length W.heap.size W rfl rfl (by omega) (by omega) (by omega) h h2 (Nat.le_refl _))
        unfold OwnW at HP1
        rw [← e1, hx1] at HP1
        have HW1 := Lib.hid (fun A2 c2 W (h : RdW W W.heap.size A2 x1) => fwWanted_c A2 x1 c2 ws.length W hx1 hn h ho1)
        unfold WnRes at HW1
        rw [g1] at HW1
        have HP2 := Lib.hid (fun A2 B c2 d W (h : RdW W W.heap.size A2 x1) (h2 : RdE W W.heap.size B (wnOut x1)) => put25_c A2 B x1 (wnOut x1) c2 d ws.length (wnOut x1).length W.heap.size W hx1 rfl (by omega) (by omega) (by omega) h h2 (Nat.le_refl _))
        unfold OwnW at HP2
        rw [← e2, hx2] at HP2
        have HRD := Lib.hid (fun A2 c2 W (h : RdW W W.heap.size A2 x2) => fwRead_c A2 x2 c2 ws.length 128 128 W hx2 hn (by omega) (by omega) h ho2)
        unfold RdRes at HRD
        rw [g2, g3] at HRD
        have HFS := Lib.hid (fun A2 c2 W (h : RdW W W.heap.size A2 x2) => fxSlots_c A2 x2 c2 ws.length W hx2 hn h ho2)
        unfold FsRes at HFS
        rw [g4] at HFS
        have HOB := Lib.hid (fun A2 c2 a W (h : RdW W W.heap.size A2 x2) => fxObject_c A2 x2 c2 ws.length a W hx2 hn h ho2)
        unfold ObRes at HOB
        have HG5 := Lib.hid (fun k (hk : k < M.length) => g5 _ (List.getElem_mem hk))
        have HG6 := Lib.hid (fun h k (hk : k < M.length) => (g6 h).2 _ (List.getElem_mem hk))
        have HG7 := Lib.hid (fun h => (g6 h).1)
        have HSB := Lib.hid (fun k (h : k < M.length) => allS_succ h)
        have HSE := Lib.hid (fun h => allS_end (M := M) h)
        rw [h0] at HWN
        clear hg hgn h0 e1 e2 g1 g2 g3 g4 g5 g6 hwv ho1 hwv2 ho2 hp
        generalize wtOut ws = E at HWN HP1 hel
        generalize wnOut x1 = E2 at HW1 HP2 hel2
        clear hx1 hx2
        go_enter Try.func14, Try.ntmps14
        go_wp2_with fail
        refine (alive28_c w).mono ?_
        rintro e w1 ⟨rfl, hB1⟩
        go_wp2_with fail
        refine (great25_c A ws.length c _ hn).mono ?_
        rintro e w1' ⟨rfl, rfl⟩
        rw [HG.out]
        go_wp2_with fail
        refine (HCK.out _ (HR.out.up hB1 hB1.size)).mono ?_
        rintro e w2 ⟨rfl, hB2⟩
        have HB2 := Lib.hid (hB1.trans (hB2.mono hB1.size))
        clear hB1 hB2
        go_wp2_with fail
        refine (H25.out _ (HR.out.up HB2.out HB2.out.size)).mono ?_
        rintro e w3 ⟨rfl, hB3⟩
        have HB3 := Lib.hid (HB2.out.trans (hB3.mono HB2.out.size))
        have HRW := Lib.hid (HR.out.up HB3.out HB3.out.size)
        clear hB3
        go_wp2_with fail
        refine (HWN.out _ HRW.out).mono ?_
        rintro e w4 ⟨⟨A4, c4, rfl, hr4, -⟩, hB4⟩
        have HB4 := Lib.hid (HB3.out.trans (hB4.mono HB3.out.size))
        have HRW4 := Lib.hid (HRW.out.up hB4 hB4.size)
        have HE4 := Lib.hid hr4
        clear hr4 hB4
        go_wp2_with fail
        refine (HP1.out _ _ _ HRW4.out HE4.out).mono ?_
        rintro e w5 ⟨g5, c5, rfl, hown5, hB5⟩
        have HB5 := Lib.hid (HB4.out.trans (hB5.mono HB4.out.size))
        have HX5 := Lib.hid (Rd.of_own hown5)
        clear hown5 hB5
        go_wp2_with fail
        refine (HW1.out _ _ _ HX5.out).mono ?_
        rintro e w6 ⟨⟨A6, c6, rfl, hr6, -⟩, hB6⟩
        have HB6 := Lib.hid (HB5.out.trans (hB6.mono HB5.out.size))
        have HX6 := Lib.hid (HX5.out.up hB6 hB6.size)
        have HE6 := Lib.hid hr6
        clear hr6 hB6
        go_wp2_with fail
        refine (HP2.out _ _ _ _ _ HX6.out HE6.out).mono ?_
        rintro e w7 ⟨g7, c7, rfl, hown7, hB7⟩
        have HB7 := Lib.hid (HB6.out.trans (hB7.mono HB6.out.size))
        have HX7 := Lib.hid (Rd.of_own hown7)
        clear hown7 hB7
        go_wp2_with fail
        refine (HRD.out _ _ _ HX7.out).mono ?_
        rintro e w8 ⟨⟨A8, c8, rfl, hr8, -⟩, hB8⟩
        have HB8 := Lib.hid (HB7.out.trans (hB8.mono HB7.out.size))
        have HX8 := Lib.hid (HX7.out.up hB8 hB8.size)
        have HM8 := Lib.hid hr8
        clear hr8 hB8
        go_wp2_with fail
        refine (HFS.out _ _ _ HX8.out).mono ?_
        rintro e w9 ⟨⟨A9, c9, rfl, -, -⟩, hB9⟩
        have HB9 := Lib.hid (HB8.out.trans (hB9.mono HB8.out.size))
        have HX9 := Lib.hid (HX8.out.up hB9 hB9.size)
        have HM9 := Lib.hid (HM8.out.up hB9 hB9.size)
        obtain ⟨fl, hfl⟩ : ∃ fl, fsOut x2 = fl := ⟨_, rfl⟩
        rw [hfl] at HG7
        simp only [hfl]
        clear hB9 hfl
        go_wp2_with fail
        go_loopw [13, 14] (fun b i wr => ∃ k : Nat, k ≤ M.length ∧ b = .bool (allS M k) ∧ i = .int .i64 k ∧ Below w9.heap.size w9 wr) (fun _ i _ => M.length - (intOf i).toNat)
        case atStart => exact ⟨0, Nat.zero_le _, rfl, rfl, Below.refl _ _⟩
        case round =>
          obtain ⟨k, hk, rfl, rfl, hB⟩ := hrel
          have hz := hB.size
          by_cases hlt : k < M.length
          · obtain ⟨bM, oM, rfl, hbM, m0, m1⟩ := RdM.at_ (Rd.below HM9.out hB) hlt
            have HSN := Lib.hid (HSB.out k hlt)
            obtain ⟨x, hx⟩ : ∃ x, M[k] = x := ⟨_, rfl⟩
            rw [hx] at m0 m1 HSN
            obtain ⟨xf, xt⟩ := x
            dsimp only at m0 m1 HSN
            obtain ⟨b, hb⟩ : ∃ b, allS M k = b := ⟨_, rfl⟩
            simp only [hb]
            rw [hb] at HSN
            obtain ⟨q, hq⟩ : ∃ q, (xf == xt) = q := ⟨_, rfl⟩
            rw [hq] at HSN
            have hki : (k : Int) < (M.length : Int) := by omega
            have hk0 : (0 : Int) ≤ (k : Int) := by omega
            clear hx hb
            cases b
            · have HS2 := Lib.hid (show allS M (k + 1) = false by rw [HSN.out]; rfl)
              clear HSN hq
              go_wp2_with fail
              go_quiet (fail)
              go_wp2_with fail
              go_roundw
              case rel => exact ⟨k + 1, by omega, by rw [HS2.out], by go_num, by first | exact hB | exact below_drewN hB _ | exact hB.drew⟩
              case measure => simp [intOf]; omega
            · have HS2 := Lib.hid (show allS M (k + 1) = q by rw [HSN.out]; rfl)
              clear HSN
              cases q
              all_goals
                go_wp2_with fail
                go_quiet (fail)
                go_wp2_with fail
                go_roundw
                case rel => exact ⟨k + 1, by omega, by rw [HS2.out], by go_num, by first | exact hB | exact below_drewN hB _ | exact hB.drew⟩
                case measure => simp [intOf]; omega
          · obtain rfl : k = M.length := by omega
            have HBW := Lib.hid (HB9.out.trans (hB.mono HB9.out.size))
            have HXW := Lib.hid (HX9.out.up hB hz)
            have HMW := Lib.hid (HM9.out.up hB hz)
            obtain ⟨wS, hwS⟩ : ∃ wS, wr = wS := ⟨_, rfl⟩
            rw [hwS] at HBW HXW HMW ⊢
            obtain ⟨b, hb⟩ : ∃ b, allS M M.length = b := ⟨_, rfl⟩
            simp only [hb]
            rw [hb] at HSE
            clear hB hz hwS hb
            cases b
            · have HOK := HOB
              go_wp2_with fail
              go_loopw [15] (fun i wr => ∃ k : Nat, k ≤ M.length ∧ i = .int .i64 k ∧ Below wS.heap.size wS wr) (fun i _ => M.length - (intOf i).toNat)
              case atStart => exact ⟨0, Nat.zero_le _, rfl, Below.refl _ _⟩
              case round =>
                obtain ⟨k, hk, rfl, hB⟩ := hrel
                have hz := hB.size
                by_cases hlt : k < M.length
                · obtain ⟨bM, oM, rfl, hbM, m0, -⟩ := RdM.at_ (Rd.below HMW.out hB) hlt
                  have HOk := Lib.hid (HOB.out _ c7 M[k].1 wr (HXW.out.up hB hz))
                  rw [HG5.out k hlt] at HOk
                  obtain ⟨x, hx⟩ : ∃ x, M[k] = x := ⟨_, rfl⟩
                  rw [hx] at m0 HOk
                  obtain ⟨o, ho⟩ : ∃ o, obOut x2 x.1 = o := ⟨_, rfl⟩
                  rw [ho] at HOk
                  obtain ⟨xf, xt⟩ := x
                  dsimp only at m0 HOk
                  have hki : (k : Int) < (M.length : Int) := by omega
                  have hk0 : (0 : Int) ≤ (k : Int) := by omega
                  clear hx ho
                  go_wp2_with fail
                  refine HOk.out.mono ?_
                  rintro e w10 ⟨⟨A10, c10, rfl, -, -⟩, hB10⟩
                  have HB10 := Lib.hid (hB.trans (hB10.mono hz))
                  clear hB10
                  go_wp2_with fail
                  go_roundw
                  case rel => exact ⟨k + 1, by omega, by go_num, HB10.out⟩
                  case measure => simp [intOf]; omega
                · obtain rfl : k = M.length := by omega
                  have HBE := Lib.hid (HBW.out.trans (hB.mono HBW.out.size))
                  clear hB hz
                  go_wp2_with fail
                  go_ret
                  exact ⟨rfl, HBE.out⟩
            · have hall := HSE.out rfl
              have HNO := Lib.hid (HG6.out hall)
              have HF0 := HG7.out hall
              subst HF0
              clear hall
              go_wp2_with fail
              go_loopw [15] (fun i wr => ∃ k : Nat, k ≤ M.length ∧ i = .int .i64 k ∧ Below wS.heap.size wS wr) (fun i _ => M.length - (intOf i).toNat)
              case atStart => exact ⟨0, Nat.zero_le _, rfl, Below.refl _ _⟩
              case round =>
                obtain ⟨k, hk, rfl, hB⟩ := hrel
                have hz := hB.size
                by_cases hlt : k < M.length
                · obtain ⟨bM, oM, rfl, hbM, m0, -⟩ := RdM.at_ (Rd.below HMW.out hB) hlt
                  have HOk := Lib.hid (HOB.out _ c7 M[k].1 wr (HXW.out.up hB hz))
                  rw [HG5.out k hlt, HNO.out k hlt] at HOk
                  obtain ⟨x, hx⟩ : ∃ x, M[k] = x := ⟨_, rfl⟩
                  rw [hx] at m0 HOk
                  obtain ⟨xf, xt⟩ := x
                  dsimp only at m0 HOk
                  have hki : (k : Int) < (M.length : Int) := by omega
                  have hk0 : (0 : Int) ≤ (k : Int) := by omega
                  clear hx
                  go_wp2_with fail
                  refine HOk.out.mono ?_
                  rintro e w10 ⟨⟨A10, c10, rfl, -, -⟩, hB10⟩
                  have HB10 := Lib.hid (hB.trans (hB10.mono hz))
                  clear hB10
                  go_wp2_with fail
                  go_roundw
                  case rel => exact ⟨k + 1, by omega, by go_num, HB10.out⟩
                  case measure => simp [intOf]; omega
                · obtain rfl : k = M.length := by omega
                  have HBE := Lib.hid (HBW.out.trans (hB.mono HBW.out.size))
                  clear hB hz
                  go_wp2_with fail
                  go_ret
                  exact ⟨rfl, HBE.out⟩
      · have hn1 : (rcErr ws != 0) = true := by rw [bne_iff_ne]; exact h0
        obtain ⟨r, hr⟩ : ∃ r, rcErr ws = r := ⟨_, rfl⟩
        obtain ⟨q, hq⟩ : ∃ q, wtOut ws = q := ⟨_, rfl⟩
        rw [hr, hq] at HWN
        rw [hr] at hn1
        clear hg hgn h0 hr hq hp
        go_enter Try.func14, Try.ntmps14
        go_wp2_with fail
        refine (alive28_c w).mono ?_
        rintro e w1 ⟨rfl, hB1⟩
        go_wp2_with fail
        refine (great25_c A ws.length c _ hn).mono ?_
        rintro e w1' ⟨rfl, rfl⟩
        rw [HG.out]
        go_wp2_with fail
        refine (HCK.out _ (HR.out.up hB1 hB1.size)).mono ?_
        rintro e w2 ⟨rfl, hB2⟩
        have HB2 := Lib.hid (hB1.trans (hB2.mono hB1.size))
        clear hB1 hB2
        go_wp2_with fail
        refine (H25.out _ (HR.out.up HB2.out HB2.out.size)).mono ?_
        rintro e w3 ⟨rfl, hB3⟩
        have HB3 := Lib.hid (HB2.out.trans (hB3.mono HB2.out.size))
        have HRW := Lib.hid (HR.out.up HB3.out HB3.out.size)
        clear hB3
        go_wp2_with fail
        refine (HWN.out _ HRW.out).mono ?_
        rintro e w4 ⟨⟨A4, c4, rfl, -, -⟩, hB4⟩
        have HB4 := Lib.hid (HB3.out.trans (hB4.mono HB3.out.size))
        clear hB4
        go_wp2_with fail
        go_ret
        exact ⟨rfl, HB4.out⟩
    · have hn1 : (hpErr ws != 0) = true := by rw [bne_iff_ne]; exact hp
      obtain ⟨r, hr⟩ : ∃ r, hpErr ws = r := ⟨_, rfl⟩
      rw [hr] at HCK hn1
      clear hg hgn hr hp
      go_enter Try.func14, Try.ntmps14
      go_wp2_with fail
      refine (alive28_c w).mono ?_
      rintro e w1 ⟨rfl, hB1⟩
      go_wp2_with fail
      refine (great25_c A ws.length c _ hn).mono ?_
      rintro e w1' ⟨rfl, rfl⟩
      rw [HG.out]
      go_wp2_with fail
      refine (HCK.out _ (HR.out.up hB1 hB1.size)).mono ?_
      rintro e w2 ⟨rfl, hB2⟩
      have HB2 := Lib.hid (hB1.trans (hB2.mono hB1.size))
      clear hB1 hB2
      go_wp2_with fail
      go_ret
      exact ⟨rfl, HB2.out⟩
  · have HG := Lib.hid hg
    clear hg
    go_enter Try.func14, Try.ntmps14
    go_wp2_with fail
    refine (alive28_c w).mono ?_
    rintro e w1 ⟨rfl, hB1⟩
    go_wp2_with fail
    refine (great25_c A ws.length c _ hn).mono ?_
    rintro e w1' ⟨rfl, rfl⟩
    rw [HG.out]
    go_wp2_with fail
    go_ret
    exact ⟨rfl, hB1⟩
end Go.Proofs.Ytpifagclhhaniaa
