/- The law ForwardBack: for words that are not great, what is written and what is read is the same. -/
import Derived.Test.YtkcancjalpjbgaaAl27
import Derived.Test.YtkcancjalpjbgaaPut
namespace Go.Proofs.Ytkcancjalpjbgaa
open Go.RowKit

theorem endOf_ge : ∀ {l : List Bk} {s : Int}, (∀ b ∈ l, 0 ≤ b.size) → s ≤ endOf l s := by
  intro l
  induction l with
  | nil => intro s _; exact Int.le_refl _
  | cons b l ih =>
    intro s h
    have h1 := h b (by simp)
    simp only [endOf]
    split
    · have := ih (s := s + b.size) (fun c hc => h c (by simp [hc])); omega
    · exact ih (fun c hc => h c (by simp [hc]))
theorem wantE_val : ∀ {l : List Bk} {s : Int}, 0 ≤ s → (∀ b ∈ l, 0 ≤ b.size) → ∀ e ∈ wantE l s, (e.v : Int) ≤ endOf l s := by
  intro l
  induction l with
  | nil => intro s _ _ e h; simp [wantE] at h
  | cons b l ih =>
    intro s hs h e he
    have h1 := h b (by simp)
    have hl : ∀ c ∈ l, 0 ≤ c.size := fun c hc => h c (by simp [hc])
    have hns : s ≤ nextS b s := by unfold nextS; split <;> omega
    have hge := endOf_ge (l := l) (s := nextS b s) hl
    have hen : endOf (b :: l) s = endOf l (nextS b s) := by simp only [endOf, nextS]; split <;> rfl
    rw [hen]
    simp only [wantE, List.mem_append] at he
    rcases he with he | he
    · split at he
      · simp only [List.mem_cons, List.not_mem_nil, or_false] at he
        subst he
        show ((wantN b s : Nat) : Int) ≤ _
        unfold wantN
        split <;> omega
      · simp at he
    · exact ih (by omega) hl e he
/-- What the law's loop over the entries finds. -/
theorem want_rows {ws : List Nat} {l : List Bk} (h : blocks ws 128 = some l) : (∀ (i : Nat) (x : En), (wantE l 128)[i]? = some x → 128 ≤ x.a ∧ x.a < (ws.length : Int)) ∧ ∀ (i : Nat) (x y : En), (wantE l 128)[i]? = some x → (wantE l 128)[i + 1]? = some y → x.a < y.a := by
  refine ⟨fun i x hx => ?_, fun i x y hx hy => ?_⟩
  · have h1 := wantE_at _ _ h 128 x (List.mem_of_getElem? hx)
    omega
  · have h2 := wantE_inc _ _ h 128
    rw [List.pairwise_iff_getElem] at h2
    obtain ⟨h3, e3⟩ := List.getElem?_eq_some_iff.1 hx
    obtain ⟨h4, e4⟩ := List.getElem?_eq_some_iff.1 hy
    rw [← e3, ← e4]
    exact h2 i (i + 1) h3 h4 (by omega)
/-- What its loop over the moves finds. -/
theorem moves_rows {l : List Bk} (h : rowErr l = 0) {s : Int} (hs : s ≤ most l) : (∀ (i : Nat) (x : Int × Int), (moves l s)[i]? = some x → x.2 ≤ x.1 ∧ mvTo (moves l s) x.1 = some x.2) ∧ (∀ (i : Nat) (x y : Int × Int), (moves l s)[i]? = some x → (moves l s)[i + 1]? = some y → x.2 < y.2) ∧ ∀ (x : Int × Int), (moves l s)[0]? = some x → x.2 = s := by
  obtain ⟨m1, m2, m3⟩ := moves_like h hs
  refine ⟨fun i x hx => ?_, fun i x y hx hy => ?_, fun x hx => ?_⟩
  · obtain ⟨h3, e3⟩ := List.getElem?_eq_some_iff.1 hx
    rw [← e3]; exact m1 i h3
  · obtain ⟨h3, e3⟩ := List.getElem?_eq_some_iff.1 hx
    obtain ⟨h4, e4⟩ := List.getElem?_eq_some_iff.1 hy
    rw [← e3, ← e4]
    exact (m2 i (i + 1) h4 (by omega)).1
  · obtain ⟨h3, e3⟩ := List.getElem?_eq_some_iff.1 hx
    rw [← e3]; exact m3 h3

set_option maxRecDepth 100000 in
set_option maxHeartbeats 16000000 in
theorem forwardBack_walk (w : World) (A : Option Addr) (ws : List Nat) (c : Nat) (hn : ws.length ≤ maxLen) (_hc : ws.length ≤ c) (hr : RdW w w.heap.size A ws) (ho : ∀ x ∈ ws, x < 18446744073709551616) :
    Calls Try.prog 9 #[.slice A ws.length c] w fun e w' => e = .returned (.bool true) ∧ Below w.heap.size w w' := by
  unfold maxLen at hn
  have HR := Lib.hid hr
  have HO := Lib.hid ho
  clear hr ho
  cases hg : greatW ws.length
  · have HG := Lib.hid hg
    have hgn := greatW_no hg
    have hlen : ws.length ≤ 2060 := by omega
    have HWN := Lib.hid (fun W (h : RdW W W.heap.size A ws) => fwWanted_c A ws c ws.length W rfl hn h HO.out)
    unfold WnRes at HWN
    by_cases h0 : hpErr ws = 0
    · obtain ⟨l, g1, g2, g3, g4, g5, g6, g7, g8, g9⟩ := back_plain h0
      obtain ⟨hre, hs1, hs2, hs3⟩ := stErr_zero g3
      have hsz := hpErr_zero h0
      have hb := fr_bd ws hsz.1
      obtain ⟨m1, m2, m3⟩ := moves_rows hre hs2
      obtain ⟨hrow, hrow2⟩ := want_rows g1
      have hwv : ∀ e ∈ wantE l 128, e.v < 18446744073709551616 := fun e he => by
        have h1 := wantE_val (l := l) (s := 128) (by omega) (fun b hb => by
          obtain ⟨i, hi, rfl⟩ := List.getElem_of_mem hb
          have := size_bd' g3 hi; omega) e he
        have h2 := endOf_bd hre (Nat.le_refl _) hs1 hs2
        rw [List.take_length] at h2
        omega
      have hxl : (putE ws (wantE l 128)).length = ws.length := putE_len _ _
      have hxo := putE_lt (wantE l 128) ws HO.out hwv
      have hll := (blocks_chain (ws := ws) (by omega) _ _ g1 (by omega) (by omega) (by omega)).1
      have hel := wantE_len l 128
      have hmvl := moves_len_le l 128
      have hwn1 : wnOut ws = wantE l 128 := by simp [wnOut, h0, g2]
      have hwn2 : wnOut (putE ws (wantE l 128)) = [] := by simp [wnOut, g6, g7, g8]
      rw [hwn1, h0] at HWN
      have HPT := Lib.hid (fun A2 B d W (h : RdW W W.heap.size A2 ws) (h2 : RdE W W.heap.size B (wantE l 128)) => put25_c A2 B ws (wantE l 128) c d ws.length (wantE l 128).length W.heap.size W rfl rfl (by omega) (by omega) (by omega) h h2 (Nat.le_refl _))
      unfold OwnW at HPT
      rw [hxl] at HPT
      have HRD := Lib.hid (fun A2 c2 W (h : RdW W W.heap.size A2 (putE ws (wantE l 128))) => fwRead_c A2 (putE ws (wantE l 128)) c2 ws.length 128 128 W hxl hn (by omega) (by omega) h hxo)
      unfold RdRes at HRD
      rw [g4, g5] at HRD
      have HW2 := Lib.hid (fun A2 c2 W (h : RdW W W.heap.size A2 (putE ws (wantE l 128))) => fwWanted_c A2 (putE ws (wantE l 128)) c2 ws.length W hxl hn h hxo)
      unfold WnRes at HW2
      rw [hwn2, g6] at HW2
      have HMK := Lib.hid (fun W (h : RdW W W.heap.size A ws) => mMarked_c A ws c ws.length W rfl hn h HO.out)
      unfold MdRes at HMK
      rw [h0, g2, g9, List.length_map] at HMK
      have HTO := Lib.hid (fun A2 c2 a W (h : RdM W W.heap.size A2 (moves l 128)) => fwTo_c A2 (moves l 128) c2 (moves l 128).length W.heap.size a W rfl (by omega) h (Nat.le_refl _))
      have M1 := Lib.hid m1
      have M2 := Lib.hid m2
      have M3 := Lib.hid m3
      have HROW := Lib.hid hrow
      have HROW2 := Lib.hid hrow2
      clear hg hgn h0 g1 g2 g3 g4 g5 g6 g7 g8 g9 hre hs1 hs2 hs3 hsz m1 m2 m3 hrow hrow2 hwv hxl hxo hwn1 hwn2
      generalize moves l 128 = mv at HRD HMK HTO M1 M2 M3 hmvl
      generalize putE ws (wantE l 128) = x at HPT HRD HW2
      generalize wantE l 128 = E at HWN HPT HROW HROW2 hel
      have hel2 : E.length ≤ 1024 := by omega
      have hmv2 : mv.length ≤ 1024 := by omega
      have hb1 : 256 ≤ ws.length := hb.1
      clear hel hmvl hll hb
      go_enter Try.func9, Try.ntmps9
      go_wp2_with fail
      refine (alive27_c w).mono ?_
      rintro e w1 ⟨rfl, hB1⟩
      go_wp2_with fail
      refine (great25_c A ws.length c _ hn).mono ?_
      rintro e w1' ⟨rfl, rfl⟩
      rw [HG.out]
      go_wp2_with fail
      refine (HWN.out _ (HR.out.up hB1 hB1.size)).mono ?_
      rintro e w2 ⟨⟨A2, c2, rfl, hr2, -⟩, hB2⟩
      have hb2 := hB1.trans (hB2.mono hB1.size)
      have HE2 := Lib.hid hr2
      have HB2 := Lib.hid hb2
      have HRW := Lib.hid (HR.out.up hb2 hb2.size)
      clear hr2 hB2 hB1 hb2
      go_wp2_with fail
      go_loopw [6] (fun i wr => ∃ m : Nat, m ≤ E.length ∧ i = .int .i64 m ∧ Below w2.heap.size w2 wr) (fun i _ => E.length - (intOf i).toNat)
      case atStart => exact ⟨0, by omega, rfl, Below.refl _ _⟩
      case round =>
        obtain ⟨m, hm, rfl, hB⟩ := hrel
        have hz := hB.size
        by_cases hlt : m < E.length
        · obtain ⟨e1, e2⟩ := HROW.out m _ (List.getElem?_eq_getElem hlt)
          have e3 := fun x (h : E[m - 1]? = some x) (h0 : 0 < m) => HROW2.out (m - 1) x E[m] h (by rw [show m - 1 + 1 = m by omega]; exact List.getElem?_eq_getElem hlt)
          obtain ⟨b2, off2, rfl, hbw2, r0, -⟩ := RdE.at_ (Rd.below HE2.out hB) hlt
          obtain ⟨y, hy⟩ : ∃ y, E[m].a = y := ⟨_, rfl⟩
          rw [hy] at r0 e1 e2 e3
          have hmi : (m : Int) < (E.length : Int) := by omega
          have hm0 : (0 : Int) ≤ (m : Int) := by omega
          clear hy
          have hd1 : decide (y < 128) = false := by rw [decide_eq_false_iff_not]; omega
          have hd2 : decide ((ws.length : Int) ≤ y) = false := by rw [decide_eq_false_iff_not]; omega
          by_cases hc0 : m = 0
          · have hd0 : decide ((0 : Int) < (m : Int)) = false := by rw [decide_eq_false_iff_not]; omega
            have hd0n : decide (0 < m) = false := by rw [decide_eq_false_iff_not]; omega
            clear e3 hc0
            go_wp2_with fail
            go_quiet (fail)
            go_wp2_with fail
            go_roundw
            case rel => exact ⟨m + 1, by omega, by go_num, by first | exact hB | exact below_drewN hB _ | exact hB.drew⟩
            case measure => simp [intOf]; omega
          · have hlm1 : m - 1 < E.length := by omega
            have e4 := e3 E[m - 1] (List.getElem?_eq_getElem hlm1) (by omega)
            obtain ⟨b4, off4, hA4, hbw4, r2, -⟩ := RdE.at_ (Rd.below HE2.out hB) hlm1
            cases hA4
            obtain ⟨y2, hy2⟩ : ∃ y2, E[m - 1].a = y2 := ⟨_, rfl⟩
            rw [hy2] at r2 e4
            have hm0' : (0 : Int) < (m : Int) := by omega
            have hd0 : decide ((0 : Int) < (m : Int)) = true := by rw [decide_eq_true_iff]; omega
            have hd0n : decide (0 < m) = true := by rw [decide_eq_true_iff]; omega
            have hmi1 : (m : Int) - 1 < (E.length : Int) := by omega
            have hmi2 : (0 : Int) ≤ (m : Int) - 1 := by omega
            have hmw : IntKind.i64.wrap ((m : Int) - 1) = (m : Int) - 1 := IntWalk.i64_in _ (by omega)
            have hmt : ((m : Int) - 1).toNat = m - 1 := by omega
            have hd3 : decide (y ≤ y2) = false := by rw [decide_eq_false_iff_not]; omega
            clear e3 hy2 hc0
            go_wp2_with fail
            go_quiet (fail)
            go_wp2_with fail
            go_roundw
            case rel => exact ⟨m + 1, by omega, by go_num, by first | exact hB | exact below_drewN hB _ | exact hB.drew⟩
            case measure => simp [intOf]; omega
        · obtain rfl : m = E.length := by omega
          have hRWr := Lib.hid (HRW.out.up hB hz)
          go_wp2_with fail
          refine (HPT.out A _ _ wr hRWr.out (show RdE _ _ _ _ from HE2.out.up hB hz)).mono ?_
          rintro e w4 ⟨g4, c4, rfl, hown4, hB4⟩
          have hb4 := HB2.out.trans ((hB.trans (hB4.mono hz)).mono HB2.out.size)
          have HR4 := Lib.hid (hRWr.out.up hB4 hB4.size)
          have HO4 := Lib.hid hown4
          clear hown4
          go_wp2_with fail
          refine (HRD.out _ _ _ (Rd.of_own HO4.out)).mono ?_
          rintro e w5 ⟨⟨A5, c5, rfl, hr5, -⟩, hB5⟩
          have hb5 := hb4.trans (hB5.mono hb4.size)
          have HR5 := Lib.hid hr5
          have HO5 := Lib.hid ((Rd.of_own HO4.out).up hB5 hB5.size)
          clear hr5
          go_wp2_with fail
          refine (HW2.out _ _ _ HO5.out).mono ?_
          rintro e w6 ⟨⟨A6, c6, rfl, -, -⟩, hB6⟩
          have hb6 := hb5.trans (hB6.mono hb5.size)
          have HR6 := Lib.hid (HR5.out.up hB6 hB6.size)
          go_wp2_with fail
          refine (HMK.out _ ((HR4.out.up hB5 hB5.size).up hB6 hB6.size)).mono ?_
          rintro e w7 ⟨⟨A7, c7, rfl, hr7, -⟩, hB7⟩
          have HB7 := Lib.hid (hb6.trans (hB7.mono hb6.size))
          have HM7 := Lib.hid (HR6.out.up hB7 hB7.size)
          have HK7 := Lib.hid hr7
          clear hr7 hB7 hb6 HR6 HO5 HR5 HO4 HR4 hB hB4 hB5 hB6 hb4 hb5 hz
          go_wp2_with fail
          go_loopw [14] (fun i wr => ∃ q : Nat, q ≤ mv.length ∧ i = .int .i64 q ∧ Below w7.heap.size w7 wr) (fun i _ => mv.length - (intOf i).toNat)
          case atStart => exact ⟨0, by omega, rfl, Below.refl _ _⟩
          case round =>
            obtain ⟨q, hq, rfl, hB⟩ := hrel
            have hz := hB.size
            by_cases hlt : q < mv.length
            · obtain ⟨b2, off2, rfl, hbw2, r0, r1⟩ := RdM.at_ (Rd.below HM7.out hB) hlt
              obtain ⟨b3, off3, rfl, hbw3, s0⟩ := RdI.at_ (Rd.below HK7.out hB) (show q < (mv.map Prod.fst).length by rw [List.length_map]; exact hlt)
              rw [List.getElem_map] at s0
              obtain ⟨m1, m2⟩ := M1.out q _ (List.getElem?_eq_getElem hlt)
              have m3 := fun y (h : mv[q - 1]? = some y) (h0 : 0 < q) => M2.out (q - 1) y mv[q] h (by rw [show q - 1 + 1 = q by omega]; exact List.getElem?_eq_getElem hlt)
              have HT := Lib.hid (HTO.out (some ⟨b2, off2, none⟩) c5 mv[q].1 wr (show RdM _ _ _ _ from HM7.out.up hB hz))
              rw [m2, Option.getD_some, Option.isSome_some] at HT
              obtain ⟨x, hx⟩ : ∃ x, mv[q] = x := ⟨_, rfl⟩
              rw [hx] at r0 r1 s0 m1 m3 HT
              obtain ⟨x1, x2⟩ := x
              dsimp only at r0 r1 s0 m1 m3 HT
              have hqi : (q : Int) < (mv.length : Int) := by omega
              have hq0 : (0 : Int) ≤ (q : Int) := by omega
              have hd1 : ((x1 : Int) != x1) = false := by rw [bne_eq_false_iff_eq]
              have hd2 : decide (x1 < x2) = false := by rw [decide_eq_false_iff_not]; omega
              have hd3 : ((x2 : Int) != x2) = false := by rw [bne_eq_false_iff_eq]
              clear hx m2
              by_cases hc0 : q = 0
              · have hd0 : decide ((0 : Int) < (q : Int)) = false := by rw [decide_eq_false_iff_not]; omega
                have hd0n : decide (0 < q) = false := by rw [decide_eq_false_iff_not]; omega
                clear m3 hc0
                go_wp2_with fail
                refine HT.out.mono ?_
                rintro e w8 ⟨rfl, hB8⟩
                have hb8 := hB.trans (hB8.mono hz)
                have r0' := (hB8.cell (p := ⟨b2, off2 + q * 2, none⟩) (by dsimp only; omega)).trans r0
                have r1' := (hB8.cell (p := ⟨b2, off2 + q * 2 + 1, none⟩) (by dsimp only; omega)).trans r1
                have s0' := (hB8.cell (p := ⟨b3, off3 + q, none⟩) (by dsimp only; omega)).trans s0
                clear r0 r1 s0
                go_wp2_with fail
                go_quiet (fail)
                go_wp2_with fail
                go_roundw
                case rel => exact ⟨q + 1, by omega, by go_num, by first | exact hb8 | exact below_drewN hb8 _ | exact hb8.drew⟩
                case measure => simp [intOf]; omega
              · have hlm1 : q - 1 < mv.length := by omega
                have e4 := m3 mv[q - 1] (List.getElem?_eq_getElem hlm1) (by omega)
                obtain ⟨b4, off4, hA4, hbw4, -, r3⟩ := RdM.at_ (Rd.below HM7.out hB) hlm1
                cases hA4
                obtain ⟨y2, hy2⟩ : ∃ y2, mv[q - 1].2 = y2 := ⟨_, rfl⟩
                rw [hy2] at r3 e4
                have hm0' : (0 : Int) < (q : Int) := by omega
                have hd0 : decide ((0 : Int) < (q : Int)) = true := by rw [decide_eq_true_iff]; omega
                have hd0n : decide (0 < q) = true := by rw [decide_eq_true_iff]; omega
                have hmi1 : (q : Int) - 1 < (mv.length : Int) := by omega
                have hmi2 : (0 : Int) ≤ (q : Int) - 1 := by omega
                have hmw : IntKind.i64.wrap ((q : Int) - 1) = (q : Int) - 1 := IntWalk.i64_in _ (by omega)
                have hmt : ((q : Int) - 1).toNat = q - 1 := by omega
                have hd4 : decide (x2 ≤ y2) = false := by rw [decide_eq_false_iff_not]; omega
                clear m3 hy2 hc0
                go_wp2_with fail
                refine HT.out.mono ?_
                rintro e w8 ⟨rfl, hB8⟩
                have hb8 := hB.trans (hB8.mono hz)
                have r0' := (hB8.cell (p := ⟨_, _, none⟩) (by dsimp only; omega)).trans r0
                have r1' := (hB8.cell (p := ⟨_, _, none⟩) (by dsimp only; omega)).trans r1
                have r3' := (hB8.cell (p := ⟨_, _, none⟩) (by dsimp only; omega)).trans r3
                have s0' := (hB8.cell (p := ⟨b3, off3 + q, none⟩) (by dsimp only; omega)).trans s0
                clear r0 r1 s0 r3
                go_wp2_with fail
                go_quiet (fail)
                go_wp2_with fail
                go_roundw
                case rel => exact ⟨q + 1, by omega, by go_num, by first | exact hb8 | exact below_drewN hb8 _ | exact hb8.drew⟩
                case measure => simp [intOf]; omega
            · by_cases hl0 : mv.length = 0
              · have hz0 : ((mv.length : Int) == 0) = true := by rw [beq_iff_eq]; omega
                have hz0n : (mv.length == 0) = true := by rw [beq_iff_eq]; exact hl0
                clear hl0
                go_wp2_with fail
                go_ret
                exact ⟨rfl, HB7.out.trans (hB.mono HB7.out.size)⟩
              · have hz0 : ((mv.length : Int) == 0) = false := by rw [beq_eq_false_iff_ne]; omega
                have hz0n : (mv.length == 0) = false := by rw [beq_eq_false_iff_ne]; exact hl0
                have hl1 : 0 < mv.length := by omega
                have hl1i : (0 : Int) < (mv.length : Int) := by omega
                obtain ⟨b2, off2, rfl, hbw2, -, r1⟩ := RdM.at_ (Rd.below HM7.out hB) hl1
                rw [M3.out _ (List.getElem?_eq_getElem hl1)] at r1
                simp only [Nat.zero_mul, Nat.add_zero] at r1
                clear hl0
                go_wp2_with fail
                go_ret
                exact ⟨rfl, HB7.out.trans (hB.mono HB7.out.size)⟩
    · have hn1 : (hpErr ws != 0) = true := by rw [bne_iff_ne]; exact h0
      have hwn1 : wnOut ws = [] := by simp [wnOut, h0]
      have HCK := Lib.hid (fun W (h : RdW W W.heap.size A ws) => mCheck_c A ws c ws.length W rfl hn h HO.out)
      obtain ⟨r, hr⟩ : ∃ r, hpErr ws = r := ⟨_, rfl⟩
      rw [hwn1, hr] at HWN
      rw [hr] at hn1 HCK
      clear hg hgn h0 hr hwn1
      go_enter Try.func9, Try.ntmps9
      go_wp2_with fail
      refine (alive27_c w).mono ?_
      rintro e w1 ⟨rfl, hB1⟩
      go_wp2_with fail
      refine (great25_c A ws.length c _ hn).mono ?_
      rintro e w1' ⟨rfl, rfl⟩
      rw [HG.out]
      go_wp2_with fail
      refine (HWN.out _ (HR.out.up hB1 hB1.size)).mono ?_
      rintro e w2 ⟨⟨A2, c2, rfl, -, -⟩, hB2⟩
      have hb2 := hB1.trans (hB2.mono hB1.size)
      go_wp2_with fail
      refine (HCK.out _ (HR.out.up hb2 hb2.size)).mono ?_
      rintro e w3 ⟨rfl, hB3⟩
      have hb3 := hb2.trans (hB3.mono hb2.size)
      go_wp2_with fail
      go_ret
      exact ⟨rfl, hb3⟩
  · have HG := Lib.hid hg
    clear hg
    go_enter Try.func9, Try.ntmps9
    go_wp2_with fail
    refine (alive27_c w).mono ?_
    rintro e w1 ⟨rfl, hB1⟩
    go_wp2_with fail
    refine (great25_c A ws.length c _ hn).mono ?_
    rintro e w1' ⟨rfl, rfl⟩
    rw [HG.out]
    go_wp2_with fail
    go_ret
    exact ⟨rfl, hB1⟩
end Go.Proofs.Ytkcancjalpjbgaa
