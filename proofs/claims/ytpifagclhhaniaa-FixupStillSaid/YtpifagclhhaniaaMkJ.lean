/- The law MarkJust: for words that are not great, just that is reached. -/
import Derived.Test.YtpifagclhhaniaaFldO
namespace Go.Proofs.Ytpifagclhhaniaa
open Go.RowKit

theorem refSz_c (n : Int) (w : World) : Calls Try.prog 57 #[.int .i64 n] w fun e w' => e = .returned (.bool (sizeOk n)) ∧ w = w' := by
  by_cases h1 : n < 256
  · have H : Hid (sizeOk n = false) := Lib.hid (by simp [sizeOk]; omega)
    go_enter Try.func57, Try.ntmps57
    go_wp2_with fail
    go_ret
    exact ⟨by rw [H.out]; rfl, rfl⟩
  · have h3 : 256 ≤ n := by omega
    clear h1
    by_cases h2 : 2048 < n
    · have H : Hid (sizeOk n = false) := Lib.hid (by simp [sizeOk]; omega)
      go_enter Try.func57, Try.ntmps57
      go_wp2_with fail
      go_ret
      exact ⟨by rw [H.out]; rfl, rfl⟩
    · have h4 : n ≤ 2048 := by omega
      have H : Hid (sizeOk n = (n % 8 == 0)) := Lib.hid (by simp [sizeOk, h3, h4])
      clear h2
      go_enter Try.func57, Try.ntmps57
      go_wp2_with fail
      go_ret
      exact ⟨by rw [H.out]; rfl, rfl⟩
theorem ref02Ok_c (A : Option Addr) (n c : Nat) (w : World) (hs : sizeOk (n : Int) = true) : Calls Try.prog 19 #[.slice A n c] w fun e w' => e = .returned (.int .i64 0) ∧ w = w' := by
  have HC := Lib.hid (refSz_c (n : Int) w)
  rw [hs] at HC
  clear hs
  go_enter Try.func19, Try.ntmps19
  go_wp2_with fail
  refine HC.out.mono ?_
  rintro e w1 ⟨rfl, rfl⟩
  go_wp2_with fail
  go_ret
  exact ⟨rfl, rfl⟩

/-- What is told behind the first k slots. -/
def told1 (ws : List Nat) (k : Nat) : List Bool := toldL ws.length (slTo ws k)
/-- What is told behind the first r objects. -/
noncomputable def told2 (ws : List Nat) (r : Nat) : List Bool := toldL ws.length (slTo ws 16 ++ ((rcOut ws).take r).flatMap (allV ws))
/-- What is told behind r objects and the first k references of the next. -/
noncomputable def told3 (ws : List Nat) (r : Nat) (R : List Int) (k : Nat) : List Bool := toldL ws.length ((slTo ws 16 ++ ((rcOut ws).take r).flatMap (allV ws)) ++ valsN ws R k)
theorem told1_succ (ws : List Nat) (k : Nat) : told1 ws (k + 1) = if (slAt ws k).used = true then (told1 ws k).set (slAt ws k).at_.toNat true else told1 ws k := by
  unfold told1
  rw [slTo_succ]
  split
  · rw [toldL_snoc]
  · rw [List.append_nil]
theorem told3_succ (ws : List Nat) (r : Nat) (R : List Int) {k : Nat} (h : k < R.length) : told3 ws r R (k + 1) = if wd ws R[k].toNat ≠ 0 then (told3 ws r R k).set (wd ws R[k].toNat) true else told3 ws r R k := by
  unfold told3
  rw [valsN_succ _ _ h, ← List.append_assoc]
  split
  · rw [toldL_snoc]
  · rw [List.append_nil]
theorem told3_zero (ws : List Nat) (r : Nat) (R : List Int) : told3 ws r R 0 = told2 ws r := by
  unfold told3 told2 valsN
  rw [List.take_zero, List.filterMap_nil, List.append_nil]
theorem told2_zero (ws : List Nat) : told2 ws 0 = told1 ws 16 := by
  unfold told2 told1
  rw [List.take_zero, List.flatMap_nil, List.append_nil]
theorem told2_succ (ws : List Nat) {r a : Nat} (h : r < (rcOut ws).length) (ha : (rcOut ws)[r] = (a : Int)) : told2 ws (r + 1) = told3 ws r (refsL ws a) (refsL ws a).length := by
  unfold told2 told3
  rw [List.take_succ_eq_append_getElem h, List.flatMap_append, ← List.append_assoc, ha]
  have : allV ws (a : Int) = valsN ws (refsL ws a) (refsL ws a).length := by unfold allV; rw [Int.toNat_natCast]
  rw [← this]
  simp
theorem told1_len (ws : List Nat) (k : Nat) : (told1 ws k).length = ws.length := toldL_len _ _
theorem told2_len (ws : List Nat) (k : Nat) : (told2 ws k).length = ws.length := toldL_len _ _
theorem told3_len (ws : List Nat) (r : Nat) (R : List Int) (k : Nat) : (told3 ws r R k).length = ws.length := toldL_len _ _
theorem told2_end {ws : List Nat} (h : rcErr ws = 0) : told2 ws (rcOut ws).length = seenL ws := by
  unfold told2
  rw [List.take_length]
  exact just_told h
theorem told1_zero (ws : List Nat) : told1 ws 0 = List.replicate ws.length false := rfl
theorem rc_at {ws : List Nat} (h : rcErr ws = 0) {r : Nat} (hr : r < (rcOut ws).length) : ∃ a : Nat, (rcOut ws)[r] = (a : Int) ∧ a < ws.length ∧ Rch ws a := (rcOut_mem h _).1 (List.getElem_mem hr)

theorem own_set_far25 {w : World} {H n : Nat} {e : TypeId} {sz : Nat} {v : Value} {xs : List Value} (h : w.ownsRow H e sz v n xs) {p : Addr} (hp : v.ownBlock ≠ some p.block) (u : Value) : (w.setCell p u).ownsRow H e sz v n xs := by
  refine ⟨h.1, ?_⟩
  rcases h.2 with h1 | ⟨g', cap, cur, h1, h2, h3, h4⟩
  · exact .inl h1
  · subst h1
    refine .inr ⟨g', cap, cur, rfl, h2, ?_, h4⟩
    exact (Below.heap_setCell w p u g' (fun e => hp (by simp [Value.ownBlock, e]))).trans h3

set_option maxRecDepth 100000 in
set_option maxHeartbeats 16000000 in
theorem markJust_walk (w : World) (A : Option Addr) (ws : List Nat) (c : Nat) (hn : ws.length ≤ maxLen) (_hc : ws.length ≤ c) (hr : RdW w w.heap.size A ws) (ho : ∀ x ∈ ws, x < 18446744073709551616) :
    Calls Try.prog 3 #[.slice A ws.length c] w fun e w' => e = .returned (.bool true) ∧ Below w.heap.size w w' := by
  unfold maxLen at hn
  have HR := Lib.hid hr
  have HO := Lib.hid ho
  clear hr ho
  cases hg : greatW ws.length
  · have HG := Lib.hid hg
    have hgn := greatW_no hg
    have hlen : ws.length ≤ 2060 := by omega
    have HRC := Lib.hid (fun W (h : RdW W W.heap.size A ws) => mReached_c A ws c ws.length W rfl hn h HO.out)
    unfold RcdRes at HRC
    by_cases h0 : rcErr ws = 0
    · have hsl := (rcErr_zero h0).2.1
      have hsz := (hpErr_zero (rcErr_zero h0).1).1
      have hb := fr_bd ws hsz
      have HHA := Lib.hid (fun W (h : RdW W W.heap.size A ws) => hAll_c A ws c ws.length W rfl hn h HO.out)
      unfold HaRes at HHA
      rw [(hdlErr_ok hsz hsl).1, (hdlErr_ok hsz hsl).2, slL_len] at HHA
      have H02 := Lib.hid (fun W => ref02Ok_c A ws.length c W hsz)
      have HFO := Lib.hid (fun a W (ha : Rch ws a) (h : RdW W W.heap.size A ws) => fieldsOf_c A ws c ws.length a W rfl (by omega) h0 ha h HO.out)
      rw [h0] at HRC
      have HSI := Lib.hid (fun i (hi : i < 16) hu => slot_in h0 hi hu)
      have HT1 := Lib.hid (fun k => told1_succ ws k)
      have HL1 := Lib.hid (fun k => told1_len ws k)
      have HT2 := Lib.hid (fun r a (h : r < (rcOut ws).length) ha => told2_succ ws h (a := a) ha)
      have HL2 := Lib.hid (fun k => told2_len ws k)
      have HT3 := Lib.hid (fun r a k (h : k < (refsL ws a).length) => told3_succ ws r (refsL ws a) h)
      have HL3 := Lib.hid (fun r a k => told3_len ws r (refsL ws a) k)
      have HZ3 := Lib.hid (fun r a => told3_zero ws r (refsL ws a))
      have HE2 := Lib.hid (told2_end h0)
      have HAT := Lib.hid (fun r (h : r < (rcOut ws).length) => rc_at h0 h)
      have HRV := Lib.hid (fun a (ha : Rch ws a) r (hr : r ∈ refsL ws a) => rch_val h0 ha hr)
      have HINC := Lib.hid (rcOut_inc h0)
      have HRS := Lib.hid (rcOut_seen h0)
      have HSL := Lib.hid (seenL_len ws)
      have hrl : (rcOut ws).length ≤ 2060 := by
        rw [rcOut_seen h0]
        have := seenTo_len (seenL ws) ws.length
        omega
      have HRF8 := Lib.hid (fun a => Nat.le_trans (refsN_len ws a _) (flds_le ws a))
      obtain ⟨i1, hj, hy0, hy1, hy2⟩ := info_parts infoBool'
      have HIB := Lib.hid (And.intro hj (And.intro hy0 (And.intro hy1 hy2)))
      obtain ⟨R, hR⟩ : ∃ R, rcOut ws = R := ⟨_, rfl⟩
      rw [hR] at HRC HT2 HE2 HAT HINC HRS hrl
      have hb1 := hb.1
      have hb2 := hb.2.1
      clear hg hgn h0 hsl hsz hb hR hj hy0 hy1 hy2
      go_enter Try.func3, Try.ntmps3
      go_wp2_with fail
      refine (alive25_c w).mono ?_
      rintro e w1 ⟨rfl, hB1⟩
      go_wp2_with fail
      refine (great25_c A ws.length c _ hn).mono ?_
      rintro e w1' ⟨rfl, rfl⟩
      rw [HG.out]
      go_wp2_with fail
      refine (HRC.out _ (HR.out.up hB1 hB1.size)).mono ?_
      rintro e w2 ⟨⟨A2, c2, rfl, hr2, -⟩, hB2⟩
      have HB2 := Lib.hid (hB1.trans (hB2.mono hB1.size))
      have HQ2 := Lib.hid hr2
      have HW2 := Lib.hid (HR.out.up HB2.out HB2.out.size)
      clear hr2 hB2 hB1
      go_wp2_with fail
      refine (HHA.out _ HW2.out).mono ?_
      rintro e w6 ⟨⟨A6, c6, rfl, hr6, -⟩, hB6⟩
      have HB6 := Lib.hid (HB2.out.trans (hB6.mono HB2.out.size))
      have HQ6 := Lib.hid (HQ2.out.up hB6 hB6.size)
      have HW6 := Lib.hid (HW2.out.up hB6 hB6.size)
      have HS6 := Lib.hid hr6
      clear hr6 hB6
      go_wp2_with fail
      refine (H02.out _).mono ?_
      rintro e w6' ⟨rfl, rfl⟩
      obtain ⟨W3, hmk, hown0, hg0⟩ := run_make_full (P := Try.prog) w6 w6.heap.size 33 4 i1 (.bool false) 1 Try.underlying33 HIB.out.1 HIB.out.2.1 HIB.out.2.2.1 .i64 .i64 ws.length (by rw [HIB.out.2.2.2]; omega) (by unfold maxLen; omega) (Nat.le_refl _)
      have hSE : W3.ownsRow w6.heap.size 4 1 (.slice (some ⟨w6.heap.size, 0, none⟩) ws.length ws.length) ws.length ((told1 ws 0).flatMap boolCells) := by
        rw [told1_zero, bools_zero, ← toList_madeCells_one]; have := hown0; rw [Nat.mul_one] at this; exact this
      have HSE := Lib.hid hSE
      have HB7 := Lib.hid ((Below.refl w6.heap.size w6).grown hg0 (Nat.le_refl _) (fun k hk => by cases hk))
      clear hown0 hg0 hSE
      go_wp2_with fail
      go_loopw [9] (fun i wr => ∃ k : Nat, k ≤ 16 ∧ i = .int .i64 k ∧ wr.ownsRow w6.heap.size 4 1 (.slice (some ⟨w6.heap.size, 0, none⟩) ws.length ws.length) ws.length ((told1 ws k).flatMap boolCells) ∧ Below w6.heap.size w6 wr) (fun i _ => 16 - (intOf i).toNat)
      case atStart => exact ⟨0, Nat.zero_le _, rfl, HSE.out, HB7.out⟩
      case round =>
        obtain ⟨k, hk, rfl, hown, hB⟩ := hrel
        have hz := hB.size
        by_cases hlt : k < 16
        · obtain ⟨bS, oS, rfl, hbS, s0, s1, s2⟩ := RdS.at_ (Rd.below HS6.out hB) (show k < (slL ws).length by rw [slL_len]; exact hlt)
          rw [slL_get] at s0 s1 s2
          have HTN := Lib.hid (HT1.out k)
          have HSIk := HSI.out k hlt
          have hfl := HL1.out k
          obtain ⟨fl, hflq⟩ : ∃ fl, told1 ws k = fl := ⟨_, rfl⟩
          rw [hflq] at hown HTN hfl
          obtain ⟨x, hx⟩ : ∃ x, slAt ws k = x := ⟨_, rfl⟩
          rw [hx] at s0 s1 s2 HTN HSIk
          obtain ⟨xg, xu, xa⟩ := x
          dsimp only at s0 s1 s2 HTN HSIk
          have hki : (k : Int) < 16 := by omega
          have hk0 : (0 : Int) ≤ (k : Int) := by omega
          clear hflq hx
          cases xu
          · have HTS := Lib.hid (show told1 ws (k + 1) = fl by rw [HTN.out]; simp)
            clear HTN HSIk
            go_wp2_with fail
            go_roundw
            case rel => exact ⟨k + 1, by omega, by go_num, by rw [HTS.out]; exact hown, hB⟩
            case measure => simp [intOf]; omega
          · obtain ⟨a, ha, hal⟩ := HSIk rfl
            subst ha
            have HTS := Lib.hid (show told1 ws (k + 1) = fl.set a true by rw [HTN.out, if_pos rfl, Int.toNat_natCast])
            have d1 : decide ((a : Int) < 0) = false := by rw [decide_eq_false_iff_not]; omega
            have d2 : decide ((ws.length : Int) ≤ (a : Int)) = false := by rw [decide_eq_false_iff_not]; omega
            have d2n : decide (ws.length ≤ a) = false := by rw [decide_eq_false_iff_not]; omega
            have ai : (a : Int) < (ws.length : Int) := by omega
            have a0 : (0 : Int) ≤ (a : Int) := by omega
            have c0 := (hown.cellAt a (by omega)).trans (bools_get fl a (by omega))
            have f0 := hown.frozenAt a
            have HHN := Lib.hid (show (wr.setCell ⟨w6.heap.size, a, none⟩ (.bool true)).ownsRow w6.heap.size 4 1 (.slice (some ⟨w6.heap.size, 0, none⟩) ws.length ws.length) ws.length ((fl.set a true).flatMap boolCells) by
              rw [bools_set]; exact (hown.stored a (.bool true)).1)
            have HBN := Lib.hid (hB.setCell (p := ⟨w6.heap.size, a, none⟩) (Nat.le_refl _) (.bool true))
            clear HTN HSIk hown hal
            go_wp2_with fail
            go_roundw
            case rel => exact ⟨k + 1, by omega, by go_num, by rw [HTS.out]; exact HHN.out, HBN.out⟩
            case measure => simp [intOf]; omega
        · have hk16 : k = 16 := by omega
          have HOB := Lib.hid (show wr.ownsRow w6.heap.size 4 1 (.slice (some ⟨w6.heap.size, 0, none⟩) ws.length ws.length) ws.length ((told2 ws 0).flatMap boolCells) by rw [told2_zero, ← hk16]; exact hown)
          have HBB := Lib.hid hB
          have hkn : decide ((k : Int) < 16) = false := by rw [decide_eq_false_iff_not]; omega
          have hknn : decide (k < 16) = false := by rw [decide_eq_false_iff_not]; omega
          clear hown hB hz hk16 hlt
          go_wp2_with fail
          go_loopw [10] (fun i wr => ∃ r : Nat, r ≤ R.length ∧ i = .int .i64 r ∧ wr.ownsRow w6.heap.size 4 1 (.slice (some ⟨w6.heap.size, 0, none⟩) ws.length ws.length) ws.length ((told2 ws r).flatMap boolCells) ∧ Below w6.heap.size w6 wr) (fun i _ => R.length - (intOf i).toNat)
          case atStart => exact ⟨0, Nat.zero_le _, rfl, HOB.out, HBB.out⟩
          case round =>
            obtain ⟨r, hr, rfl, hown, hB⟩ := hrel
            have hz := hB.size
            by_cases hlt : r < R.length
            · obtain ⟨bR, oR, rfl, hbR, r0⟩ := RdI.at_ (Rd.below HQ6.out hB) hlt
              obtain ⟨a, ha, hal, hra⟩ := HAT.out r hlt
              have HTE := Lib.hid (HT2.out r a hlt ha)
              have HZE := Lib.hid (HZ3.out r a)
              have HTK := Lib.hid (fun k h => HT3.out r a k h)
              have HLK := Lib.hid (fun k => HL3.out r a k)
              have HV := Lib.hid (HRV.out a hra)
              have hr8 : (refsL ws a).length ≤ 8 := HRF8.out a
              have HF := Lib.hid (HFO.out a _ hra (HW6.out.up hB hz))
              have hinc : ∀ h : 0 < r, R[r - 1] < R[r] := fun h => List.pairwise_iff_getElem.1 HINC.out (r - 1) r (by omega) hlt (by omega)
              rw [ha] at r0 hinc
              obtain ⟨G, hG⟩ : ∃ G, refsL ws a = G := ⟨_, rfl⟩
              rw [hG] at HTE HZE HTK HLK HV hr8 HF
              have hri : (r : Int) < (R.length : Int) := by omega
              have hr0 : (0 : Int) ≤ (r : Int) := by omega
              have HOW := Lib.hid hown
              have HBR := Lib.hid hB
              clear hG ha hra hown
              by_cases hc0 : r = 0
              · have hd0 : decide ((0 : Int) < (r : Int)) = false := by rw [decide_eq_false_iff_not]; omega
                have hd0n : decide (0 < r) = false := by rw [decide_eq_false_iff_not]; omega
                clear hinc hc0 hB
                go_wp2_with fail
                refine HF.out.mono ?_
                rintro e w8 ⟨⟨A8, c8, rfl, hr8'⟩, hB8⟩
                have HB8 := Lib.hid (HBR.out.trans (hB8.mono hz))
                have HO8 := Lib.hid (own_below HOW.out hB8 (Nat.le_refl _))
                have HG8 := Lib.hid (own_mono hr8' (Nat.zero_le _))
                have HNE := Lib.hid (show (Value.slice A8 G.length c8).ownBlock ≠ some w6.heap.size from fun h => by
                  rcases own_sep hr8' HO8.out (by decide) with h9 | h9
                  · rw [h] at h9; cases h9
                  · exact h9 h)
                have r0 := (hB8.cell (p := ⟨bR, oR + r, none⟩) (by dsimp only; omega)).trans r0
                clear hr8'
                go_wp2_with fail
                go_quiet (fail)
                have HB9 := Lib.hid (below_drewN HB8.out nq)
                have HO9 := Lib.hid (show (w8.drewN nq).ownsRow w6.heap.size 4 1 (.slice (some ⟨w6.heap.size, 0, none⟩) ws.length ws.length) ws.length ((told2 ws r).flatMap boolCells) from HO8.out)
                have HG9 := Lib.hid (show (w8.drewN nq).ownsRow 0 3 1 (.slice A8 G.length c8) G.length (G.flatMap intCells) from HG8.out)
                obtain ⟨wD, hwD⟩ : ∃ wD, w8.drewN nq = wD := ⟨_, rfl⟩
                rw [hwD] at HB9 HO9 HG9 ⊢
                rw [← HZE.out] at HO9
                clear hwD hB8 r0 HOW HBR HB8 HO8 HG8 hz
                go_wp2_with fail
                go_loopw [13] (fun i wr => ∃ k : Nat, k ≤ G.length ∧ i = .int .i64 k ∧ wr.ownsRow w6.heap.size 4 1 (.slice (some ⟨w6.heap.size, 0, none⟩) ws.length ws.length) ws.length ((told3 ws r G k).flatMap boolCells) ∧ wr.ownsRow 0 3 1 (.slice A8 G.length c8) G.length (G.flatMap intCells) ∧ Below w6.heap.size w6 wr) (fun i _ => G.length - (intOf i).toNat)
                case atStart => exact ⟨0, Nat.zero_le _, rfl, HO9.out, HG9.out, HB9.out⟩
                case round =>
                  obtain ⟨k, hk, rfl, hown, hGo, hB⟩ := hrel
                  have hz := hB.size
                  by_cases hlt3 : k < G.length
                  · obtain ⟨bG, oG, rfl, hbG, g0⟩ := RdI.at_ (show RdI wr wr.heap.size A8 G from Rd.of_own hGo) hlt3
                    obtain ⟨⟨j, ej, hj⟩, hv1, -⟩ := HV.out G[k] (List.getElem_mem hlt3)
                    obtain ⟨bW, oW, rfl, hbW, x0⟩ := RdW.at_ (Rd.below HW6.out hB) hj
                    rw [← wd_get] at x0
                    have HTN := Lib.hid (HTK.out k hlt3)
                    have hfl := HLK.out k
                    rw [ej, Int.toNat_natCast] at HTN hv1
                    rw [ej] at g0
                    obtain ⟨fl, hflq⟩ : ∃ fl, told3 ws r G k = fl := ⟨_, rfl⟩
                    rw [hflq] at hown HTN hfl
                    obtain ⟨v, hv⟩ : ∃ v, wd ws j = v := ⟨_, rfl⟩
                    rw [hv] at x0 HTN hv1
                    have hki : (k : Int) < (G.length : Int) := by omega
                    have hk0 : (0 : Int) ≤ (k : Int) := by omega
                    have hji : (j : Int) < (ws.length : Int) := by omega
                    have hj0 : (0 : Int) ≤ (j : Int) := by omega
                    have hwl : IntKind.u64.wrap (ws.length : Int) = (ws.length : Int) := IntWalk.u64_in _ (by omega)
                    have dv : decide ((ws.length : Int) ≤ (v : Int)) = false := by rw [decide_eq_false_iff_not]; omega
                    have dvn : decide (ws.length ≤ v) = false := by rw [decide_eq_false_iff_not]; omega
                    have vi : (v : Int) < (ws.length : Int) := by omega
                    have v0 : (0 : Int) ≤ (v : Int) := by omega
                    clear hflq hv ej
                    by_cases hv0 : v = 0
                    · have HTS := Lib.hid (show told3 ws r G (k + 1) = fl by rw [HTN.out, if_neg (fun h => h hv0)])
                      have dz : decide ((0 : Int) < (v : Int)) = false := by rw [decide_eq_false_iff_not]; omega
                      have dzn : decide (0 < v) = false := by rw [decide_eq_false_iff_not]; omega
                      clear HTN hv0
                      go_wp2_with fail
                      go_roundw
                      case rel => exact ⟨k + 1, by omega, by go_num, by rw [HTS.out]; exact hown, hGo, hB⟩
                      case measure => simp [intOf]; omega
                    · have HTS := Lib.hid (show told3 ws r G (k + 1) = fl.set v true by rw [HTN.out, if_pos hv0])
                      have dz : decide ((0 : Int) < (v : Int)) = true := by rw [decide_eq_true_iff]; omega
                      have dzn : decide (0 < v) = true := by rw [decide_eq_true_iff]; omega
                      have c0 := (hown.cellAt v (by omega)).trans (bools_get fl v (by omega))
                      have f0 := hown.frozenAt v
                      have HHN := Lib.hid (show (wr.setCell ⟨w6.heap.size, v, none⟩ (.bool true)).ownsRow w6.heap.size 4 1 (.slice (some ⟨w6.heap.size, 0, none⟩) ws.length ws.length) ws.length ((fl.set v true).flatMap boolCells) by
                        rw [bools_set]; exact (hown.stored v (.bool true)).1)
                      have HBN := Lib.hid (hB.setCell (p := ⟨w6.heap.size, v, none⟩) (Nat.le_refl _) (.bool true))
                      have HGN := Lib.hid (own_set_far25 hGo (p := ⟨w6.heap.size, v, none⟩) HNE.out (.bool true))
                      clear HTN hv0 hown hGo
                      go_wp2_with fail
                      go_roundw
                      case rel => exact ⟨k + 1, by omega, by go_num, by rw [HTS.out]; exact HHN.out, HGN.out, HBN.out⟩
                      case measure => simp [intOf]; omega
                  · obtain rfl : k = G.length := by omega
                    rw [← HTE.out] at hown
                    have HOE := Lib.hid hown
                    have HBE := Lib.hid hB
                    clear hown hGo hB hz
                    go_wp2_with fail
                    go_roundw
                    case rel => exact ⟨r + 1, by omega, by go_num, HOE.out, HBE.out⟩
                    case measure => simp [intOf]; omega
              · have hlm1 : r - 1 < R.length := by omega
                have e4 := hinc (by omega)
                obtain ⟨b4, off4, hA4, hbw4, r2⟩ := RdI.at_ (Rd.below HQ6.out hB) hlm1
                cases hA4
                obtain ⟨y2, hy2⟩ : ∃ y2, R[r - 1] = y2 := ⟨_, rfl⟩
                rw [hy2] at r2 e4
                have hm0' : (0 : Int) < (r : Int) := by omega
                have hd0 : decide ((0 : Int) < (r : Int)) = true := by rw [decide_eq_true_iff]; omega
                have hd0n : decide (0 < r) = true := by rw [decide_eq_true_iff]; omega
                have hmi1 : (r : Int) - 1 < (R.length : Int) := by omega
                have hmi2 : (0 : Int) ≤ (r : Int) - 1 := by omega
                have hmw : IntKind.i64.wrap ((r : Int) - 1) = (r : Int) - 1 := IntWalk.i64_in _ (by omega)
                have hmt : ((r : Int) - 1).toNat = r - 1 := by omega
                have hd3 : decide ((a : Int) ≤ y2) = false := by rw [decide_eq_false_iff_not]; omega
                clear hinc hy2 hc0 e4 hB
                go_wp2_with fail
                refine HF.out.mono ?_
                rintro e w8 ⟨⟨A8, c8, rfl, hr8'⟩, hB8⟩
                have HB8 := Lib.hid (HBR.out.trans (hB8.mono hz))
                have HO8 := Lib.hid (own_below HOW.out hB8 (Nat.le_refl _))
                have HG8 := Lib.hid (own_mono hr8' (Nat.zero_le _))
                have HNE := Lib.hid (show (Value.slice A8 G.length c8).ownBlock ≠ some w6.heap.size from fun h => by
                  rcases own_sep hr8' HO8.out (by decide) with h9 | h9
                  · rw [h] at h9; cases h9
                  · exact h9 h)
                have r0 := (hB8.cell (p := ⟨bR, oR + r, none⟩) (by dsimp only; omega)).trans r0
                clear hr8'
                go_wp2_with fail
                have r2 := (hB8.cell (p := ⟨bR, oR + (r - 1), none⟩) (by dsimp only; omega)).trans r2
                go_quiet (fail)
                have HB9 := Lib.hid (below_drewN HB8.out nq)
                have HO9 := Lib.hid (show (w8.drewN nq).ownsRow w6.heap.size 4 1 (.slice (some ⟨w6.heap.size, 0, none⟩) ws.length ws.length) ws.length ((told2 ws r).flatMap boolCells) from HO8.out)
                have HG9 := Lib.hid (show (w8.drewN nq).ownsRow 0 3 1 (.slice A8 G.length c8) G.length (G.flatMap intCells) from HG8.out)
                obtain ⟨wD, hwD⟩ : ∃ wD, w8.drewN nq = wD := ⟨_, rfl⟩
                rw [hwD] at HB9 HO9 HG9 ⊢
                rw [← HZE.out] at HO9
                clear hwD hB8 r0 HOW HBR HB8 HO8 HG8 hz
                go_wp2_with fail
                go_loopw [13] (fun i wr => ∃ k : Nat, k ≤ G.length ∧ i = .int .i64 k ∧ wr.ownsRow w6.heap.size 4 1 (.slice (some ⟨w6.heap.size, 0, none⟩) ws.length ws.length) ws.length ((told3 ws r G k).flatMap boolCells) ∧ wr.ownsRow 0 3 1 (.slice A8 G.length c8) G.length (G.flatMap intCells) ∧ Below w6.heap.size w6 wr) (fun i _ => G.length - (intOf i).toNat)
                case atStart => exact ⟨0, Nat.zero_le _, rfl, HO9.out, HG9.out, HB9.out⟩
                case round =>
                  obtain ⟨k, hk, rfl, hown, hGo, hB⟩ := hrel
                  have hz := hB.size
                  by_cases hlt3 : k < G.length
                  · obtain ⟨bG, oG, rfl, hbG, g0⟩ := RdI.at_ (show RdI wr wr.heap.size A8 G from Rd.of_own hGo) hlt3
                    obtain ⟨⟨j, ej, hj⟩, hv1, -⟩ := HV.out G[k] (List.getElem_mem hlt3)
                    obtain ⟨bW, oW, rfl, hbW, x0⟩ := RdW.at_ (Rd.below HW6.out hB) hj
                    rw [← wd_get] at x0
                    have HTN := Lib.hid (HTK.out k hlt3)
                    have hfl := HLK.out k
                    rw [ej, Int.toNat_natCast] at HTN hv1
                    rw [ej] at g0
                    obtain ⟨fl, hflq⟩ : ∃ fl, told3 ws r G k = fl := ⟨_, rfl⟩
                    rw [hflq] at hown HTN hfl
                    obtain ⟨v, hv⟩ : ∃ v, wd ws j = v := ⟨_, rfl⟩
                    rw [hv] at x0 HTN hv1
                    have hki : (k : Int) < (G.length : Int) := by omega
                    have hk0 : (0 : Int) ≤ (k : Int) := by omega
                    have hji : (j : Int) < (ws.length : Int) := by omega
                    have hj0 : (0 : Int) ≤ (j : Int) := by omega
                    have hwl : IntKind.u64.wrap (ws.length : Int) = (ws.length : Int) := IntWalk.u64_in _ (by omega)
                    have dv : decide ((ws.length : Int) ≤ (v : Int)) = false := by rw [decide_eq_false_iff_not]; omega
                    have dvn : decide (ws.length ≤ v) = false := by rw [decide_eq_false_iff_not]; omega
                    have vi : (v : Int) < (ws.length : Int) := by omega
                    have v0 : (0 : Int) ≤ (v : Int) := by omega
                    clear hflq hv ej
                    by_cases hv0 : v = 0
                    · have HTS := Lib.hid (show told3 ws r G (k + 1) = fl by rw [HTN.out, if_neg (fun h => h hv0)])
                      have dz : decide ((0 : Int) < (v : Int)) = false := by rw [decide_eq_false_iff_not]; omega
                      have dzn : decide (0 < v) = false := by rw [decide_eq_false_iff_not]; omega
                      clear HTN hv0
                      go_wp2_with fail
                      go_roundw
                      case rel => exact ⟨k + 1, by omega, by go_num, by rw [HTS.out]; exact hown, hGo, hB⟩
                      case measure => simp [intOf]; omega
                    · have HTS := Lib.hid (show told3 ws r G (k + 1) = fl.set v true by rw [HTN.out, if_pos hv0])
                      have dz : decide ((0 : Int) < (v : Int)) = true := by rw [decide_eq_true_iff]; omega
                      have dzn : decide (0 < v) = true := by rw [decide_eq_true_iff]; omega
                      have c0 := (hown.cellAt v (by omega)).trans (bools_get fl v (by omega))
                      have f0 := hown.frozenAt v
                      have HHN := Lib.hid (show (wr.setCell ⟨w6.heap.size, v, none⟩ (.bool true)).ownsRow w6.heap.size 4 1 (.slice (some ⟨w6.heap.size, 0, none⟩) ws.length ws.length) ws.length ((fl.set v true).flatMap boolCells) by
                        rw [bools_set]; exact (hown.stored v (.bool true)).1)
                      have HBN := Lib.hid (hB.setCell (p := ⟨w6.heap.size, v, none⟩) (Nat.le_refl _) (.bool true))
                      have HGN := Lib.hid (own_set_far25 hGo (p := ⟨w6.heap.size, v, none⟩) HNE.out (.bool true))
                      clear HTN hv0 hown hGo
                      go_wp2_with fail
                      go_roundw
                      case rel => exact ⟨k + 1, by omega, by go_num, by rw [HTS.out]; exact HHN.out, HGN.out, HBN.out⟩
                      case measure => simp [intOf]; omega
                  · obtain rfl : k = G.length := by omega
                    rw [← HTE.out] at hown
                    have HOE := Lib.hid hown
                    have HBE := Lib.hid hB
                    clear hown hGo hB hz
                    go_wp2_with fail
                    go_roundw
                    case rel => exact ⟨r + 1, by omega, by go_num, HOE.out, HBE.out⟩
                    case measure => simp [intOf]; omega
            · obtain rfl : r = R.length := by omega
              rw [HE2.out] at hown
              have HOS := Lib.hid hown
              have HBS := Lib.hid hB
              clear hown hB hz
              have HQR := Lib.hid (HQ6.out.up HBS.out HBS.out.size)
              have HBF := Lib.hid (HB6.out.trans (HBS.out.mono HB6.out.size))
              obtain ⟨S, hS⟩ : ∃ S, seenL ws = S := ⟨_, rfl⟩
              rw [hS] at HOS HRS HSL
              obtain ⟨wS, hwS⟩ : ∃ wS, wr = wS := ⟨_, rfl⟩
              rw [hwS] at HOS HQR HBF ⊢
              have HSU := Lib.hid (fun k => seenTo_succ S k)
              have HSA := Lib.hid (fun k n (h : k < n) hs => seenTo_at (S := S) h hs)
              clear hS hwS HBS
              go_wp2_with fail
              go_loopw [15, 16] (fun nv i wr => ∃ k : Nat, k ≤ ws.length ∧ i = .int .i64 k ∧ nv = .int .i64 ((seenTo S k).length : Nat) ∧ Below wS.heap.size wS wr) (fun _ i _ => ws.length - (intOf i).toNat)
              case atStart => exact ⟨0, Nat.zero_le _, rfl, rfl, Below.refl _ _⟩
              case round =>
                obtain ⟨q, hq, rfl, rfl, hB⟩ := hrel
                have hz := hB.size
                by_cases hlt4 : q < ws.length
                · have c0 := ((own_below HOS.out hB (Nat.le_refl _)).cellAt q (by omega)).trans (bools_get S q (by rw [HSL.out]; exact hlt4))
                  have HUN := Lib.hid (HSU.out q)
                  have HAN := Lib.hid (HSA.out q ws.length hlt4)
                  rw [← HRS.out] at HAN
                  obtain ⟨m, hm⟩ : ∃ m, (seenTo S q).length = m := ⟨_, rfl⟩
                  rw [hm] at HAN
                  simp only [hm]
                  have HM := Lib.hid hm
                  obtain ⟨b, hb⟩ : ∃ b, S[q]?.getD false = b := ⟨_, rfl⟩
                  rw [hb] at c0 HUN HAN
                  have hqi : (q : Int) < (ws.length : Int) := by omega
                  have hq0 : (0 : Int) ≤ (q : Int) := by omega
                  clear hb hm
                  cases b
                  · have HS2 := Lib.hid (show (seenTo S (q + 1)).length = m by rw [HUN.out, if_neg (by decide), List.append_nil]; exact HM.out)
                    clear HUN HAN
                    go_wp2_with fail
                    go_roundw
                    case rel => exact ⟨q + 1, by omega, by go_num, by rw [HS2.out], hB⟩
                    case measure => simp [intOf]; omega
                  · have HS2 := Lib.hid (show (seenTo S (q + 1)).length = m + 1 by rw [HUN.out, if_pos rfl, List.length_append, HM.out]; rfl)
                    obtain ⟨hmR, eR⟩ := List.getElem?_eq_some_iff.1 (HAN.out rfl)
                    obtain ⟨b9, o9, eA, hb9, r9⟩ := RdI.at_ (Rd.below HQR.out hB) hmR
                    rw [eR] at r9
                    have hmi : (m : Int) < (R.length : Int) := by omega
                    have hm0 : (0 : Int) ≤ (m : Int) := by omega
                    have dm : decide ((R.length : Int) ≤ (m : Int)) = false := by rw [decide_eq_false_iff_not]; omega
                    have dmn : decide (R.length ≤ m) = false := by rw [decide_eq_false_iff_not]; omega
                    have hne : ((q : Int) != (q : Int)) = false := by simp
                    subst eA
                    clear HUN HAN eR
                    go_wp2_with fail
                    go_roundw
                    case rel => exact ⟨q + 1, by omega, by go_num, by rw [HS2.out]; go_num, hB⟩
                    case measure => simp [intOf]; omega
                · obtain rfl : q = ws.length := by omega
                  have hle : (seenTo S ws.length).length = R.length := by rw [← HRS.out]
                  have HBE := Lib.hid (HBF.out.trans (hB.mono HBF.out.size))
                  rw [hle]
                  have heq : ((R.length : Int) == (R.length : Int)) = true := by simp
                  clear hle hB hz
                  go_wp2_with fail
                  go_ret
                  exact ⟨rfl, HBE.out⟩
    · have hn1 : (rcErr ws != 0) = true := by rw [bne_iff_ne]; exact h0
      have hq : rcOut ws = [] := rcOut_no h0
      obtain ⟨r, hr⟩ : ∃ r, rcErr ws = r := ⟨_, rfl⟩
      rw [hr, hq] at HRC
      rw [hr] at hn1
      clear hg hgn h0 hr hq
      go_enter Try.func3, Try.ntmps3
      go_wp2_with fail
      refine (alive25_c w).mono ?_
      rintro e w1 ⟨rfl, hB1⟩
      go_wp2_with fail
      refine (great25_c _ ws.length c _ hn).mono ?_
      rintro e w1' ⟨rfl, rfl⟩
      rw [HG.out]
      go_wp2_with fail
      refine (HRC.out _ (HR.out.up hB1 hB1.size)).mono ?_
      rintro e w2 ⟨⟨A2, c2, rfl, -, -⟩, hB2⟩
      have HB2 := Lib.hid (hB1.trans (hB2.mono hB1.size))
      clear hB2 hB1
      go_wp2_with fail
      go_ret
      exact ⟨rfl, HB2.out⟩
  · have HG := Lib.hid hg
    clear hg
    go_enter Try.func3, Try.ntmps3
    go_wp2_with fail
    refine (alive25_c w).mono ?_
    rintro e w1 ⟨rfl, hB1⟩
    go_wp2_with fail
    refine (great25_c A ws.length c _ hn).mono ?_
    rintro e w1' ⟨rfl, rfl⟩
    rw [HG.out]
    go_wp2_with fail
    go_ret
    exact ⟨rfl, hB1⟩
end Go.Proofs.Ytpifagclhhaniaa
