/- The law StagesSmall: each change is small, the phase and the cursors never go back, and the changes are few. -/
import Derived.Test.YtpmfiibndiecpaaStgN
namespace Go.Proofs.Ytpmfiibndiecpaa
open Go.RowKit

theorem hpOut_few (ws : List Nat) : (hpOut ws).length ≤ ws.length := by
  unfold hpOut
  split
  · rename_i h
    obtain ⟨h1, l, h2, -⟩ := hpErr_zero h
    have hb := (sizeOk_iff _).1 h1
    have := (blocks_chain (by omega) _ _ h2 (by omega) (by omega) (by omega)).1
    rw [h2]; simp only [Option.getD_some]; omega
  · simp
theorem mzS_few {p : Nat} {x : List Nat} : mzS p x ≤ x.length + 3 := by
  unfold mzS stM
  split
  · split
    · by_cases h : rcErr x = 0
      · rw [wtOut_eq h, List.length_map]
        have h1 := wntL_len (seenL x) (hpOut x)
        have h2 := hpOut_few x
        omega
      · unfold wtOut; rw [if_neg h]; simp
    · split
      · by_cases h : hpErr x = 0
        · have hw : wnOut x = wantE (hpOut x) 128 := by unfold wnOut; rw [if_pos h]
          have h1 := wantE_len (hpOut x) 128
          have h2 := hpOut_few x
          rw [hw]; omega
        · unfold wnOut; rw [if_neg h]; simp
      · omega
  · omega
theorem sm_on {ws y : List Nat} {outs : List (List En)} (ho : ∀ v ∈ ws, v < 18446744073709551616) (h : sgAll ws = (0, outs, y)) :
    stX ws outs outs.length = y ∧ outs.length ≤ ws.length + 3 ∧ prErr ws = 0 ∧ ∀ i (hi : i < outs.length), Small ws.length outs[i] ∧ (stX ws outs i).length = ws.length ∧ (stX ws outs (i + 1)).length = ws.length ∧ (∀ v ∈ stX ws outs (i + 1), v < 18446744073709551616) ∧ prErr (stX ws outs (i + 1)) = 0 ∧
      onW (stX ws outs i) (stX ws outs (i + 1)) ∧ (i + 1 < outs.length → wd (stX ws outs (i + 1)) 16 = wd (stX ws outs i) 16) := by
  obtain ⟨hck, hon⟩ := sg_on ho h
  have ha : allE (wd ws 16) ws = (0, outs, y) := by unfold sgAll at h; rw [if_pos hck] at h; exact h
  obtain ⟨e1, -⟩ := all_last ho ha
  refine ⟨e1, Nat.le_trans (all_len ho ha) mzS_few, (ck_parts hck).1, fun i hi => ?_⟩
  obtain ⟨g1, g2, -, ⟨_, g4⟩, g5⟩ := hon i hi
  have hk := sg_ok g1 (by rw [g4])
  have hp := putS_lt g1 (by rw [g4])
  rw [g4] at hk hp
  dsimp only at hk hp
  have h9 : i + 1 < outs.length → wd (stX ws outs (i + 1)) 16 = wd (stX ws outs i) 16 := fun hl => by rw [(hon (i + 1) hl).2.2.2.2, g5]
  rw [stX_succ hi] at h9 ⊢
  refine ⟨?_, g2, by rw [putE_len]; exact g2, hp, hk.2.2.1, hk.2.2.2.1, h9⟩
  have := hk.2.1
  rw [g2] at this
  exact this
/-- What a walk needs of a step of the phase line. -/
theorem on_dec {ws xs : List Nat} (h : onW ws xs) : (wd xs 16 = wd ws 16 ∧ wd ws 17 ≤ wd xs 17 ∧ wd ws 18 ≤ wd xs 18) ∨ wd ws 16 < wd xs 16 := by
  by_cases e : wd xs 16 = wd ws 16
  · exact .inl ⟨e, h.2 e⟩
  · exact .inr (by have := h.1; omega)

set_option maxRecDepth 100000 in
set_option maxHeartbeats 16000000 in
theorem stagesSmall_walk (w : World) (A : Option Addr) (ws : List Nat) (c : Nat) (hn : ws.length ≤ maxLen) (_hc : ws.length ≤ c) (hr : RdW w w.heap.size A ws) (ho : ∀ x ∈ ws, x < 18446744073709551616) :
    Calls Try.prog 9 #[.slice A ws.length c] w fun e w' => e = .returned (.bool true) ∧ Below w.heap.size w w' := by
  unfold maxLen at hn
  have HR := Lib.hid hr
  have HO := Lib.hid ho
  clear hr ho
  cases hg : greatW ws.length
  · have HG := Lib.hid hg
    have hgn := greatW_no hg
    have hlen : ws.length ≤ 2060 := by omega
    have HAL := Lib.hid (fun W (h : RdW W W.heap.size A ws) => sgAll_c A ws c ws.length W rfl hn _hc h HO.out)
    unfold AlRes at HAL
    obtain ⟨err, outs, y, hall⟩ : ∃ err outs y, sgAll ws = (err, outs, y) := ⟨_, _, _, rfl⟩
    rw [hall] at HAL
    dsimp only at HAL
    by_cases h0 : err = 0
    · subst h0
      obtain ⟨hl1, hfew, hpr, hsm⟩ := sm_on HO.out hall
      have hck := (sg_on HO.out hall).1
      have hsz := (ck_parts hck).2.1
      have hbd := fr_bd ws hsz
      have HSM := Lib.hid hsm
      have HL1 := Lib.hid hl1
      have HPT := Lib.hid (fun A2 B x E c d W (hx : x.length = ws.length) (hE : Small ws.length E) (h : RdW W W.heap.size A2 x) (h2 : RdE W W.heap.size B E) => sPut_c A2 B x E c d ws.length E.length W.heap.size W hx rfl hsz hE.le (fun e he => by have := hE.ins e he; omega) h h2 (Nat.le_refl _))
      unfold OwnV at HPT
      have HPR := Lib.hid (fun W (h : RdW W W.heap.size A ws) => pRead_c A ws c ws.length W rfl hn _hc h HO.out)
      rw [show prV ws = phV (wd ws 16) (wd ws 17) (wd ws 18) by simp [prV, hpr], hpr] at HPR
      have HPX := Lib.hid (fun q (hq : q < outs.length) A2 c2 W (hc2 : ws.length ≤ c2) (h : RdW W W.heap.size A2 (stX ws outs (q + 1))) => pRead_c A2 (stX ws outs (q + 1)) c2 ws.length W (hsm q hq).2.2.1 hn hc2 h (hsm q hq).2.2.2.1)
      have HPV : Hid (∀ q (hq : q < outs.length), prV (stX ws outs (q + 1)) = phV (wd (stX ws outs (q + 1)) 16) (wd (stX ws outs (q + 1)) 17) (wd (stX ws outs (q + 1)) 18)) := Lib.hid fun q hq => by simp [prV, (hsm q hq).2.2.2.2.1]
      have HXL : Hid (∀ q, q ≤ outs.length → ∀ i, wd (stX ws outs q) i < 18446744073709551616) := Lib.hid fun q hq => by
        cases q with
        | zero => exact wd_lt HO.out
        | succ q => exact wd_lt (hsm q hq).2.2.2.1
      have HPN : Hid (∀ q, q ≤ outs.length → wd (stX ws outs q) 16 ≤ 2060 ∧ wd (stX ws outs q) 17 ≤ 2060 ∧ wd (stX ws outs q) 18 ≤ 2060) := Lib.hid fun q hq => by
        have h5 : prErr (stX ws outs q) = 0 ∧ (stX ws outs q).length = ws.length := by
          cases q with
          | zero => exact ⟨hpr, rfl⟩
          | succ q => exact ⟨(hsm q hq).2.2.2.2.1, (hsm q hq).2.2.1⟩
        obtain ⟨-, h3, -⟩ := prErr_zero h5.1
        obtain ⟨⟨l0, l1, l2⟩, -⟩ := (lineW_iff _).1 h3
        omega
      unfold phV at HPR HPV
      have hb1 := hbd.1
      have hlen16 : 256 ≤ ws.length := by omega
      clear hg hgn hck hsz hall hbd hsm hpr
      obtain ⟨i0, hi, hz0, hz1, hz2⟩ := info_parts infoWord
      have HI := Lib.hid hi
      have HZ0 := Lib.hid hz0
      have HZ1 := Lib.hid hz1
      have HZ2 := Lib.hid hz2
      clear hi hz0 hz1 hz2
      go_enter Try.func9, Try.ntmps9
      go_wp2_with fail
      refine (alive31_c w).mono ?_
      rintro e w1 ⟨rfl, hB1⟩
      go_wp2_with fail
      refine (great25_c A ws.length c _ hn).mono ?_
      rintro e w1' ⟨rfl, rfl⟩
      rw [HG.out]
      go_wp2_with fail
      refine (HAL.out _ (HR.out.up hB1 hB1.size)).mono ?_
      rintro e w3 ⟨⟨L, B3, d3, vx, rfl, hL, ⟨hLo, hLe⟩, hx, -⟩, hB3⟩
      obtain ⟨g3, c3, rfl, hyn, hx3⟩ := hx trivial
      have hll : L.length = outs.length := by rw [← hL, List.length_map]
      have HB3 := Lib.hid (hB1.trans (hB3.mono hB1.size))
      have HW3 := Lib.hid (HR.out.up HB3.out HB3.out.size)
      have HX3 := Lib.hid (Rd.of_own hx3)
      have HLO := Lib.hid (Rd.of_own hLo)
      have HLE := Lib.hid (fun x hx => Rd.of_own (hLe x hx))
      have HGET := Lib.hid (fun i (hi : i < L.length) => chs_get hL hi)
      have HXS := Lib.hid (fun i (hi : i < outs.length) => stX_succ (x := ws) hi)
      have hfew2 : L.length ≤ ws.length + 3 := by omega
      have HLL := Lib.hid hll
      have HYN := Lib.hid hyn
      clear hx hx3 hLo hLe hL hB1 hB3 hll hyn hfew
      have dnf : decide ((ws.length : Int) + 3 < (L.length : Int)) = false := by rw [decide_eq_false_iff_not]; omega
      have dnfn : decide (ws.length + 3 < L.length) = false := by rw [decide_eq_false_iff_not]; omega
      have wrf : IntKind.i64.wrap ((ws.length : Int) + 3) = (ws.length : Int) + 3 := IntWalk.i64_in _ (by omega)
      go_wp2_with fail
      refine (HPR.out _ HW3.out).mono ?_
      rintro e w4 ⟨rfl, hB4⟩
      have hba := hB4.alloc (by exact hB4.size) (.cells #[.int .i64 (wd ws 16 : Int), .int .i64 (wd ws 17 : Int), .int .i64 (wd ws 18 : Int)] 76)
      have BX4 := Lib.hid (Bx.new w4 76 #[.int .i64 (wd ws 16 : Int), .int .i64 (wd ws 17 : Int), .int .i64 (wd ws 18 : Int)])
      have HB4 := Lib.hid (HB3.out.trans (hB4.mono HB3.out.size))
      have HW4 := Lib.hid ((HW3.out.up hB4 hB4.size).alloc (Nat.le_refl _) (.cells #[.int .i64 (wd ws 16 : Int), .int .i64 (wd ws 17 : Int), .int .i64 (wd ws 18 : Int)] 76))
      have HLO4 := Lib.hid (HLO.out.up hB4 hB4.size)
      have HLE4 := Lib.hid (fun x hx => Rd.up (HLE.out x hx) hB4 hB4.size)
      have HX4 := Lib.hid (HX3.out.up hB4 hB4.size)
      clear hba hB4
      go_upto_region 8 with (fail)
      obtain ⟨W7, hW7⟩ : ∃ W, w4.alloc (.cells #[.int .i64 (wd ws 16 : Int), .int .i64 (wd ws 17 : Int), .int .i64 (wd ws 18 : Int)] 76) = W := ⟨_, rfl⟩
      have hz7 : W7.heap.size = w4.heap.size + 1 := by rw [← hW7]; simp
      have HB7 : Hid (Below w4.heap.size w4 W7) := Lib.hid (by rw [← hW7]; exact (Below.refl _ _).alloc (Nat.le_refl _) _)
      rw [hW7] at BX4 HW4 ⊢
      have HW7 := Lib.hid (Rd.more HW4.out (show w4.heap.size ≤ W7.heap.size by omega))
      have HZ7 := Lib.hid hz7
      clear hW7 hz7
      go_wp2_with (at_builtin; refine wpList_append_rd' _ (by rfl) _ _ 37 rfl W7.heap.size 22 i0 _ 1 8 Try.underlying37 HI.out HZ0.out HZ1.out HZ2.out rfl (by decide) (.slice (some ⟨W7.heap.size, 0, none⟩) 0 0) 0 [] (by rfl) (own_empty W7 _ _ _ (Nat.le_refl _)) W7.heap.size (A) (ws.length) _ (ws.flatMap wordCells) (by rfl) (by rw [words_len]; omega) (Rd.alloc (HW7.out) (Nat.le_refl _) _) (cells_one word_one _) (by unfold maxLen; omega) (by omega) (by simp) ?_; intro v1 wa hown1 hg1; have hBa := below_append0 ((Below.refl W7.heap.size W7).alloc (Nat.le_refl _) _) (by simp) (own_empty W7 W7.heap.size 22 1 (Nat.le_refl _)) hg1; simp only [Nat.zero_add, List.nil_append] at hown1; obtain ⟨ga, ca, rfl⟩ := own_some hown1 (by omega); have HOWN := Lib.hid hown1; have HBA := Lib.hid hBa; clear hown1 hBa hg1)
      have HXA : Hid (wa.ownsRow (w4.heap.size + 1) 22 1 (.slice (some ⟨ga, 0, none⟩) ws.length ca) ws.length ((stX ws outs 0).flatMap wordCells)) := Lib.hid (by rw [← HZ7.out]; exact HOWN.out)
      have HBW := Lib.hid (HB7.out.trans (HBA.out.mono HB7.out.size))
      have BXA := Lib.hid (BX4.out.up HBA.out BX4.out.lt)
      go_loopw [9, 10] (fun vx i wr => ∃ (q g cx : Nat), q ≤ outs.length ∧ i = .int .i64 q ∧ vx = .slice (some ⟨g, 0, none⟩) ws.length cx ∧ wr.ownsRow (w4.heap.size + 1) 22 1 (.slice (some ⟨g, 0, none⟩) ws.length cx) ws.length ((stX ws outs q).flatMap wordCells) ∧
          Bx wr w4.heap.size 76 #[.int .i64 (wd (stX ws outs q) 16 : Int), .int .i64 (wd (stX ws outs q) 17 : Int), .int .i64 (wd (stX ws outs q) 18 : Int)] ∧ Below w4.heap.size w4 wr) (fun _ i _ => outs.length - (intOf i).toNat)
      case atStart => exact ⟨0, ga, ca, Nat.zero_le _, rfl, rfl, HXA.out, BXA.out, HBW.out⟩
      case round =>
        obtain ⟨q, g, cx, hq, rfl, rfl, hown, bxq, hB⟩ := hrel
        have hz := hB.size
        have hll := HLL.out
        by_cases hlt : q < outs.length
        · have hqL : q < L.length := by omega
          obtain ⟨bL, oL, rfl, hbL, p1⟩ := RdC.at_ (Rd.below HLO4.out hB) hqL
          obtain ⟨hq2, e1⟩ := HGET.out q hqL
          have hx1 := HXS.out q hq2
          obtain ⟨hsmq, hxl, hxl2, -, hpq, honq, hsame⟩ := HSM.out q hq2
          obtain ⟨E, hE⟩ : ∃ E, outs[q] = E := ⟨_, rfl⟩
          rw [hE] at e1 hx1 hsmq
          have HP := Lib.hid (fun (h2 : RdE wr wr.heap.size (L[q]'hqL).A E) => HPT.out (some ⟨g, 0, none⟩) (L[q]'hqL).A (stX ws outs q) E cx (L[q]'hqL).c wr hxl hsmq (Rd.of_own hown) h2)
          rw [← hx1, hxl2] at HP
          have HEN := Lib.hid (show RdE wr wr.heap.size L[q].A L[q].l from Rd.up (HLE4.out _ (List.getElem_mem hqL)) hB hz)
          have HPXq := Lib.hid (fun A2 c2 W h1 h2 => HPX.out q hq2 A2 c2 W h1 h2)
          rw [hpq, HPV.out q hq2] at HPXq
          have HINC := Lib.hid (fun i j (hi : i < E.length) (hj : j < E.length) (h : i < j) => List.pairwise_iff_getElem.1 hsmq.inc i j hi hj h)
          have HINS := Lib.hid (fun i (hi : i < E.length) => hsmq.ins E[i] (List.getElem_mem hi))
          have hpos := hsmq.pos
          have hle := hsmq.le
          obtain ⟨x, hx⟩ : ∃ x, L[q] = x := ⟨_, rfl⟩
          rw [hx] at p1 HP HEN e1
          obtain ⟨xA, xc, xl⟩ := x
          dsimp only at p1 HP HEN e1
          obtain rfl := e1.symm
          obtain ⟨bn1, bn2, bn3⟩ := HPN.out q hq
          obtain ⟨bm1, bm2, bm3⟩ := HPN.out (q + 1) hq2
          have hor := on_dec honq
          have HOWN5 := Lib.hid hown
          have BXQ := Lib.hid bxq
          obtain ⟨b0, b1, b2, f0, f1, f2, hgl⟩ := bxq.c3
          obtain ⟨P, hP⟩ : ∃ P, wd (stX ws outs q) 16 = P := ⟨_, rfl⟩
          obtain ⟨F, hF⟩ : ∃ F, wd (stX ws outs q) 17 = F := ⟨_, rfl⟩
          obtain ⟨T, hT⟩ : ∃ T, wd (stX ws outs q) 18 = T := ⟨_, rfl⟩
          obtain ⟨P2, hP2⟩ : ∃ P, wd (stX ws outs (q + 1)) 16 = P := ⟨_, rfl⟩
          obtain ⟨F2, hF2⟩ : ∃ F, wd (stX ws outs (q + 1)) 17 = F := ⟨_, rfl⟩
          obtain ⟨T2, hT2⟩ : ∃ T, wd (stX ws outs (q + 1)) 18 = T := ⟨_, rfl⟩
          rw [hP, hF, hT] at BXQ
          rw [hP] at b0 hor hsame bn1
          rw [hF] at b1 hor bn2
          rw [hT] at b2 hor bn3
          rw [hP2, hF2, hT2] at HPXq hor
          rw [hP2] at hsame bm1
          rw [hF2] at bm2
          rw [hT2] at bm3
          have hqi : (q : Int) < (L.length : Int) := by omega
          have hq0 : (0 : Int) ≤ (q : Int) := by omega
          have hsame2 : q + 1 < L.length → P2 = P := fun h => hsame (by omega)
          have HEQ := Lib.hid (And.intro hP2 (And.intro hF2 hT2))
          have HBq := Lib.hid hB
          clear hx hE e1 hx1 hxl hxl2 hown bxq hsmq hpq honq hsame hP hF hT hP2 hF2 hT2 hB hll
          have hd1 : decide ((xl.length : Int) < 1) = false := by rw [decide_eq_false_iff_not]; omega
          have hd1n : decide (xl.length < 1) = false := by rw [decide_eq_false_iff_not]; omega
          have hd2 : decide ((32 : Int) < (xl.length : Int)) = false := by rw [decide_eq_false_iff_not]; omega
          have hd2n : decide (32 < xl.length) = false := by rw [decide_eq_false_iff_not]; omega
          go_wp2_with fail
          go_loopw [11] (fun k wr2 => ∃ m : Nat, m ≤ xl.length ∧ k = .int .i64 m ∧ wr = wr2) (fun k _ => xl.length - (intOf k).toNat)
          case atStart => exact ⟨0, Nat.zero_le _, rfl, rfl⟩
          case round =>
            obtain ⟨m, hm, rfl, hwe⟩ := hrel
            subst hwe
            by_cases hmlt : m < xl.length
            · obtain ⟨bE, oE, rfl, hbE, r0, -⟩ := RdE.at_ HEN.out hmlt
              have hins := HINS.out m hmlt
              have hinc := fun (h0 : 0 < m) => HINC.out (m - 1) m (by omega) hmlt (by omega)
              obtain ⟨a, ha⟩ : ∃ a, xl[m].a = a := ⟨_, rfl⟩
              rw [ha] at r0 hins
              have hinc2 : ∀ h0 : 0 < m, (xl[m - 1]'(by omega)).a < a := fun h0 => by rw [← ha]; exact hinc h0
              have hmi : (m : Int) < (xl.length : Int) := by omega
              have hm0 : (0 : Int) ≤ (m : Int) := by omega
              obtain ⟨hi1, hi2⟩ := hins
              have g1 : decide ((16 : Int) ≤ a) = true := by rw [decide_eq_true_iff]; omega
              have hways : (decide (a < 19) = true ∨ (decide (a < 19) = false ∧ decide ((112 : Int) ≤ a) = true ∧ decide (a < (ws.length : Int)) = true)) := by
                by_cases h19 : a < 19
                · exact .inl (by rw [decide_eq_true_iff]; exact h19)
                · exact .inr ⟨by rw [decide_eq_false_iff_not]; exact h19, by rw [decide_eq_true_iff]; omega, by rw [decide_eq_true_iff]; omega⟩
              by_cases hc0 : m = 0
              · have hd0 : decide ((0 : Int) < (m : Int)) = false := by rw [decide_eq_false_iff_not]; omega
                have hd0n : decide (0 < m) = false := by rw [decide_eq_false_iff_not]; omega
                clear hinc hinc2 hc0 ha hi1 hi2
                rcases hways with k1 | ⟨k1, k2, k3⟩
                all_goals
                  go_wp2_with fail
                  go_roundw
                  case rel => exact ⟨m + 1, by omega, by go_num, by first | trivial | rfl⟩
                  case measure => simp [intOf]; omega
              · have hlm1 : m - 1 < xl.length := by omega
                have e4 := hinc2 (by omega)
                obtain ⟨b4, off4, hA4, hbw4, r2, -⟩ := RdE.at_ HEN.out hlm1
                cases hA4
                obtain ⟨y2, hy2⟩ : ∃ y2, xl[m - 1].a = y2 := ⟨_, rfl⟩
                rw [hy2] at r2 e4
                have hm0' : (0 : Int) < (m : Int) := by omega
                have hd0 : decide ((0 : Int) < (m : Int)) = true := by rw [decide_eq_true_iff]; omega
                have hd0n : decide (0 < m) = true := by rw [decide_eq_true_iff]; omega
                have hmi1 : (m : Int) - 1 < (xl.length : Int) := by omega
                have hmi2 : (0 : Int) ≤ (m : Int) - 1 := by omega
                have hmw : IntKind.i64.wrap ((m : Int) - 1) = (m : Int) - 1 := IntWalk.i64_in _ (by omega)
                have hmt : ((m : Int) - 1).toNat = m - 1 := by omega
                have hd3 : decide (a ≤ y2) = false := by rw [decide_eq_false_iff_not]; omega
                clear hinc hinc2 hc0 ha hi1 hi2 hy2 e4
                rcases hways with k1 | ⟨k1, k2, k3⟩
                all_goals
                  go_wp2_with fail
                  go_roundw
                  case rel => exact ⟨m + 1, by omega, by go_num, by first | trivial | rfl⟩
                  case measure => simp [intOf]; omega
            · obtain rfl : m = xl.length := by omega
              go_wp2_with fail
              refine (HP.out HEN.out).mono ?_
              rintro e w5 ⟨g5, c5, rfl, hown5, hB5⟩
              have BX5 := Lib.hid (BXQ.out.up hB5 BXQ.out.lt)
              have HB5 := Lib.hid (HBq.out.trans (hB5.mono HBq.out.size))
              have HO5 := Lib.hid (own_mono hown5 (show w4.heap.size + 1 ≤ wr.heap.size from BXQ.out.lt))
              clear hown5 hB5
              go_wp2_with fail
              refine (HPXq.out _ _ _ (own_capR HO5.out) (Rd.of_own HO5.out)).mono ?_
              rintro e w6 ⟨rfl, hB6⟩
              have hba : Below w6.heap.size w6 (w6.alloc (.cells #[.int .i64 (P2 : Int), .int .i64 (F2 : Int), .int .i64 (T2 : Int)] 76)) := (Below.refl _ _).alloc (Nat.le_refl _) _
              have BN6 := Lib.hid (Bx.new w6 76 #[.int .i64 (P2 : Int), .int .i64 (F2 : Int), .int .i64 (T2 : Int)])
              have bx6 := BX5.out.up hB6 BX5.out.lt
              have BX6 := Lib.hid (bx6.up hba bx6.lt)
              have hne : w6.heap.size ≠ w4.heap.size := Nat.ne_of_gt bx6.lt
              have hb6 := HB5.out.trans (hB6.mono HB5.out.size)
              have HB6 := Lib.hid (hb6.trans (hba.mono hb6.size))
              have HO6 := Lib.hid (own_below (own_below HO5.out hB6 (Nat.le_refl _)) hba (Nat.le_refl _))
              clear hba bx6 hb6 hB6
              go_upto_region 25 with (fail)
              obtain ⟨W8, hW8⟩ : ∃ W, w6.alloc (.cells #[.int .i64 (P2 : Int), .int .i64 (F2 : Int), .int .i64 (T2 : Int)] 76) = W := ⟨_, rfl⟩
              rw [hW8] at BN6 BX6 HB6 HO6 ⊢
              clear hW8
              obtain ⟨n0, n1, n2, nf0, nf1, nf2, hgn⟩ := BN6.out.c3
              obtain ⟨o0, o1, o2, of0, of1, of2, hgo⟩ := BX6.out.c3
              have hg5 : g5 ≠ w4.heap.size := fun h => by
                have := own_ne HO6.out (Nat.lt_succ_self w4.heap.size)
                exact this (congrArg some h.symm)
              have hways : ((decide ((P2 : Int) < (P : Int)) = false ∧ decide (P2 < P) = false) ∧ ((((P2 : Int) == (P : Int)) = true ∧ (P2 == P) = true ∧ P2 = P ∧ decide ((F2 : Int) < (F : Int)) = false ∧ decide (F2 < F) = false ∧ decide ((T2 : Int) < (T : Int)) = false ∧ decide (T2 < T) = false) ∨
                  (((P2 : Int) == (P : Int)) = false ∧ (P2 == P) = false ∧ ((P2 : Int) != (P : Int)) = true ∧ (P2 != P) = true ∧ decide ((q : Int) < (L.length : Int) - 1) = false))) := by
                rcases hor with ⟨hpe, hfe, hte⟩ | hpl
                · subst hpe
                  exact ⟨⟨by simp, by simp⟩, .inl ⟨by simp, by simp, rfl, by rw [decide_eq_false_iff_not]; omega, by rw [decide_eq_false_iff_not]; omega, by rw [decide_eq_false_iff_not]; omega, by rw [decide_eq_false_iff_not]; omega⟩⟩
                · refine ⟨⟨by rw [decide_eq_false_iff_not]; omega, by rw [decide_eq_false_iff_not]; omega⟩, .inr ⟨by rw [beq_eq_false_iff_ne]; omega, by rw [beq_eq_false_iff_ne]; omega, by rw [bne_iff_ne]; omega, by rw [bne_iff_ne]; omega, ?_⟩⟩
                  rw [decide_eq_false_iff_not]
                  by_cases h : q + 1 < L.length
                  · have := hsame2 h; omega
                  · omega
              have wrL : IntKind.i64.wrap ((L.length : Int) - 1) = (L.length : Int) - 1 := IntWalk.i64_in _ (by omega)
              clear hor hsame2
              obtain ⟨⟨u1, u2⟩, hways⟩ := hways
              rcases hways with ⟨v1, v2, v3, v4, v5, v6, v7⟩ | ⟨v1, v2, v3, v4, v5⟩
              · subst v3
                go_wp2_with fail
                go_region_held3 (fun X : World => X.cell? ⟨w6.heap.size, 0, none⟩ = some (.int .i64 (P2 : Int)) ∧ X.cell? ⟨w6.heap.size, 1, none⟩ = some (.int .i64 (F2 : Int)) ∧ X.cell? ⟨w6.heap.size, 2, none⟩ = some (.int .i64 (T2 : Int))) (first | exact ⟨(((BN6.out.far hne _).far hne _).far hne _).cell 0, (((BN6.out.far hne _).far hne _).far hne _).cell 1, (((BN6.out.far hne _).far hne _).far hne _).cell 2⟩ | go_keep) (fail)
                go_wp2_with fail
                go_roundw
                case rel =>
                  refine ⟨q + 1, g5, c5, by omega, by go_num, rfl, ?_, ?_, ?_⟩
                  · exact own_far (own_far (own_far HO6.out hg5 _) hg5 _) hg5 _
                  · rw [HEQ.out.1, HEQ.out.2.1, HEQ.out.2.2]
                    exact ((BX6.out.set_ 0 _).set_ 1 _).set_ 2 _
                  · exact (((HB6.out.setCell (Nat.le_refl _) _).setCell (Nat.le_refl _) _).setCell (Nat.le_refl _) _).drew
                case measure => simp [intOf]; omega
              · go_wp2_with fail
                go_region_held3 (fun X : World => X.cell? ⟨w6.heap.size, 0, none⟩ = some (.int .i64 (P2 : Int)) ∧ X.cell? ⟨w6.heap.size, 1, none⟩ = some (.int .i64 (F2 : Int)) ∧ X.cell? ⟨w6.heap.size, 2, none⟩ = some (.int .i64 (T2 : Int))) (first | exact ⟨(((BN6.out.far hne _).far hne _).far hne _).cell 0, (((BN6.out.far hne _).far hne _).far hne _).cell 1, (((BN6.out.far hne _).far hne _).far hne _).cell 2⟩ | go_keep) (fail)
                go_wp2_with fail
                go_roundw
                case rel =>
                  refine ⟨q + 1, g5, c5, by omega, by go_num, rfl, ?_, ?_, ?_⟩
                  · exact own_far (own_far (own_far HO6.out hg5 _) hg5 _) hg5 _
                  · rw [HEQ.out.1, HEQ.out.2.1, HEQ.out.2.2]
                    exact ((BX6.out.set_ 0 _).set_ 1 _).set_ 2 _
                  · exact (((HB6.out.setCell (Nat.le_refl _) _).setCell (Nat.le_refl _) _).setCell (Nat.le_refl _) _).drew
                case measure => simp [intOf]; omega
        · obtain rfl : q = outs.length := by omega
          have hx9 := Rd.of_own hown
          rw [HL1.out] at hx9
          have HX9 := Lib.hid hx9
          have HY9 := Lib.hid (Rd.up HX4.out hB hz)
          have HB9 := Lib.hid (HB4.out.trans (hB.mono HB4.out.size))
          have HSW := Lib.hid (fun A1 B1 c1 d1 W (h : RdW W W.heap.size A1 y) (h2 : RdW W W.heap.size B1 y) => sameWords_c A1 B1 y y ws.length ws.length c1 d1 W.heap.size W HYN.out HYN.out (by omega) h h2 (Nat.le_refl _))
          rw [show decide (y = y) = true by simp] at HSW
          have hge : decide ((outs.length : Int) < (L.length : Int)) = false := by rw [decide_eq_false_iff_not]; omega
          have hgen : decide (outs.length < L.length) = false := by rw [decide_eq_false_iff_not]; omega
          clear hown hB hz bxq hll hx9
          go_wp2_with fail
          refine (HSW.out _ _ _ _ _ HX9.out HY9.out).mono ?_
          rintro e w9 ⟨rfl, hB9⟩
          have HBZ := Lib.hid (HB9.out.trans (hB9.mono HB9.out.size))
          clear hB9
          go_wp2_with fail
          go_ret
          exact ⟨rfl, HBZ.out⟩
    · have hno : outs = [] := by
        have h9 : sgAll ws = ((sgAll ws).1, [], []) := by
          unfold sgAll
          split
          · rename_i hck
            refine allG_nil ?_
            unfold sgAll at hall
            rw [if_pos hck] at hall
            have := congrArg (fun t => t.1) hall
            dsimp only at this
            unfold allE at this
            rw [this]
            exact h0
          · rfl
        rw [hall] at h9
        simp only [Prod.mk.injEq] at h9
        exact h9.2.1
      subst hno
      have dn0 : decide (err = 0) = false := by rw [decide_eq_false_iff_not]; exact h0
      clear hall hg hgn
      go_enter Try.func9, Try.ntmps9
      go_wp2_with fail
      refine (alive31_c w).mono ?_
      rintro e w1 ⟨rfl, hB1⟩
      go_wp2_with fail
      refine (great25_c A ws.length c _ hn).mono ?_
      rintro e w1' ⟨rfl, rfl⟩
      rw [HG.out]
      go_wp2_with fail
      refine (HAL.out _ (HR.out.up hB1 hB1.size)).mono ?_
      rintro e w3 ⟨⟨L, B3, d3, vx, rfl, hL, -, -, hvx⟩, hB3⟩
      have HB3 := Lib.hid (hB1.trans (hB3.mono hB1.size))
      rw [hvx h0]
      obtain rfl : L = [] := List.map_eq_nil_iff.1 hL
      clear hB1 hB3 hL hvx
      go_wp2_with fail
      go_ret
      exact ⟨rfl, HB3.out⟩
  · have HG := Lib.hid hg
    clear hg
    go_enter Try.func9, Try.ntmps9
    go_wp2_with fail
    refine (alive31_c w).mono ?_
    rintro e w1 ⟨rfl, hB1⟩
    go_wp2_with fail
    refine (great25_c A ws.length c _ hn).mono ?_
    rintro e w1' ⟨rfl, rfl⟩
    rw [HG.out]
    go_wp2_with fail
    go_ret
    exact ⟨rfl, hB1⟩
end Go.Proofs.Ytpmfiibndiecpaa
