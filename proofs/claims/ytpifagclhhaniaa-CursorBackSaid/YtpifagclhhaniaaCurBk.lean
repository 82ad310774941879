/- The law CursorBack. -/
import Derived.Test.YtpifagclhhaniaaAl30
namespace Go.Proofs.Ytpifagclhhaniaa
open Go.RowKit

theorem bk_loop {ws : List Nat} {a : Int} (h : frErr ws a = 0) : (frOut ws a).length ≤ 4611686018427387904 ∧
    (∀ k, k < (frOut ws a).length → noMark (frOut ws a) k → (gk (frOut ws a) k).mark = true → nxtB ws a = gk (frOut ws a) k ∧ nxtErr ws a = 0) ∧
    (∀ k, k < (frOut ws a).length → ((gk (frOut ws a) k).kind == 1 || !(gk (frOut ws a) k).mark) = true) ∧ (noMark (frOut ws a) (frOut ws a).length → nxtErr ws a = 6) :=
  ⟨frOut_len ws a, fun _ hk hn hm => nx_some h rfl hk hn hm, fun _ hk => fr_live h hk, fun hn => (nx_none h rfl hn).2⟩
theorem bk_bad {ws : List Nat} {a : Int} (h : frErr ws a ≠ 0) : (nxtErr ws a != 0) = true ∧ (nxtErr ws a != 6) = true := by
  rw [(nx_err (r := frErr ws a) rfl h).2, bne_iff_ne, bne_iff_ne]
  rcases frErr_val ws a with h1 | h1 | h1 | h1 <;> omega

set_option maxRecDepth 100000 in
set_option maxHeartbeats 8000000 in
theorem cursorBack_walk (w : World) (A : Option Addr) (ws : List Nat) (c : Nat) (hn : ws.length ≤ maxLen) (_hc : ws.length ≤ c) (hr : RdW w w.heap.size A ws) (ho : ∀ x ∈ ws, x < 18446744073709551616) (a : Int) (ha : -9223372036854775808 ≤ a ∧ a ≤ 9223372036854775807) (o : Int) (hoo : -9223372036854775808 ≤ o ∧ o ≤ 9223372036854775807) (v : Nat) (hv : v < 18446744073709551616) :
    Calls Try.prog 6 #[.slice A ws.length c, .int .i64 a, .int .i64 o, .int .u64 (v : Int)] w fun e w' => e = .returned (.bool true) ∧ Below w.heap.size w w' := by
  unfold maxLen at hn
  have HR := Lib.hid hr
  have HO := Lib.hid ho
  have HA := Lib.hid ha
  have HWL := Lib.hid (words_len ws)
  clear hr ho
  cases hg : greatW ws.length
  · have HG := Lib.hid hg
    have hgn := greatW_no hg
    have hlen : ws.length ≤ 2060 := by omega
    have HNX := Lib.hid (fun W (h : RdW W W.heap.size A ws) => next_c A ws c ws.length a W rfl hn HA.out h HO.out)
    have HFR := Lib.hid (fun W (h : RdW W W.heap.size A ws) => from_c A ws c ws.length a W rfl hn h HO.out)
    unfold FrRes at HFR
    have HLOOP := Lib.hid (fun h => bk_loop (ws := ws) (a := a) h)
    have HBAD := Lib.hid (fun h => bk_bad (ws := ws) (a := a) h)
    have HAG := Lib.hid (fun xs h1 h2 => nxt_agree (ws := ws) (xs := xs) (a := a) h1 h2)
    obtain ⟨B, hB⟩ : ∃ b, nxtB ws a = b := ⟨_, rfl⟩
    obtain ⟨r, hr⟩ : ∃ r, nxtErr ws a = r := ⟨_, rfl⟩
    obtain ⟨f, hf⟩ : ∃ f, frErr ws a = f := ⟨_, rfl⟩
    obtain ⟨l, hl⟩ : ∃ l, frOut ws a = l := ⟨_, rfl⟩
    rw [hB, hr] at HNX HAG
    rw [hl, hf] at HFR
    rw [hl, hf, hB, hr] at HLOOP
    rw [hf, hr] at HBAD
    clear hg hgn hB hr hf hl
    obtain ⟨xa, xs, xk, xt, xm, xn⟩ := B
    unfold Bk.val at HNX
    dsimp only at HNX
    by_cases hw : 0 ≤ o ∧ o < a ∧ o < (ws.length : Int)
    · obtain ⟨o1, o2, o3⟩ := hw
      obtain ⟨j, rfl⟩ := Int.eq_ofNat_of_zero_le o1
      have hj : j < ws.length := by omega
      have HNX2 := Lib.hid (fun A2 c2 W (h : RdW W W.heap.size A2 (ws.set j v)) => next_c A2 (ws.set j v) c2 ws.length a W (List.length_set ..) hn HA.out h (fun x hx => by
        rcases List.mem_or_eq_of_mem_set hx with h1 | h1
        · exact HO.out x h1
        · rw [h1]; exact hv))
      obtain ⟨g1, g2⟩ := HAG.out (ws.set j v) (List.length_set ..) (fun i hi => wd_set_ne ws v (by omega))
      rw [g1, g2] at HNX2
      unfold Bk.val at HNX2
      dsimp only at HNX2
      have HWS := Lib.hid (words_set ws j v)
      have hdo : decide ((j : Int) < a) = true := by rw [decide_eq_true_iff]; exact o2
      clear g1 g2 ha hoo HAG
      obtain ⟨i0, hi, hz0, hz1, hz2⟩ := info_parts infoWord
      have HI := Lib.hid hi
      have HZ0 := Lib.hid hz0
      have HZ1 := Lib.hid hz1
      have HZ2 := Lib.hid hz2
      clear hi hz0 hz1 hz2
      go_enter Try.func6, Try.ntmps6
      go_wp2_with fail
      refine (alive30_c w).mono ?_
      rintro e w1 ⟨rfl, hB1⟩
      go_wp2_with fail
      refine (great25_c A ws.length c _ hn).mono ?_
      rintro e w1' ⟨rfl, rfl⟩
      rw [HG.out]
      go_wp2_with fail
      refine (HNX.out _ (HR.out.up hB1 hB1.size)).mono ?_
      rintro e w2 ⟨rfl, hB2⟩
      have hb2 := hB1.trans (hB2.mono hB1.size)
      have bx2 := Bx.new w2 47 #[.int .i64 xa, .int .i64 xs, .int .i64 xk, .int .i64 xt, .bool xm, .int .u64 (xn : Int)]
      have hba2 := hb2.alloc hb2.size (.cells #[.int .i64 xa, .int .i64 xs, .int .i64 xk, .int .i64 xt, .bool xm, .int .u64 (xn : Int)] 47)
      have BX2 := Lib.hid bx2
      have HB2 := Lib.hid hba2
      have HR2 := Lib.hid (HR.out.up hba2 hba2.size)
      clear bx2 hba2 hB1 hb2 hB2
      go_upto_region 6 with (fail)
      obtain ⟨W2, hW2⟩ : ∃ W2, w2.alloc (.cells #[.int .i64 xa, .int .i64 xs, .int .i64 xk, .int .i64 xt, .bool xm, .int .u64 (xn : Int)] 47) = W2 := ⟨_, rfl⟩
      rw [hW2] at BX2 HB2 HR2 ⊢
      clear hW2
      go_wp2_with (at_builtin; refine wpList_append_rd' _ (by rfl) _ _ 22 rfl W2.heap.size 38 i0 _ 1 8 Try.underlying22 HI.out HZ0.out HZ1.out HZ2.out rfl (by decide) (.slice (some ⟨W2.heap.size, 0, none⟩) 0 0) 0 [] (by rfl) (own_empty W2 _ _ _ (Nat.le_refl _)) W2.heap.size A ws.length _ (ws.flatMap wordCells) (by rfl) (by rw [HWL.out]; omega) (Rd.alloc HR2.out (Nat.le_refl _) _) (cells_one word_one _) (by unfold maxLen; omega) (by omega) (by simp) ?_; intro v1 wa hown1 hg1; have hBa := below_append0 ((Below.refl W2.heap.size W2).alloc (Nat.le_refl _) _) (by simp) (own_empty W2 W2.heap.size 38 1 (Nat.le_refl _)) hg1; simp only [Nat.zero_add, List.nil_append] at hown1; obtain ⟨g, c1, rfl⟩ := own_some hown1 (by omega); have hc0 := (hown1.cellAt j (by omega)).trans (words_get ws j hj); have hf0 := hown1.frozenAt j; have HOWN := Lib.hid hown1; have HBA := Lib.hid hBa; clear hown1 hBa hg1)
      have HS := Lib.hid (show (wa.setCell ⟨g, j, none⟩ (.int .u64 (v : Int))).ownsRow W2.heap.size 38 1 (.slice (some ⟨g, 0, none⟩) ws.length c1) ws.length ((ws.set j v).flatMap wordCells) by
        rw [HWS.out]; exact (HOWN.out.stored j (.int .u64 (v : Int))).1)
      have hbS := HBA.out.setCell (p := ⟨g, j, none⟩) (own_base HOWN.out) (.int .u64 (v : Int))
      have HBS := Lib.hid (HB2.out.trans (hbS.mono HB2.out.size))
      have BXS := Lib.hid (BX2.out.up hbS BX2.out.lt)
      clear hbS
      refine (HNX2.out _ _ _ (Rd.of_own HS.out)).mono ?_
      rintro e w5 ⟨rfl, hB5⟩
      have HB5 := Lib.hid (HBS.out.trans (hB5.mono HBS.out.size))
      have BX5 := Lib.hid (BXS.out.up hB5 BXS.out.lt)
      have bx6 := Bx.new w5 47 #[.int .i64 xa, .int .i64 xs, .int .i64 xk, .int .i64 xt, .bool xm, .int .u64 (xn : Int)]
      have HB6 := Lib.hid (HB5.out.alloc HB5.out.size (.cells #[.int .i64 xa, .int .i64 xs, .int .i64 xk, .int .i64 xt, .bool xm, .int .u64 (xn : Int)] 47))
      have bxb := BX5.out.alloc (.cells #[.int .i64 xa, .int .i64 xs, .int .i64 xk, .int .i64 xt, .bool xm, .int .u64 (xn : Int)] 47)
      have BX6 := Lib.hid bxb
      have HR6 := Lib.hid (HR.out.up HB6.out HB6.out.size)
      have N6 := Lib.hid bx6
      clear hB5 bx6 bxb hc0 hf0
      go_upto_region 9 with (fail)
      obtain ⟨W6, hW6⟩ : ∃ W, w5.alloc (.cells #[.int .i64 xa, .int .i64 xs, .int .i64 xk, .int .i64 xt, .bool xm, .int .u64 (xn : Int)] 47) = W := ⟨_, rfl⟩
      rw [hW6] at BX6 HB6 HR6 N6 ⊢
      obtain ⟨p0, p1, p2, p3, p4, p5, -, -⟩ := BX6.out.c6
      obtain ⟨n0, n1, n2, n3, n4, n5, -, -⟩ := N6.out.c6
      clear hW6
      go_wp2_with fail
      clear p0 p1 p2 p3 p4 p5 n0 n1 n2 n3 n4 n5
      refine (HFR.out _ HR6.out).mono ?_
      rintro e w7 ⟨⟨A7, c7, rfl, hrd, -⟩, hB7⟩
      have HB7 := Lib.hid (HB6.out.trans (hB7.mono HB6.out.size))
      have BX7 := Lib.hid (BX6.out.up hB7 BX6.out.lt)
      have HRD := Lib.hid hrd
      clear hB7 hrd
      by_cases hf0 : f = 0
      · obtain ⟨l1, l2, l3, l4⟩ := HLOOP.out hf0
        have HL2 := Lib.hid l2
        have HL3 := Lib.hid l3
        have HL4 := Lib.hid l4
        subst hf0
        clear l2 l3 l4
        go_wp2_with fail
        go_loopw [17] (fun i wr => ∃ k : Nat, k ≤ l.length ∧ i = .int .i64 k ∧ Hid (noMark l k) ∧ Below w7.heap.size w7 wr) (fun i _ => l.length - (intOf i).toNat)
        case atStart => exact ⟨0, Nat.zero_le _, rfl, noMark_zero l, Below.refl _ _⟩
        case round =>
          obtain ⟨k, hk, rfl, HN, hB⟩ := hrel
          have hz := hB.size
          by_cases hlt : k < l.length
          · obtain ⟨b, off, rfl, hbw, q0, q1, q2, q3, q4, q5⟩ := RdB.at_ (HRD.out.below hB) hlt
            have HS := Lib.hid (fun h => noMark_succ HN.out h)
            have HY := Lib.hid (fun h => HL2.out k hlt HN.out h)
            have HV := Lib.hid (HL3.out k hlt)
            rw [gk_get l k hlt] at HS HY HV
            obtain ⟨x, hx⟩ : ∃ x, l[k] = x := ⟨_, rfl⟩
            rw [hx] at q0 q1 q2 q3 q4 q5 HS HY HV
            obtain ⟨ya, ys, yk, yt, ym, yn⟩ := x
            dsimp only at q0 q1 q2 q3 q4 q5 HS HV
            have hlm : (k : Int) < (l.length : Int) := by omega
            have hk0 : (0 : Int) ≤ (k : Int) := by omega
            clear hx
            cases ym
            · have HS2 := Lib.hid (HS.out rfl)
              clear HS HY HV
              cases hyk : yk == 1
              all_goals
                go_wp2_with fail
                go_roundw
                case rel => exact ⟨k + 1, by omega, by go_num, HS2.out, hB⟩
                case measure => simp [intOf]; omega
            · obtain ⟨e1, e2⟩ := HY.out rfl
              simp only [Bk.mk.injEq] at e1
              obtain ⟨rfl, rfl, rfl, rfl, rfl, rfl⟩ := e1
              have hyk : (xk == 1) = true := by have := HV.out; simpa using this
              subst e2
              obtain ⟨p0, p1, p2, p3, p4, p5, -, -⟩ := (BX7.out.up hB BX7.out.lt).c6
              clear HS HY HV HL2 HL3 HL4
              go_wp2_with fail
              go_quiet (fail)
              go_wp2_with fail
              go_ret
              exact ⟨rfl, by first | exact HB7.out.trans (hB.mono HB7.out.size) | exact below_drewN (HB7.out.trans (hB.mono HB7.out.size)) _⟩
          · have hr6 := HL4.out (by have := HN.out; rwa [show k = l.length by omega] at this)
            subst hr6
            clear HL2 HL3 HL4 HLOOP
            go_wp2_with fail
            go_ret
            exact ⟨rfl, HB7.out.trans (hB.mono HB7.out.size)⟩
      · obtain ⟨e1, e2⟩ := HBAD.out hf0
        have hfn : (f != 0) = true := by rw [bne_iff_ne]; exact hf0
        clear hf0
        go_wp2_with fail
        go_ret
        exact ⟨rfl, HB7.out⟩
    · have hways : (decide (0 ≤ o) = false) ∨ (decide (0 ≤ o) = true ∧ decide (o < a) = false) ∨ (decide (0 ≤ o) = true ∧ decide (o < a) = true ∧ decide (o < (ws.length : Int)) = false) := by
        by_cases h1 : 0 ≤ o
        · by_cases h2 : o < a
          · right; right; exact ⟨by rw [decide_eq_true_iff]; exact h1, by rw [decide_eq_true_iff]; exact h2, by rw [decide_eq_false_iff_not]; exact fun h3 => hw ⟨h1, h2, h3⟩⟩
          · right; left; exact ⟨by rw [decide_eq_true_iff]; exact h1, by rw [decide_eq_false_iff_not]; exact h2⟩
        · left; rw [decide_eq_false_iff_not]; exact h1
      clear hw hoo ha HAG
      rcases hways with h1 | ⟨h1, h2⟩ | ⟨h1, h2, h3⟩
      all_goals
        go_enter Try.func6, Try.ntmps6
        go_wp2_with fail
        refine (alive30_c w).mono ?_
        rintro e w1 ⟨rfl, hB1⟩
        go_wp2_with fail
        refine (great25_c A ws.length c _ hn).mono ?_
        rintro e w1' ⟨rfl, rfl⟩
        rw [HG.out]
        go_wp2_with fail
        refine (HNX.out _ (HR.out.up hB1 hB1.size)).mono ?_
        rintro e w2 ⟨rfl, hB2⟩
        have hb2 := hB1.trans (hB2.mono hB1.size)
        have bx2 := Bx.new w2 47 #[.int .i64 xa, .int .i64 xs, .int .i64 xk, .int .i64 xt, .bool xm, .int .u64 (xn : Int)]
        have hba2 := hb2.alloc hb2.size (.cells #[.int .i64 xa, .int .i64 xs, .int .i64 xk, .int .i64 xt, .bool xm, .int .u64 (xn : Int)] 47)
        have BX2 := Lib.hid bx2
        have HB2 := Lib.hid hba2
        have HR2 := Lib.hid (HR.out.up hba2 hba2.size)
        clear bx2 hba2 hB1 hb2 hB2
        go_wp2_with fail
        obtain ⟨W2, hW2⟩ : ∃ W2, w2.alloc (.cells #[.int .i64 xa, .int .i64 xs, .int .i64 xk, .int .i64 xt, .bool xm, .int .u64 (xn : Int)] 47) = W2 := ⟨_, rfl⟩
        rw [hW2] at BX2 HB2 HR2 ⊢
        clear hW2
        refine (HFR.out _ HR2.out).mono ?_
        rintro e w7 ⟨⟨A7, c7, rfl, hrd, -⟩, hB7⟩
        have HB7 := Lib.hid (HB2.out.trans (hB7.mono HB2.out.size))
        have BX7 := Lib.hid (BX2.out.up hB7 BX2.out.lt)
        have HRD := Lib.hid hrd
        clear hB7 hrd
        by_cases hf0 : f = 0
        · obtain ⟨l1, l2, l3, l4⟩ := HLOOP.out hf0
          have HL2 := Lib.hid l2
          have HL3 := Lib.hid l3
          have HL4 := Lib.hid l4
          subst hf0
          clear l2 l3 l4
          go_wp2_with fail
          go_loopw [17] (fun i wr => ∃ k : Nat, k ≤ l.length ∧ i = .int .i64 k ∧ Hid (noMark l k) ∧ Below w7.heap.size w7 wr) (fun i _ => l.length - (intOf i).toNat)
          case atStart => exact ⟨0, Nat.zero_le _, rfl, noMark_zero l, Below.refl _ _⟩
          case round =>
            obtain ⟨k, hk, rfl, HN, hB⟩ := hrel
            have hz := hB.size
            by_cases hlt : k < l.length
            · obtain ⟨b, off, rfl, hbw, q0, q1, q2, q3, q4, q5⟩ := RdB.at_ (HRD.out.below hB) hlt
              have HS := Lib.hid (fun h => noMark_succ HN.out h)
              have HY := Lib.hid (fun h => HL2.out k hlt HN.out h)
              have HV := Lib.hid (HL3.out k hlt)
              rw [gk_get l k hlt] at HS HY HV
              obtain ⟨x, hx⟩ : ∃ x, l[k] = x := ⟨_, rfl⟩
              rw [hx] at q0 q1 q2 q3 q4 q5 HS HY HV
              obtain ⟨ya, ys, yk, yt, ym, yn⟩ := x
              dsimp only at q0 q1 q2 q3 q4 q5 HS HV
              have hlm : (k : Int) < (l.length : Int) := by omega
              have hk0 : (0 : Int) ≤ (k : Int) := by omega
              clear hx
              cases ym
              · have HS2 := Lib.hid (HS.out rfl)
                clear HS HY HV
                cases hyk : yk == 1
                all_goals
                  go_wp2_with fail
                  go_roundw
                  case rel => exact ⟨k + 1, by omega, by go_num, HS2.out, hB⟩
                  case measure => simp [intOf]; omega
              · obtain ⟨e1, e2⟩ := HY.out rfl
                simp only [Bk.mk.injEq] at e1
                obtain ⟨rfl, rfl, rfl, rfl, rfl, rfl⟩ := e1
                have hyk : (xk == 1) = true := by have := HV.out; simpa using this
                subst e2
                obtain ⟨p0, p1, p2, p3, p4, p5, -, -⟩ := (BX7.out.up hB BX7.out.lt).c6
                clear HS HY HV HL2 HL3 HL4
                go_wp2_with fail
                go_quiet (fail)
                go_wp2_with fail
                go_ret
                exact ⟨rfl, by first | exact HB7.out.trans (hB.mono HB7.out.size) | exact below_drewN (HB7.out.trans (hB.mono HB7.out.size)) _⟩
            · have hr6 := HL4.out (by have := HN.out; rwa [show k = l.length by omega] at this)
              subst hr6
              clear HL2 HL3 HL4 HLOOP
              go_wp2_with fail
              go_ret
              exact ⟨rfl, HB7.out.trans (hB.mono HB7.out.size)⟩
        · obtain ⟨e1, e2⟩ := HBAD.out hf0
          have hfn : (f != 0) = true := by rw [bne_iff_ne]; exact hf0
          clear hf0
          go_wp2_with fail
          go_ret
          exact ⟨rfl, HB7.out⟩
  · have HG := Lib.hid hg
    clear hg
    go_enter Try.func6, Try.ntmps6
    go_wp2_with fail
    refine (alive30_c w).mono ?_
    rintro e w1 ⟨rfl, hB1⟩
    go_wp2_with fail
    refine (great25_c A ws.length c _ hn).mono ?_
    rintro e w1' ⟨rfl, rfl⟩
    rw [HG.out]
    go_wp2_with fail
    go_ret
    exact ⟨rfl, hB1⟩
end Go.Proofs.Ytpifagclhhaniaa
