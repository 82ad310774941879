/- The law MarkMarks: for words that are not great, marks do not matter for what is reached. -/
import Derived.Test.YtpifagclhhaniaaAl25
namespace Go.Proofs.Ytpifagclhhaniaa
open Go.RowKit

set_option maxRecDepth 100000 in
set_option maxHeartbeats 16000000 in
theorem markMarks_walk (w : World) (A : Option Addr) (ws : List Nat) (c : Nat) (hn : ws.length ≤ maxLen) (_hc : ws.length ≤ c) (hr : RdW w w.heap.size A ws) (ho : ∀ x ∈ ws, x < 18446744073709551616) (a : Int) (_ha : -9223372036854775808 ≤ a ∧ a ≤ 9223372036854775807) :
    Calls Try.prog 5 #[.slice A ws.length c, .int .i64 a] w fun e w' => e = .returned (.bool true) ∧ Below w.heap.size w w' := by
  unfold maxLen at hn
  have HR := Lib.hid hr
  have HO := Lib.hid ho
  clear hr ho
  cases hg : greatW ws.length
  · have HG := Lib.hid hg
    have hgn := greatW_no hg
    have hlen : ws.length ≤ 2060 := by omega
    have HRC := Lib.hid (fun W (h : RdW W W.heap.size A ws) => mReached_c A ws c ws.length W rfl hn h HO.out)
    unfold RcdRes at HRC
    by_cases h0 : rcErr ws = 0
    · have hrl : (rcOut ws).length ≤ 2060 := by
        rw [rcOut_seen h0]
        have := seenTo_len (seenL ws) ws.length
        omega
      have hhp := (rcErr_zero h0).1
      rw [h0] at HRC
      by_cases hin : 128 ≤ a ∧ a < (ws.length : Int)
      · obtain ⟨a1, a2⟩ := hin
        obtain ⟨i, rfl⟩ := Int.eq_ofNat_of_zero_le (show 0 ≤ a by omega)
        have hi : i < ws.length := by omega
        have HMD := Lib.hid (fun W (h : RdW W W.heap.size A ws) => mMarked_c A ws c ws.length W rfl hn h HO.out)
        unfold MdRes at HMD
        rw [hhp] at HMD
        have HSP := Lib.hid (fun W => hdSplit_c (wd ws i) W (wd_lt HO.out i))
        have d1 : decide ((i : Int) < 128) = false := by rw [decide_eq_false_iff_not]; omega
        have d1n : decide (i < 128) = false := by rw [decide_eq_false_iff_not]; omega
        have d2 : decide ((ws.length : Int) ≤ (i : Int)) = false := by rw [decide_eq_false_iff_not]; omega
        have d2n : decide (ws.length ≤ i) = false := by rw [decide_eq_false_iff_not]; omega
        have hi0 : (0 : Int) ≤ (i : Int) := by omega
        cases hs : splitOk (wd ws i)
        · rw [(spl_no hs).1, (spl_no hs).2] at HSP
          unfold noBk Bk.val at HSP
          dsimp only at HSP
          generalize rcOut ws = R at HRC hrl
          generalize mkdL (hpOut ws) = D at HMD
          clear hg hgn h0 hhp hs
          go_enter Try.func5, Try.ntmps5
          go_wp2_with fail
          refine (alive25_c w).mono ?_
          rintro e w1 ⟨rfl, hB1⟩
          go_wp2_with fail
          refine (great25_c _ ws.length c _ hn).mono ?_
          rintro e w1' ⟨rfl, rfl⟩
          rw [HG.out]
          go_wp2_with fail
          refine (HRC.out _ (HR.out.up hB1 hB1.size)).mono ?_
          rintro e w2 ⟨⟨A2, c2, rfl, hr2, -⟩, hB2⟩
          have HB2 := Lib.hid (hB1.trans (hB2.mono hB1.size))
          have HR2' := Lib.hid hr2
          have HRW := Lib.hid (HR.out.up HB2.out HB2.out.size)
          clear hr2 hB2 hB1
          go_wp2_with fail
          refine (HMD.out _ HRW.out).mono ?_
          rintro e w4 ⟨⟨A4, c4, rfl, -, -⟩, hB4⟩
          have HB4 := Lib.hid (HB2.out.trans (hB4.mono HB2.out.size))
          have HRW4 := Lib.hid (HRW.out.up hB4 hB4.size)
          have HR4 := Lib.hid (HR2'.out.up hB4 hB4.size)
          clear hB4
          obtain ⟨bx, ox, eA, hbx, x0⟩ := RdW.at_ HRW4.out hi
          cases eA
          rw [← wd_get] at x0
          first | rw [HU.out] at x0 | skip
          go_wp2_with fail
          refine (HSP.out _).mono ?_
          rintro e w5 ⟨rfl, hB5⟩
          have HB5 := Lib.hid (HB4.out.trans (hB5.mono HB4.out.size))
          have HRW5 := Lib.hid (HRW4.out.up hB5 hB5.size)
          have HR5 := Lib.hid (HR4.out.up hB5 hB5.size)
          clear hB5 x0
          go_wp2_with fail
          go_ret
          exact ⟨rfl, HB5.out.alloc HB5.out.size _⟩
        · rw [(spl_ok hs).1, (spl_ok hs).2] at HSP
          have hraw : (rawBk (wd ws i)).val = .agg #[.int .i64 0, .int .i64 (rawBk (wd ws i)).size, .int .i64 (rawBk (wd ws i)).kind, .int .i64 (rawBk (wd ws i)).typ, .bool (rawBk (wd ws i)).mark, .int .u64 0] := rfl
          rw [hraw] at HSP
          by_cases hk : (rawBk (wd ws i)).kind = 1 ∧ i % 2 = 0
          · obtain ⟨hk, hev⟩ := hk
            have hm := mk_word hs hk (!(rawBk (wd ws i)).mark)
            obtain ⟨g1, g2, g3, g4, g5⟩ := marks_plain h0 (show 128 ≤ i by omega) hev hi hs hk (!(rawBk (wd ws i)).mark)
            have HMK := Lib.hid (fun W => hdMarked_c (wd ws i) (!(rawBk (wd ws i)).mark) W (wd_lt HO.out i))
            rw [hm.2.2.1] at HMK
            rw [hk] at HSP
            have hev2 : ((i : Int) % 2 != 0) = false := by rw [bne_eq_false_iff_eq]; omega
            have hxl : (ws.set i (mkVal (wd ws i) (!(rawBk (wd ws i)).mark))).length = ws.length := List.length_set ..
            have hxo : ∀ x ∈ ws.set i (mkVal (wd ws i) (!(rawBk (wd ws i)).mark)), x < 18446744073709551616 := fun x hx => by
              rcases List.mem_or_eq_of_mem_set hx with h1 | h1
              · exact HO.out x h1
              · rw [h1]; exact hm.2.2.2
            have HR2 := Lib.hid (fun A2 c2 W (h : RdW W W.heap.size A2 (ws.set i (mkVal (wd ws i) (!(rawBk (wd ws i)).mark)))) => mReached_c A2 _ c2 ws.length W hxl hn h hxo)
            unfold RcdRes at HR2
            rw [g1, g2] at HR2
            have HM2 := Lib.hid (fun A2 c2 W (h : RdW W W.heap.size A2 (ws.set i (mkVal (wd ws i) (!(rawBk (wd ws i)).mark)))) => mMarked_c A2 _ c2 ws.length W hxl hn h hxo)
            unfold MdRes at HM2
            rw [g3] at HM2
            have HSI := Lib.hid (fun A1 B1 c1 d1 W (h : RdI W W.heap.size A1 (rcOut ws)) (h2 : RdI W W.heap.size B1 (rcOut ws)) => sameInts_c A1 B1 (rcOut ws) (rcOut ws) (rcOut ws).length (rcOut ws).length c1 d1 W.heap.size W rfl rfl (by omega) h h2 (Nat.le_refl _))
            rw [show decide (rcOut ws = rcOut ws) = true by simp] at HSI
            have HWS := Lib.hid (words_set ws i (mkVal (wd ws i) (!(rawBk (wd ws i)).mark)))
            have hdl := mkdL_len (hpOut ws)
            have hpl := hpOut_len ws
            have hgt := HO.out
            obtain ⟨b, off, rfl, hb, q0⟩ := RdW.at_ HR.out hi
            rw [← wd_get] at q0
            obtain ⟨y, hy⟩ : ∃ y, mkVal (wd ws i) (!(rawBk (wd ws i)).mark) = y := ⟨_, rfl⟩
            obtain ⟨S, hS⟩ : ∃ S, (rawBk (wd ws i)).size = S := ⟨_, rfl⟩
            obtain ⟨T, hT⟩ : ∃ T, (rawBk (wd ws i)).typ = T := ⟨_, rfl⟩
            obtain ⟨M, hM⟩ : ∃ M, (rawBk (wd ws i)).mark = M := ⟨_, rfl⟩
            rw [hM] at hy HSP HMK HR2 HM2 g4 g5 HWS
            rw [hy] at HMK HR2 HM2 g4 g5 HWS
            rw [hS, hT] at HSP
            obtain ⟨u, hu⟩ : ∃ u, wd ws i = u := ⟨_, rfl⟩
            rw [hu] at HSP HMK
            obtain ⟨x, hx⟩ : ∃ x, ws.set i y = x := ⟨_, rfl⟩
            rw [hx] at HR2 HM2 g4 g5 HWS
            generalize rcOut ws = R at HRC HR2 HSI hrl
            generalize mkdL (hpOut ws) = D at HMD g4 g5 hdl
            generalize mkdL (hpOut x) = D2 at HM2 g4 g5
            have hwr : IntKind.i64.wrap ((D2.length : Int) - (D.length : Int)) = (D2.length : Int) - (D.length : Int) := IntWalk.i64_in _ (by omega)
            have e1 : decide ((D2.length : Int) - (D.length : Int) ≤ 1) = true := by rw [decide_eq_true_iff]; omega
            have e2 : decide (-1 ≤ (D2.length : Int) - (D.length : Int)) = true := by rw [decide_eq_true_iff]; omega
            have HU := Lib.hid hu
            clear hg hgn h0 hhp hs hk hev hm hraw g1 g2 g3 g4 g5 hxl hxo hdl hpl hgt hy hS hT hM hu hx q0 hrl
            obtain ⟨i0, hi, hz0, hz1, hz2⟩ := info_parts infoWord
            have HI := Lib.hid hi
            have HZ0 := Lib.hid hz0
            have HZ1 := Lib.hid hz1
            have HZ2 := Lib.hid hz2
            clear hi hz0 hz1 hz2
            go_enter Try.func5, Try.ntmps5
            go_wp2_with fail
            refine (alive25_c w).mono ?_
            rintro e w1 ⟨rfl, hB1⟩
            go_wp2_with fail
            refine (great25_c _ ws.length c _ hn).mono ?_
            rintro e w1' ⟨rfl, rfl⟩
            rw [HG.out]
            go_wp2_with fail
            refine (HRC.out _ (HR.out.up hB1 hB1.size)).mono ?_
            rintro e w2 ⟨⟨A2, c2, rfl, hr2, -⟩, hB2⟩
            have HB2 := Lib.hid (hB1.trans (hB2.mono hB1.size))
            have HR2' := Lib.hid hr2
            have HRW := Lib.hid (HR.out.up HB2.out HB2.out.size)
            clear hr2 hB2 hB1
            go_wp2_with fail
            refine (HMD.out _ HRW.out).mono ?_
            rintro e w4 ⟨⟨A4, c4, rfl, -, -⟩, hB4⟩
            have HB4 := Lib.hid (HB2.out.trans (hB4.mono HB2.out.size))
            have HRW4 := Lib.hid (HRW.out.up hB4 hB4.size)
            have HR4 := Lib.hid (HR2'.out.up hB4 hB4.size)
            clear hB4
            obtain ⟨bx, ox, eA, hbx, x0⟩ := RdW.at_ HRW4.out hi
            cases eA
            rw [← wd_get] at x0
            first | rw [HU.out] at x0 | skip
            go_wp2_with fail
            refine (HSP.out _).mono ?_
            rintro e w5 ⟨rfl, hB5⟩
            have HB5 := Lib.hid (HB4.out.trans (hB5.mono HB4.out.size))
            have HRW5 := Lib.hid (HRW4.out.up hB5 hB5.size)
            have HR5 := Lib.hid (HR4.out.up hB5 hB5.size)
            clear hB5 x0
            go_wp2_with fail
            have BX := Lib.hid (Bx.new w5 47 #[.int .i64 0, .int .i64 S, .int .i64 1, .int .i64 T, .bool M, .int .u64 0])
            have HB6 := Lib.hid (HB5.out.alloc HB5.out.size (.cells #[.int .i64 0, .int .i64 S, .int .i64 1, .int .i64 T, .bool M, .int .u64 0] 47))
            have hszn : (w5.alloc (.cells #[.int .i64 0, .int .i64 S, .int .i64 1, .int .i64 T, .bool M, .int .u64 0] 47)).heap.size = w5.heap.size + 1 := by simp
            have HRW6 := Lib.hid ((HRW5.out.alloc (Nat.le_refl _) (.cells #[.int .i64 0, .int .i64 S, .int .i64 1, .int .i64 T, .bool M, .int .u64 0] 47)).more (show w5.heap.size ≤ (w5.alloc (.cells #[.int .i64 0, .int .i64 S, .int .i64 1, .int .i64 T, .bool M, .int .u64 0] 47)).heap.size by omega))
            have HR6 := Lib.hid ((HR5.out.alloc (Nat.le_refl _) (.cells #[.int .i64 0, .int .i64 S, .int .i64 1, .int .i64 T, .bool M, .int .u64 0] 47)).more (show w5.heap.size ≤ (w5.alloc (.cells #[.int .i64 0, .int .i64 S, .int .i64 1, .int .i64 T, .bool M, .int .u64 0] 47)).heap.size by omega))
            obtain ⟨wn, hwn⟩ : ∃ wn, w5.alloc (.cells #[.int .i64 0, .int .i64 S, .int .i64 1, .int .i64 T, .bool M, .int .u64 0] 47) = wn := ⟨_, rfl⟩
            rw [hwn] at BX HB6 hszn HRW6 HR6 ⊢
            clear hwn
            obtain ⟨bW, oW, eA, gW, x0⟩ := RdW.at_ HRW6.out hi
            cases eA
            rw [← wd_get, HU.out] at x0
            obtain ⟨-, -, -, -, p4, -, -, hgn⟩ := BX.out.c6
            go_region_held3 (fun X : World => X.cell? ⟨b, off + i, none⟩ = some (.int .u64 (u : Int)) ∧ X.cell? ⟨w5.heap.size, 4, none⟩ = some (.bool M)) (go_keep)
              (first | (go_at_call 26; refine (HMK.out _).mono ?_; rintro e w7 ⟨rfl, hB7⟩; have m0 := (hB7.cell (p := ⟨b, off + i, none⟩) gW).trans x0; have m1 := (hB7.cell (p := ⟨w5.heap.size, 4, none⟩) hgn).trans p4))
            have hb7 : Below wn.heap.size wn w7 := (Below.refl _ _).drew.trans hB7
            have HB7 := Lib.hid (HB6.out.trans (hb7.mono HB6.out.size))
            have HRW7 := Lib.hid (HRW6.out.up hb7 hb7.size)
            have HR7 := Lib.hid (HR6.out.up hb7 hb7.size)
            clear m0 m1 x0 p4 hB7 hb7 BX HRW6 HR6
            go_wp2_with ((at_builtin; refine wpList_append_rd' _ (by rfl) _ _ 22 rfl w7.heap.size 38 i0 _ 1 8 Try.underlying22 HI.out HZ0.out HZ1.out HZ2.out rfl (by decide) (.slice (some ⟨w7.heap.size, 0, none⟩) 0 0) 0 [] (by rfl) (own_empty w7 _ _ _ (Nat.le_refl _)) w7.heap.size (some ⟨b, off, none⟩) (ws.length) _ (ws.flatMap wordCells) (by rfl) (by rw [words_len]; omega) (Rd.alloc (HRW7.out) (Nat.le_refl _) _) (cells_one word_one _) (by unfold maxLen; omega) (by omega) (by simp) ?_; intro v1 wa hown1 hg1; have hBa := below_append0 ((Below.refl w7.heap.size w7).alloc (Nat.le_refl _) _) (by simp) (own_empty w7 w7.heap.size 38 1 (Nat.le_refl _)) hg1; simp only [Nat.zero_add, List.nil_append] at hown1; obtain ⟨ga, ca, rfl⟩ := own_some hown1 (by omega); have HOWN := Lib.hid hown1; have HBA := Lib.hid hBa; clear hown1 hBa hg1); have c0 := (HOWN.out.cellAt i (by omega)).trans (words_get ws i hi); have f0 := HOWN.out.frozenAt i)
            have hgt := own_base HOWN.out
            have hs := (HOWN.out.stored i (.int .u64 (y : Int))).1
            rw [← HWS.out] at hs
            have HS8 := Lib.hid hs
            have HB8 := Lib.hid ((HB7.out.trans (HBA.out.mono HB7.out.size)).setCell (p := ⟨ga, i, none⟩) (Nat.le_trans HB7.out.size hgt) (.int .u64 (y : Int)))
            have hsz : w7.heap.size ≤ (wa.setCell ⟨ga, i, none⟩ (.int .u64 (y : Int))).heap.size := by rw [World.size_setCell]; exact HBA.out.size
            have HR8 := Lib.hid (Rd.more (Rd.set_ (HR7.out.below HBA.out) (p := ⟨ga, i, none⟩) hgt (.int .u64 (y : Int))) hsz)
            clear hs HOWN HBA hsz c0 f0
            obtain ⟨W, hW⟩ : ∃ W, wa.setCell ⟨ga, i, none⟩ (.int .u64 (y : Int)) = W := ⟨_, rfl⟩
            rw [hW] at HS8 HB8 HR8 ⊢
            clear hW
            refine (HR2.out _ _ _ (Rd.of_own HS8.out)).mono ?_
            rintro e w9 ⟨⟨A9, c9, rfl, hr9, -⟩, hB9⟩
            have HB9 := Lib.hid (HB8.out.trans (hB9.mono HB8.out.size))
            have HR9 := Lib.hid (HR8.out.up hB9 hB9.size)
            have HX9 := Lib.hid ((Rd.of_own HS8.out).up hB9 hB9.size)
            have HQ9 := Lib.hid hr9
            clear hr9 hB9
            go_wp2_with fail
            refine (HM2.out _ _ _ HX9.out).mono ?_
            rintro e w10 ⟨⟨A10, c10, rfl, -, -⟩, hB10⟩
            have HB10 := Lib.hid (HB9.out.trans (hB10.mono HB9.out.size))
            have HR10 := Lib.hid (HR9.out.up hB10 hB10.size)
            have HQ10 := Lib.hid (HQ9.out.up hB10 hB10.size)
            clear hB10
            go_wp2_with fail
            refine (HSI.out _ _ _ _ _ (show RdI _ _ _ _ from HR10.out) (show RdI _ _ _ _ from HQ10.out)).mono ?_
            rintro e w11 ⟨rfl, hB11⟩
            have HB11 := Lib.hid (HB10.out.trans (hB11.mono HB10.out.size))
            go_wp2_with fail
            go_ret
            exact ⟨rfl, HB11.out⟩
          · have hkb : ((rawBk (wd ws i)).kind != 1) = true ∨ ((rawBk (wd ws i)).kind != 1) = false ∧ ((i : Int) % 2 != 0) = true := by
              by_cases h1 : (rawBk (wd ws i)).kind = 1
              · refine .inr ⟨by rw [bne_eq_false_iff_eq]; exact h1, ?_⟩
                rw [bne_iff_ne]
                have : i % 2 ≠ 0 := fun h => hk ⟨h1, h⟩
                omega
              · exact .inl (by rw [bne_iff_ne]; exact h1)
            generalize rcOut ws = R at HRC hrl
            generalize mkdL (hpOut ws) = D at HMD
            generalize (rawBk (wd ws i)).size = S at HSP
            generalize (rawBk (wd ws i)).kind = K at HSP hkb
            generalize (rawBk (wd ws i)).typ = T at HSP
            generalize (rawBk (wd ws i)).mark = M at HSP
            clear hg hgn h0 hhp hs hk hraw
            rcases hkb with hk1 | ⟨hk1, hk2⟩
            · go_enter Try.func5, Try.ntmps5
              go_wp2_with fail
              refine (alive25_c w).mono ?_
              rintro e w1 ⟨rfl, hB1⟩
              go_wp2_with fail
              refine (great25_c _ ws.length c _ hn).mono ?_
              rintro e w1' ⟨rfl, rfl⟩
              rw [HG.out]
              go_wp2_with fail
              refine (HRC.out _ (HR.out.up hB1 hB1.size)).mono ?_
              rintro e w2 ⟨⟨A2, c2, rfl, hr2, -⟩, hB2⟩
              have HB2 := Lib.hid (hB1.trans (hB2.mono hB1.size))
              have HR2' := Lib.hid hr2
              have HRW := Lib.hid (HR.out.up HB2.out HB2.out.size)
              clear hr2 hB2 hB1
              go_wp2_with fail
              refine (HMD.out _ HRW.out).mono ?_
              rintro e w4 ⟨⟨A4, c4, rfl, -, -⟩, hB4⟩
              have HB4 := Lib.hid (HB2.out.trans (hB4.mono HB2.out.size))
              have HRW4 := Lib.hid (HRW.out.up hB4 hB4.size)
              have HR4 := Lib.hid (HR2'.out.up hB4 hB4.size)
              clear hB4
              obtain ⟨bx, ox, eA, hbx, x0⟩ := RdW.at_ HRW4.out hi
              cases eA
              rw [← wd_get] at x0
              first | rw [HU.out] at x0 | skip
              go_wp2_with fail
              refine (HSP.out _).mono ?_
              rintro e w5 ⟨rfl, hB5⟩
              have HB5 := Lib.hid (HB4.out.trans (hB5.mono HB4.out.size))
              have HRW5 := Lib.hid (HRW4.out.up hB5 hB5.size)
              have HR5 := Lib.hid (HR4.out.up hB5 hB5.size)
              clear hB5 x0
              go_wp2_with fail
              go_ret
              exact ⟨rfl, HB5.out.alloc HB5.out.size _⟩
            · go_enter Try.func5, Try.ntmps5
              go_wp2_with fail
              refine (alive25_c w).mono ?_
              rintro e w1 ⟨rfl, hB1⟩
              go_wp2_with fail
              refine (great25_c _ ws.length c _ hn).mono ?_
              rintro e w1' ⟨rfl, rfl⟩
              rw [HG.out]
              go_wp2_with fail
              refine (HRC.out _ (HR.out.up hB1 hB1.size)).mono ?_
              rintro e w2 ⟨⟨A2, c2, rfl, hr2, -⟩, hB2⟩
              have HB2 := Lib.hid (hB1.trans (hB2.mono hB1.size))
              have HR2' := Lib.hid hr2
              have HRW := Lib.hid (HR.out.up HB2.out HB2.out.size)
              clear hr2 hB2 hB1
              go_wp2_with fail
              refine (HMD.out _ HRW.out).mono ?_
              rintro e w4 ⟨⟨A4, c4, rfl, -, -⟩, hB4⟩
              have HB4 := Lib.hid (HB2.out.trans (hB4.mono HB2.out.size))
              have HRW4 := Lib.hid (HRW.out.up hB4 hB4.size)
              have HR4 := Lib.hid (HR2'.out.up hB4 hB4.size)
              clear hB4
              obtain ⟨bx, ox, eA, hbx, x0⟩ := RdW.at_ HRW4.out hi
              cases eA
              rw [← wd_get] at x0
              first | rw [HU.out] at x0 | skip
              go_wp2_with fail
              refine (HSP.out _).mono ?_
              rintro e w5 ⟨rfl, hB5⟩
              have HB5 := Lib.hid (HB4.out.trans (hB5.mono HB4.out.size))
              have HRW5 := Lib.hid (HRW4.out.up hB5 hB5.size)
              have HR5 := Lib.hid (HR4.out.up hB5 hB5.size)
              clear hB5 x0
              go_wp2_with fail
              go_ret
              exact ⟨rfl, HB5.out.alloc HB5.out.size _⟩
      · have hd : decide (a < 128) = true ∨ decide (a < 128) = false ∧ decide ((ws.length : Int) ≤ a) = true := by
          by_cases h1 : a < 128
          · exact .inl (by rw [decide_eq_true_iff]; exact h1)
          · refine .inr ⟨by rw [decide_eq_false_iff_not]; exact h1, ?_⟩
            rw [decide_eq_true_iff]
            rcases Int.lt_or_le a (ws.length : Int) with h2 | h2
            · exact absurd ⟨by omega, h2⟩ hin
            · exact h2
        generalize rcOut ws = R at HRC hrl
        clear hg hgn h0 hhp hin
        rcases hd with d1 | ⟨d1, d2⟩
        all_goals
          go_enter Try.func5, Try.ntmps5
          go_wp2_with fail
          refine (alive25_c w).mono ?_
          rintro e w1 ⟨rfl, hB1⟩
          go_wp2_with fail
          refine (great25_c _ ws.length c _ hn).mono ?_
          rintro e w1' ⟨rfl, rfl⟩
          rw [HG.out]
          go_wp2_with fail
          refine (HRC.out _ (HR.out.up hB1 hB1.size)).mono ?_
          rintro e w2 ⟨⟨A2, c2, rfl, -, -⟩, hB2⟩
          have HB2 := Lib.hid (hB1.trans (hB2.mono hB1.size))
          clear hB2 hB1
          go_wp2_with fail
          go_ret
          exact ⟨rfl, HB2.out⟩
    · have hn1 : (rcErr ws != 0) = true := by rw [bne_iff_ne]; exact h0
      obtain ⟨r, hr⟩ : ∃ r, rcErr ws = r := ⟨_, rfl⟩
      obtain ⟨q, hq⟩ : ∃ q, rcOut ws = q := ⟨_, rfl⟩
      rw [hr, hq] at HRC
      rw [hr] at hn1
      clear hg hgn h0 hr hq
      go_enter Try.func5, Try.ntmps5
      go_wp2_with fail
      refine (alive25_c w).mono ?_
      rintro e w1 ⟨rfl, hB1⟩
      go_wp2_with fail
      refine (great25_c _ ws.length c _ hn).mono ?_
      rintro e w1' ⟨rfl, rfl⟩
      rw [HG.out]
      go_wp2_with fail
      refine (HRC.out _ (HR.out.up hB1 hB1.size)).mono ?_
      rintro e w2 ⟨⟨A2, c2, rfl, -, -⟩, hB2⟩
      have HB2 := Lib.hid (hB1.trans (hB2.mono hB1.size))
      clear hB2 hB1
      go_wp2_with fail
      go_ret
      exact ⟨rfl, HB2.out⟩
  · have HG := Lib.hid hg
    clear hg
    go_enter Try.func5, Try.ntmps5
    go_wp2_with fail
    refine (alive25_c w).mono ?_
    rintro e w1 ⟨rfl, hB1⟩
    go_wp2_with fail
    refine (great25_c A ws.length c _ hn).mono ?_
    rintro e w1' ⟨rfl, rfl⟩
    rw [HG.out]
    go_wp2_with fail
    go_ret
    exact ⟨rfl, hB1⟩
end Go.Proofs.Ytpifagclhhaniaa
