/- The law ResumeSame: behind any of its changes going on gives all the others, and the same view at the end, which is done. -/
import Derived.Test.YtpmfiibndiecpaaAl33
import Derived.Test.YtpmfiibndiecpaaStgR
namespace Go.Proofs.Ytpmfiibndiecpaa
open Go.RowKit

theorem chs_getR {L : List Ch} {outs : List (List En)} (h : L.map Ch.l = outs) {k : Nat} (hk : k < L.length) : ∃ h2 : k < outs.length, outs[k] = L[k].l := by
  subst h
  exact ⟨by rw [List.length_map]; exact hk, by rw [List.getElem_map]⟩
theorem own_formR {w : World} {H n c : Nat} {e : TypeId} {sz : Nat} {A : Option Addr} {xs : List Value} (h : w.ownsRow H e sz (.slice A n c) n xs) : (A = none ∧ n = 0 ∧ c = 0) ∨ ∃ b o, A = some ⟨b, o, none⟩ := by
  rcases h.2 with ⟨h1, h2⟩ | ⟨g, cap, cur, h1, -⟩
  · cases h1; exact .inl ⟨rfl, by omega, rfl⟩
  · cases h1; exact .inr ⟨g, 0, rfl⟩

set_option maxRecDepth 100000 in
set_option maxHeartbeats 16000000 in
theorem resumeSame_walk (w : World) (A : Option Addr) (ws : List Nat) (c : Nat) (hn : ws.length ≤ maxLen) (_hc : ws.length ≤ c) (hr : RdW w w.heap.size A ws) (ho : ∀ x ∈ ws, x < 18446744073709551616) (n : Int) (_hnn : -9223372036854775808 ≤ n ∧ n ≤ 9223372036854775807) :
    Calls Try.prog 12 #[.slice A ws.length c, .int .i64 n] w fun e w' => e = .returned (.bool true) ∧ Below w.heap.size w w' := by
  unfold maxLen at hn
  have HR := Lib.hid hr
  have HO := Lib.hid ho
  clear hr ho
  cases hg : greatW ws.length
  · have HG := Lib.hid hg
    have hgn := greatW_no hg
    have hlen : ws.length ≤ 2060 := by omega
    have HAL := Lib.hid (fun W (h : RdW W W.heap.size A ws) => rAll_c A ws c ws.length W rfl hn _hc h HO.out)
    unfold RaRes at HAL
    by_cases h0 : (rsAll ws).1 = 0
    · obtain ⟨outs, y, hall⟩ : ∃ outs y, rsAll ws = (0, outs, y) := ⟨(rsAll ws).2.1, (rsAll ws).2.2, by rw [← h0]⟩
      rw [hall] at HAL
      dsimp only at HAL
      clear h0
      obtain ⟨hck, hre, hfew, hsty, hon, hsm⟩ := rsAll_on HO.out hall
      have hsz := (ck_parts hck).2.1
      have hbd := fr_bd ws hsz
      obtain ⟨y1, y2, -⟩ := hon outs.length (Nat.le_refl _)
      rw [hsty] at y1 y2
      obtain ⟨z1, z2, z3⟩ := rs_last HO.out hre
      have HNX := Lib.hid (fun A2 c2 W (hc2 : ws.length ≤ c2) (h : RdW W W.heap.size A2 y) => rNext_c A2 y c2 ws.length W y2 hn hc2 h y1)
      unfold NxRes at HNX
      rw [z2, z3] at HNX
      obtain ⟨Ey, hEy⟩ : ∃ E, (rsNx y).2.2 = E := ⟨_, rfl⟩
      rw [hEy] at HNX
      have hol : outs.length ≤ 3000 := by omega
      by_cases hin : 0 ≤ n ∧ n ≤ (outs.length : Int)
      · obtain ⟨n1, n2⟩ := hin
        obtain ⟨k, rfl⟩ := Int.eq_ofNat_of_zero_le n1
        have hk : k ≤ outs.length := by omega
        have HON := Lib.hid hon
        have HSM := Lib.hid hsm
        have HPT := Lib.hid (fun A2 B x E c d W (hx : x.length = ws.length) (hE : Small ws.length E) (h : RdW W W.heap.size A2 x) (h2 : RdE W W.heap.size B E) => sPut_c A2 B x E c d ws.length E.length W.heap.size W hx rfl hsz hE.le (fun e he => by have := hE.ins e he; omega) h h2 (Nat.le_refl _))
        unfold OwnV at HPT
        obtain ⟨k1, k2, k3⟩ := hon k hk
        have HA2 := Lib.hid (fun A2 c2 W (hc2 : ws.length ≤ c2) (h : RdW W W.heap.size A2 (stX ws outs k)) => rAll_c A2 (stX ws outs k) c2 ws.length W k2 hn hc2 h k1)
        unfold RaRes at HA2
        rw [k3, k2] at HA2
        dsimp only at HA2
        have hb1 := hbd.1
        clear hg hgn hck hon hsz k1 k2 k3 hall hbd hre hsty z1 z2 z3 hEy hsm hfew
        obtain ⟨i0, hi, hz0, hz1, hz2⟩ := info_parts infoWord
        have HI := Lib.hid hi
        have HZ0 := Lib.hid hz0
        have HZ1 := Lib.hid hz1
        have HZ2 := Lib.hid hz2
        clear hi hz0 hz1 hz2
        go_enter Try.func12, Try.ntmps12
        go_wp2_with fail
        refine (alive33_c w).mono ?_
        rintro e w1 ⟨rfl, hB1⟩
        go_wp2_with fail
        refine (great25_c A ws.length c _ hn).mono ?_
        rintro e w1' ⟨rfl, rfl⟩
        rw [HG.out]
        go_wp2_with fail
        refine (HAL.out _ (HR.out.up hB1 hB1.size)).mono ?_
        rintro e w3' ⟨⟨L, B3, d3, vx, rfl, hL, ⟨hLo, hLe⟩, hx, -⟩, hB3⟩
        obtain ⟨g3, c3, rfl, hyn, hx3⟩ := hx trivial
        have hll : L.length = outs.length := by rw [← hL, List.length_map]
        have HB3' := Lib.hid (hB1.trans (hB3.mono hB1.size))
        have HX3' := Lib.hid (Rd.of_own hx3)
        have HLO' := Lib.hid (Rd.of_own hLo)
        have HLE' := Lib.hid (fun x hx => Rd.of_own (hLe x hx))
        have HLL := Lib.hid hL
        have hcap := own_capR hLo
        have HFO := Lib.hid (own_formR hLo)
        have hcx3 := own_capR hx3
        have dn1 : decide ((k : Int) < 0) = false := by rw [decide_eq_false_iff_not]; omega
        have dn2 : decide ((L.length : Int) < (k : Int)) = false := by rw [decide_eq_false_iff_not]; omega
        have dn2n : decide (L.length < k) = false := by rw [decide_eq_false_iff_not]; omega
        have HGET := Lib.hid (fun i (hi : i < L.length) => chs_getR hL hi)
        have HXS := Lib.hid (fun i (hi : i < outs.length) => stX_succ (x := ws) hi)
        have HLLn := Lib.hid hll
        have hlk : k ≤ L.length := by omega
        clear hx hx3 hLo hLe hL hB1 hB3 hll hk
        go_wp2_with fail
        refine (HNX.out _ _ _ hcx3 HX3'.out).mono ?_
        rintro e w3 ⟨⟨A4, c4, rfl, -⟩, hB4⟩
        have HB3 := Lib.hid (HB3'.out.trans (hB4.mono HB3'.out.size))
        have HW3 := Lib.hid (HR.out.up HB3.out HB3.out.size)
        have HX3 := Lib.hid (HX3'.out.up hB4 hB4.size)
        have HLO := Lib.hid (HLO'.out.up hB4 hB4.size)
        have HLE := Lib.hid (fun x hx => Rd.up (HLE'.out x hx) hB4 hB4.size)
        clear hB4 HX3' HLO' HLE' HB3'
        go_wp2_with (at_builtin; refine wpList_append_rd' _ (by rfl) _ _ 37 rfl w3.heap.size 22 i0 _ 1 8 Try.underlying37 HI.out HZ0.out HZ1.out HZ2.out rfl (by decide) (.slice (some ⟨w3.heap.size, 0, none⟩) 0 0) 0 [] (by rfl) (own_empty w3 _ _ _ (Nat.le_refl _)) w3.heap.size (A) (ws.length) _ (ws.flatMap wordCells) (by rfl) (by rw [words_len]; omega) (Rd.alloc (HW3.out) (Nat.le_refl _) _) (cells_one word_one _) (by unfold maxLen; omega) (by omega) (by simp) ?_; intro v1 wa hown1 hg1; have hBa := below_append0 ((Below.refl w3.heap.size w3).alloc (Nat.le_refl _) _) (by simp) (own_empty w3 w3.heap.size 22 1 (Nat.le_refl _)) hg1; simp only [Nat.zero_add, List.nil_append] at hown1; obtain ⟨ga, ca, rfl⟩ := own_some hown1 (by omega); have HOWN := Lib.hid hown1; have HBA := Lib.hid hBa; clear hown1 hBa hg1)
        go_loopw [12, 13] (fun vx i wr => ∃ (q g cx : Nat), q ≤ k ∧ i = .int .i64 q ∧ vx = .slice (some ⟨g, 0, none⟩) ws.length cx ∧ wr.ownsRow w3.heap.size 22 1 (.slice (some ⟨g, 0, none⟩) ws.length cx) ws.length ((stX ws outs q).flatMap wordCells) ∧ Below w3.heap.size w3 wr) (fun _ i _ => k - (intOf i).toNat)
        case atStart => exact ⟨0, ga, ca, Nat.zero_le _, rfl, rfl, HOWN.out, HBA.out⟩
        case round =>
          obtain ⟨q, g, cx, hq, rfl, rfl, hown, hB⟩ := hrel
          have hz := hB.size
          by_cases hlt : q < k
          · have hqL : q < L.length := by omega
            obtain ⟨bL, oL, rfl, hbL, p1⟩ := RdC.at_ (Rd.below HLO.out hB) hqL
            obtain ⟨hq2, e1⟩ := HGET.out q hqL
            have hx1 := HXS.out q hq2
            obtain ⟨-, hxl, -⟩ := HON.out q (Nat.le_of_lt hq2)
            have HP := Lib.hid (HPT.out (some ⟨g, 0, none⟩) L[q].A (stX ws outs q) outs[q] cx L[q].c wr hxl (HSM.out q hq2) (Rd.of_own hown) (by rw [e1]; exact Rd.up (HLE.out _ (List.getElem_mem hqL)) hB hz))
            rw [← hx1] at HP
            have hxl2 : (stX ws outs (q + 1)).length = ws.length := by rw [hx1, putE_len]; exact hxl
            rw [hxl2, e1] at HP
            obtain ⟨x, hx⟩ : ∃ x, L[q] = x := ⟨_, rfl⟩
            rw [hx] at p1 HP
            obtain ⟨xA, xc, xl⟩ := x
            dsimp only at p1 HP
            have hqi : (q : Int) < (L.length : Int) := by omega
            have hqk : (q : Int) < (k : Int) := by omega
            have hq0 : (0 : Int) ≤ (q : Int) := by omega
            clear hx e1 hx1 hxl hxl2 hown
            go_wp2_with fail
            refine HP.out.mono ?_
            rintro e w5 ⟨g5, c5, rfl, hown5, hB5⟩
            have HB5 := Lib.hid (hB.trans (hB5.mono hz))
            have HO5 := Lib.hid (own_mono hown5 hz)
            clear hown5 hB5
            go_wp2_with fail
            go_roundw
            case rel => exact ⟨q + 1, g5, c5, by omega, by go_num, rfl, HO5.out, HB5.out⟩
            case measure => simp [intOf]; omega
          · have hqk : q = k := by omega
            subst hqk
            have HB4 := Lib.hid (HB3.out.trans (hB.mono HB3.out.size))
            have HX4 := Lib.hid (Rd.of_own hown)
            have hcx := own_capR hown
            have HLO4 := Lib.hid (HLO.out.up hB hz)
            have HLE4 := Lib.hid (fun x hx => Rd.up (HLE.out x hx) hB hz)
            have HY4 := Lib.hid (HX3.out.up hB hz)
            clear hown hB hz
            go_wp2_with fail
            refine (HA2.out _ _ _ hcx HX4.out).mono ?_
            rintro e w5 ⟨⟨L2, B5, d5, vx5, rfl, hL5, ⟨hLo5, hLe5⟩, hx5, -⟩, hB5⟩
            obtain ⟨g5, c5, rfl, -, hx5⟩ := hx5 trivial
            have HB5 := Lib.hid (HB4.out.trans (hB5.mono HB4.out.size))
            have HLO5 := Lib.hid (HLO4.out.up hB5 hB5.size)
            have HLE5 := Lib.hid (fun x hx => Rd.up (HLE4.out x hx) hB5 hB5.size)
            have HY5 := Lib.hid (HY4.out.up hB5 hB5.size)
            have HZ5 := Lib.hid (Rd.of_own hx5)
            have HMO5 := Lib.hid (Rd.of_own hLo5)
            have HME5 := Lib.hid (fun x hx => Rd.of_own (hLe5 x hx))
            have HML5 := Lib.hid hL5
            clear hLo5 hLe5 hx5 hB5 hL5
            have hl2 : L2.length = outs.length - q := by
              have := congrArg List.length HML5.out
              rw [List.length_map, List.length_drop] at this
              exact this
            have hyl : y.length ≤ 1000000 := by omega
            have HSW := Lib.hid (fun A1 B1 c1 d1 W (h : RdW W W.heap.size A1 y) (h2 : RdW W W.heap.size B1 y) => sameWords_c A1 B1 y y ws.length ws.length c1 d1 W.heap.size W hyn hyn (by omega) h h2 (Nat.le_refl _))
            rw [show decide (y = y) = true by simp] at HSW
            have HSM2 : Hid (∀ x ∈ L2, x.l.length ≤ 100000) := Lib.hid fun x hx => by
              have hm : x.l ∈ outs := List.mem_of_mem_drop (by rw [← HML5.out]; exact List.mem_map_of_mem hx)
              obtain ⟨i, hi, e⟩ := List.getElem_of_mem hm
              have := (HSM.out i hi).le
              rw [e] at this
              omega
            have HL2 := Lib.hid hl2
            have hmap : L2.map Ch.l = (L.drop q).map Ch.l := by rw [HML5.out, List.map_drop, HLL.out]
            by_cases hqd : q = d3
            · have hL0 : L.length = q := by omega
              have hdn : L.drop q = [] := List.drop_eq_nil_of_le (by omega)
              have h20 : L2.length = 0 := by rw [hl2, ← HLLn.out]; omega
              rw [hdn] at hmap
              have HSC := Lib.hid (fun (Bc : Option Addr) cc W h1 h3 => sameChs_c B5 Bc L2 [] d5 cc L2.length 0 W rfl rfl hmap (by omega) h1 (fun hne => absurd rfl hne) h3 (fun x hx => absurd hx (by simp)))
              have HL0 := Lib.hid hL0
              have ck0 : (q : Int) = (d3 : Int) := by omega
              subst hqd
              clear hl2 hyl hmap hL0 hdn h20 hcap ck0
              have ck1 : (q : Int) ≤ (L.length : Int) := by omega
              rw [HL0.out] at ck1 ⊢
              clear ck1 dn2 dn2n
              go_wp2_with fail
              refine (HSC.out _ _ w5 (show RdC _ _ _ _ from HMO5.out) (fun x hx => ⟨HME5.out x hx, HSM2.out x hx⟩)).mono ?_
              rintro e w7 ⟨rfl, hB7⟩
              have HB7 := Lib.hid (HB5.out.trans (hB7.mono HB5.out.size))
              have HY7 := Lib.hid (HY5.out.up hB7 hB7.size)
              have HZ7 := Lib.hid (HZ5.out.up hB7 hB7.size)
              clear hB7
              go_wp2_with fail
              refine (HSW.out _ _ _ _ _ HZ7.out HY7.out).mono ?_
              rintro e w8 ⟨rfl, hB8⟩
              have HB8 := Lib.hid (HB7.out.trans (hB8.mono HB7.out.size))
              clear hB8
              go_wp2_with fail
              go_ret
              exact ⟨rfl, HB8.out⟩
            · obtain ⟨bL, oL, hBe⟩ : ∃ b o, B3 = some ⟨b, o, none⟩ := by
                rcases HFO.out with ⟨-, h1, h2⟩ | h1
                · omega
                · exact h1
              subst hBe
              have HSC := Lib.hid (fun (Bc : Option Addr) W h1 h2 h3 h4 => sameChs_c B5 Bc L2 (L.drop q) d5 (d3 - q) L2.length (L.length - q) W rfl (by rw [List.length_drop]) hmap (by omega) h1 h2 h3 h4)
              have ck1 : (q : Int) ≤ (L.length : Int) := by omega
              have ck2 : (q : Int) ≤ (d3 : Int) := by omega
              have ck3 : q ≠ d3 := hqd
              have ck4 : ¬ (q : Int) = (d3 : Int) := by omega
              clear hl2 hyl hmap hqd
              go_wp2_with fail
              refine (HSC.out (some ⟨bL, oL + q, none⟩) w5 (show RdC _ _ _ _ from HMO5.out) ?_ (fun x hx => ⟨HME5.out x hx, HSM2.out x hx⟩) (fun x hx => HLE5.out x (List.mem_of_mem_drop hx))).mono ?_
              · have h9 := Rd.drop_ HLO5.out q
                rw [← flat1_drop Ch.cells (fun _ => rfl)] at h9
                have e9 : Option.map (fun x : Addr => x.add q) (some ⟨bL, oL, none⟩) = some ⟨bL, oL + q, none⟩ := by
                  simp only [Option.map_some, Addr.add]
                  by_cases h0 : q = 0
                  · rw [if_pos h0, h0]; rfl
                  · rw [if_neg h0]
                rw [e9] at h9
                exact h9
              rintro e w7 ⟨rfl, hB7⟩
              have HB7 := Lib.hid (HB5.out.trans (hB7.mono HB5.out.size))
              have HY7 := Lib.hid (HY5.out.up hB7 hB7.size)
              have HZ7 := Lib.hid (HZ5.out.up hB7 hB7.size)
              clear hB7
              go_wp2_with fail
              refine (HSW.out _ _ _ _ _ HZ7.out HY7.out).mono ?_
              rintro e w8 ⟨rfl, hB8⟩
              have HB8 := Lib.hid (HB7.out.trans (hB8.mono HB7.out.size))
              clear hB8
              go_wp2_with fail
              go_ret
              exact ⟨rfl, HB8.out⟩
      · have hnn : n < 0 ∨ (0 ≤ n ∧ (outs.length : Int) < n) := by omega
        clear hin hck hon hsz hbd hall hg hgn hre hsty hsm z1 z2 z3 hEy
        go_enter Try.func12, Try.ntmps12
        go_wp2_with fail
        refine (alive33_c w).mono ?_
        rintro e w1 ⟨rfl, hB1⟩
        go_wp2_with fail
        refine (great25_c A ws.length c _ hn).mono ?_
        rintro e w1' ⟨rfl, rfl⟩
        rw [HG.out]
        go_wp2_with fail
        refine (HAL.out _ (HR.out.up hB1 hB1.size)).mono ?_
        rintro e w3 ⟨⟨L, B3, d3, vx, rfl, hL, -, hx, -⟩, hB3⟩
        obtain ⟨g3, c3, rfl, hyn, hx3⟩ := hx trivial
        have HB3 := Lib.hid (hB1.trans (hB3.mono hB1.size))
        have HX3 := Lib.hid (Rd.of_own hx3)
        have hcx3 := own_capR hx3
        have hll : L.length = outs.length := by rw [← hL, List.length_map]
        clear hB1 hB3 hx hx3 hL
        rcases hnn with h1 | ⟨h1, h2⟩
        · have dn1 : decide (n < 0) = true := by rw [decide_eq_true_iff]; exact h1
          clear hll
          go_wp2_with fail
          refine (HNX.out _ _ _ hcx3 HX3.out).mono ?_
          rintro e w4 ⟨⟨A4, c4, rfl, -⟩, hB4⟩
          have HB4 := Lib.hid (HB3.out.trans (hB4.mono HB3.out.size))
          clear hB4
          go_wp2_with fail
          go_ret
          exact ⟨rfl, HB4.out⟩
        · have dn1 : decide (n < 0) = false := by rw [decide_eq_false_iff_not]; omega
          have dn2 : decide ((L.length : Int) < n) = true := by rw [decide_eq_true_iff]; omega
          have h3 : (L.length : Int) < n := by omega
          clear hll h2
          go_wp2_with fail
          refine (HNX.out _ _ _ hcx3 HX3.out).mono ?_
          rintro e w4 ⟨⟨A4, c4, rfl, -⟩, hB4⟩
          have HB4 := Lib.hid (HB3.out.trans (hB4.mono HB3.out.size))
          clear hB4
          go_wp2_with fail
          go_ret
          exact ⟨rfl, HB4.out⟩
    · have hno := rsAll_bad HO.out h0
      obtain ⟨err, herr⟩ : ∃ err, (rsAll ws).1 = err := ⟨_, rfl⟩
      rw [hno] at HAL
      rw [herr] at HAL h0
      dsimp only at HAL
      have dn0 : decide (err = 0) = false := by rw [decide_eq_false_iff_not]; exact h0
      have hne : (err != 0) = true := by rw [bne_iff_ne]; exact h0
      clear hno herr hg hgn
      go_enter Try.func12, Try.ntmps12
      go_wp2_with fail
      refine (alive33_c w).mono ?_
      rintro e w1 ⟨rfl, hB1⟩
      go_wp2_with fail
      refine (great25_c A ws.length c _ hn).mono ?_
      rintro e w1' ⟨rfl, rfl⟩
      rw [HG.out]
      go_wp2_with fail
      refine (HAL.out _ (HR.out.up hB1 hB1.size)).mono ?_
      rintro e w3 ⟨⟨L, B3, d3, vx, rfl, hL, -, -, hvx⟩, hB3⟩
      have HB3 := Lib.hid (hB1.trans (hB3.mono hB1.size))
      rw [hvx h0]
      obtain rfl : L = [] := List.map_eq_nil_iff.1 hL
      clear hB1 hB3 hL hvx h0
      go_wp2_with fail
      go_ret
      exact ⟨rfl, HB3.out⟩
  · have HG := Lib.hid hg
    clear hg
    go_enter Try.func12, Try.ntmps12
    go_wp2_with fail
    refine (alive33_c w).mono ?_
    rintro e w1 ⟨rfl, hB1⟩
    go_wp2_with fail
    refine (great25_c A ws.length c _ hn).mono ?_
    rintro e w1' ⟨rfl, rfl⟩
    rw [HG.out]
    go_wp2_with fail
    go_ret
    exact ⟨rfl, hB1⟩
end Go.Proofs.Ytpmfiibndiecpaa
