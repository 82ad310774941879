/- The law ResumeFew: going on ends; a view that is done stays as it is. -/
import Derived.Test.YtpmfiibndiecpaaAl33
namespace Go.Proofs.Ytpmfiibndiecpaa
open Go.RowKit

set_option maxRecDepth 100000 in
set_option maxHeartbeats 16000000 in
theorem resumeFew_walk (w : World) (A : Option Addr) (ws : List Nat) (c : Nat) (hn : ws.length ≤ maxLen) (_hc : ws.length ≤ c) (hr : RdW w w.heap.size A ws) (ho : ∀ x ∈ ws, x < 18446744073709551616) :
    Calls Try.prog 13 #[.slice A ws.length c] w fun e w' => e = .returned (.bool true) ∧ Below w.heap.size w w' := by
  unfold maxLen at hn
  have HR := Lib.hid hr
  have HO := Lib.hid ho
  clear hr ho
  cases hg : greatW ws.length
  · have HG := Lib.hid hg
    have hgn := greatW_no hg
    have hlen : ws.length ≤ 2060 := by omega
    have HAL := Lib.hid (fun W (h : RdW W W.heap.size A ws) => rAll_c A ws c ws.length W rfl hn _hc h HO.out)
    have HSP := Lib.hid (fun W (h : RdW W W.heap.size A ws) => rSteps_c A ws c ws.length W rfl hn _hc h HO.out)
    unfold RaRes at HAL
    by_cases h0 : (rsAll ws).1 = 0
    · obtain ⟨outs, y, hall⟩ : ∃ outs y, rsAll ws = (0, outs, y) := ⟨(rsAll ws).2.1, (rsAll ws).2.2, by rw [← h0]⟩
      rw [hall] at HAL HSP
      dsimp only at HAL HSP
      clear h0
      obtain ⟨hck, hre, hfew, hsty, hon, hsm⟩ := rsAll_on HO.out hall
      have hsz := (ck_parts hck).2.1
      have hbd := fr_bd ws hsz
      obtain ⟨y1, y2, -⟩ := hon outs.length (Nat.le_refl _)
      rw [hsty] at y1 y2
      obtain ⟨z1, z2, z3⟩ := rs_last HO.out hre
      obtain ⟨-, v0, v1, v2, v3, v4, -⟩ := rs_done z2 z3
      have hye : rsAll y = (0, [], y) := by unfold rsAll; rw [if_pos v4]; exact rsE_done z2 z3
      have HLY := Lib.hid (fun A2 c2 W (hc2 : ws.length ≤ c2) (h : RdW W W.heap.size A2 y) => line_c A2 y c2 ws.length W y2 hn hc2 h y1)
      have hlv : lnV y = phV 0 0 0 := by unfold lnV; rw [if_pos v3, v0, v1, v2]
      rw [hlv, v3] at HLY
      unfold phV at HLY
      simp only [Int.cast_ofNat_Int] at HLY
      have HAY := Lib.hid (fun A2 c2 W (hc2 : ws.length ≤ c2) (h : RdW W W.heap.size A2 y) => rAll_c A2 y c2 ws.length W y2 hn hc2 h y1)
      unfold RaRes at HAY
      rw [hye, y2] at HAY
      dsimp only at HAY
      have hb1 := hbd.1
      have HYN := Lib.hid y2
      have HSW := Lib.hid (fun A1 B1 c1 d1 W (h : RdW W W.heap.size A1 y) (h2 : RdW W W.heap.size B1 y) => sameWords_c A1 B1 y y ws.length ws.length c1 d1 W.heap.size W HYN.out HYN.out (by omega) h h2 (Nat.le_refl _))
      rw [show decide (y = y) = true by simp] at HSW
      have hol : outs.length ≤ 3000 := by omega
      obtain ⟨M, hM⟩ : ∃ M : Nat, (ws.length - 128) / 2 = M := ⟨_, rfl⟩
      have hM2 : M ≤ 1000 := by omega
      rw [hM] at hfew
      have q1 : IntKind.i64.wrap ((ws.length : Int) - 128) = (ws.length : Int) - 128 := IntWalk.i64_in _ (by omega)
      have q2 : ((ws.length : Int) - 128).tdiv 2 = (M : Int) := by rw [Int.tdiv_eq_ediv_of_nonneg (by omega)]; omega
      have q3 : IntKind.i64.wrap (M : Int) = (M : Int) := IntWalk.i64_in _ (by omega)
      have q4 : IntKind.i64.wrap ((M : Int) * 3) = (M : Int) * 3 := IntWalk.i64_in _ (by omega)
      have q5 : IntKind.i64.wrap ((M : Int) * 3 + 20) = (M : Int) * 3 + 20 := IntWalk.i64_in _ (by omega)
      have q6 : decide ((outs.length : Int) ≤ (M : Int) * 3 + 20) = true := by rw [decide_eq_true_iff]; omega
      have q7 : decide (outs.length ≤ M * 3 + 20) = true := by rw [decide_eq_true_iff]; omega
      clear hg hgn hck hon hsz y1 y2 hall hbd hre hsty z1 z2 z3 hsm hfew v0 v1 v2 v3 v4 hye hlv hM hM2
      go_enter Try.func13, Try.ntmps13
      go_wp2_with fail
      refine (alive33_c w).mono ?_
      rintro e w1 ⟨rfl, hB1⟩
      go_wp2_with fail
      refine (great25_c A ws.length c _ hn).mono ?_
      rintro e w1' ⟨rfl, rfl⟩
      rw [HG.out]
      go_wp2_with fail
      refine (HAL.out _ (HR.out.up hB1 hB1.size)).mono ?_
      rintro e w3 ⟨⟨L, B3, d3, vx, rfl, hL, -, hx, -⟩, hB3⟩
      obtain ⟨g3, c3, rfl, -, hx3⟩ := hx trivial
      have hll : L.length = outs.length := by rw [← hL, List.length_map]
      have HB3 := Lib.hid (hB1.trans (hB3.mono hB1.size))
      have HW3 := Lib.hid (HR.out.up HB3.out HB3.out.size)
      have HX3 := Lib.hid (Rd.of_own hx3)
      have hcx3 := own_capR hx3
      rw [hll]
      clear hx hx3 hB1 hB3 hL hll
      go_wp2_with fail
      refine (HSP.out _ HW3.out).mono ?_
      rintro e w4 ⟨rfl, hB4⟩
      have HB4 := Lib.hid (HB3.out.trans (hB4.mono HB3.out.size))
      have HX4 := Lib.hid (HX3.out.up hB4 hB4.size)
      clear hB4
      go_wp2_with fail
      refine (HLY.out _ _ _ hcx3 HX4.out).mono ?_
      rintro e w5 ⟨rfl, hB5⟩
      have hba := (Below.refl w5.heap.size w5).alloc (Nat.le_refl _) (.cells #[.int .i64 0, .int .i64 0, .int .i64 0] 76)
      have bx5 := Bx.new w5 76 #[.int .i64 0, .int .i64 0, .int .i64 0]
      have hb5 := HB4.out.trans (hB5.mono HB4.out.size)
      have HB5 := Lib.hid (hb5.trans (hba.mono hb5.size))
      have HX5 := Lib.hid ((HX4.out.up hB5 hB5.size).up hba hba.size)
      have BX5 := Lib.hid bx5
      clear hB5 hb5 hba bx5
      go_upto_region 9 with (fail)
      obtain ⟨W5, hW5⟩ : ∃ W, w5.alloc (.cells #[.int .i64 0, .int .i64 0, .int .i64 0] 76) = W := ⟨_, rfl⟩
      rw [hW5] at HB5 HX5 BX5 ⊢
      clear hW5
      go_wp2_with fail
      refine (HAY.out _ _ _ hcx3 HX5.out).mono ?_
      rintro e w6 ⟨⟨L6, B6, d6, vx6, rfl, hL6, -, hx6, -⟩, hB6⟩
      obtain ⟨g6, c6, rfl, -, hx6⟩ := hx6 trivial
      obtain rfl : L6 = [] := List.map_eq_nil_iff.1 hL6
      have HB6 := Lib.hid (HB5.out.trans (hB6.mono HB5.out.size))
      have HX6 := Lib.hid (HX5.out.up hB6 hB6.size)
      have HY6 := Lib.hid (Rd.of_own hx6)
      have BX6 := Lib.hid (BX5.out.up hB6 BX5.out.lt)
      clear hx6 hB6 hL6
      obtain ⟨n0, n1, n2, nf0, nf1, nf2, hgn⟩ := BX6.out.c3
      go_wp2_with fail
      refine (HSW.out _ _ _ _ _ HX6.out HY6.out).mono ?_
      rintro e w7 ⟨rfl, hB7⟩
      have HB7 := Lib.hid (HB6.out.trans (hB7.mono HB6.out.size))
      clear hB7
      go_wp2_with fail
      go_ret
      exact ⟨rfl, HB7.out⟩
    · have hno := rsAll_bad HO.out h0
      obtain ⟨err, herr⟩ : ∃ err, (rsAll ws).1 = err := ⟨_, rfl⟩
      rw [hno] at HAL HSP
      rw [herr] at HAL HSP h0
      dsimp only at HAL HSP
      simp only [List.length_nil, Int.cast_ofNat_Int] at HSP
      have dn0 : decide (err = 0) = false := by rw [decide_eq_false_iff_not]; exact h0
      have hne : (err != 0) = true := by rw [bne_iff_ne]; exact h0
      clear hno herr hg hgn
      go_enter Try.func13, Try.ntmps13
      go_wp2_with fail
      refine (alive33_c w).mono ?_
      rintro e w1 ⟨rfl, hB1⟩
      go_wp2_with fail
      refine (great25_c A ws.length c _ hn).mono ?_
      rintro e w1' ⟨rfl, rfl⟩
      rw [HG.out]
      go_wp2_with fail
      refine (HAL.out _ (HR.out.up hB1 hB1.size)).mono ?_
      rintro e w3 ⟨⟨L, B3, d3, vx, rfl, hL, -, -, hvx⟩, hB3⟩
      have HB3 := Lib.hid (hB1.trans (hB3.mono hB1.size))
      have HW3 := Lib.hid (HR.out.up HB3.out HB3.out.size)
      rw [hvx h0]
      obtain rfl : L = [] := List.map_eq_nil_iff.1 hL
      clear hB1 hB3 hL hvx h0
      go_wp2_with fail
      refine (HSP.out _ HW3.out).mono ?_
      rintro e w4 ⟨rfl, hB4⟩
      have HB4 := Lib.hid (HB3.out.trans (hB4.mono HB3.out.size))
      clear hB4
      go_wp2_with fail
      go_ret
      exact ⟨rfl, HB4.out⟩
  · have HG := Lib.hid hg
    clear hg
    go_enter Try.func13, Try.ntmps13
    go_wp2_with fail
    refine (alive33_c w).mono ?_
    rintro e w1 ⟨rfl, hB1⟩
    go_wp2_with fail
    refine (great25_c A ws.length c _ hn).mono ?_
    rintro e w1' ⟨rfl, rfl⟩
    rw [HG.out]
    go_wp2_with fail
    go_ret
    exact ⟨rfl, hB1⟩
end Go.Proofs.Ytpmfiibndiecpaa
