/- The law EffortLinear: going on from a view takes no more than the bound for its words. -/
import Derived.Test.YtpfbppjjegialaaGng
import Derived.Test.YtpfbppjjegialaaAl34
import Derived.Test.YtpfbppjjegialaaBnd
namespace Go.Proofs.Ytpfbppjjegialaa
open Go.RowKit

set_option maxRecDepth 100000 in
set_option maxHeartbeats 16000000 in
theorem effortLinear_walk (w : World) (A : Option Addr) (ws : List Nat) (c : Nat) (hn : ws.length ≤ maxLen) (_hc : ws.length ≤ c) (hr : RdW w w.heap.size A ws) (ho : ∀ x ∈ ws, x < 18446744073709551616) :
    Calls Try.prog 6 #[.slice A ws.length c] w fun e w' => e = .returned (.bool true) ∧ Below w.heap.size w w' := by
  unfold maxLen at hn
  have HR := Lib.hid hr
  have HO := Lib.hid ho
  clear hr ho
  cases hg : greatW ws.length
  · have HG := Lib.hid hg
    have HAL := Lib.hid (fun W (h : RdW W W.heap.size A ws) => rAll_c A ws c ws.length W rfl hn _hc h HO.out)
    have HGN := Lib.hid (fun W (h : RdW W W.heap.size A ws) => going_c A ws c ws.length W rfl hn _hc h HO.out)
    unfold RaRes at HAL
    unfold gngRes at HGN
    by_cases h0 : (rsAll ws).1 = 0
    · obtain ⟨outs, y, hall⟩ : ∃ outs y, rsAll ws = (0, outs, y) := ⟨(rsAll ws).2.1, (rsAll ws).2.2, by rw [← h0]⟩
      rw [if_pos h0, hall] at HGN
      rw [hall] at HAL
      dsimp only at HAL HGN
      obtain ⟨hck, hre, hfew, hsty, hon, hsm⟩ := rsAll_on HO.out hall
      obtain ⟨hs, e0, e1, e2, e3⟩ := eff_plain HO.out hall
      have hb := (sizeOk_iff _).1 hs
      have hol : outs.length ≤ 4000 := by omega
      have HSM : Hid (∀ l ∈ outs, l.length ≤ 100000) := Lib.hid fun l hl => by
        obtain ⟨i, hi, e⟩ := List.getElem_of_mem hl
        have := (hsm i hi).le
        rw [e] at this
        omega
      have hbd : bdErr (ws.length : Int) = 0 := by
        unfold bdErr
        rw [if_neg (by omega), if_neg (by omega), if_pos (by omega)]
      have HBD := Lib.hid (fun W => bound_c (ws.length : Int) W)
      unfold bdRes bdN effV at HBD
      rw [hbd, if_pos rfl] at HBD
      obtain ⟨s, hs'⟩ : ∃ s, tot ofS (outs.map addrs) = s := ⟨_, rfl⟩
      obtain ⟨f, hf'⟩ : ∃ f, tot ofF (outs.map addrs) = f := ⟨_, rfl⟩
      obtain ⟨q, hq'⟩ : ∃ q, tot ofN (outs.map addrs) = q := ⟨_, rfl⟩
      have hE : sumRes (outs.map addrs) = .tuple #[.agg #[.int .i64 s, .int .i64 f, .int .i64 q], .int .i64 0] := by rw [sumRes_ok e0, hs', hf', hq']; rfl
      have HE := Lib.hid hE
      rw [hE] at HGN
      obtain ⟨t, ht⟩ : ∃ t, 20 * ((ws.length : Int) - 128) + 200 = t := ⟨_, rfl⟩
      rw [ht] at HBD e1 e2 e3
      rw [hs'] at e1
      rw [hf'] at e2
      rw [hq'] at e3
      have d1 : decide (s ≤ t) = true := by rw [decide_eq_true_iff]; exact e1
      have d2 : decide (f ≤ t) = true := by rw [decide_eq_true_iff]; exact e2
      have d3 : decide (q ≤ t) = true := by rw [decide_eq_true_iff]; exact e3
      clear h0 hall hck hre hfew hsty hon hsm hs hb hbd hs' hf' hq' hE ht e0 hg
      go_enter Try.func6, Try.ntmps6
      go_wp2_with fail
      refine (alive34_c w).mono ?_
      rintro e w1 ⟨rfl, hB1⟩
      go_wp2_with fail
      refine (great25_c A ws.length c _ hn).mono ?_
      rintro e w1' ⟨rfl, rfl⟩
      rw [HG.out]
      go_wp2_with fail
      refine (HGN.out _ (HR.out.up hB1 hB1.size)).mono ?_
      rintro e w2 ⟨rfl, hB2⟩
      have HB2 := Lib.hid (hB1.trans (hB2.mono hB1.size))
      clear hB1 hB2
      go_wp2_with fail
      refine (HAL.out _ (((HR.out.up HB2.out HB2.out.size).alloc (Nat.le_refl _) _).more (by simp))).mono ?_
      rintro e w3 ⟨⟨L, B, d, vx, rfl, hL, ⟨hLo, hLe⟩, hx, -⟩, hB3⟩
      rw [World.size_alloc] at hB3
      have b3 := Bx.of_new hB3
      have HB3 := Lib.hid (HB2.out.trans ((below_call hB3).mono HB2.out.size))
      obtain ⟨g, cx, rfl, -, -⟩ := hx trivial
      have HLO := Lib.hid (Rd.of_own hLo)
      have HLE := Lib.hid (fun x hx => Rd.of_own (hLe x hx))
      have hll : L.length = outs.length := by rw [← hL, List.length_map]
      have hcA : chA L = outs.map addrs := by rw [← hL, List.map_map]; rfl
      have HLM : Hid (∀ x ∈ L, x.l.length ≤ maxLen) := Lib.hid fun x hx => by
        have := HSM.out _ (by rw [← hL]; exact List.mem_map_of_mem hx)
        unfold maxLen
        omega
      have HS := Lib.hid (fun W h1 h2 => sum_n B L d L.length W rfl (by omega) h1 h2)
      rw [hcA, HE.out] at HS
      have Z3 := Lib.hid b3.lt
      have X3 := Lib.hid b3
      clear hx hLo hLe hL hB3 hll hcA b3
      go_wp2_with fail
      refine (HS.out w3 (show RdC _ _ _ _ from HLO.out) (fun x hx => ⟨HLM.out x hx, HLE.out x hx⟩)).mono ?_
      rintro e w4 ⟨rfl, hB4⟩
      have HB4 := Lib.hid (HB3.out.trans (hB4.mono HB3.out.size))
      have X4 := Lib.hid (X3.out.up hB4 Z3.out)
      clear hB4
      go_wp2_with fail
      refine (HBD.out _).mono ?_
      rintro e w5 ⟨rfl, hB5⟩
      rw [World.size_alloc] at hB5
      have b5 := Bx.of_new hB5
      have HB5 := Lib.hid (HB4.out.trans ((below_call hB5).mono HB4.out.size))
      have X5 := Lib.hid (X4.out.up (below_call hB5) X4.out.lt)
      have hba := (Below.refl w5.heap.size w5).alloc (Nat.le_refl _) (.cells #[.int .i64 t, .int .i64 t, .int .i64 t] 45)
      have x6 := Bx.new w5 45 #[.int .i64 t, .int .i64 t, .int .i64 t]
      have X6 := Lib.hid x6
      have Y6 := Lib.hid (b5.up hba b5.lt)
      have V6 := Lib.hid (X5.out.up hba X5.out.lt)
      have HB6 := Lib.hid (HB5.out.trans (hba.mono HB5.out.size))
      clear hB5 b5 x6 hba
      go_upto_region 10 with (fail)
      obtain ⟨W6, hW6⟩ : ∃ W, w5.alloc (.cells #[.int .i64 t, .int .i64 t, .int .i64 t] 45) = W := ⟨_, rfl⟩
      rw [hW6] at X6 Y6 V6 HB6 ⊢
      clear hW6
      obtain ⟨a0, a1, a2, a3, a4, a5, az⟩ := V6.out.c3
      obtain ⟨b0, b1, b2, b3, b4, b5, bz⟩ := Y6.out.c3
      obtain ⟨c0, c1, c2, c3, c4, c5, cz⟩ := X6.out.c3
      go_wp2_with fail
      go_ret
      exact ⟨rfl, HB6.out⟩
    · have hno := rsAll_bad HO.out h0
      rw [if_neg h0] at HGN
      obtain ⟨err, herr⟩ : ∃ err, (rsAll ws).1 = err := ⟨_, rfl⟩
      rw [herr] at HAL HGN h0
      unfold effV at HGN
      have dn0 : decide (err = 0) = false := by rw [decide_eq_false_iff_not]; exact h0
      have hne : (err != 0) = true := by rw [bne_iff_ne]; exact h0
      clear hno herr hg
      go_enter Try.func6, Try.ntmps6
      go_wp2_with fail
      refine (alive34_c w).mono ?_
      rintro e w1 ⟨rfl, hB1⟩
      go_wp2_with fail
      refine (great25_c A ws.length c _ hn).mono ?_
      rintro e w1' ⟨rfl, rfl⟩
      rw [HG.out]
      go_wp2_with fail
      refine (HGN.out _ (HR.out.up hB1 hB1.size)).mono ?_
      rintro e w2 ⟨rfl, hB2⟩
      have HB2 := Lib.hid (hB1.trans (hB2.mono hB1.size))
      clear hB1 hB2
      go_wp2_with fail
      refine (HAL.out _ (((HR.out.up HB2.out HB2.out.size).alloc (Nat.le_refl _) _).more (by simp))).mono ?_
      rintro e w3 ⟨⟨L, B, d, vx, rfl, -, -, -, hvx⟩, hB3⟩
      rw [World.size_alloc] at hB3
      have b3 := Bx.of_new hB3
      have HB3 := Lib.hid (HB2.out.trans ((below_call hB3).mono HB2.out.size))
      rw [hvx h0]
      obtain ⟨a0, a1, a2, a3, a4, a5, az⟩ := b3.c3
      clear hB3 hvx h0 b3
      go_wp2_with fail
      go_ret
      exact ⟨rfl, HB3.out⟩
  · have HG := Lib.hid hg
    clear hg
    go_enter Try.func6, Try.ntmps6
    go_wp2_with fail
    refine (alive34_c w).mono ?_
    rintro e w1 ⟨rfl, hB1⟩
    go_wp2_with fail
    refine (great25_c A ws.length c _ hn).mono ?_
    rintro e w1' ⟨rfl, rfl⟩
    rw [HG.out]
    go_wp2_with fail
    go_ret
    exact ⟨rfl, hB1⟩
end Go.Proofs.Ytpfbppjjegialaa
