/- What going on takes: effort.Going. -/
import Derived.Test.YtpfbppjjegialaaRsA
import Derived.Test.YtpfbppjjegialaaSum
import Derived.Test.YtpfbppjjegialaaEfL
namespace Go.Proofs.Ytpfbppjjegialaa
open Go.RowKit

noncomputable def gngRes (ws : List Nat) : Value := if (rsAll ws).1 = 0 then sumRes ((rsAll ws).2.1.map addrs) else .tuple #[effV 0 0 0, .int .i64 (rsAll ws).1]
set_option maxRecDepth 100000 in
set_option maxHeartbeats 4000000 in
theorem going_c (A : Option Addr) (ws : List Nat) (c n : Nat) (w : World) (hn : ws.length = n) (hm : n ≤ 9223372036854775807) (hc : n ≤ c) (hr : RdW w w.heap.size A ws) (ho : ∀ x ∈ ws, x < 18446744073709551616) :
    Calls Try.prog 21 #[.slice A n c] w fun e w' => e = .returned (gngRes ws) ∧ Below w.heap.size w w' := by
  have HR := Lib.hid hr
  have HAL := Lib.hid (fun W (h : RdW W W.heap.size A ws) => rAll_c A ws c n W hn hm hc h ho)
  unfold RaRes at HAL
  by_cases h0 : (rsAll ws).1 = 0
  · obtain ⟨outs, y, hall⟩ : ∃ outs y, rsAll ws = (0, outs, y) := ⟨(rsAll ws).2.1, (rsAll ws).2.2, by rw [← h0]⟩
    have hz : gngRes ws = sumRes (outs.map addrs) := by unfold gngRes; rw [if_pos h0, hall]
    rw [hall] at HAL
    dsimp only at HAL
    obtain ⟨hck, hre, hfew, hsty, hon, hsm⟩ := rsAll_on ho hall
    have hb := (sizeOk_iff _).1 (ck_parts hck).2.1
    have hol : outs.length ≤ 4000 := by omega
    have HSM : Hid (∀ l ∈ outs, l.length ≤ 100000) := Lib.hid fun l hl => by
      obtain ⟨i, hi, e⟩ := List.getElem_of_mem hl
      have := (hsm i hi).le
      rw [e] at this
      omega
    have HZ := Lib.hid hz
    clear h0 hz hall hck hre hfew hsty hon hsm hb ho hr
    go_enter Try.func21, Try.ntmps21
    go_wp2_with fail
    refine (HAL.out _ ((HR.out.alloc (Nat.le_refl _) _).more (by simp))).mono ?_
    rintro e w1 ⟨⟨L, B, d, vx, rfl, hL, ⟨hLo, hLe⟩, hx, -⟩, hB1⟩
    rw [World.size_alloc] at hB1
    have b1 := Bx.of_new hB1
    have HB1 := Lib.hid (below_call hB1)
    obtain ⟨g, cx, rfl, -, -⟩ := hx trivial
    have HLO := Lib.hid (Rd.of_own hLo)
    have HLE := Lib.hid (fun x hx => Rd.of_own (hLe x hx))
    have hll : L.length = outs.length := by rw [← hL, List.length_map]
    have hcA : chA L = outs.map addrs := by rw [← hL, List.map_map]; rfl
    have HLM : Hid (∀ x ∈ L, x.l.length ≤ maxLen) := Lib.hid fun x hx => by
      have := HSM.out _ (by rw [← hL]; exact List.mem_map_of_mem hx)
      unfold maxLen
      omega
    have HS := Lib.hid (fun W h1 h2 => sum_n B L d L.length W rfl (by omega) h1 h2)
    rw [hcA] at HS
    obtain ⟨s, hs⟩ : ∃ s, smS (outs.map addrs) = s := ⟨_, rfl⟩
    obtain ⟨f, hf⟩ : ∃ f, smF (outs.map addrs) = f := ⟨_, rfl⟩
    obtain ⟨q, hq⟩ : ∃ q, smN (outs.map addrs) = q := ⟨_, rfl⟩
    obtain ⟨r, hr⟩ : ∃ r, sumErr (outs.map addrs) = r := ⟨_, rfl⟩
    have HE := Lib.hid (show sumRes (outs.map addrs) = .tuple #[.agg #[.int .i64 s, .int .i64 f, .int .i64 q], .int .i64 r] by rw [sumRes, effV, hs, hf, hq, hr])
    have hz1 := b1.lt
    have B1 := Lib.hid b1
    obtain ⟨p0, p1, p2, p3, p4, p5, pz⟩ := b1.c3
    clear hs hf hq hr hx hLo hLe hL hB1 hll hcA b1
    go_wp2_with fail
    refine (HS.out w1 (show RdC _ _ _ _ from HLO.out) (fun x hx => ⟨HLM.out x hx, HLE.out x hx⟩)).mono ?_
    rintro e w2 ⟨rfl, hB2⟩
    rw [HE.out]
    have HB2 := Lib.hid (HB1.out.trans (hB2.mono HB1.out.size))
    have b2 := B1.out.up hB2 hz1
    clear p0 p1 p2 p3 p4 p5 pz
    obtain ⟨p0, p1, p2, p3, p4, p5, pz⟩ := b2.c3
    have C2 := Lib.hid b2
    clear hB2 b2
    go_wp2_with fail
    refine bodyPost_ret (v := .tuple #[effV s f q, .int .i64 r]) (by simp [results, Try.results21, go_sem, effV, p0, p1, p2]) rfl ⟨by rw [HZ.out, HE.out]; rfl, ?_⟩
    exact ((HB2.out.setCell (Nat.le_refl _) _).setCell (Nat.le_refl _) _).setCell (Nat.le_refl _) _
  · have hno := rsAll_bad ho h0
    have hz : gngRes ws = .tuple #[effV 0 0 0, .int .i64 (rsAll ws).1] := by unfold gngRes; rw [if_neg h0]
    obtain ⟨err, herr⟩ : ∃ err, (rsAll ws).1 = err := ⟨_, rfl⟩
    rw [herr] at HAL hz h0
    have hne : (err != 0) = true := by rw [bne_iff_ne]; exact h0
    have dn0 : decide (err = 0) = false := by rw [decide_eq_false_iff_not]; exact h0
    have HZ := Lib.hid hz
    clear hno herr hz ho hr
    go_enter Try.func21, Try.ntmps21
    go_wp2_with fail
    refine (HAL.out _ ((HR.out.alloc (Nat.le_refl _) _).more (by simp))).mono ?_
    rintro e w1 ⟨⟨L, B, d, vx, rfl, hL, -, -, hvx⟩, hB1⟩
    rw [World.size_alloc] at hB1
    have b1 := Bx.of_new hB1
    have HB1 := Lib.hid (below_call hB1)
    rw [hvx h0]
    obtain ⟨p0, p1, p2, p3, p4, p5, pz⟩ := b1.c3
    clear hvx h0 hL hB1
    go_wp2_with fail
    refine bodyPost_ret (v := .tuple #[effV 0 0 0, .int .i64 err]) (by simp [results, Try.results21, go_sem, effV, p0, p1, p2]) rfl ⟨by rw [HZ.out], ?_⟩
    exact ((HB1.out.setCell (Nat.le_refl _) _).setCell (Nat.le_refl _) _).setCell (Nat.le_refl _) _
end Go.Proofs.Ytpfbppjjegialaa
