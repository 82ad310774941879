/- The law ForwardTold: for words that are not great, two numbers, an index and another word, a forwarding word that is another one is told. -/
import Derived.Test.YtkcancjalpjbgaaAl27
namespace Go.Proofs.Ytkcancjalpjbgaa
open Go.RowKit

theorem set_lt {ws : List Nat} {v : Nat} (ho : ∀ x ∈ ws, x < 18446744073709551616) (hv : v < 18446744073709551616) (j : Nat) : ∀ x ∈ ws.set j v, x < 18446744073709551616 := by
  intro x hx
  rcases List.mem_or_eq_of_mem_set hx with h | h
  · exact ho x h
  · omega

set_option maxRecDepth 100000 in
set_option maxHeartbeats 8000000 in
theorem forwardTold_walk (w : World) (A : Option Addr) (ws : List Nat) (c : Nat) (hn : ws.length ≤ maxLen) (_hc : ws.length ≤ c) (hr : RdW w w.heap.size A ws) (ho : ∀ x ∈ ws, x < 18446744073709551616) (f : Int) (hf : -9223372036854775808 ≤ f ∧ f ≤ 9223372036854775807)
    (s : Int) (hs : -9223372036854775808 ≤ s ∧ s ≤ 9223372036854775807) (p : Int) (hp : -9223372036854775808 ≤ p ∧ p ≤ 9223372036854775807) (v : Nat) (hv : v < 18446744073709551616) :
    Calls Try.prog 4 #[.slice A ws.length c, .int .i64 f, .int .i64 s, .int .i64 p, .int .u64 (v : Int)] w fun e w' => e = .returned (.bool true) ∧ Below w.heap.size w w' := by
  unfold maxLen at hn
  have HR := Lib.hid hr
  have HO := Lib.hid ho
  have HF := Lib.hid hf
  have HS := Lib.hid hs
  have HV := Lib.hid hv
  clear hr ho hf hs hv
  cases hg : greatW ws.length
  · have HG := Lib.hid hg
    have hgn := greatW_no hg
    have hlen : ws.length ≤ 2060 := by omega
    have HC := Lib.hid (fun W (h : RdW W W.heap.size A ws) => fwRead_c A ws c ws.length f s W rfl hn HF.out HS.out h HO.out)
    unfold RdRes at HC
    have hml := rdMv_len ws f s
    by_cases h0 : rdErr ws f s = 0
    · by_cases hpb : 0 ≤ p ∧ p < ((rdMv ws f s).length : Int)
      · obtain ⟨hp0, hp1⟩ := hpb
        obtain ⟨k, rfl⟩ := Int.eq_ofNat_of_zero_le hp0
        have hkl : k < (rdMv ws f s).length := by omega
        obtain ⟨a, t, t1, t2, t3, t4, t5, t6⟩ := told_plain h0 hkl
        have T1 := Lib.hid t1
        have T6 := Lib.hid (t6 v)
        have T4 := Lib.hid t4
        have hl2 : (ws.set (a + 1) v).length = ws.length := by rw [List.length_set]
        have HPT := Lib.hid (fun W (h : RdW W W.heap.size A ws) => put27_c A ws c ws.length (a + 1) v W.heap.size W rfl (by omega) (by omega) h (Nat.le_refl _))
        unfold OwnW at HPT
        rw [hl2] at HPT
        rw [show (((a + 1 : Nat)) : Int) = (a : Int) + 1 by omega] at HPT
        have HRS := Lib.hid (fun A2 c2 W (h : RdW W W.heap.size A2 (ws.set (a + 1) v)) => reads27_c A2 (ws.set (a + 1) v) c2 ws.length f s 50 W hl2 hn HF.out HS.out h (set_lt HO.out HV.out _))
        obtain ⟨nv, hnv⟩ : ∃ nv, nv = decide (v = t) := ⟨_, rfl⟩
        have hres : decide (rdErr (ws.set (a + 1) v) f s = 50) = !nv := by
          rw [hnv]
          by_cases e : v = t
          · rw [T6.out.1 e]; simp [e]
          · rw [T6.out.2 e]; simp [e]
        have hne : ((v : Int) != (t : Int)) = !nv := by
          rw [hnv]
          by_cases e : v = t
          · simp [e]
          · rw [show ((v : Int) != (t : Int)) = true by rw [bne_iff_ne]; omega]; simp [e]
        rw [hres] at HRS
        rw [h0] at HC
        obtain ⟨m, hm⟩ : ∃ m, rdMv ws f s = m := ⟨_, rfl⟩
        have HM := Lib.hid hm
        rw [hm] at HC T1 hkl hp1 hml
        have hwa : wd ws (a + 1) = t := t4
        obtain ⟨b, off, rfl, hb, q0⟩ := RdW.at_ HR.out (show a + 1 < ws.length by omega)
        rw [← wd_get, hwa] at q0
        have ht0 : (0 : Int) ≤ (t : Int) := by omega
        have ht1 : (t : Int) ≤ 2048 := by omega
        have hwt : IntKind.u64.wrap (t : Int) = (t : Int) := IntWalk.u64_in _ (by omega)
        have ha0 : (0 : Int) ≤ (a : Int) := by omega
        have ha1 : (a : Int) + 1 < (ws.length : Int) := by omega
        have ha2 : (0 : Int) ≤ (a : Int) + 1 := by omega
        have htn : ((a : Int) + 1).toNat = a + 1 := by omega
        have hwr : IntKind.i64.wrap ((a : Int) + 1) = (a : Int) + 1 := IntWalk.i64_in _ (by omega)
        have hd : decide ((m.length : Int) ≤ (k : Int)) = false := by rw [decide_eq_false_iff_not]; omega
        have hdn : decide (m.length ≤ k) = false := by rw [decide_eq_false_iff_not]; omega
        clear hg hgn h0 hp t1 t4 t6 hl2 hnv hres hm hwa hp0
        go_enter Try.func4, Try.ntmps4
        go_wp2_with fail
        refine (alive27_c w).mono ?_
        rintro e w1 ⟨rfl, hB1⟩
        go_wp2_with fail
        refine (great25_c _ ws.length c _ hn).mono ?_
        rintro e w1' ⟨rfl, rfl⟩
        rw [HG.out]
        go_wp2_with fail
        refine (HC.out _ (HR.out.up hB1 hB1.size)).mono ?_
        rintro e w2 ⟨⟨A2, c2, rfl, hr2, -⟩, hB2⟩
        have hb2 := hB1.trans (hB2.mono hB1.size)
        obtain ⟨b2, off2, rfl, hbb2, r0, r1⟩ := RdM.at_ hr2 hkl
        have hmk := T1.out
        rw [List.getElem?_eq_getElem hkl] at hmk
        rw [Option.some.inj hmk] at r0 r1
        dsimp only at r0 r1
        have q2 := (hb2.cell (p := ⟨b, off + (a + 1), none⟩) hb).trans q0
        have hbw : b < w2.heap.size := by have := hb2.size; omega
        have HRW := Lib.hid (HR.out.up hb2 hb2.size)
        clear hr2 hB2 hB1 q0 hmk
        go_wp2_with fail
        first
          | (go_region_held3 (fun X : World => X.cell? ⟨b2, off2 + k * 2, none⟩ = some (.int .i64 (a : Int)) ∧ X.cell? ⟨b2, off2 + k * 2 + 1, none⟩ = some (.int .i64 (t : Int)) ∧ X.cell? ⟨b, off + (a + 1), none⟩ = some (.int .u64 (t : Int))) (go_keep) (fail))
          | fail
        go_wp2_with fail
        have r0' : w2.drew.cell? ⟨b2, off2 + k * 2, none⟩ = some (.int .i64 (a : Int)) := r0
        have r1' : w2.drew.cell? ⟨b2, off2 + k * 2 + 1, none⟩ = some (.int .i64 (t : Int)) := r1
        have hb3 : Below w.heap.size w w2.drew := hb2.drew
        have hbb3 : b2 < w2.drew.heap.size := hbb2
        have hrw3 : RdW w2.drew w2.drew.heap.size (some ⟨b, off, none⟩) ws := HRW.out
        have HRW3 := Lib.hid hrw3
        obtain ⟨W3, hW3⟩ : ∃ W3, w2.drew = W3 := ⟨_, rfl⟩
        rw [hW3] at r0' r1' hb3 hbb3 HRW3 ⊢
        clear hW3 r0 r1 q2 hb2 hbb2 hrw3 hbw
        first
          | (go_region_held3 (fun X : World => X.cell? ⟨b2, off2 + k * 2, none⟩ = some (.int .i64 (a : Int)) ∧ X.cell? ⟨b2, off2 + k * 2 + 1, none⟩ = some (.int .i64 (t : Int))) (go_keep)
              (first
                | (go_at_call 21; refine (HPT.out W3.drew (show RdW W3.drew W3.drew.heap.size _ _ from HRW3.out)).mono ?_; rintro e w6 ⟨g6, c6, rfl, hown6, hB6⟩; have m0 := (hB6.cell (p := ⟨b2, off2 + k * 2, none⟩) hbb3).trans r0'; have m1 := (hB6.cell (p := ⟨b2, off2 + k * 2 + 1, none⟩) hbb3).trans r1'; have HO6 := Lib.hid hown6; have HB6 := Lib.hid hB6; clear hown6 hB6)
                | (go_at_call 20; refine (HRS.out _ _ w6 (Rd.of_own HO6.out)).mono ?_; rintro e w7 ⟨rfl, hB7⟩; have hb26 : b2 < w6.heap.size := Nat.lt_of_lt_of_le hbb3 HB6.out.size; have z0 := (hB7.cell (p := ⟨b2, off2 + k * 2, none⟩) hb26).trans m0; have z1 := (hB7.cell (p := ⟨b2, off2 + k * 2 + 1, none⟩) hb26).trans m1; have HB7 := Lib.hid hB7; clear hB7)))
          | fail
        go_wp2_with fail
        go_ret
        refine ⟨?_, hb3.trans (((Below.refl _ _).drew.trans HB6.out).mono hb3.size |>.trans (HB7.out.mono (Nat.le_trans hb3.size HB6.out.size)))⟩
        cases nv <;> rfl
      · have hways : p < 0 ∨ 0 ≤ p ∧ ((rdMv ws f s).length : Int) ≤ p := by omega
        rw [h0] at HC
        obtain ⟨m, hm⟩ : ∃ m, (rdMv ws f s).length = m := ⟨_, rfl⟩
        rw [hm] at HC hways hml
        clear hg hgn h0 hpb hm
        rcases hways with h1 | ⟨h1, h2⟩
        all_goals
          go_enter Try.func4, Try.ntmps4
          go_wp2_with fail
          refine (alive27_c w).mono ?_
          rintro e w1 ⟨rfl, hB1⟩
          go_wp2_with fail
          refine (great25_c A ws.length c _ hn).mono ?_
          rintro e w1' ⟨rfl, rfl⟩
          rw [HG.out]
          go_wp2_with fail
          refine (HC.out _ (HR.out.up hB1 hB1.size)).mono ?_
          rintro e w2 ⟨⟨A2, c2, rfl, -, -⟩, hB2⟩
          have hb2 := hB1.trans (hB2.mono hB1.size)
          go_wp2_with fail
          go_ret
          exact ⟨rfl, hb2⟩
    · have hn1 : (rdErr ws f s != 0) = true := by rw [bne_iff_ne]; exact h0
      obtain ⟨m, hm⟩ : ∃ m, (rdMv ws f s).length = m := ⟨_, rfl⟩
      obtain ⟨r, hr⟩ : ∃ r, rdErr ws f s = r := ⟨_, rfl⟩
      rw [hm, hr] at HC
      rw [hr] at hn1
      clear hg hgn h0 hm hr hml
      go_enter Try.func4, Try.ntmps4
      go_wp2_with fail
      refine (alive27_c w).mono ?_
      rintro e w1 ⟨rfl, hB1⟩
      go_wp2_with fail
      refine (great25_c A ws.length c _ hn).mono ?_
      rintro e w1' ⟨rfl, rfl⟩
      rw [HG.out]
      go_wp2_with fail
      refine (HC.out _ (HR.out.up hB1 hB1.size)).mono ?_
      rintro e w2 ⟨⟨A2, c2, rfl, -, -⟩, hB2⟩
      have hb2 := hB1.trans (hB2.mono hB1.size)
      go_wp2_with fail
      go_ret
      exact ⟨rfl, hb2⟩
  · have HG := Lib.hid hg
    clear hg
    go_enter Try.func4, Try.ntmps4
    go_wp2_with fail
    refine (alive27_c w).mono ?_
    rintro e w1 ⟨rfl, hB1⟩
    go_wp2_with fail
    refine (great25_c A ws.length c _ hn).mono ?_
    rintro e w1' ⟨rfl, rfl⟩
    rw [HG.out]
    go_wp2_with fail
    go_ret
    exact ⟨rfl, hB1⟩
end Go.Proofs.Ytkcancjalpjbgaa
