/- The law SlideWords. -/
import Derived.Test.YtkcancjalpjbgaaSlP
namespace Go.Proofs.Ytkcancjalpjbgaa
open Go.RowKit

set_option maxRecDepth 100000 in
set_option maxHeartbeats 8000000 in
theorem slideWords_walk (w : World) (A : Option Addr) (ws : List Nat) (c : Nat) (hn : ws.length ≤ maxLen) (_hc : ws.length ≤ c) (hr : RdW w w.heap.size A ws) (ho : ∀ x ∈ ws, x < 18446744073709551616) (f : Int) (hf : -9223372036854775808 ≤ f ∧ f ≤ 9223372036854775807) (t : Int) (ht : -9223372036854775808 ≤ t ∧ t ≤ 9223372036854775807) :
    Calls Try.prog 6 #[.slice A ws.length c, .int .i64 f, .int .i64 t] w fun e w' => e = .returned (.bool true) ∧ Below w.heap.size w w' := by
  unfold maxLen at hn
  have HR := Lib.hid hr
  have HO := Lib.hid ho
  clear hr ho
  cases hg : greatW ws.length
  · have HG := Lib.hid hg
    have hgn := greatW_no hg
    have hlen : ws.length ≤ 2060 := by omega
    have HMV := Lib.hid (fun W (h : RdW W W.heap.size A ws) => sMove_c A ws c ws.length f t W rfl hn hf ht h HO.out)
    unfold MvRes at HMV
    by_cases h0 : mvErr ws f t = 0
    · obtain ⟨a, u, n, rfl, rfl, hnn, n2, n10, hu, hua, han, hst, hlv, ⟨l, b1, b2, b3, b4, b5⟩, hxu, hun⟩ := slide_plain h0
      have hout : mvOut ws (a : Int) (u : Int) = mvEn ws a u := by simp [mvOut, h0]
      have hel : (mvEn ws a u).length = n := by rw [mvEn_len, hnn]
      rw [h0, hout, hel] at HMV
      have hin : u + szAt ws a ≤ ws.length := by omega
      have hpx := putE_mv (ws := ws) (a := a) (u := u) hin
      have hwx : ∀ i, wd (putE ws (mvEn ws a u)) i = if u ≤ i ∧ i < u + n then (mvWords ws a)[i - u]?.getD 0 else wd ws i := fun i => by
        rw [hpx, putSeq_wd _ _ _ _ (by rw [mvWords_len]; omega), mvWords_len, ← hnn]
      have P1 : Hid (∀ i, i < u ∨ u + n ≤ i → wd (putE ws (mvEn ws a u)) i = wd ws i) := Lib.hid fun i h => by rw [hwx, if_neg (by omega)]
      have P2 : Hid (∀ i j, i = u + j → 1 < j → j < n → wd (putE ws (mvEn ws a u)) i = wd ws (a + j)) := Lib.hid fun i j h h1 h2 => by
        subst h
        rw [hwx, if_pos (by omega), show u + j - u = j by omega, mvWords_get _ _ _ (by omega), Option.getD_some, if_neg (by omega), if_neg (by omega)]
      have P3 : Hid (∀ i, i = u + 1 → wd (putE ws (mvEn ws a u)) i = 0) := Lib.hid fun i h => by
        subst h
        rw [hwx, if_pos (by omega), show u + 1 - u = 1 by omega, mvWords_get _ _ _ (by omega), Option.getD_some, if_neg (by omega), if_pos rfl]
      have P4 : Hid (∀ j (h : j < (mvEn ws a u).length), ((mvEn ws a u)[j]).a = ((u + j : Nat) : Int)) := Lib.hid fun j h => mvEn_at h
      rw [← hpx] at hxu
      have hxl : (putE ws (mvEn ws a u)).length = ws.length := putE_len _ _
      have hei := mvEn_in (ws := ws) (a := a) (u := u) hin
      have hrd0 : rdErr ws (a : Int) (u : Int) = 0 := (mvErr_zero h0).1
      obtain ⟨g1, g2, -⟩ := rdErr_zero hrd0
      rw [isImg_size] at g1
      obtain ⟨k1, k2⟩ := frErr_some g1 (frArg_rd g2) (l := bkAt ws a :: l) (by rw [Int.toNat_natCast]; exact b1)
      have HPT := Lib.hid (fun A2 B d W (h : RdW W W.heap.size A2 ws) (h2 : RdE W W.heap.size B (mvEn ws a u)) => sPut_c A2 B ws (mvEn ws a u) c d ws.length n W.heap.size W rfl hel g1 (by omega) hei h h2 (Nat.le_refl _))
      unfold OwnV at HPT
      rw [hxl] at HPT
      have HFO := Lib.hid (fun W (h : RdW W W.heap.size A ws) => from_c A ws c ws.length (a : Int) W rfl hn h HO.out)
      unfold FrRes at HFO
      rw [k1, k2] at HFO
      have hsp : splitOk (wd ws a) = true := by unfold stands at hst; simp only [Bool.and_eq_true] at hst; exact hst.1
      have hmk : (rawBk (wd ws a)).mark = true := by simp only [liveB, Bool.and_eq_true] at hlv; exact hlv.2
      obtain ⟨s, ks, ty, hraw⟩ : ∃ s ks ty, rawBk (wd ws a) = ⟨0, s, ks, ty, true, 0⟩ := ⟨_, _, _, by rw [← hmk]; rfl⟩
      have HS1 := Lib.hid (fun W => hdSplit_c (wd ws a) W (wd_lt HO.out a))
      rw [(spl_ok hsp).1, (spl_ok hsp).2, hraw] at HS1
      have hsp2 := split_head hun
      have HS2 := Lib.hid (fun W => hdSplit_c (headW { rawBk (wd ws a) with mark := false }) W (headW_lt hun))
      rw [(spl_ok hsp2).1, (spl_ok hsp2).2, raw_head hun, hraw] at HS2
      rw [hraw] at hxu
      unfold Bk.val at HS1 HS2
      dsimp only at HS1 HS2
      have hbsz : (bkAt ws a).size = (n : Int) := by rw [bkAt_size, hnn]
      have hb := fr_bd ws g1
      have hlen2 : ws.length ≤ 2048 := hb.2.1
      have hsz : ∀ x, x = wd ws a → True := fun _ _ => trivial
      obtain ⟨pa, hpa⟩ : ∃ p, wd ws a = p := ⟨_, rfl⟩
      rw [hpa] at HS1
      obtain ⟨pu, hpu⟩ : ∃ p, wd (putE ws (mvEn ws a u)) u = p := ⟨_, rfl⟩
      rw [hpu] at hxu
      have hxu' : headW ⟨0, s, ks, ty, false, 0⟩ = pu := hxu.symm
      rw [hxu'] at HS2
      clear hg hgn h0 b1 b2 b3 b4 b5 hst hlv hun hout hin hpx hei g1 g2 k1 k2 hrd0 hnn hwx hsp hmk hsp2 hraw hxu hxu' hb hsz
      generalize putE ws (mvEn ws a u) = x at HPT P1 P2 P3 hpu hxl
      generalize mvEn ws a u = E at HMV HPT P4 hel
      generalize bkAt ws a = b0 at HFO hbsz
      rw [List.length_cons] at HFO
      have hw1 : IntKind.i64.wrap ((a : Int) + (n : Int)) = (a : Int) + (n : Int) := IntWalk.i64_in _ (by omega)
      have hw2 : IntKind.i64.wrap ((u : Int) + (n : Int)) = (u : Int) + (n : Int) := IntWalk.i64_in _ (by omega)
      have ha0 : (0 : Int) ≤ (a : Int) := by omega
      have ha1 : (a : Int) < (ws.length : Int) := by omega
      have hu0 : (0 : Int) ≤ (u : Int) := by omega
      have hu1 : (u : Int) < (ws.length : Int) := by omega
      have hd1 : decide ((a : Int) < 0) = false := by rw [decide_eq_false_iff_not]; omega
      have hd2 : decide ((ws.length : Int) < (a : Int) + (n : Int)) = false := by rw [decide_eq_false_iff_not]; omega
      have hd3 : decide ((u : Int) < 0) = false := by rw [decide_eq_false_iff_not]; omega
      have hd4 : decide ((a : Int) < (u : Int)) = false := by rw [decide_eq_false_iff_not]; omega
      have hd4n : decide (a < u) = false := by rw [decide_eq_false_iff_not]; omega
      have hd5 : (((l.length + 1 : Nat) : Int) == 0) = false := by rw [beq_eq_false_iff_ne]; omega
      clear hf ht
      go_enter Try.func6, Try.ntmps6
      go_wp2_with fail
      refine (alive29_c w).mono ?_
      rintro e w1 ⟨rfl, hB1⟩
      go_wp2_with fail
      refine (great25_c A ws.length c _ hn).mono ?_
      rintro e w1' ⟨rfl, rfl⟩
      rw [HG.out]
      go_wp2_with fail
      refine (HMV.out _ (HR.out.up hB1 hB1.size)).mono ?_
      rintro e w2 ⟨⟨A2, c2, rfl, hr2, -⟩, hB2⟩
      have hb2 := hB1.trans (hB2.mono hB1.size)
      have HE2 := Lib.hid hr2
      clear hr2
      go_wp2_with fail
      refine (HFO.out _ (HR.out.up hb2 hb2.size)).mono ?_
      rintro e w3 ⟨⟨A3, c3, rfl, hr3, -⟩, hB3⟩
      have hb3 := hb2.trans (hB3.mono hb2.size)
      have HE3 := Lib.hid (HE2.out.up hB3 hB3.size)
      obtain ⟨b, off, rfl, hbl, q0, q1, q2, q3, q4, q5⟩ := RdB.at_ hr3 (show 0 < (b0 :: l).length by simp)
      rw [List.getElem_cons_zero, hbsz] at q1
      simp only [Nat.zero_mul, Nat.add_zero] at q1
      clear q0 q2 q3 q4 q5 hr3
      go_wp2_with fail
      refine (HPT.out _ _ _ _ (HR.out.up hb3 hb3.size) HE3.out).mono ?_
      rintro e w4 ⟨g4, c4, rfl, hown4, hB4⟩
      have hb4 := hb3.trans (hB4.mono hb3.size)
      have HX4 := Lib.hid (Rd.of_own hown4)
      have HE4 := Lib.hid (HE3.out.up hB4 hB4.size)
      have HB4 := Lib.hid hb4
      have HR4 := Lib.hid (HR.out.up hb4 hb4.size)
      clear hown4 hB1 hB2 hB3 hb2 hb3 hb4 hB4 q1 HE2 HE3 HFO HPT HMV
      go_wp2_with fail
      go_loopw [14] (fun i wr => ∃ m : Nat, m ≤ ws.length ∧ i = .int .i64 m ∧ Below w4.heap.size w4 wr) (fun i _ => ws.length - (intOf i).toNat)
      case atStart => exact ⟨0, by omega, rfl, Below.refl _ _⟩
      case round =>
        obtain ⟨m, hm, rfl, hB⟩ := hrel
        have hz := hB.size
        by_cases hlt : m < ws.length
        · obtain ⟨b2, off2, rfl, hbw2, r0⟩ := RdW.at_ (Rd.below HR4.out hB) hlt
          obtain ⟨b3, off3, hA3, hbw3, s0⟩ := RdW.at_ (Rd.below HX4.out hB) (show m < x.length by omega)
          cases hA3
          rw [← wd_get] at r0 s0
          rw [Nat.zero_add] at s0
          have hmi : (m : Int) < (ws.length : Int) := by omega
          have hm0 : (0 : Int) ≤ (m : Int) := by omega
          by_cases c1 : m < u
          · rw [P1.out m (.inl c1)] at s0
            obtain ⟨y, hy⟩ : ∃ y, wd ws m = y := ⟨_, rfl⟩
            rw [hy] at r0 s0
            have he1 : decide ((m : Int) < (u : Int)) = true := by rw [decide_eq_true_iff]; omega
            have he1n : decide (m < u) = true := by rw [decide_eq_true_iff]; omega
            clear hy c1
            go_wp2_with fail
            go_quiet (fail)
            go_wp2_with fail
            go_roundw
            case rel => exact ⟨m + 1, by omega, by go_num, by first | exact hB | exact below_drewN hB _ | exact hB.drew⟩
            case measure => simp [intOf]; omega
          · have he1 : decide ((m : Int) < (u : Int)) = false := by rw [decide_eq_false_iff_not]; omega
            have he1n : decide (m < u) = false := by rw [decide_eq_false_iff_not]; omega
            by_cases c2 : u + n ≤ m
            · rw [P1.out m (.inr c2)] at s0
              obtain ⟨y, hy⟩ : ∃ y, wd ws m = y := ⟨_, rfl⟩
              rw [hy] at r0 s0
              have he2 : decide ((u : Int) + (n : Int) ≤ (m : Int)) = true := by rw [decide_eq_true_iff]; omega
              clear hy c1 c2
              go_wp2_with fail
              go_quiet (fail)
              go_wp2_with fail
              go_roundw
              case rel => exact ⟨m + 1, by omega, by go_num, by first | exact hB | exact below_drewN hB _ | exact hB.drew⟩
              case measure => simp [intOf]; omega
            · have he2 : decide ((u : Int) + (n : Int) ≤ (m : Int)) = false := by rw [decide_eq_false_iff_not]; omega
              obtain ⟨j, hj⟩ : ∃ j, m = u + j := ⟨m - u, by omega⟩
              have hjn : j < n := by omega
              obtain ⟨b4, off4, rfl, hbw4, t0, -⟩ := RdE.at_ (Rd.below HE4.out hB) (show j < E.length by omega)
              rw [P4.out, ← hj] at t0
              obtain ⟨b5, off5, hA5, hbw5, v0⟩ := RdW.at_ (Rd.below HR4.out hB) (show a + j < ws.length by omega)
              cases hA5
              rw [← wd_get] at v0
              have hmw : IntKind.i64.wrap ((m : Int) - (u : Int)) = (j : Int) := by rw [IntWalk.i64_in _ (by omega)]; omega
              have hj0 : (0 : Int) ≤ (j : Int) := by omega
              have hj1 : (j : Int) < (n : Int) := by omega
              have haw : IntKind.i64.wrap ((a : Int) + (j : Int)) = (a : Int) + (j : Int) := IntWalk.i64_in _ (by omega)
              have hat : ((a : Int) + (j : Int)).toNat = a + j := by omega
              have haj0 : (0 : Int) ≤ (a : Int) + (j : Int) := by omega
              have haj1 : (a : Int) + (j : Int) < (ws.length : Int) := by omega
              have hmm : ((m : Int) != (m : Int)) = false := by rw [bne_eq_false_iff_eq]
              by_cases c3 : 1 < j
              · rw [P2.out m j hj c3 hjn] at s0
                obtain ⟨y, hy⟩ : ∃ y, wd ws (a + j) = y := ⟨_, rfl⟩
                rw [hy] at v0 s0
                have he3 : decide ((1 : Int) < (j : Int)) = true := by rw [decide_eq_true_iff]; omega
                have he3n : decide (1 < j) = true := by rw [decide_eq_true_iff]; omega
                have he4 : ((j : Int) == 1) = false := by rw [beq_eq_false_iff_ne]; omega
                have he4n : (j == 1) = false := by rw [beq_eq_false_iff_ne]; omega
                have hyy : ((y : Int) != (y : Int)) = false := by rw [bne_eq_false_iff_eq]
                clear hy c1 c2 c3 r0 hj
                go_wp2_with fail
                go_quiet (fail)
                go_wp2_with fail
                go_roundw
                case rel => exact ⟨m + 1, by omega, by go_num, by first | exact hB | exact below_drewN hB _ | exact hB.drew⟩
                case measure => simp [intOf]; omega
              · have he3 : decide ((1 : Int) < (j : Int)) = false := by rw [decide_eq_false_iff_not]; omega
                have he3n : decide (1 < j) = false := by rw [decide_eq_false_iff_not]; omega
                by_cases c4 : j = 1
                · rw [P3.out m (by omega)] at s0
                  simp only [Int.cast_ofNat_Int] at s0
                  have he4 : ((j : Int) == 1) = true := by rw [beq_iff_eq]; omega
                  have he4n : (j == 1) = true := by rw [beq_iff_eq]; omega
                  clear c1 c2 c3 c4 r0 v0 hj
                  go_wp2_with fail
                  go_quiet (fail)
                  go_wp2_with fail
                  go_roundw
                  case rel => exact ⟨m + 1, by omega, by go_num, by first | exact hB | exact below_drewN hB _ | exact hB.drew⟩
                  case measure => simp [intOf]; omega
                · have he4 : ((j : Int) == 1) = false := by rw [beq_eq_false_iff_ne]; omega
                  have he4n : (j == 1) = false := by rw [beq_eq_false_iff_ne]; omega
                  clear c1 c2 c3 c4 r0 v0 hj s0
                  go_wp2_with fail
                  go_quiet (fail)
                  go_wp2_with fail
                  go_roundw
                  case rel => exact ⟨m + 1, by omega, by go_num, by first | exact hB | exact below_drewN hB _ | exact hB.drew⟩
                  case measure => simp [intOf]; omega
        · obtain rfl : m = ws.length := by omega
          obtain ⟨b2, off2, rfl, hbw2, r0⟩ := RdW.at_ (Rd.below HR4.out hB) (show a < ws.length by omega)
          rw [← wd_get, hpa] at r0
          have HBr := Lib.hid (HB4.out.trans (hB.mono HB4.out.size))
          have HXr := Lib.hid (HX4.out.up hB hB.size)
          clear hB
          go_wp2_with fail
          refine (HS1.out _).mono ?_
          rintro e w5 ⟨rfl, hB5⟩
          obtain ⟨b3, off3, hA3, hbw3, s0⟩ := RdW.at_ (HXr.out.up hB5 hB5.size) (show u < x.length by omega)
          cases hA3
          rw [← wd_get, hpu] at s0
          rw [Nat.zero_add] at s0
          have hb5 := HBr.out.trans (hB5.mono HBr.out.size)
          have HB5 := Lib.hid hb5
          clear hB5 hb5 r0
          go_wp2_with fail
          refine (HS2.out _).mono ?_
          rintro e w6 ⟨rfl, hB6⟩
          have bx := Bx.of_new (by simpa using hB6)
          have hz6 := hB6.size
          have hb6 := (HB5.out.alloc HB5.out.size _).trans (hB6.mono (by have := HB5.out.size; simp; omega))
          obtain ⟨x0, x1, x2, x3, x4, x5, y0, -⟩ := bx.c6
          have hfz := fun i => bx.frozen i
          have hf4 := hfz 4
          have hlt6 := bx.lt
          have hB0 := HB5.out.size
          have HB6 := Lib.hid hb6
          clear hB6 hb6 hz6 s0
          go_wp2_with fail
          go_ret
          refine ⟨by simp, ?_⟩
          first | exact HB6.out | (repeat (first | exact HB6.out | (refine Below.alloc ?_ ?_ _) | (refine Below.setCell ?_ ?_ _))) <;> (try simp) <;> omega
    · have hn1 : (mvErr ws f t != 0) = true := by rw [bne_iff_ne]; exact h0
      obtain ⟨r, hr⟩ : ∃ r, mvErr ws f t = r := ⟨_, rfl⟩
      have hq : (mvOut ws f t).length = 0 := by simp [mvOut, h0]
      rw [hr, hq] at HMV
      rw [hr] at hn1
      clear hg hgn h0 hr hq
      go_enter Try.func6, Try.ntmps6
      go_wp2_with fail
      refine (alive29_c w).mono ?_
      rintro e w1 ⟨rfl, hB1⟩
      go_wp2_with fail
      refine (great25_c A ws.length c _ hn).mono ?_
      rintro e w1' ⟨rfl, rfl⟩
      rw [HG.out]
      go_wp2_with fail
      refine (HMV.out _ (HR.out.up hB1 hB1.size)).mono ?_
      rintro e w2 ⟨⟨A2, c2, rfl, -, -⟩, hB2⟩
      have hb2 := hB1.trans (hB2.mono hB1.size)
      go_wp2_with fail
      go_ret
      exact ⟨rfl, hb2⟩
  · have HG := Lib.hid hg
    clear hg
    go_enter Try.func6, Try.ntmps6
    go_wp2_with fail
    refine (alive29_c w).mono ?_
    rintro e w1 ⟨rfl, hB1⟩
    go_wp2_with fail
    refine (great25_c A ws.length c _ hn).mono ?_
    rintro e w1' ⟨rfl, rfl⟩
    rw [HG.out]
    go_wp2_with fail
    go_ret
    exact ⟨rfl, hB1⟩
end Go.Proofs.Ytkcancjalpjbgaa
