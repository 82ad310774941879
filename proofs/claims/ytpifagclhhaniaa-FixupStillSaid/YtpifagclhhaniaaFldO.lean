/- The addresses of an object's references: the law's own fieldsOf. -/
import Derived.Test.YtpifagclhhaniaaMkJP
import Derived.Test.YtpifagclhhaniaaAl25
namespace Go.Proofs.Ytpifagclhhaniaa
open Go.RowKit

set_option maxRecDepth 100000 in
set_option maxHeartbeats 8000000 in
theorem fieldsOf_c (A : Option Addr) (ws : List Nat) (c n a : Nat) (w : World) (hn : ws.length = n) (hm : n ≤ 1000000) (h0 : rcErr ws = 0) (ha : Rch ws a) (hr : RdW w w.heap.size A ws) (ho : ∀ x ∈ ws, x < 18446744073709551616) :
    Calls Try.prog 20 #[.slice A n c, .int .i64 (a : Int)] w fun e w' => (∃ A' c', e = .returned (.tuple #[.slice A' (refsL ws a).length c', .bool true]) ∧ w'.ownsRow w.heap.size 3 1 (.slice A' (refsL ws a).length c') (refsL ws a).length ((refsL ws a).flatMap intCells)) ∧ Below w.heap.size w w' := by
  subst hn
  obtain ⟨f1, f23, f4, ⟨t, f5, f6, f7, f8⟩, f9⟩ := obj_from h0 ha
  have hb := fr_bd ws (hpErr_zero (rcErr_zero h0).1).1
  have HR := Lib.hid hr
  have HFR := Lib.hid (from_c A ws c ws.length (a : Int) w rfl (by omega) hr ho)
  unfold FrRes at HFR
  rw [f1] at HFR
  obtain ⟨l, hl⟩ : ∃ l, frOut ws (a : Int) = l := ⟨_, rfl⟩
  rw [hl] at HFR f23
  obtain ⟨f2, f3⟩ := f23
  have hx := wd_lt ho (96 + 2 * t)
  have hy := wd_lt ho (96 + 2 * t + 1)
  have HC := Lib.hid (fun W => kRead_c (wd ws (96 + 2 * t)) (wd ws (96 + 2 * t + 1)) W hx hy)
  unfold KrRes at HC
  have hke : krErr (wd ws (96 + 2 * t)) (wd ws (96 + 2 * t + 1)) = 0 := by unfold krErr; rw [f7]; rfl
  rw [hke, ← f8] at HC
  obtain ⟨p, hp⟩ : ∃ p, wd ws (96 + 2 * t) = p := ⟨_, rfl⟩
  obtain ⟨q, hq⟩ : ∃ q, wd ws (96 + 2 * t + 1) = q := ⟨_, rfl⟩
  have HP := Lib.hid hp
  have HQ := Lib.hid hq
  rw [hp, hq] at HC
  have hfl8 := flds_le ws a
  have HRS := Lib.hid (fun k => refsN_succ ws a k)
  have HRL := Lib.hid (fun k => refsN_len ws a k)
  have HRF : Hid (refsL ws a = refsN ws a (flds ws a).length) := Lib.hid rfl
  obtain ⟨F, hF⟩ : ∃ F, flds ws a = F := ⟨_, rfl⟩
  rw [hF] at HC f9 hfl8 HRS HRF
  obtain ⟨x, hx⟩ : ∃ x, bkAt ws a = x := ⟨_, rfl⟩
  rw [hx] at f3 f4 f5
  obtain ⟨xa, xs, xk, xt, xm, xn⟩ := x
  dsimp only at f4 f5
  subst f4 f5
  have t0 : decide ((t : Int) < 0) = false := by rw [decide_eq_false_iff_not]; omega
  have t8 : decide ((8 : Int) ≤ (t : Int)) = false := by rw [decide_eq_false_iff_not]; omega
  have t8n : decide (8 ≤ t) = false := by rw [decide_eq_false_iff_not]; omega
  have hl0 : ((l.length : Int) == 0) = false := by rw [beq_eq_false_iff_ne]; omega
  have hl0n : (l.length == 0) = false := by rw [beq_eq_false_iff_ne]; omega
  have hl1 : (0 : Int) < (l.length : Int) := by omega
  have w1' : IntKind.i64.wrap (2 * (t : Int)) = 2 * (t : Int) := IntWalk.i64_in _ (by omega)
  have w2' : IntKind.i64.wrap (96 + 2 * (t : Int)) = 96 + 2 * (t : Int) := IntWalk.i64_in _ (by omega)
  have w3' : IntKind.i64.wrap (96 + 2 * (t : Int) + 1) = 96 + 2 * (t : Int) + 1 := IntWalk.i64_in _ (by omega)
  have i1 : (0 : Int) ≤ 96 + 2 * (t : Int) := by omega
  have i2 : (96 : Int) + 2 * (t : Int) < (ws.length : Int) := by omega
  have i3 : (0 : Int) ≤ 96 + 2 * (t : Int) + 1 := by omega
  have i4 : (96 : Int) + 2 * (t : Int) + 1 < (ws.length : Int) := by omega
  have n1 : ((96 : Int) + 2 * (t : Int)).toNat = 96 + 2 * t := by omega
  have n2 : ((96 : Int) + 2 * (t : Int) + 1).toNat = 96 + 2 * t + 1 := by omega
  have w4' : IntKind.i64.wrap ((a : Int) + 2) = (a : Int) + 2 := IntWalk.i64_in _ (by omega)
  have w5' : IntKind.i64.wrap ((a : Int) + 2 + (F.length : Int)) = (a : Int) + 2 + (F.length : Int) := IntWalk.i64_in _ (by omega)
  have d5 : decide ((ws.length : Int) < (a : Int) + 2 + (F.length : Int)) = false := by rw [decide_eq_false_iff_not]; omega
  have HF2 := Lib.hid f2
  have HF3 := Lib.hid f3
  have hb1 := hb.1
  have ht1 : 96 + 2 * t < ws.length := by omega
  have ht2 : 96 + 2 * t + 1 < ws.length := by omega
  clear f1 f3 f6 f7 f8 hr ho h0 hb hl hp hq hF hx hy hke ha
  obtain ⟨i0, hi, hz0, hz1, hz2⟩ := info_parts infoInt
  have HI := Lib.hid hi
  have HZ0 := Lib.hid hz0
  have HZ1 := Lib.hid hz1
  have HZ2 := Lib.hid hz2
  clear hi hz0 hz1 hz2
  go_enter Try.func20, Try.ntmps20
  go_wp2_with fail
  refine HFR.out.mono ?_
  rintro e w1 ⟨⟨A1, c1, rfl, hrd, -⟩, hB1⟩
  obtain ⟨bB, oB, rfl, hbB, q0, q1, q2, q3, q4, q5⟩ := RdB.at_ hrd f2
  rw [HF3.out] at q0 q1 q2 q3 q4 q5
  simp only [Nat.zero_mul, Nat.add_zero] at q0 q1 q2 q3 q4 q5
  have HB1 := Lib.hid hB1
  have HR1 := Lib.hid (HR.out.up hB1 hB1.size)
  obtain ⟨bW, oW, rfl, hbW, x0⟩ := RdW.at_ HR1.out ht1
  obtain ⟨bW', oW', eA, -, x1⟩ := RdW.at_ HR1.out ht2
  cases eA
  rw [← wd_get] at x0 x1
  rw [HP.out] at x0
  rw [HQ.out] at x1
  clear hrd hB1
  go_wp2_with fail
  clear q0 q1 q2 q3 q4 q5
  go_region_held3 (fun X : World => X.cell? ⟨bW, oW + (96 + 2 * t), none⟩ = some (.int .u64 (p : Int)) ∧ X.cell? ⟨bW, oW + (96 + 2 * t + 1), none⟩ = some (.int .u64 (q : Int))) (go_keep)
    (first | (go_at_call 58; refine (HC.out _).mono ?_; rintro e w2 ⟨⟨A2, c2, rfl, hrd, -⟩, hB2⟩; have m0 := (hB2.cell (p := ⟨bW, oW + (96 + 2 * t), none⟩) hbW).trans x0; have m1 := (hB2.cell (p := ⟨bW, oW + (96 + 2 * t + 1), none⟩) hbW).trans x1; have HRD := Lib.hid hrd; clear hrd))
  have hb2 : Below w1.heap.size w1 w2 := (Below.refl _ _).drew.trans hB2
  have HB2 := Lib.hid (HB1.out.trans (hb2.mono HB1.out.size))
  clear m0 m1 x0 x1 hB2 hb2
  go_wp2_with fail
  go_loopw [10, 11] (fun v i wr => ∃ k : Nat, k ≤ F.length ∧ i = .int .i64 k ∧ wr.ownsRow w2.heap.size 3 1 v (refsN ws a k).length ((refsN ws a k).flatMap intCells) ∧ Below w2.heap.size w2 wr) (fun _ i _ => F.length - (intOf i).toNat)
  case atStart => exact ⟨0, Nat.zero_le _, rfl, World.ownsRow_nil _ _ _ _, Below.refl _ _⟩
  case round =>
    obtain ⟨k, hk, rfl, hown, hB⟩ := hrel
    have hz := hB.size
    by_cases hlt : k < F.length
    · obtain ⟨b2, o2, rfl, hb2, r0⟩ := RdY.at_ (Rd.below HRD.out hB) hlt
      have HSN := Lib.hid (HRS.out k)
      have hml := HRL.out k
      obtain ⟨m, hm2⟩ : ∃ m, refsN ws a k = m := ⟨_, rfl⟩
      rw [hm2] at hown HSN hml
      rw [List.getElem?_eq_getElem hlt] at HSN
      obtain ⟨y, hy⟩ : ∃ y, F[k] = y := ⟨_, rfl⟩
      rw [hy] at r0 HSN
      have hlm : (k : Int) < (F.length : Int) := by omega
      have hl0' : (0 : Int) ≤ (k : Int) := by omega
      have w6' : IntKind.i64.wrap ((a : Int) + 2 + (k : Int)) = (a : Int) + 2 + (k : Int) := IntWalk.i64_in _ (by omega)
      clear hm2 hy
      by_cases hy3 : y = 3
      · have hyb : ((y : Int) == 3) = true := by rw [beq_iff_eq]; omega
        have hybn : (y == 3) = true := by rw [beq_iff_eq]; exact hy3
        have HS2 := Lib.hid (show refsN ws a (k + 1) = m ++ [(a : Int) + 2 + (k : Int)] by rw [HSN.out, hy3, if_pos rfl]; congr 2)
        clear HSN hy3
        go_wp2_with (at_builtin; refine wpList_append_own _ rfl _ _ 25 rfl w2.heap.size 3 i0 _ 1 8 Try.underlying25 HI.out HZ0.out HZ1.out HZ2.out rfl (by decide) _ _ _ rfl (hown.alloc _) ⟨_, 0, none⟩ 1 1 [.int .i64 ((a : Int) + 2 + (k : Int))] rfl rfl (news_new _ _ _) (by simp [Value.oneCell']) (by unfold maxLen; omega) (by omega) (by simp; omega) ?_; intro v1 w3 hown1 hg1 _; have hB3 := below_append hB hz hown hg1)
        go_roundw
        case rel => exact ⟨k + 1, by omega, by go_num, by rw [HS2.out, List.length_append, flat_snoc]; exact hown1, hB3⟩
        case measure => simp [intOf]; omega
      · have hyb : ((y : Int) == 3) = false := by rw [beq_eq_false_iff_ne]; omega
        have hybn : (y == 3) = false := by rw [beq_eq_false_iff_ne]; exact hy3
        have HS2 := Lib.hid (show refsN ws a (k + 1) = m by rw [HSN.out, if_neg (fun h => hy3 (by injection h))]; simp)
        clear HSN hy3
        go_wp2_with fail
        go_roundw
        case rel => exact ⟨k + 1, by omega, by go_num, by rw [HS2.out]; exact hown, hB⟩
        case measure => simp [intOf]; omega
    · obtain rfl : k = F.length := by omega
      rw [← HRF.out] at hown
      obtain ⟨A2', c3, rfl⟩ := own_slice hown
      have HOW := Lib.hid (own_mono hown HB2.out.size)
      clear hown
      go_wp2_with fail
      go_ret2
      exact ⟨⟨A2', c3, rfl, HOW.out⟩, HB2.out.trans (hB.mono HB2.out.size)⟩
end Go.Proofs.Ytpifagclhhaniaa
