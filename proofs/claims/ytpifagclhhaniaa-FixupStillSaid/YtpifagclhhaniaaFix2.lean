/- Fixing references: the object at an address, its references. -/
import Derived.Test.YtpifagclhhaniaaFix
import Derived.Test.YtpifagclhhaniaaRch
namespace Go.Proofs.Ytpifagclhhaniaa
open Go.RowKit

set_option maxRecDepth 100000 in
set_option maxHeartbeats 4000000 in
theorem fxObj_c (A : Option Addr) (ws : List Nat) (c n : Nat) (a : Int) (w : World) (hn : ws.length = n) (hm : n ≤ 9223372036854775807) (hr : RdW w w.heap.size A ws) (ho : ∀ x ∈ ws, x < 18446744073709551616) :
    Calls Try.prog 68 #[.slice A n c, .int .i64 a] w fun e w' => e = .returned (.tuple #[(obj6 ws a).val, .int .i64 (obj6Err ws a)]) ∧ Below w.heap.size w w' := by
  have HFR := Lib.hid (from_c A ws c n 128 (w.alloc (.cells #[.int .i64 0, .int .i64 0, .int .i64 0, .int .i64 0, .bool false, .int .u64 0] 47)) hn hm ((hr.alloc (Nat.le_refl _) _).more (by simp)) ho)
  unfold FrRes at HFR
  rw [World.size_alloc] at HFR
  have hlen := frOut_len ws 128
  have HN : Hid (noObj (frOut ws 128) a (frOut ws 128).length → obj6 ws a = noBk ∧ obj6Err ws a = 6) := Lib.hid fun h => by simp [obj6, obj6Err, objF_none h]
  have HY : Hid (∀ k, k < (frOut ws 128).length → noObj (frOut ws 128) a k → ((gk (frOut ws 128) k).at_ == a && (gk (frOut ws 128) k).kind == 1) = true → obj6 ws a = gk (frOut ws 128) k ∧ obj6Err ws a = 0) := Lib.hid fun k h1 h2 h3 => by simp [obj6, obj6Err, objF_at h1 h2 h3]
  obtain ⟨l, hl⟩ : ∃ l, frOut ws 128 = l := ⟨_, rfl⟩
  obtain ⟨r, hr'⟩ : ∃ r, frErr ws 128 = r := ⟨_, rfl⟩
  rw [hl, hr'] at HFR
  rw [hl] at hlen HN HY
  have hi6 := infoBlkS
  clear hl hr' hr ho hn hm
  go_enter Try.func68, Try.ntmps68
  go_wp2_with fail
  refine HFR.out.mono ?_
  rintro e w1 ⟨⟨A1, c1, rfl, hrd, -⟩, hB1⟩
  have hb1 := below_call hB1
  have hz1 := hb1.size
  have b0 := Lib.hid (Bx.of_new hB1)
  have hz1' := b0.out.lt
  have HRD := Lib.hid hrd
  have HB1 := Lib.hid hb1
  clear hrd hB1 hb1
  go_wp2_with fail
  go_loopw [17] (fun i wr => ∃ k : Nat, k ≤ l.length ∧ i = .int .i64 k ∧ Hid (noObj l a k) ∧ Below w1.heap.size w1 wr) (fun i _ => l.length - (intOf i).toNat)
  case atStart => exact ⟨0, Nat.zero_le _, rfl, noObj_zero l a, Below.refl _ _⟩
  case round =>
    obtain ⟨k, hk, rfl, HNO, hB⟩ := hrel
    have hz := hB.size
    have BXr := Lib.hid (b0.out.up hB hz1')
    by_cases hlt : k < l.length
    · obtain ⟨b, off, rfl, hbw, q0, q1, q2, q3, q4, q5⟩ := RdB.at_ (HRD.out.below hB) hlt
      have HS := Lib.hid (fun h => noObj_succ HNO.out h)
      have HYK := Lib.hid (fun h => HY.out k hlt HNO.out h)
      rw [gk_get l k hlt] at HS HYK
      obtain ⟨x, hx⟩ : ∃ x, l[k] = x := ⟨_, rfl⟩
      rw [hx] at q0 q1 q2 q3 q4 q5 HS HYK
      obtain ⟨xa, xs, xk, xt, xm, xn⟩ := x
      dsimp only at q0 q1 q2 q3 q4 q5 HS
      have hlm : (k : Int) < (l.length : Int) := by omega
      clear hx
      obtain ⟨d1, e1⟩ : ∃ d, (xa == a) = d := ⟨_, rfl⟩
      obtain ⟨d2, e2⟩ : ∃ d, (xk == 1) = d := ⟨_, rfl⟩
      dsimp only at HYK
      rw [e1, e2] at HS HYK
      cases d1
      · have HS2 := Lib.hid (HS.out rfl)
        clear HS HYK e2
        go_wp2_with fail
        go_roundw
        case rel => exact ⟨k + 1, by omega, by go_num, HS2.out, hB.alloc hz _⟩
        case measure => simp [intOf]; omega
      · cases d2
        · have HS2 := Lib.hid (HS.out rfl)
          clear HS HYK
          go_wp2_with fail
          go_roundw
          case rel => exact ⟨k + 1, by omega, by go_num, HS2.out, hB.alloc hz _⟩
          case measure => simp [intOf]; omega
        · have HV := Lib.hid (HYK.out rfl)
          have hnew := Lib.hid (Bx.new wr 47 #[.int .i64 xa, .int .i64 xs, .int .i64 xk, .int .i64 xt, .bool xm, .int .u64 (xn : Int)])
          have HBA := Lib.hid (hB.alloc hz (.cells #[.int .i64 xa, .int .i64 xs, .int .i64 xk, .int .i64 xt, .bool xm, .int .u64 (xn : Int)] 47))
          have BXA := Lib.hid (BXr.out.alloc (.cells #[.int .i64 xa, .int .i64 xs, .int .i64 xk, .int .i64 xt, .bool xm, .int .u64 (xn : Int)] 47))
          clear HS HYK
          go_upto_region 6 with (fail)
          obtain ⟨wn, hwn⟩ : ∃ wn, wr.alloc (.cells #[.int .i64 xa, .int .i64 xs, .int .i64 xk, .int .i64 xt, .bool xm, .int .u64 (xn : Int)] 47) = wn := ⟨_, rfl⟩
          rw [hwn] at hnew BXA HBA ⊢
          clear hwn
          go_wp2_with (first
            | ((with_reducible refine at_load 47 (.tmp 9) ?_); refine wpList_load_row rfl _ _ rfl wr.heap.size (by rfl) 47 #[.int .i64 xa, .int .i64 xs, .int .i64 xk, .int .i64 xt, .bool xm, .int .u64 (xn : Int)] (0, 0) _ hnew.out Try.underlying47 (by rfl) hi6 ?_)
            | ((with_reducible refine at_store 47 (.tmp 4) _ ?_); refine wpList_store_agg rfl _ _ _ rfl w.heap.size 47 #[.int .i64 0, .int .i64 0, .int .i64 0, .int .i64 0, .bool false, .int .u64 0] #[.int .i64 xa, .int .i64 xs, .int .i64 xk, .int .i64 xt, .bool xm, .int .u64 (xn : Int)] (by rfl) (by rfl) BXA.out rfl hi6 (six_one _ _ _ _ _ _) ?_; intro w3 hb3 ha3; have HB3 := Lib.hid hb3; have HA3 := Lib.hid ha3; clear hb3 ha3))
          exact bodyPost_ret (v := .tuple #[.agg #[.int .i64 xa, .int .i64 xs, .int .i64 xk, .int .i64 xt, .bool xm, .int .u64 (xn : Int)], .int .i64 0]) (results_blk Try.results68 _ HB3.out rfl rfl) rfl ⟨by rw [HV.out.1, HV.out.2]; rfl, HA3.out.below (HB1.out.trans (HBA.out.mono hz1)) (Nat.le_refl _)⟩
    · have HV := Lib.hid (HN.out (by have := HNO.out; rwa [show k = l.length by omega] at this))
      have HBr := Lib.hid (HB1.out.trans (hB.mono hz1))
      obtain ⟨x0, x1, x2, x3, x4, x5, fz, hgl⟩ := BXr.out.c6
      have f0 := fz 0
      have f1 := fz 1
      have f2 := fz 2
      have f3 := fz 3
      have f4 := fz 4
      have f5 := fz 5
      clear fz
      go_wp2_with fail
      exact bodyPost_ret (v := .tuple #[.agg #[.int .i64 0, .int .i64 0, .int .i64 0, .int .i64 0, .bool false, .int .u64 0], .int .i64 6]) (results_blk Try.results68 _ (six_bx BXr.out _ _ _ _ _ _) rfl rfl) rfl ⟨by rw [HV.out.1, HV.out.2]; rfl, six_below HBr.out (Nat.le_refl _) _ _ _ _ _ _⟩

set_option maxRecDepth 100000 in
set_option maxHeartbeats 4000000 in
theorem fxRefs_c (A : Option Addr) (ws : List Nat) (c n t xa : Nat) (xs xk : Int) (xm : Bool) (xn : Nat) (w : World) (hn : ws.length = n) (hm : n ≤ 1000000) (h2 : 256 ≤ n) (ht : t < 8) (hxa : xa ≤ 1000000) (hr : RdW w w.heap.size A ws) (ho : ∀ x ∈ ws, x < 18446744073709551616) :
    Calls Try.prog 70 #[.slice A n c, .agg #[.int .i64 (xa : Int), .int .i64 xs, .int .i64 xk, .int .i64 (t : Int), .bool xm, .int .u64 (xn : Int)]] w fun e w' => (∃ A' c', e = .returned (.slice A' (rfsB ws ⟨(xa : Int), xs, xk, (t : Int), xm, xn⟩).length c') ∧ RdI w' w'.heap.size A' (rfsB ws ⟨(xa : Int), xs, xk, (t : Int), xm, xn⟩) ∧ (rfsB ws ⟨(xa : Int), xs, xk, (t : Int), xm, xn⟩).length ≤ c') ∧ Below w.heap.size w w' := by
  subst hn
  have hx := wd_lt ho (96 + 2 * t)
  have hy := wd_lt ho (96 + 2 * t + 1)
  have HC := Lib.hid (fun W => kRead_c (wd ws (96 + 2 * t)) (wd ws (96 + 2 * t + 1)) W hx hy)
  unfold KrRes at HC
  have hmx := krOut_le (wd ws (96 + 2 * t)) (wd ws (96 + 2 * t + 1))
  have hrf : rfsB ws ⟨(xa : Int), xs, xk, (t : Int), xm, xn⟩ = rfTo (krOut (wd ws (96 + 2 * t)) (wd ws (96 + 2 * t + 1))) (xa : Int) (krOut (wd ws (96 + 2 * t)) (wd ws (96 + 2 * t + 1))).length := rfl
  rw [hrf]
  clear hrf
  obtain ⟨b, off, rfl, hb, h0⟩ := RdW.at_ hr (show 96 + 2 * t < ws.length by omega)
  obtain ⟨b', off', e', -, h1⟩ := RdW.at_ hr (show 96 + 2 * t + 1 < ws.length by omega)
  cases e'
  rw [← wd_get] at h0 h1
  obtain ⟨x, hx2⟩ : ∃ x, wd ws (96 + 2 * t) = x := ⟨_, rfl⟩
  obtain ⟨y, hy2⟩ : ∃ y, wd ws (96 + 2 * t + 1) = y := ⟨_, rfl⟩
  rw [hx2] at h0 HC hmx ⊢
  rw [hy2] at h1 HC hmx ⊢
  obtain ⟨F, hF⟩ : ∃ F, krOut x y = F := ⟨_, rfl⟩
  obtain ⟨r, hr'⟩ : ∃ r, krErr x y = r := ⟨_, rfl⟩
  rw [hF, hr'] at HC
  rw [hF] at hmx ⊢
  have HRS := Lib.hid (fun j => rfTo_succ F (xa : Int) j)
  have HRL := Lib.hid (fun j => rfTo_len F (xa : Int) j)
  have t0 : (0 : Int) ≤ (t : Int) := by omega
  have t8 : (t : Int) < 8 := by omega
  have w1 : IntKind.i64.wrap (2 * (t : Int)) = 2 * (t : Int) := IntWalk.i64_in _ (by omega)
  have w2 : IntKind.i64.wrap (96 + 2 * (t : Int)) = 96 + 2 * (t : Int) := IntWalk.i64_in _ (by omega)
  have w3 : IntKind.i64.wrap (96 + 2 * (t : Int) + 1) = 96 + 2 * (t : Int) + 1 := IntWalk.i64_in _ (by omega)
  have wa : IntKind.i64.wrap ((xa : Int) + 2) = (xa : Int) + 2 := IntWalk.i64_in _ (by omega)
  have i1 : (0 : Int) ≤ 96 + 2 * (t : Int) := by omega
  have i2 : (96 : Int) + 2 * (t : Int) < (ws.length : Int) := by omega
  have i3 : (0 : Int) ≤ 96 + 2 * (t : Int) + 1 := by omega
  have i4 : (96 : Int) + 2 * (t : Int) + 1 < (ws.length : Int) := by omega
  have n1 : ((96 : Int) + 2 * (t : Int)).toNat = 96 + 2 * t := by omega
  have n2 : ((96 : Int) + 2 * (t : Int) + 1).toNat = 96 + 2 * t + 1 := by omega
  have bx := Bx.new w 47 #[.int .i64 (xa : Int), .int .i64 xs, .int .i64 xk, .int .i64 (t : Int), .bool xm, .int .u64 (xn : Int)]
  have hbw := (Below.refl w.heap.size w).alloc (Nat.le_refl _) (.cells #[.int .i64 (xa : Int), .int .i64 xs, .int .i64 xk, .int .i64 (t : Int), .bool xm, .int .u64 (xn : Int)] 47)
  replace h0 := (hbw.cell (p := ⟨b, off + (96 + 2 * t), none⟩) hb).trans h0
  replace h1 := (hbw.cell (p := ⟨b, off + (96 + 2 * t + 1), none⟩) hb).trans h1
  have hsw : (w.alloc (.cells #[.int .i64 (xa : Int), .int .i64 xs, .int .i64 xk, .int .i64 (t : Int), .bool xm, .int .u64 (xn : Int)] 47)).heap.size = w.heap.size + 1 := by simp
  obtain ⟨i0, hi, hz0, hz1, hz2⟩ := info_parts infoInt
  have HI := Lib.hid hi
  have HZ0 := Lib.hid hz0
  have HZ1 := Lib.hid hz1
  have HZ2 := Lib.hid hz2
  clear hi hz0 hz1 hz2
  clear hr hx hy hx2 hy2 ho ht hF hr'
  go_enter Try.func70, Try.ntmps70
  go_wp2_with fail
  obtain ⟨W0, hW0⟩ : ∃ W0, w.alloc (.cells #[.int .i64 (xa : Int), .int .i64 xs, .int .i64 xk, .int .i64 (t : Int), .bool xm, .int .u64 (xn : Int)] 47) = W0 := ⟨_, rfl⟩
  rw [hW0] at h0 h1 bx hbw hsw ⊢
  clear hW0
  have b3 : W0.cell? ⟨w.heap.size, 3, none⟩ = some (.int .i64 (t : Int)) := bx.cell 3
  have hbb : b < W0.heap.size := by omega
  have hgg : w.heap.size < W0.heap.size := by omega
  have BX := Lib.hid bx
  have HBW := Lib.hid hbw
  clear bx hbw hsw
  go_region_held3 (fun X : World => X.cell? ⟨b, off + (96 + 2 * t), none⟩ = some (.int .u64 (x : Int)) ∧ X.cell? ⟨b, off + (96 + 2 * t + 1), none⟩ = some (.int .u64 (y : Int)) ∧ X.cell? ⟨w.heap.size, 3, none⟩ = some (.int .i64 (t : Int))) (go_keep)
    (first | (go_at_call 58; refine (HC.out _).mono ?_; rintro e w5 ⟨⟨A1, c1, rfl, hrd, -⟩, hB5⟩; have m0 := (hB5.cell (p := ⟨b, off + (96 + 2 * t), none⟩) hbb).trans h0; have m1 := (hB5.cell (p := ⟨b, off + (96 + 2 * t + 1), none⟩) hbb).trans h1; have m2 := (hB5.cell (p := ⟨w.heap.size, 3, none⟩) hgg).trans b3; have HRD := Lib.hid hrd; have hb5 : Below W0.heap.size W0 w5 := (Below.refl W0.heap.size W0).drew.trans hB5; have BX5 := Lib.hid (BX.out.up hb5 hgg); have HB5 := Lib.hid (HBW.out.trans (hb5.mono HBW.out.size)); clear hrd hB5 hb5))
  have hz5 := HB5.out.size
  clear m0 m1 m2 h0 h1 b3
  go_wp2_with fail
  go_loopw [7, 31] (fun v i wr => ∃ k : Nat, k ≤ F.length ∧ i = .int .i64 k ∧ wr.ownsRow w5.heap.size 3 1 v (rfTo F (xa : Int) k).length ((rfTo F (xa : Int) k).flatMap intCells) ∧ Below w5.heap.size w5 wr) (fun _ i _ => F.length - (intOf i).toNat)
  case atStart => exact ⟨0, Nat.zero_le _, rfl, World.ownsRow_nil _ _ _ _, Below.refl _ _⟩
  case round =>
    obtain ⟨k, hk, rfl, hown, hB⟩ := hrel
    have hz := hB.size
    by_cases hlt : k < F.length
    · obtain ⟨bF, oF, rfl, hbF, y0⟩ := RdY.at_ (show RdY wr w5.heap.size A1 F from Rd.below HRD.out hB) hlt
      have bxr := BX5.out.up hB BX5.out.lt
      have p0 := bxr.cell 0
      have hgr := bxr.lt
      have HSN := Lib.hid (HRS.out k)
      have hml := HRL.out k
      rw [List.getElem?_eq_getElem hlt] at HSN
      obtain ⟨kd, hkd⟩ : ∃ kd, F[k] = kd := ⟨_, rfl⟩
      obtain ⟨m, hm2⟩ : ∃ m, rfTo F (xa : Int) k = m := ⟨_, rfl⟩
      rw [hkd] at y0 HSN
      rw [hm2] at hown HSN hml
      have p0' : wr.cell? ⟨w.heap.size, 0, none⟩ = some (.int .i64 (xa : Int)) := p0
      have hki : (k : Int) < (F.length : Int) := by omega
      have hwk : IntKind.i64.wrap ((xa : Int) + 2 + (k : Int)) = (xa : Int) + 2 + (k : Int) := IntWalk.i64_in _ (by omega)
      clear hkd hm2 bxr p0
      by_cases hk3 : kd = 3
      · have e3 : ((kd : Int) == 3) = true := by rw [beq_iff_eq]; omega
        have e3n : (kd == 3) = true := by rw [beq_iff_eq]; exact hk3
        have HY := Lib.hid (show rfTo F (xa : Int) (k + 1) = m ++ [(xa : Int) + 2 + (k : Int)] by rw [HSN.out, if_pos (by rw [hk3])])
        clear hk3 HSN
        go_wp2_with (at_builtin; refine wpList_append_own _ rfl _ _ 25 rfl w5.heap.size 3 i0 _ 1 8 Try.underlying25 HI.out HZ0.out HZ1.out HZ2.out rfl (by decide) _ _ _ rfl (hown.alloc _) ⟨_, 0, none⟩ 1 1 [.int .i64 ((xa : Int) + 2 + (k : Int))] rfl rfl (news_new _ _ _) (by simp [Value.oneCell']) (by unfold maxLen; omega) (by omega) (by simp; omega) ?_; intro v1 w6 hown1 hg1 _; have hB6 := below_append hB hz hown hg1)
        go_roundw
        case rel => exact ⟨k + 1, by omega, by go_num, by rw [HY.out, List.length_append, flat_snoc]; exact hown1, hB6⟩
        case measure => simp [intOf]; omega
      · have e3 : ((kd : Int) == 3) = false := by rw [beq_eq_false_iff_ne]; omega
        have e3n : (kd == 3) = false := by rw [beq_eq_false_iff_ne]; exact hk3
        have HY := Lib.hid (show rfTo F (xa : Int) (k + 1) = m by rw [HSN.out, if_neg (fun h => hk3 (Option.some.inj h)), List.append_nil])
        clear hk3 HSN
        go_wp2_with fail
        go_roundw
        case rel => exact ⟨k + 1, by omega, by go_num, by rw [HY.out]; exact hown, hB⟩
        case measure => simp [intOf]; omega
    · obtain rfl : k = F.length := by omega
      obtain ⟨A2, c2, rfl, hle, hrd2⟩ := slice_of hown
      have HRD2 := Lib.hid hrd2
      have HLE := Lib.hid hle
      clear hrd2 hown hle
      go_wp2_with fail
      go_ret
      exact ⟨⟨A2, c2, rfl, HRD2.out, HLE.out⟩, HB5.out.trans (hB.mono hz5)⟩
end Go.Proofs.Ytpifagclhhaniaa
