/- Whether the words up to an address are objects that are not marked: what the program returns. -/
import Derived.Test.YtpifagclhhaniaaPhP
import Derived.Test.YtpifagclhhaniaaFwt
namespace Go.Proofs.Ytpifagclhhaniaa
open Go.RowKit

theorem mdOk_no {ws : List Nat} {i : Nat} (h : splitOk (wd ws i) = false) : mdOk ws i = false := by unfold mdOk; rw [h, Bool.false_and]
theorem mdOk_raw {ws : List Nat} {i : Nat} (h : splitOk (wd ws i) = true) : mdOk ws i = ((rawBk (wd ws i)).kind == 1 && (!(rawBk (wd ws i)).mark && typedB ws (rawBk (wd ws i)))) := by unfold mdOk; rw [h, Bool.true_and]
theorem raw_typ {x : Nat} (h : splitOk x = true) (hk : (rawBk x).kind = 1) : (rawBk x).typ < 8 := by
  unfold splitOk at h
  simp only [Bool.and_eq_true] at h
  have := (hdOk_iff _).1 h.1
  omega

set_option maxRecDepth 100000 in
set_option maxHeartbeats 4000000 in
theorem moved_c (A : Option Addr) (ws : List Nat) (c n t : Nat) (w : World) (hn : ws.length = n) (hm : n ≤ 1000000) (h2 : 256 ≤ n) (ht : t ≤ n) (hr : RdW w w.heap.size A ws) (ho : ∀ x ∈ ws, x < 18446744073709551616) :
    Calls Try.prog 90 #[.slice A n c, .int .i64 (t : Int)] w fun e w' => e = .returned (.bool (mvd ws 128 t)) ∧ Below w.heap.size w w' := by
  subst hn
  have HR := Lib.hid hr
  have HLT : Hid (∀ k, wd ws k < 18446744073709551616) := Lib.hid (wd_lt ho)
  obtain ⟨b, off, rfl, hb, -⟩ := RdW.at_ hr (show 0 < ws.length by omega)
  have HCL : Hid (∀ k (h : k < ws.length) (W : World), Below w.heap.size w W → W.cell? ⟨b, off + k, none⟩ = some (.int .u64 (wd ws k : Int))) := Lib.hid fun k h W hB => by
    obtain ⟨b', off', e', -, h0⟩ := RdW.at_ (Rd.below HR.out hB) h
    cases e'
    rw [← wd_get] at h0
    exact h0
  have HTD := Lib.hid (fun xa xs xk (t : Nat) xm xn => typed_eq ws xa xs xk t xm xn)
  clear hr ho
  obtain ⟨V, hV⟩ : ∃ V, mvd ws 128 t = V := ⟨_, rfl⟩
  have HV := Lib.hid hV
  rw [hV]
  clear hV
  go_enter Try.func90, Try.ntmps90
  go_wp2_with fail
  go_loopw [5] (fun a wr => ∃ i : Nat, 128 ≤ i ∧ i ≤ 1000020 ∧ a = .int .i64 i ∧ Hid (V = mvd ws i t) ∧ Below w.heap.size w wr) (fun a _ => t - (intOf a).toNat)
  case atStart => exact ⟨128, by omega, by omega, rfl, Lib.hid HV.out.symm, Below.refl _ _⟩
  case round =>
    obtain ⟨i, hi, hi2, rfl, HI, hB⟩ := hrel
    have hz := hB.size
    by_cases hlt : i < t
    · have HNO := Lib.hid (fun h => mvd_bad (ws := ws) (t := t) hlt h)
      have HST := Lib.hid (fun h => mvd_step (ws := ws) (t := t) hlt h)
      have HMN := Lib.hid (fun h => mdOk_no (ws := ws) (i := i) h)
      have HMR := Lib.hid (fun h => mdOk_raw (ws := ws) (i := i) h)
      have HTY := Lib.hid (fun h hk => raw_typ (x := wd ws i) h hk)
      have HSP := Lib.hid (fun W => hdSplit_c (wd ws i) W (HLT.out i))
      have p0 := HCL.out i (by omega) _ hB
      have hit : (i : Int) < (t : Int) := by omega
      have hi0 : (0 : Int) ≤ (i : Int) := by omega
      have hin : (i : Int) < (ws.length : Int) := by omega
      have HSZ : Hid (szAt ws i = (rawBk (wd ws i)).size.toNat) := Lib.hid rfl
      have HRW : Hid (0 ≤ (rawBk (wd ws i)).size ∧ (rawBk (wd ws i)).size ≤ 65535 ∧ 0 ≤ (rawBk (wd ws i)).typ) := Lib.hid (by
        have h1 : wd ws i / 65536 % 65536 < 65536 := Nat.mod_lt _ (by omega)
        unfold rawBk; dsimp only; omega)
      have HS2 := Lib.hid (fun h => mdOk_sz (ws := ws) (i := i) h)
      obtain ⟨x, hx⟩ : ∃ x, wd ws i = x := ⟨_, rfl⟩
      rw [hx] at p0 HMN HMR HTY HSP HSZ HRW
      clear hx
      cases hs : splitOk x
      · rw [(spl_no hs).1, (spl_no hs).2] at HSP
        unfold noBk Bk.val at HSP
        dsimp only at HSP
        have HY := Lib.hid (HI.out.trans (HNO.out (HMN.out hs)))
        clear hs HNO HST HMN HMR HTY
        go_wp2_with fail
        refine (HSP.out _).mono ?_
        rintro e w1 ⟨rfl, hB1⟩
        have hb1 := hB.trans (hB1.mono hz)
        go_wp2_with fail
        go_ret
        exact ⟨by rw [HY.out]; rfl, hb1.alloc hb1.size _⟩
      · have HSO := Lib.hid hs
        rw [(spl_ok hs).1, (spl_ok hs).2] at HSP
        have HMQ := Lib.hid (HMR.out hs)
        have HTY2 := Lib.hid (fun hk => HTY.out hs hk)
        clear hs HMN HMR HTY
        obtain ⟨y, hy⟩ : ∃ y, rawBk x = y := ⟨_, rfl⟩
        have hya : y.at_ = 0 ∧ y.next = 0 := by rw [← hy]; exact ⟨rfl, rfl⟩
        rw [hy] at HSP HMQ HTY2 HSZ HRW
        clear hy
        obtain ⟨xa, xs, xk, xt, xm, xn⟩ := y
        dsimp only at hya HMQ HTY2 HSZ HRW
        obtain ⟨rfl, rfl⟩ := hya
        unfold Bk.val at HSP
        dsimp only at HSP
        by_cases hk1 : xk = 1
        · have ek : (xk != 1) = false := by rw [bne_eq_false_iff_eq]; exact hk1
          have ek2 : (xk == 1) = true := by rw [beq_iff_eq]; exact hk1
          have ht8 := HTY2.out hk1
          obtain ⟨r1, r2, r3⟩ := HRW.out
          obtain ⟨u, rfl⟩ := Int.eq_ofNat_of_zero_le r3
          obtain ⟨sz, rfl⟩ := Int.eq_ofNat_of_zero_le r1
          rw [Int.toNat_natCast] at HSZ
          rw [ek2, Bool.true_and] at HMQ
          clear hk1 HTY2 r1 r3
          cases xm
          · rw [Bool.not_false, Bool.true_and, HTD.out] at HMQ
            have hx1 := HLT.out (96 + 2 * u)
            have hy1 := HLT.out (96 + 2 * u + 1)
            have HC := Lib.hid (fun W => kRead_c (wd ws (96 + 2 * u)) (wd ws (96 + 2 * u + 1)) W hx1 hy1)
            have HK := Lib.hid (krErr_eq (wd ws (96 + 2 * u)) (wd ws (96 + 2 * u + 1)))
            have hmx := krOut_le (wd ws (96 + 2 * u)) (wd ws (96 + 2 * u + 1))
            have HKN := Lib.hid (krOut_knd (wd ws (96 + 2 * u)) (wd ws (96 + 2 * u + 1)))
            have HP0 := Lib.hid (HCL.out (96 + 2 * u) (by omega))
            have HP1 := Lib.hid (HCL.out (96 + 2 * u + 1) (by omega))
            obtain ⟨tx, hx2⟩ : ∃ x, wd ws (96 + 2 * u) = x := ⟨_, rfl⟩
            obtain ⟨ty, hy2⟩ : ∃ y, wd ws (96 + 2 * u + 1) = y := ⟨_, rfl⟩
            rw [hx2] at HP0 HC HK HKN hmx HMQ
            rw [hy2] at HP1 HC HK HKN hmx HMQ
            clear hx2 hy2 hx1 hy1
            have t0 : (0 : Int) ≤ (u : Int) := by omega
            have w1 : IntKind.i64.wrap (2 * (u : Int)) = 2 * (u : Int) := IntWalk.i64_in _ (by omega)
            have w2 : IntKind.i64.wrap (96 + 2 * (u : Int)) = 96 + 2 * (u : Int) := IntWalk.i64_in _ (by omega)
            have w3 : IntKind.i64.wrap (96 + 2 * (u : Int) + 1) = 96 + 2 * (u : Int) + 1 := IntWalk.i64_in _ (by omega)
            have i1 : (0 : Int) ≤ 96 + 2 * (u : Int) := by omega
            have i2 : (96 : Int) + 2 * (u : Int) < (ws.length : Int) := by omega
            have i3 : (0 : Int) ≤ 96 + 2 * (u : Int) + 1 := by omega
            have i4 : (96 : Int) + 2 * (u : Int) + 1 < (ws.length : Int) := by omega
            have n1 : ((96 : Int) + 2 * (u : Int)).toNat = 96 + 2 * u := by omega
            have n2 : ((96 : Int) + 2 * (u : Int) + 1).toNat = 96 + 2 * u + 1 := by omega
            go_wp2_with fail
            refine (HSP.out _).mono ?_
            rintro e w1 ⟨rfl, hB1⟩
            have hb1 := hB.trans (hB1.mono hz)
            have hbw := hb1.alloc hb1.size (.cells #[.int .i64 0, .int .i64 (sz : Int), .int .i64 xk, .int .i64 (u : Int), .bool false, .int .u64 ((0 : Nat) : Int)] 47)
            have bx := Bx.new w1 47 #[.int .i64 0, .int .i64 (sz : Int), .int .i64 xk, .int .i64 (u : Int), .bool false, .int .u64 ((0 : Nat) : Int)]
            have hsw : (w1.alloc (.cells #[.int .i64 0, .int .i64 (sz : Int), .int .i64 xk, .int .i64 (u : Int), .bool false, .int .u64 ((0 : Nat) : Int)] 47)).heap.size = w1.heap.size + 1 := by simp
            have hw1 := hb1.size
            simp only [Int.cast_ofNat_Int] at bx hbw hsw
            clear p0 hB1 hb1
            go_wp2_with fail
            obtain ⟨W0, hW0⟩ : ∃ W0, w1.alloc (.cells #[.int .i64 0, .int .i64 (sz : Int), .int .i64 xk, .int .i64 (u : Int), .bool false, .int .u64 0] 47) = W0 := ⟨_, rfl⟩
            rw [hW0] at bx hbw hsw ⊢
            clear hW0
            have h0 := HP0.out _ hbw
            have h1 := HP1.out _ hbw
            have b3 : W0.cell? ⟨w1.heap.size, 3, none⟩ = some (.int .i64 (u : Int)) := bx.cell 3
            have hbb : b < W0.heap.size := by omega
            have hgg : w1.heap.size < W0.heap.size := by omega
            have BX := Lib.hid bx
            have HBW := Lib.hid hbw
            clear bx hbw hsw
            go_region_held3 (fun X : World => X.cell? ⟨b, off + (96 + 2 * u), none⟩ = some (.int .u64 (tx : Int)) ∧ X.cell? ⟨b, off + (96 + 2 * u + 1), none⟩ = some (.int .u64 (ty : Int)) ∧ X.cell? ⟨w1.heap.size, 3, none⟩ = some (.int .i64 (u : Int))) (go_keep)
              (first | (go_at_call 58; refine (HC.out _).mono ?_; rintro e w5 ⟨⟨A1, c1, rfl, hrd, hcl⟩, hB5⟩; have m0 := (hB5.cell (p := ⟨b, off + (96 + 2 * u), none⟩) hbb).trans h0; have m1 := (hB5.cell (p := ⟨b, off + (96 + 2 * u + 1), none⟩) hbb).trans h1; have m2 := (hB5.cell (p := ⟨w1.heap.size, 3, none⟩) hgg).trans b3; have HRD := Lib.hid hrd; have HB5 := Lib.hid hB5; clear hrd hcl))
            have hsz := kSize_c A1 (krOut tx ty) c1 (krOut tx ty).length w5.heap.size w5 rfl (by omega) HRD.out
            have hks : kSz (krOut tx ty) = objSz (krOut tx ty).length := by simp [kSz, HKN.out]
            rw [HKN.out, hks] at hsz
            have HSZ3 := Lib.hid hsz
            have c1x : w5.cell? ⟨w1.heap.size, 1, none⟩ = some (.int .i64 (sz : Int)) := (HB5.out.cell (p := ⟨w1.heap.size, 1, none⟩) hgg).trans (BX.out.cell 1)
            have HB6 := Lib.hid (HBW.out.trans ((Below.refl _ _).drew.trans (HB5.out.mono (by show _ ≤ W0.heap.size; omega))))
            obtain ⟨m, hm2⟩ : ∃ m, (krOut tx ty).length = m := ⟨_, rfl⟩
            rw [hm2] at HMQ HSZ3 hmx ⊢
            have hob : objSz m ≤ 10 := by unfold objSz; omega
            obtain ⟨z, hz3⟩ : ∃ z, objSz m = z := ⟨_, rfl⟩
            rw [hz3] at HSZ3 HMQ hob
            have HKR : Hid (krErr tx ty = if typOk tx ty = true then 0 else 50) := Lib.hid rfl
            obtain ⟨r, hr⟩ : ∃ r, krErr tx ty = r := ⟨_, rfl⟩
            obtain ⟨ok, hok⟩ : ∃ ok, typOk tx ty = ok := ⟨_, rfl⟩
            rw [hr] at HKR HK ⊢
            rw [hok] at HKR HMQ HK
            clear hr hok hsz hks hm2 hz3 m0 m1 m2 h0 h1 b3
            cases ok
            · obtain rfl : r = 50 := HKR.out
              have HY := Lib.hid (HI.out.trans (HNO.out (by rw [HMQ.out, Bool.false_and])))
              go_wp2_with fail
              refine HSZ3.out.mono ?_
              rintro e w6 ⟨rfl, rfl⟩
              go_wp2_with fail
              go_ret
              exact ⟨by rw [HY.out]; rfl, HB6.out⟩
            · obtain rfl : r = 0 := HKR.out
              rw [Bool.true_and] at HMQ
              by_cases hzz : sz = z
              · have ez : ((sz : Int) != (z : Int)) = false := by rw [bne_eq_false_iff_eq]; omega
                have ezn : (sz != z) = false := by rw [bne_eq_false_iff_eq]; exact hzz
                have hmq : mdOk ws i = true := by rw [HMQ.out, beq_iff_eq]; omega
                have HY := Lib.hid (HI.out.trans (HST.out hmq))
                obtain ⟨s2, -, s10⟩ := HS2.out hmq
                rw [HSZ.out] at HY s2 s10
                have hwr : IntKind.i64.wrap ((i : Int) + (sz : Int)) = (i : Int) + (sz : Int) := IntWalk.i64_in _ (by omega)
                clear hzz hmq
                go_wp2_with fail
                refine HSZ3.out.mono ?_
                rintro e w6 ⟨rfl, rfl⟩
                go_wp2_with fail
                go_roundw
                case rel => exact ⟨i + sz, by omega, by omega, by rw [Int.natCast_add], HY.out, HB6.out⟩
                case measure => simp [intOf]; omega
              · have ez : ((sz : Int) != (z : Int)) = true := by rw [bne_iff_ne]; omega
                have ezn : (sz != z) = true := by rw [bne_iff_ne]; exact hzz
                have HY := Lib.hid (HI.out.trans (HNO.out (by rw [HMQ.out, beq_eq_false_iff_ne]; omega)))
                clear hzz
                go_wp2_with fail
                refine HSZ3.out.mono ?_
                rintro e w6 ⟨rfl, rfl⟩
                go_wp2_with fail
                go_ret
                exact ⟨by rw [HY.out]; rfl, HB6.out⟩
          · rw [Bool.not_true, Bool.false_and] at HMQ
            have HY := Lib.hid (HI.out.trans (HNO.out HMQ.out))
            clear HMQ HNO HST
            go_wp2_with fail
            refine (HSP.out _).mono ?_
            rintro e w1 ⟨rfl, hB1⟩
            have hb1 := hB.trans (hB1.mono hz)
            go_wp2_with fail
            go_ret
            exact ⟨by rw [HY.out]; rfl, hb1.alloc hb1.size _⟩
        · have ek : (xk != 1) = true := by rw [bne_iff_ne]; exact hk1
          have ek2 : (xk == 1) = false := by rw [beq_eq_false_iff_ne]; exact hk1
          rw [ek2, Bool.false_and] at HMQ
          have HY := Lib.hid (HI.out.trans (HNO.out HMQ.out))
          clear HMQ HNO HST hk1
          go_wp2_with fail
          refine (HSP.out _).mono ?_
          rintro e w1 ⟨rfl, hB1⟩
          have hb1 := hB.trans (hB1.mono hz)
          go_wp2_with fail
          go_ret
          exact ⟨by rw [HY.out]; rfl, hb1.alloc hb1.size _⟩
    · have HE := Lib.hid (HI.out.trans (mvd_end (ws := ws) (i := i) (t := t) (by omega)))
      have hdl : decide ((i : Int) < (t : Int)) = false := by rw [decide_eq_false_iff_not]; omega
      have hdln : decide (i < t) = false := by rw [decide_eq_false_iff_not]; exact hlt
      have HEQ : Hid (((i : Int) == (t : Int)) = (i == t)) := Lib.hid (by rw [Bool.eq_iff_iff, beq_iff_eq, beq_iff_eq]; omega)
      clear hlt
      go_wp2_with fail
      go_ret
      exact ⟨by rw [HE.out, ← HEQ.out]; rfl, hB⟩
end Go.Proofs.Ytpifagclhhaniaa
