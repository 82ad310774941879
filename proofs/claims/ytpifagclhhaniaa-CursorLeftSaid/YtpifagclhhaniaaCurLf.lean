/- The law CursorLeft. -/
import Derived.Test.YtpifagclhhaniaaAl30
import Derived.Test.YtpifagclhhaniaaCurP
namespace Go.Proofs.Ytpifagclhhaniaa
open Go.RowKit

set_option maxRecDepth 100000 in
set_option maxHeartbeats 2000000 in
theorem next30_c (A : Option Addr) (ws : List Nat) (c n : Nat) (a : Int) (w : World) (hn : ws.length = n) (hm : n ≤ 9223372036854775807) (ha : -9223372036854775808 ≤ a ∧ a ≤ 9223372036854775807) (h1 : nxtErr ws a = 6) (h2 : nxtB ws a = noBk) (hr : RdW w w.heap.size A ws) (ho : ∀ x ∈ ws, x < 18446744073709551616) :
    Calls Try.prog 33 #[.slice A n c, .int .i64 a, .int .i64 6] w fun e w' => e = .returned (.bool true) ∧ Below w.heap.size w w' := by
  have HC := Lib.hid (next_c A ws c n a w hn hm ha hr ho)
  rw [h1, h2] at HC
  unfold noBk Bk.val at HC
  simp only [Int.cast_ofNat_Int] at HC
  clear hr ho hn hm ha h1 h2
  go_enter Try.func33, Try.ntmps33
  go_wp2_with fail
  refine HC.out.mono ?_
  rintro e w1 ⟨rfl, hB1⟩
  go_wp2_with fail
  go_ret
  exact ⟨rfl, hB1.alloc hB1.size _⟩

set_option maxRecDepth 100000 in
set_option maxHeartbeats 4000000 in
theorem cursorLeft_walk (w : World) (A : Option Addr) (ws : List Nat) (c : Nat) (hn : ws.length ≤ maxLen) (_hc : ws.length ≤ c) (hr : RdW w w.heap.size A ws) (ho : ∀ x ∈ ws, x < 18446744073709551616) :
    Calls Try.prog 7 #[.slice A ws.length c] w fun e w' => e = .returned (.bool true) ∧ Below w.heap.size w w' := by
  unfold maxLen at hn
  have HR := Lib.hid hr
  have HO := Lib.hid ho
  clear hr ho
  cases hg : greatW ws.length
  · have HG := Lib.hid hg
    have hgn := greatW_no hg
    have hlen : ws.length ≤ 2060 := by omega
    have HLF := Lib.hid (fun W (h : RdW W W.heap.size A ws) => cLeft_c A ws c ws.length W rfl hn _hc h HO.out)
    have HLN := Lib.hid (fun W (h : RdW W W.heap.size A ws) => line_c A ws c ws.length W rfl hn _hc h HO.out)
    have HCK := Lib.hid (fun W (h : RdW W W.heap.size A ws) => ckCheck_c A ws c ws.length W rfl hn _hc h HO.out)
    by_cases h0 : ckErr ws = 0
    · have hln := ck_ln h0
      have hlv : lnV ws = phV (wd ws 16) (wd ws 17) (wd ws 18) := by simp [lnV, hln]
      obtain ⟨hp1, -⟩ := lnErr_zero hln
      obtain ⟨-, hl3, -⟩ := prErr_zero hp1
      obtain ⟨⟨l0, l1, l2⟩, -⟩ := (lineW_iff ws).1 hl3
      rw [h0] at HLF
      rw [hln, hlv] at HLN
      unfold phV at HLN
      by_cases hp : wd ws 16 < 3
      · rw [lfN_few hp] at HLF
        obtain ⟨x, hx⟩ : ∃ x, wd ws 16 = x := ⟨_, rfl⟩
        rw [hx] at HLN hp
        have e3 : ((x : Int) != 3) = true := by rw [bne_iff_ne]; omega
        have e4 : ((x : Int) != 4) = true := by rw [bne_iff_ne]; omega
        have e3n : (x != 3) = true := by rw [bne_iff_ne]; omega
        have e4n : (x != 4) = true := by rw [bne_iff_ne]; omega
        simp only [Int.cast_ofNat_Int] at HLF
        clear hg hgn h0 hln hlv hp1 hl3 l0 l1 l2 hx hp
        go_enter Try.func7, Try.ntmps7
        go_wp2_with fail
        refine (alive30_c w).mono ?_
        rintro e w1 ⟨rfl, hB1⟩
        have HB1 := Lib.hid hB1
        have HR1 := Lib.hid (HR.out.up hB1 hB1.size)
        clear hB1
        go_wp2_with fail
        refine (great25_c A ws.length c _ hn).mono ?_
        rintro e w1' ⟨rfl, rfl⟩
        rw [HG.out]
        go_wp2_with fail
        refine (HLF.out _ HR1.out).mono ?_
        rintro e w2 ⟨rfl, hB2⟩
        have HB2 := Lib.hid (HB1.out.trans (hB2.mono HB1.out.size))
        have HR2 := Lib.hid (HR1.out.up hB2 hB2.size)
        clear hB2
        go_wp2_with fail
        refine (HLN.out _ HR2.out).mono ?_
        rintro e w3 ⟨rfl, hB3⟩
        have HB3 := Lib.hid (HB2.out.trans (hB3.mono HB2.out.size))
        clear hB3
        go_wp2_with fail
        go_ret
        exact ⟨rfl, HB3.out.alloc HB3.out.size _⟩
      · obtain ⟨hs, hpp, a0, g1, g2, g3, g4, l, g5, g6⟩ := left_start h0 hp
        have HST := Lib.hid (fun a l (h1 : 128 ≤ a) (h2 : a ≤ ws.length) (h3 : a % 2 = 0) (hb : blocks ws a = some l) hm => left_step hs h1 h2 h3 hb hm)
        have HEN := Lib.hid (fun a l (h1 : 128 ≤ a) (h2 : a ≤ ws.length) (h3 : a % 2 = 0) (hb : blocks ws a = some l) hm => left_end hs h1 h2 h3 hb hm)
        have HNX := Lib.hid (fun (a : Nat) (h2 : a ≤ ws.length) W (h : RdW W W.heap.size A ws) => next_c A ws c ws.length (a : Int) W rfl hn (by omega) h HO.out)
        have HNL := Lib.hid (fun (a : Nat) (h2 : a ≤ ws.length) W e1 e2 (h : RdW W W.heap.size A ws) => next30_c A ws c ws.length (a : Int) W rfl hn (by omega) e1 e2 h HO.out)
        have HFD : Hid (lfFrom ws = if (wd ws 17 : Int) < 128 then 128 else (wd ws 17 : Int)) := Lib.hid rfl
        rw [g1] at HFD
        have HBL := Lib.hid g5
        have HML := Lib.hid g6
        have G4 := Lib.hid g4
        have hml := mkdL_len l
        have hll := (blocks_chain (ws := ws) (by have := fr_bd ws hs; omega) a0 l g5 (by omega) (by omega) (by omega)).1
        obtain ⟨x, hx⟩ : ∃ x, wd ws 16 = x := ⟨_, rfl⟩
        obtain ⟨y, hy⟩ : ∃ y, wd ws 17 = y := ⟨_, rfl⟩
        obtain ⟨N, hN⟩ : ∃ N, lfN ws = N := ⟨_, rfl⟩
        rw [hx, hy] at HLN
        rw [hx] at hpp
        rw [hy] at HFD l1
        rw [hN] at HML HLF
        rw [← g6, hN] at hml
        have hN2 : N ≤ 2048 := by omega
        have hN0 : decide ((N : Int) < 0) = false := by rw [decide_eq_false_iff_not]; omega
        have hpw : (x != 3) = false ∧ ((x : Int) != 3) = false ∨ (x != 3) = true ∧ ((x : Int) != 3) = true ∧ (x != 4) = false ∧ ((x : Int) != 4) = false := by
          rcases hpp with h | h
          · left; subst h; exact ⟨rfl, rfl⟩
          · right; subst h; exact ⟨rfl, rfl, rfl, rfl⟩
        clear hg hgn h0 hln hlv hp1 hl3 l0 l2 hx hy hN hp hs hpp g1 g4 g5 g6 hml hll
        rcases hpw with ⟨hx1, hx2⟩ | ⟨hx1, hx2, hx3, hx4⟩
        all_goals
          go_enter Try.func7, Try.ntmps7
          go_wp2_with fail
          refine (alive30_c w).mono ?_
          rintro e w1 ⟨rfl, hB1⟩
          have HB1 := Lib.hid hB1
          have HR1 := Lib.hid (HR.out.up hB1 hB1.size)
          clear hB1
          go_wp2_with fail
          refine (great25_c A ws.length c _ hn).mono ?_
          rintro e w1' ⟨rfl, rfl⟩
          rw [HG.out]
          go_wp2_with fail
          refine (HLF.out _ HR1.out).mono ?_
          rintro e w2 ⟨rfl, hB2⟩
          have HB2 := Lib.hid (HB1.out.trans (hB2.mono HB1.out.size))
          have HR2 := Lib.hid (HR1.out.up hB2 hB2.size)
          clear hB2
          go_wp2_with fail
          refine (HLN.out _ HR2.out).mono ?_
          rintro e w3 ⟨rfl, hB3⟩
          have HB3 := Lib.hid (HB2.out.trans (hB3.mono HB2.out.size))
          clear hB3
          go_wp2_with fail
          all_goals
            go_loopw [8, 9] (fun f i wr => ∃ k a : Nat, ∃ l, k ≤ N ∧ i = .int .i64 k ∧ f = .int .i64 a ∧ 128 ≤ a ∧ a ≤ ws.length ∧ Hid (a % 2 = 0) ∧ Hid (blocks ws a = some l) ∧ Hid ((mkdL l).length + k = N) ∧ Below w.heap.size w wr) (fun _ i _ => N - (intOf i).toNat)
            case atStart => exact ⟨0, a0, l, Nat.zero_le _, rfl, by rw [HFD.out]; first | rw [if_pos (by assumption)] | rw [if_neg (by omega)], g2, g3, G4.out, HBL.out, HML.out.symm, HB3.out.alloc HB3.out.size _⟩
            case round =>
              obtain ⟨k, a, l, hk, rfl, rfl, h1, h2, H3, HBA, HMM, hB⟩ := hrel
              have hz := hB.size
              have HRw := Lib.hid (HR.out.up hB hz)
              by_cases hlt : k < N
              · obtain ⟨m, z', l', f1, f2, f3, f4, f5, f6, f7, f8, f9⟩ := HST.out a l h1 h2 H3.out HBA.out (by have := HMM.out; omega)
                have HC := Lib.hid (fun W (h : RdW W W.heap.size A ws) => HNX.out a h2 W h)
                rw [f1] at HC
                have F7 := Lib.hid f7
                have F8 := Lib.hid f8
                have F9 := Lib.hid (show (mkdL l').length + (k + 1) = N by have := HMM.out; omega)
                obtain ⟨b, hb⟩ : ∃ b, nxtB ws (a : Int) = b := ⟨_, rfl⟩
                rw [hb] at HC f2 f3
                obtain ⟨xa, xs, xk, xt, xm, xn⟩ := b
                dsimp only at f2 f3
                subst f2 f3
                unfold Bk.val at HC
                dsimp only at HC
                have hki : (k : Int) < (N : Int) := by omega
                have d1 : decide ((m : Int) < (a : Int)) = false := by rw [decide_eq_false_iff_not]; omega
                have d1n : decide (m < a) = false := by rw [decide_eq_false_iff_not]; omega
                have d2 : decide ((z' : Int) < 2) = false := by rw [decide_eq_false_iff_not]; omega
                have d2n : decide (z' < 2) = false := by rw [decide_eq_false_iff_not]; omega
                have hwz : IntKind.i64.wrap ((m : Int) + (z' : Int)) = (m : Int) + (z' : Int) := IntWalk.i64_in _ (by omega)
                clear f1 f7 f8 f9 hb
                go_wp2_with fail
                refine (HC.out _ HRw.out).mono ?_
                rintro e w5 ⟨rfl, hB5⟩
                have HB5 := Lib.hid (hB.trans (hB5.mono hz))
                clear hB5
                go_wp2_with fail
                go_roundw
                case rel => exact ⟨k + 1, m + z', l', by omega, by go_num, by rw [Int.natCast_add], by omega, f6, F7.out, F8.out, F9.out, HB5.out.alloc HB5.out.size _⟩
                case measure => simp [intOf]; omega
              · have hkN : k = N := by omega
                obtain ⟨f1, f2⟩ := HEN.out a l h1 h2 H3.out HBA.out (by have := HMM.out; omega)
                have HC := Lib.hid (HNL.out a h2 _ f1 f2 HRw.out)
                subst hkN
                clear f1 f2
                go_wp2_with fail
                refine HC.out.mono ?_
                rintro e w5 ⟨rfl, hB5⟩
                go_wp2_with fail
                go_ret
                exact ⟨rfl, hB.trans (hB5.mono hz)⟩
    · have hlf := lfN_no h0
      obtain ⟨u1, u2, u3, hv⟩ : ∃ x y z : Nat, lnV ws = phV x y z := by
        unfold lnV
        split
        · exact ⟨_, _, _, rfl⟩
        · exact ⟨0, 0, 0, rfl⟩
      rw [hlf] at HLF
      rw [hv] at HLN
      unfold phV at HLN
      simp only [Int.cast_ofNat_Int] at HLF
      obtain ⟨r, hr⟩ : ∃ r, ckErr ws = r := ⟨_, rfl⟩
      obtain ⟨q, hq⟩ : ∃ q, lnErr ws = q := ⟨_, rfl⟩
      rw [hr] at HLF HCK h0
      rw [hq] at HLN
      have hrn : (r != 0) = true := by rw [bne_iff_ne]; exact h0
      clear hg hgn h0 hlf hv hr hq
      go_enter Try.func7, Try.ntmps7
      go_wp2_with fail
      refine (alive30_c w).mono ?_
      rintro e w1 ⟨rfl, hB1⟩
      have HB1 := Lib.hid hB1
      have HR1 := Lib.hid (HR.out.up hB1 hB1.size)
      clear hB1
      go_wp2_with fail
      refine (great25_c A ws.length c _ hn).mono ?_
      rintro e w1' ⟨rfl, rfl⟩
      rw [HG.out]
      go_wp2_with fail
      refine (HLF.out _ HR1.out).mono ?_
      rintro e w2 ⟨rfl, hB2⟩
      have HB2 := Lib.hid (HB1.out.trans (hB2.mono HB1.out.size))
      have HR2 := Lib.hid (HR1.out.up hB2 hB2.size)
      clear hB2
      go_wp2_with fail
      refine (HLN.out _ HR2.out).mono ?_
      rintro e w3 ⟨rfl, hB3⟩
      have HB3 := Lib.hid ((HB2.out.trans (hB3.mono HB2.out.size)).alloc (by have := hB3.size; have := HB2.out.size; omega) (.cells #[.int .i64 (u1 : Int), .int .i64 (u2 : Int), .int .i64 (u3 : Int)] 61))
      have HR3 := Lib.hid (HR.out.up HB3.out HB3.out.size)
      clear hB3
      go_wp2_with fail
      refine (HCK.out _ HR3.out).mono ?_
      rintro e w4 ⟨rfl, hB4⟩
      have HB4 := Lib.hid (HB3.out.trans (hB4.mono HB3.out.size))
      clear hB4
      go_wp2_with fail
      go_ret
      exact ⟨by simp, HB4.out⟩
  · have HG := Lib.hid hg
    clear hg
    go_enter Try.func7, Try.ntmps7
    go_wp2_with fail
    refine (alive30_c w).mono ?_
    rintro e w1 ⟨rfl, hB1⟩
    go_wp2_with fail
    refine (great25_c A ws.length c _ hn).mono ?_
    rintro e w1' ⟨rfl, rfl⟩
    rw [HG.out]
    go_wp2_with fail
    go_ret
    exact ⟨rfl, hB1⟩
end Go.Proofs.Ytpifagclhhaniaa
