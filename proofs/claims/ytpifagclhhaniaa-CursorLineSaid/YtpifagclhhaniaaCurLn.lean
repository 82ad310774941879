/- The law CursorLine. -/
import Derived.Test.YtpifagclhhaniaaAl30
import Derived.Test.YtpifagclhhaniaaPhW
import Derived.Test.YtpifagclhhaniaaSameW
import Derived.Test.YtpifagclhhaniaaKMove
namespace Go.Proofs.Ytpifagclhhaniaa
open Go.RowKit

set_option maxRecDepth 100000 in
set_option maxHeartbeats 4000000 in
theorem cursorLine_walk (w : World) (A : Option Addr) (ws : List Nat) (c : Nat) (hn : ws.length ≤ maxLen) (_hc : ws.length ≤ c) (hr : RdW w w.heap.size A ws) (ho : ∀ x ∈ ws, x < 18446744073709551616) :
    Calls Try.prog 10 #[.slice A ws.length c] w fun e w' => e = .returned (.bool true) ∧ Below w.heap.size w w' := by
  unfold maxLen at hn
  have HR := Lib.hid hr
  have HO := Lib.hid ho
  clear hr ho
  cases hg : greatW ws.length
  · have HG := Lib.hid hg
    have hgn := greatW_no hg
    have hlen : ws.length ≤ 2060 := by omega
    have HLN := Lib.hid (fun W (h : RdW W W.heap.size A ws) => line_c A ws c ws.length W rfl hn _hc h HO.out)
    have HPR := Lib.hid (fun W (h : RdW W W.heap.size A ws) => pRead_c A ws c ws.length W rfl hn _hc h HO.out)
    have HCK := Lib.hid (fun W (h : RdW W W.heap.size A ws) => ckCheck_c A ws c ws.length W rfl hn _hc h HO.out)
    have HCL : Hid (ckErr ws = 0 → lnErr ws = 0) := Lib.hid fun h => ck_ln h
    by_cases h0 : lnErr ws = 0
    · obtain ⟨h1, -⟩ := lnErr_zero h0
      obtain ⟨hs, h3, h4⟩ := prErr_zero h1
      obtain ⟨⟨l0, l1, l2⟩, -⟩ := (lineW_iff ws).1 h3
      have hbd := fr_bd ws hs
      have hlv : lnV ws = phV (wd ws 16) (wd ws 17) (wd ws 18) := by simp [lnV, h0]
      have hpv : prV ws = phV (wd ws 16) (wd ws 17) (wd ws 18) := by simp [prV, h1]
      have HWR := Lib.hid (fun W => pWrite_c (wd ws 16) (wd ws 17) (wd ws 18) W (by omega) (by omega) (by omega) h4)
      have HPT := Lib.hid (fun B d W (h : RdW W W.heap.size A ws) (h2 : RdE W W.heap.size B (phE (wd ws 16) (wd ws 17) (wd ws 18))) => put25_c A B ws (phE (wd ws 16) (wd ws 17) (wd ws 18)) c d ws.length 3 W.heap.size W rfl rfl (by omega) (by omega) (by omega) h h2 (Nat.le_refl _))
      unfold OwnW at HPT
      rw [line_put hbd.1] at HPT
      have HSW := Lib.hid (fun A2 d W (h : RdW W W.heap.size A2 ws) (h2 : RdW W W.heap.size A ws) => sameWords_c A2 A ws ws ws.length ws.length d c W.heap.size W rfl rfl (by omega) h h2 (Nat.le_refl _))
      rw [show decide (ws = ws) = true by simp] at HSW
      rw [h0, hlv] at HLN
      rw [h1, hpv] at HPR
      obtain ⟨E, hE⟩ : ∃ E, phE (wd ws 16) (wd ws 17) (wd ws 18) = E := ⟨_, rfl⟩
      rw [hE] at HWR HPT
      unfold phV at HLN HPR HWR
      obtain ⟨x, hx⟩ : ∃ x, wd ws 16 = x := ⟨_, rfl⟩
      obtain ⟨y, hy⟩ : ∃ y, wd ws 17 = y := ⟨_, rfl⟩
      obtain ⟨z, hz⟩ : ∃ z, wd ws 18 = z := ⟨_, rfl⟩
      rw [hx, hy, hz] at HLN HPR HWR
      obtain ⟨r, hr⟩ : ∃ r, ckErr ws = r := ⟨_, rfl⟩
      rw [hr] at HCK
      have hways : (r == 0) = true ∨ (r == 0) = false := by cases (r == 0) <;> simp
      clear hg hgn h0 h1 hs h3 h4 l0 l1 l2 hbd hlv hpv hE hx hy hz hr HCL
      rcases hways with hr0 | hr0
      all_goals
        go_enter Try.func10, Try.ntmps10
        go_wp2_with fail
        refine (alive30_c w).mono ?_
        rintro e w1 ⟨rfl, hB1⟩
        have HB1 := Lib.hid hB1
        have HR1 := Lib.hid (HR.out.up hB1 hB1.size)
        clear hB1
        go_wp2_with fail
        refine (great25_c A ws.length c _ hn).mono ?_
        rintro e w1' ⟨rfl, rfl⟩
        rw [HG.out]
        go_wp2_with fail
        refine (HLN.out _ HR1.out).mono ?_
        rintro e w2 ⟨rfl, hB2⟩
        have bx2 := Bx.new w2 61 #[.int .i64 (x : Int), .int .i64 (y : Int), .int .i64 (z : Int)]
        have hba2 := (HB1.out.trans (hB2.mono HB1.out.size)).alloc (by have := hB2.size; have := HB1.out.size; omega) (.cells #[.int .i64 (x : Int), .int .i64 (y : Int), .int .i64 (z : Int)] 61)
        have BX2 := Lib.hid bx2
        have HB2 := Lib.hid hba2
        have HR2 := Lib.hid (HR.out.up hba2 hba2.size)
        clear bx2 hba2 hB2
        go_upto_region 5 with (fail)
        obtain ⟨W2, hW2⟩ : ∃ W, w2.alloc (.cells #[.int .i64 (x : Int), .int .i64 (y : Int), .int .i64 (z : Int)] 61) = W := ⟨_, rfl⟩
        rw [hW2] at BX2 HB2 HR2 ⊢
        clear hW2
        go_wp2_with fail
        refine (HPR.out _ HR2.out).mono ?_
        rintro e w3 ⟨rfl, hB3⟩
        have bx3 := Bx.new w3 61 #[.int .i64 (x : Int), .int .i64 (y : Int), .int .i64 (z : Int)]
        have hb3 := HB2.out.trans (hB3.mono HB2.out.size)
        have hba3 := hb3.alloc hb3.size (.cells #[.int .i64 (x : Int), .int .i64 (y : Int), .int .i64 (z : Int)] 61)
        have BX3 := Lib.hid bx3
        have BX2b := Lib.hid ((BX2.out.up hB3 BX2.out.lt).alloc (.cells #[.int .i64 (x : Int), .int .i64 (y : Int), .int .i64 (z : Int)] 61))
        have HB3 := Lib.hid hba3
        have HR3 := Lib.hid (HR.out.up hba3 hba3.size)
        clear bx3 hb3 hba3 hB3
        go_upto_region 6 with (fail)
        obtain ⟨W3, hW3⟩ : ∃ W, w3.alloc (.cells #[.int .i64 (x : Int), .int .i64 (y : Int), .int .i64 (z : Int)] 61) = W := ⟨_, rfl⟩
        rw [hW3] at BX2b BX3 HB3 HR3 ⊢
        clear hW3
        go_wp2_with fail
        refine (HCK.out _ HR3.out).mono ?_
        rintro e w4 ⟨rfl, hB4⟩
        have HB4 := Lib.hid (HB3.out.trans (hB4.mono HB3.out.size))
        have BX4 := Lib.hid (BX2b.out.up hB4 BX2b.out.lt)
        have BY4 := Lib.hid (BX3.out.up hB4 BX3.out.lt)
        have HR4 := Lib.hid (HR.out.up HB4.out HB4.out.size)
        obtain ⟨p0, p1, p2, -⟩ := BX4.out.c3
        clear hB4
        go_wp2_with fail
        refine (HWR.out _).mono ?_
        rintro e w5 ⟨⟨A5, c5, rfl, hre, -⟩, hB5⟩
        have HB5 := Lib.hid (HB4.out.trans (hB5.mono HB4.out.size))
        have HE5 := Lib.hid hre
        obtain ⟨p0, p1, p2, -⟩ := (BX4.out.up hB5 BX4.out.lt).c3
        obtain ⟨s0, s1, s2, -⟩ := (BY4.out.up hB5 BY4.out.lt).c3
        have HR5 := Lib.hid (HR.out.up HB5.out HB5.out.size)
        clear hB5 hre
        go_wp2_with fail
        refine (HPT.out _ _ _ HR5.out HE5.out).mono ?_
        rintro e w6 ⟨g, c6, rfl, hown, hB6⟩
        have HB6 := Lib.hid (HB5.out.trans (hB6.mono HB5.out.size))
        have HR6 := Lib.hid (HR.out.up HB6.out HB6.out.size)
        have HO6 := Lib.hid (Rd.of_own hown)
        clear hown hB6
        go_wp2_with fail
        refine (HSW.out _ _ _ HO6.out HR6.out).mono ?_
        rintro e w7 ⟨rfl, hB7⟩
        go_wp2_with fail
        go_ret
        exact ⟨rfl, HB6.out.trans (hB7.mono HB6.out.size)⟩
    · have hlv := lnV_no h0
      have hpv : ∃ a b d : Nat, prV ws = phV a b d := by
        unfold prV
        split
        · exact ⟨_, _, _, rfl⟩
        · exact ⟨0, 0, 0, rfl⟩
      obtain ⟨a, b, d, hpv⟩ := hpv
      rw [hlv] at HLN
      rw [hpv] at HPR
      unfold phV at HLN HPR
      simp only [Int.cast_ofNat_Int] at HLN
      have hck0 : (ckErr ws == 0) = false := by rw [beq_eq_false_iff_ne]; exact fun h => h0 (HCL.out h)
      obtain ⟨q, hq⟩ : ∃ q, prErr ws = q := ⟨_, rfl⟩
      obtain ⟨f, hf⟩ : ∃ f, lnErr ws = f := ⟨_, rfl⟩
      obtain ⟨r, hr⟩ : ∃ r, ckErr ws = r := ⟨_, rfl⟩
      rw [hr] at HCK hck0
      rw [hq] at HPR
      rw [hf] at HLN h0
      have hfn : (f != 0) = true := by rw [bne_iff_ne]; exact h0
      clear hg hgn h0 hlv hpv hq hf hr HCL
      go_enter Try.func10, Try.ntmps10
      go_wp2_with fail
      refine (alive30_c w).mono ?_
      rintro e w1 ⟨rfl, hB1⟩
      have HB1 := Lib.hid hB1
      have HR1 := Lib.hid (HR.out.up hB1 hB1.size)
      clear hB1
      go_wp2_with fail
      refine (great25_c A ws.length c _ hn).mono ?_
      rintro e w1' ⟨rfl, rfl⟩
      rw [HG.out]
      go_wp2_with fail
      refine (HLN.out _ HR1.out).mono ?_
      rintro e w2 ⟨rfl, hB2⟩
      have bx2 := Bx.new w2 61 #[.int .i64 0, .int .i64 0, .int .i64 0]
      have hba2 := (HB1.out.trans (hB2.mono HB1.out.size)).alloc (by have := hB2.size; have := HB1.out.size; omega) (.cells #[.int .i64 0, .int .i64 0, .int .i64 0] 61)
      have BX2 := Lib.hid bx2
      have HB2 := Lib.hid hba2
      have HR2 := Lib.hid (HR.out.up hba2 hba2.size)
      clear bx2 hba2 hB2
      go_upto_region 5 with (fail)
      obtain ⟨W2, hW2⟩ : ∃ W, w2.alloc (.cells #[.int .i64 0, .int .i64 0, .int .i64 0] 61) = W := ⟨_, rfl⟩
      rw [hW2] at BX2 HB2 HR2 ⊢
      clear hW2
      go_wp2_with fail
      refine (HPR.out _ HR2.out).mono ?_
      rintro e w3 ⟨rfl, hB3⟩
      have hb3 := HB2.out.trans (hB3.mono HB2.out.size)
      have hba3 := hb3.alloc hb3.size (.cells #[.int .i64 (a : Int), .int .i64 (b : Int), .int .i64 (d : Int)] 61)
      have BX2b := Lib.hid ((BX2.out.up hB3 BX2.out.lt).alloc (.cells #[.int .i64 (a : Int), .int .i64 (b : Int), .int .i64 (d : Int)] 61))
      have HB3 := Lib.hid hba3
      have HR3 := Lib.hid (HR.out.up hba3 hba3.size)
      clear hb3 hba3 hB3
      go_upto_region 6 with (fail)
      obtain ⟨W3, hW3⟩ : ∃ W, w3.alloc (.cells #[.int .i64 (a : Int), .int .i64 (b : Int), .int .i64 (d : Int)] 61) = W := ⟨_, rfl⟩
      rw [hW3] at BX2b HB3 HR3 ⊢
      clear hW3
      go_wp2_with fail
      refine (HCK.out _ HR3.out).mono ?_
      rintro e w4 ⟨rfl, hB4⟩
      have HB4 := Lib.hid (HB3.out.trans (hB4.mono HB3.out.size))
      obtain ⟨p0, p1, p2, -⟩ := (BX2b.out.up hB4 BX2b.out.lt).c3
      clear hB4
      go_wp2_with fail
      go_ret
      exact ⟨rfl, HB4.out⟩
  · have HG := Lib.hid hg
    clear hg
    go_enter Try.func10, Try.ntmps10
    go_wp2_with fail
    refine (alive30_c w).mono ?_
    rintro e w1 ⟨rfl, hB1⟩
    go_wp2_with fail
    refine (great25_c A ws.length c _ hn).mono ?_
    rintro e w1' ⟨rfl, rfl⟩
    rw [HG.out]
    go_wp2_with fail
    go_ret
    exact ⟨rfl, hB1⟩
end Go.Proofs.Ytpifagclhhaniaa
