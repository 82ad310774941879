/- The blocks of a right heap that the program reads: they lie in memory that the call made. -/
import Derived.Test.YtpifagclhhaniaaKHeap
namespace Go.Proofs.Ytpifagclhhaniaa
open Go.RowKit

def FrResF (H : Nat) (ws : List Nat) (a : Int) (e : Ending) (w' : World) : Prop := ∃ A c, e = .returned (.tuple #[.slice A (frOut ws a).length c, .int .i64 (frErr ws a)]) ∧ w'.ownsRow H 47 6 (.slice A (frOut ws a).length c) (frOut ws a).length ((frOut ws a).flatMap Bk.cells)
theorem frResF_no {H : Nat} {ws : List Nat} {a r : Int} {w' : World} (hr : frErr ws a = r) (h0 : r ≠ 0) : FrResF H ws a (.returned (.tuple #[.slice none 0 0, .int .i64 r])) w' := by
  subst hr
  have : frOut ws a = [] := by simp [frOut, h0]
  exact ⟨none, 0, by rw [this]; rfl, by rw [this]; exact World.ownsRow_nil _ _ _ _⟩
theorem frResF_own {H : Nat} {ws : List Nat} {a : Int} {v : Value} {w' : World} {l : List Bk} (h0 : frErr ws a = 0) (hl : frOut ws a = l) (h : w'.ownsRow H 47 6 v l.length (l.flatMap Bk.cells)) : FrResF H ws a (.returned (.tuple #[v, .int .i64 0])) w' := by
  obtain ⟨A, c, rfl⟩ := own_slice h
  exact ⟨A, c, by rw [hl, h0], by rw [hl]; exact h⟩
def MhResF (H : Nat) (ws : List Nat) (e : Ending) (w' : World) : Prop := ∃ A c, e = .returned (.tuple #[.slice A (hpOut ws).length c, .int .i64 (hpErr ws)]) ∧ w'.ownsRow H 47 6 (.slice A (hpOut ws).length c) (hpOut ws).length ((hpOut ws).flatMap Bk.cells)
theorem mhResF_no {H : Nat} {ws : List Nat} {r : Int} {w' : World} (hr : hpErr ws = r) (h0 : r ≠ 0) : MhResF H ws (.returned (.tuple #[.slice none 0 0, .int .i64 r])) w' := by
  subst hr
  have : hpOut ws = [] := by simp [hpOut, h0]
  exact ⟨none, 0, by rw [this]; rfl, by rw [this]; exact World.ownsRow_nil _ _ _ _⟩

set_option maxRecDepth 100000 in
set_option maxHeartbeats 1600000 in
theorem fromF_c (A : Option Addr) (ws : List Nat) (c n : Nat) (a : Int) (w : World) (hn : ws.length = n) (hm : n ≤ 9223372036854775807) (hr : RdW w w.heap.size A ws) (ho : ∀ x ∈ ws, x < 18446744073709551616) :
    Calls Try.prog 29 #[.slice A n c, .int .i64 a] w fun e w' => FrResF w.heap.size ws a e w' ∧ Below w.heap.size w w' := by
  subst hn
  have HR := Lib.hid hr
  have HO := Lib.hid ho
  clear hr ho
  cases hs : sizeOk (ws.length : Int)
  · have HI := Lib.hid (imgErr_no hs)
    have HE := Lib.hid (frErr_img (a := a) hs)
    clear hs
    go_enter Try.func29, Try.ntmps29
    go_wp2_with fail
    refine (imCheck_c A ws.length c w hm).mono ?_
    rintro e w1 ⟨rfl, rfl⟩
    rw [HI.out]
    go_wp2_with fail
    go_ret2
    exact ⟨frResF_no HE.out (by omega), Below.refl _ _⟩
  · have HI := Lib.hid (imgErr_ok hs)
    have HS := Lib.hid hs
    have hb := imgErr_zero (imgErr_ok hs)
    obtain ⟨hb1, hb2, hb3⟩ := hb
    have HB3 := Lib.hid hb3
    clear hs hm hb3
    by_cases hbad : 128 ≤ a ∧ a ≤ (ws.length : Int) ∧ a % 2 = 0
    · obtain ⟨a1, a2, a3⟩ := hbad
      have HAR : Hid (frArg ws.length a = false) := Lib.hid (by
        simp only [frArg, Bool.or_eq_false_iff, decide_eq_false_iff_not, bne_eq_false_iff_eq]; omega)
      have hev : (a % 2 != 0) = false := by rw [bne_eq_false_iff_eq]; exact a3
      have d1 : decide (a < 128) = false := by rw [decide_eq_false_iff_not]; omega
      have d2 : decide ((ws.length : Int) < a) = false := by rw [decide_eq_false_iff_not]; omega
      have HA3 := Lib.hid a3
      obtain ⟨i0, rfl⟩ := Int.eq_ofNat_of_zero_le (show 0 ≤ a by omega)
      have d2n : decide (ws.length < i0) = false := by rw [decide_eq_false_iff_not]; omega
      clear a3
      obtain ⟨i2, hi, hz0, hz1, hz2⟩ := info_parts infoBlkW
      have HJ := Lib.hid hi
      have HJ0 := Lib.hid hz0
      have HJ1 := Lib.hid hz1
      have HJ2 := Lib.hid hz2
      clear hi hz0 hz1 hz2
      go_enter Try.func29, Try.ntmps29
      go_wp2_with fail
      refine (imCheck_c A ws.length c w (by omega)).mono ?_
      rintro e w1 ⟨rfl, rfl⟩
      rw [HI.out]
      go_wp2_with fail
      go_loopw [1, 7] (fun p v wr => ∃ (i : Nat) (acc : List Bk), p = .int .i64 i ∧ i0 ≤ i ∧ i ≤ ws.length ∧ i % 2 = 0 ∧ blocks ws i0 = (blocks ws i).map (acc ++ ·) ∧ acc.length ≤ i ∧ wr.ownsRow w.heap.size 47 6 v acc.length (acc.flatMap Bk.cells) ∧ Below w.heap.size w wr) (fun p _ _ => ws.length - (intOf p).toNat)
      case atStart => exact ⟨i0, [], rfl, Nat.le_refl _, by omega, by have := HA3.out; omega, by simp, by simp, World.ownsRow_nil _ _ _ _, Below.refl _ _⟩
      case round =>
        obtain ⟨i, acc, rfl, q1, q2, q3, q4, q5, hown, hB⟩ := hrel
        have hz := hB.size
        have HQ3 := Lib.hid q3
        have HQ4 := Lib.hid q4
        clear q4
        by_cases hlt : i < ws.length
        · have hlt1 : i + 1 < ws.length := by have := HB3.out; omega
          clear q3
          have ik1 : (i : Int) < (ws.length : Int) := by omega
          cases hst : stands ws i
          · have HN := Lib.hid (frErr_none HS.out HAR.out (by rw [Int.toNat_natCast, HQ4.out, blocks_bad hlt hst]; rfl))
            obtain ⟨g1, g2⟩ := st_no hst
            have HC := Lib.hid (stands_c A ws c ws.length i wr rfl (by omega) hlt1 (HR.out.up hB hz) HO.out)
            rw [g1, g2] at HC
            unfold noBk Bk.val at HC
            dsimp only at HC
            clear hst g1 g2 hown
            go_wp2_with fail
            refine HC.out.mono ?_
            rintro e w1 ⟨rfl, hB1⟩
            have hb1 := hB.trans (hB1.mono hz)
            go_wp2_with fail
            go_ret2
            exact ⟨frResF_no HN.out (by omega), hb1.alloc hb1.size _⟩
          · have hsz := stands_sz hst
            obtain ⟨g1, g2⟩ := st_ok hst
            have HC := Lib.hid (stands_c A ws c ws.length i wr rfl (by omega) hlt1 (HR.out.up hB hz) HO.out)
            rw [g1, g2] at HC
            have HNX := Lib.hid (show blocks ws i0 = (blocks ws (i + szAt ws i)).map ((acc ++ [bkAt ws i]) ++ ·) by
              rw [HQ4.out, blocks_step hlt hst]
              cases blocks ws (i + szAt ws i) <;> simp)
            have HFL := Lib.hid (flat_snoc Bk.cells acc (bkAt ws i))
            have hss := bkAt_size ws i
            obtain ⟨x, hx⟩ : ∃ x, bkAt ws i = x := ⟨_, rfl⟩
            obtain ⟨z, hzz⟩ : ∃ z, szAt ws i = z := ⟨_, rfl⟩
            rw [hx] at HC HNX HFL hss
            rw [hzz] at HNX hsz hss
            have HX := Lib.hid hx
            obtain ⟨xa, xs, xk, xt, xm, xn⟩ := x
            dsimp only at hss
            subst hss
            unfold Bk.val at HC
            dsimp only at HC
            obtain ⟨z1, z2, z3⟩ := hsz
            have HZ2 := Lib.hid z2
            clear hst g1 g2 hx hzz z2
            go_wp2_with fail
            refine HC.out.mono ?_
            rintro e w1 ⟨rfl, hB1⟩
            have hb1 := hB.trans (hB1.mono hz)
            have hownw := own_below hown hB1 (Nat.le_refl _)
            have hz1 := hb1.size
            go_wp2_with (at_builtin; refine wpList_append_own _ rfl _ _ 54 rfl w.heap.size 47 i2 _ 6 48 Try.underlying54 HJ.out HJ0.out HJ1.out HJ2.out rfl (by decide) _ _ _ rfl ((hownw.alloc _).alloc _) ⟨_, 0, none⟩ 1 1 [.int .i64 xa, .int .i64 (z : Int), .int .i64 xk, .int .i64 xt, .bool xm, .int .u64 (xn : Int)] rfl rfl (news_at _ _ _ (World.size_alloc _ _)) (by simp [Value.oneCell']) (by unfold maxLen; omega) (by omega) (by simp; omega) ?_; intro v1 w2 hown1 hg1 _; have hbx : Bx w2 w1.heap.size 47 #[.int .i64 xa, .int .i64 (z : Int), .int .i64 xk, .int .i64 xt, .bool xm, .int .u64 (xn : Int)] := ((Bx.new w1 47 _).alloc _).grown hg1 (own_new hownw); have hB2 := below_append (hb1.alloc hz1 (.cells #[.int .i64 xa, .int .i64 (z : Int), .int .i64 xk, .int .i64 xt, .bool xm, .int .u64 (xn : Int)] 47)) (by simp; omega) (hownw.alloc _) hg1; have hc1 : w2.cell? ⟨w1.heap.size, 1, none⟩ = some (.int .i64 (z : Int)) := hbx.cell 1; have hf1 := hbx.frozen 1; have hl1 := hbx.lt; clear hg1 hbx)
            go_roundw
            case rel => exact ⟨i + z, acc ++ [⟨xa, (z : Int), xk, xt, xm, xn⟩], by rw [Int.natCast_add], by omega, by omega, by have := HQ3.out; have := HZ2.out; omega, HNX.out, by simp; omega, by rw [HFL.out, List.length_append]; exact hown1, hB2⟩
            case measure => simp [intOf]; omega
        · have hi : i = ws.length := by omega
          have HD := Lib.hid (frErr_some HS.out HAR.out (l := acc) (by rw [Int.toNat_natCast, HQ4.out, blocks_end (by omega)]; simp))
          clear hi q3
          go_wp2_with fail
          go_ret2
          exact ⟨frResF_own HD.out.1 HD.out.2 hown, hB⟩
    · have HE := Lib.hid (frErr_arg HS.out (frArg_yes hbad))
      go_enter Try.func29, Try.ntmps29
      go_wp2_with fail
      refine (imCheck_c A ws.length c w (by omega)).mono ?_
      rintro e w1 ⟨rfl, rfl⟩
      rw [HI.out]
      by_cases h1 : a < 128
      · clear hbad
        go_wp2_with fail
        go_ret2
        exact ⟨frResF_no HE.out (by omega), Below.refl _ _⟩
      · by_cases h2 : (ws.length : Int) < a
        · clear hbad
          go_wp2_with fail
          go_ret2
          exact ⟨frResF_no HE.out (by omega), Below.refl _ _⟩
        · have hev : (a % 2 != 0) = true := by rw [bne_iff_ne]; omega
          have d1 : decide (a < 128) = false := by rw [decide_eq_false_iff_not]; omega
          have d2 : decide ((ws.length : Int) < a) = false := by rw [decide_eq_false_iff_not]; omega
          have a0 : 0 ≤ a := by omega
          clear hbad
          go_wp2_with fail
          go_ret2
          exact ⟨frResF_no HE.out (by omega), Below.refl _ _⟩

set_option maxRecDepth 100000 in
set_option maxHeartbeats 4000000 in
theorem mHeapF_c (A : Option Addr) (ws : List Nat) (c n : Nat) (w : World) (hn : ws.length = n) (hm : n ≤ 9223372036854775807) (hr : RdW w w.heap.size A ws) (ho : ∀ x ∈ ws, x < 18446744073709551616) :
    Calls Try.prog 54 #[.slice A n c] w fun e w' => MhResF w.heap.size ws e w' ∧ Below w.heap.size w w' := by
  subst hn
  have HR := Lib.hid hr
  have HO := Lib.hid ho
  have HFR := Lib.hid (fromF_c A ws c ws.length 128 w rfl hm hr ho)
  clear hr ho
  cases hs : sizeOk (ws.length : Int)
  · have HI := Lib.hid (imgErr_no hs)
    have HE := Lib.hid (hpErr_img hs)
    clear hs
    go_enter Try.func54, Try.ntmps54
    go_wp2_with fail
    refine (imCheck_c A ws.length c w hm).mono ?_
    rintro e w1 ⟨rfl, rfl⟩
    rw [HI.out]
    go_wp2_with fail
    go_ret2
    exact ⟨mhResF_no HE.out (by omega), Below.refl _ _⟩
  · have HI := Lib.hid (imgErr_ok hs)
    obtain ⟨hb1, hb2, hb3⟩ := fr_bd ws hs
    have HS := Lib.hid hs
    clear hs hb3
    go_enter Try.func54, Try.ntmps54
    go_wp2_with fail
    refine (imCheck_c A ws.length c w hm).mono ?_
    rintro e w1 ⟨rfl, rfl⟩
    rw [HI.out]
    go_wp2_with fail
    refine HFR.out.mono ?_
    rintro e w1 ⟨⟨A1, c1, rfl, hcl⟩, hB1⟩
    have hrd : RdB w1 w1.heap.size A1 (frOut ws 128) := Rd.of_own hcl
    have hz1 := hB1.size
    have hlen := frOut_len ws 128
    have H128 : Hid (frErr ws 128 = 0 → sizeOk (ws.length : Int) = true ∧ blocks ws 128 = some (frOut ws 128)) := Lib.hid fr_128
    have HNO : Hid (∀ r, frErr ws 128 = r → r ≠ 0 → hpErr ws = r) := Lib.hid (fun _ h h0 => hp_of_fr h h0)
    obtain ⟨l, hl⟩ : ∃ l, frOut ws 128 = l := ⟨_, rfl⟩
    rw [hl] at hrd hcl hlen H128 ⊢
    have HRD := Lib.hid hrd
    have HCL := Lib.hid hcl
    obtain ⟨r, hr⟩ : ∃ r, frErr ws 128 = r := ⟨_, rfl⟩
    have HER := Lib.hid hr
    rw [hr] at H128 ⊢
    clear hr hrd hcl hl
    by_cases hr0 : r = 0
    · subst hr0
      have HBL := Lib.hid (H128.out rfl).2
      clear H128 HNO
      go_wp2_with fail
      go_loopw [26] (fun i wr => ∃ k : Nat, k ≤ l.length ∧ i = .int .i64 k ∧ Hid ((l.take k).all (fitB ws) = true) ∧ Below w1.heap.size w1 wr) (fun i _ => l.length - (intOf i).toNat)
      case atStart => exact ⟨0, Nat.zero_le _, rfl, rfl, Below.refl _ _⟩
      case round =>
        obtain ⟨k, hk, rfl, HAL, hB⟩ := hrel
        have hz := hB.size
        by_cases hlt : k < l.length
        · obtain ⟨b, off, rfl, hbw, q0, q1, q2, q3, q4, q5⟩ := RdB.at_ (HRD.out.below hB) hlt
          have HTY := Lib.hid (fun h => blocks_typ HBL.out (by omega) hlt h)
          have HSN := Lib.hid (fun h => all_snoc hlt HAL.out h)
          have HBD := Lib.hid (fun h => hpErr_bad HS.out HBL.out (all_bad hlt h))
          obtain ⟨x, hx⟩ : ∃ x, l[k] = x := ⟨_, rfl⟩
          rw [hx] at q0 q1 q2 q3 q4 q5 HTY HSN HBD
          have HFO := Lib.hid (fun h => fit_obj (ws := ws) (b := x) h)
          have HFN := Lib.hid (fun h => fit_other (ws := ws) (b := x) h)
          have hty : tyA x = 96 + 2 * x.typ.toNat := rfl
          rw [hty] at HFO
          obtain ⟨xa, xs, xk, xt, xm, xn⟩ := x
          dsimp only at q0 q1 q2 q3 q4 q5 HTY HFO
          have hlm : (k : Int) < (l.length : Int) := by omega
          clear hx hty
          have hnew := Bx.new wr 47 #[.int .i64 xa, .int .i64 xs, .int .i64 xk, .int .i64 xt, .bool xm, .int .u64 (xn : Int)]
          by_cases hk1 : xk = 1
          · obtain ⟨t0, t8⟩ := HTY.out hk1
            obtain ⟨t, rfl⟩ := Int.eq_ofNat_of_zero_le t0
            have HF := Lib.hid (HFO.out hk1)
            simp only [Int.toNat_natCast] at HF
            subst hk1
            have HC := Lib.hid (fun W (h : RdW W W.heap.size A ws) => mFields_c A ws c ws.length t W rfl (by omega) hb1 (by omega) h HO.out)
            have hz1w := hz1
            have HRW := Lib.hid ((((HR.out.up hB1 hz1).up hB hz).alloc (Nat.le_refl _) (.cells #[.int .i64 xa, .int .i64 xs, .int .i64 1, .int .i64 (t : Int), .bool xm, .int .u64 (xn : Int)] 47)).more (B' := (wr.alloc (.cells #[.int .i64 xa, .int .i64 xs, .int .i64 1, .int .i64 (t : Int), .bool xm, .int .u64 (xn : Int)] 47)).heap.size) (by simp))
            obtain ⟨fx, hfx⟩ : ∃ fx, wd ws (96 + 2 * t) = fx := ⟨_, rfl⟩
            obtain ⟨fy, hfy⟩ : ∃ fy, wd ws (96 + 2 * t + 1) = fy := ⟨_, rfl⟩
            rw [hfx, hfy] at HC HF
            clear hnew hfx hfy HFO HFN HTY
            go_wp2_with fail
            refine (HC.out _ HRW.out).mono ?_
            rintro e w2 ⟨⟨A2, c2, rfl, hrd2, hcl2⟩, hB2⟩
            rw [World.size_alloc] at hB2
            have bx2 := Bx.of_new hB2
            have hb2 := hB.trans ((below_call hB2).mono hz)
            obtain ⟨c0, c1', c2', c3, c4, c5, cf, cz⟩ := bx2.c6
            have HB2 := Lib.hid hb2
            clear hrd2 hcl2 bx2 hB2 hb2 cf
            obtain ⟨ok, hok⟩ : ∃ ok, typOk fx fy = ok := ⟨_, rfl⟩
            obtain ⟨m, hm2⟩ : ∃ m, (krOut fx fy).length = m := ⟨_, rfl⟩
            have hm8 : m ≤ 255 := by
              rw [← hm2]; unfold krOut; split
              · rw [fldL_len]; have := Nat.mod_lt fx (show 0 < 256 by omega); omega
              · simp
            rw [hok, hm2] at HF ⊢
            clear hok hm2
            cases ok
            · have HB := Lib.hid (HBD.out (by rw [HF.out]; rfl))
              go_wp2_with fail
              go_ret2
              exact ⟨mhResF_no HB.out (by omega), hB1.trans (HB2.out.mono hz1)⟩
            · rw [Bool.true_and] at HF
              have hsz : ((objSz m : Nat) : Int) = ((m : Int) + 3) / 2 * 2 := by unfold objSz; omega
              rw [hsz] at HF
              by_cases hse : xs = ((m : Int) + 3) / 2 * 2
              · have hs1 : (xs != ((m : Int) + 3) / 2 * 2) = false := by rw [bne_eq_false_iff_eq]; exact hse
                have HY := Lib.hid (HSN.out (by rw [HF.out, beq_iff_eq]; exact hse))
                clear hse
                go_wp2_with fail
                go_roundw
                case rel => exact ⟨k + 1, by omega, by go_num, HY.out, HB2.out⟩
                case measure => simp [intOf]; omega
              · have hs1 : (xs != ((m : Int) + 3) / 2 * 2) = true := by rw [bne_iff_ne]; exact hse
                have HB := Lib.hid (HBD.out (by rw [HF.out, beq_eq_false_iff_ne]; exact hse))
                clear hse
                go_wp2_with fail
                go_ret2
                exact ⟨mhResF_no HB.out (by omega), hB1.trans (HB2.out.mono hz1)⟩
          · have hk2 : (xk != 1) = true := by rw [bne_iff_ne]; exact hk1
            have HY := Lib.hid (HSN.out (HFN.out hk1))
            clear hk1 hnew
            go_wp2_with fail
            go_roundw
            case rel => exact ⟨k + 1, by omega, by go_num, HY.out, hB.alloc hz _⟩
            case measure => simp [intOf]; omega
        · have HP := Lib.hid (hpErr_ok HS.out HBL.out (by have := HAL.out; rwa [List.take_of_length_le (by omega)] at this))
          go_wp2_with fail
          go_ret2
          exact ⟨⟨A1, c1, by rw [HP.out.1, HP.out.2]; rfl, by rw [HP.out.2]; exact own_below HCL.out hB (Nat.le_refl _)⟩, hB1.trans (hB.mono hz1)⟩
    · have hn1 : (r != 0) = true := by rw [bne_iff_ne]; exact hr0
      have HN := Lib.hid (HNO.out r HER.out hr0)
      have HR0 := Lib.hid hr0
      clear hr0 H128 HNO
      go_wp2_with fail
      go_ret2
      exact ⟨mhResF_no HN.out HR0.out, hB1⟩
end Go.Proofs.Ytpifagclhhaniaa
