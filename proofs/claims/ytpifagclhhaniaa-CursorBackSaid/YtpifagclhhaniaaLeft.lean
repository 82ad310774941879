/- How many objects are left: what the program returns. -/
import Derived.Test.YtpifagclhhaniaaCk
namespace Go.Proofs.Ytpifagclhhaniaa
open Go.RowKit

theorem lfN_no {ws : List Nat} (h : ckErr ws ≠ 0) : lfN ws = 0 := by simp [lfN, h]
theorem lfN_few {ws : List Nat} (h : wd ws 16 < 3) : lfN ws = 0 := by
  simp [lfN, h]
theorem lfN_all {ws : List Nat} (h : ckErr ws = 0) (h2 : ¬ wd ws 16 < 3) : lfN ws = (mkdL (frOut ws (lfFrom ws))).length := by
  unfold lfN
  rw [if_pos h, if_neg h2]
theorem ck_ln {ws : List Nat} (h : ckErr ws = 0) : lnErr ws = 0 := by
  unfold ckErr at h
  split at h
  · assumption
  · exact h
theorem mkdL_count {l : List Bk} {k : Nat} (hk : k < l.length) : (mkdL (l.take (k + 1))).length = (mkdL (l.take k)).length + (if l[k].mark = true then 1 else 0) := by
  rw [mkdL_snoc hk, List.length_append]
  split <;> rfl

set_option maxRecDepth 100000 in
set_option maxHeartbeats 4000000 in
theorem cLeft_c (A : Option Addr) (ws : List Nat) (c n : Nat) (w : World) (hn : ws.length = n) (hm : n ≤ 9223372036854775807) (hc : n ≤ c) (hr : RdW w w.heap.size A ws) (ho : ∀ x ∈ ws, x < 18446744073709551616) :
    Calls Try.prog 30 #[.slice A n c] w fun e w' => e = .returned (.tuple #[.int .i64 (lfN ws : Nat), .int .i64 (ckErr ws)]) ∧ Below w.heap.size w w' := by
  subst hn
  have HC := Lib.hid (cCheck_c A ws c ws.length w rfl hm hc hr ho)
  have HR := Lib.hid hr
  have HO := Lib.hid ho
  clear hr ho
  by_cases h0 : ckErr ws = 0
  · obtain ⟨h1, -⟩ := lnErr_zero (ck_ln h0)
    obtain ⟨hs, h3, h4⟩ := prErr_zero h1
    obtain ⟨⟨l0, l1, l2⟩, -⟩ := (lineW_iff ws).1 h3
    have hbd := fr_bd ws hs
    have hlv : lnV ws = phV (wd ws 16) (wd ws 17) (wd ws 18) := by simp [lnV, ck_ln h0]
    have HN1 := Lib.hid (fun h => lfN_few (ws := ws) h)
    have HN2 := Lib.hid (fun h => lfN_all h0 h)
    have HFR := Lib.hid (fun W (h : RdW W W.heap.size A ws) => from_c A ws c ws.length (lfFrom ws) W rfl hm h HO.out)
    unfold FrRes at HFR
    have hlen := frOut_len ws (lfFrom ws)
    have HFD : Hid (lfFrom ws = if (wd ws 17 : Int) < 128 then 128 else (wd ws 17 : Int)) := Lib.hid rfl
    have HRU : Hid (∀ w1 : World, Below w.heap.size w w1 → RdW (w1.alloc (.cells #[.int .i64 (wd ws 16 : Int), .int .i64 (wd ws 17 : Int), .int .i64 (wd ws 18 : Int)] 61)) (w1.alloc (.cells #[.int .i64 (wd ws 16 : Int), .int .i64 (wd ws 17 : Int), .int .i64 (wd ws 18 : Int)] 61)).heap.size A ws) := Lib.hid fun w1 h2 => ((HR.out.up h2 h2.size).alloc (Nat.le_refl _) _).more (by simp)
    rw [h0, hlv] at HC
    rw [h0]
    unfold phV at HC
    have hlen2 : ws.length ≤ 2048 := hbd.2.1
    clear h0 h1 hs h3 h4 hlv hbd
    obtain ⟨x, hx⟩ : ∃ x, wd ws 16 = x := ⟨_, rfl⟩
    obtain ⟨y, hy⟩ : ∃ y, wd ws 17 = y := ⟨_, rfl⟩
    obtain ⟨z, hz⟩ : ∃ z, wd ws 18 = z := ⟨_, rfl⟩
    obtain ⟨g, hg⟩ : ∃ g, lfFrom ws = g := ⟨_, rfl⟩
    obtain ⟨l, hl⟩ : ∃ l, frOut ws g = l := ⟨_, rfl⟩
    obtain ⟨r, hr⟩ : ∃ r, frErr ws g = r := ⟨_, rfl⟩
    obtain ⟨N, hN⟩ : ∃ N, lfN ws = N := ⟨_, rfl⟩
    rw [hg, hl, hr] at HFR
    rw [hN] at HN1 HN2 ⊢
    rw [hg, hl] at HN2
    rw [hg, hl] at hlen
    rw [hg, hy] at HFD
    rw [hx, hy, hz] at HC HRU
    rw [hx] at HN1 HN2
    rw [hy] at l1
    clear hx hy hz hg hl hr hN l0 l2
    by_cases x3 : x < 3
    · have hd : decide ((x : Int) < 3) = true := by rw [decide_eq_true_iff]; omega
      have hdn : decide (x < 3) = true := by rw [decide_eq_true_iff]; exact x3
      have HV := Lib.hid (HN1.out x3)
      clear HN1 HN2 x3 HFD
      go_enter Try.func30, Try.ntmps30
      go_wp2_with fail
      refine HC.out.mono ?_
      rintro e w1 ⟨rfl, hB1⟩
      go_wp2_with fail
      go_ret2
      exact ⟨by rw [HV.out]; rfl, hB1.alloc hB1.size _⟩
    · have hd : decide ((x : Int) < 3) = false := by rw [decide_eq_false_iff_not]; omega
      have hdn : decide (x < 3) = false := by rw [decide_eq_false_iff_not]; exact x3
      have HV := Lib.hid (HN2.out x3)
      clear HN1 HN2 x3
      go_enter Try.func30, Try.ntmps30
      go_wp2_with fail
      refine HC.out.mono ?_
      rintro e w1 ⟨rfl, hB1⟩
      have HRW := Lib.hid (HRU.out _ hB1)
      have HB1 := Lib.hid hB1
      clear hB1
      go_wp2_with fail
      all_goals
        have HF2 : Hid (∀ q, g = q → ∀ W : World, RdW W W.heap.size A ws → Calls Try.prog 29 #[.slice A ws.length c, .int .i64 q] W fun e w' => (∃ A c, e = Ending.returned (.tuple #[.slice A l.length c, .int .i64 r]) ∧ RdB w' w'.heap.size A l ∧ l.length ≤ c) ∧ Below W.heap.size W w') := Lib.hid (fun q hq => by rw [← hq]; exact HFR.out)
        refine (HF2.out _ (by rw [HFD.out]; first | rw [if_pos (by assumption)] | rw [if_neg (by omega)]) _ HRW.out).mono ?_
        rintro e w2 ⟨⟨A1, c1, rfl, hrd, -⟩, hB2⟩
        rw [World.size_alloc] at hB2
        have HB2 := Lib.hid (HB1.out.trans ((below_call hB2).mono HB1.out.size))
        have HRD := Lib.hid hrd
        have hw2 := HB2.out.size
        clear hrd hB2 HF2
        go_wp2_with fail
        go_loopw [8, 32] (fun m i wr => ∃ k : Nat, k ≤ l.length ∧ i = .int .i64 k ∧ m = .int .i64 ((mkdL (l.take k)).length : Nat) ∧ Below w2.heap.size w2 wr) (fun _ i _ => l.length - (intOf i).toNat)
        case atStart => exact ⟨0, Nat.zero_le _, rfl, rfl, Below.refl _ _⟩
        case round =>
          obtain ⟨k, hk, rfl, rfl, hB⟩ := hrel
          have hz := hB.size
          by_cases hlt : k < l.length
          · obtain ⟨b, off, rfl, hbw, q0, q1, q2, q3, q4, q5⟩ := RdB.at_ (HRD.out.below hB) hlt
            have HSN := Lib.hid (mkdL_count hlt)
            have hml := mkdL_len (l.take k)
            rw [List.length_take] at hml
            obtain ⟨m, hm2⟩ : ∃ m, (mkdL (l.take k)).length = m := ⟨_, rfl⟩
            rw [hm2] at HSN hml ⊢
            obtain ⟨x', hx⟩ : ∃ x, l[k] = x := ⟨_, rfl⟩
            rw [hx] at q0 q1 q2 q3 q4 q5 HSN
            obtain ⟨xa, xs, xk, xt, xm, xn⟩ := x'
            dsimp only at q0 q1 q2 q3 q4 q5 HSN
            have hlm : (k : Int) < (l.length : Int) := by omega
            have hmk : (m : Int) ≤ 4611686018427387904 := by omega
            clear hx hm2
            cases xm
            · have HS2 := Lib.hid (HSN.out.trans (Nat.add_zero m))
              clear HSN
              go_wp2_with fail
              go_roundw
              case rel => exact ⟨k + 1, by omega, by go_num, by rw [HS2.out], hB.alloc hz _⟩
              case measure => simp [intOf]; omega
            · have HS2 := Lib.hid (show (mkdL (l.take (k + 1))).length = m + 1 from HSN.out)
              clear HSN
              go_wp2_with fail
              go_roundw
              case rel => exact ⟨k + 1, by omega, by go_num, by rw [HS2.out]; go_num, hB.alloc hz _⟩
              case measure => simp [intOf]; omega
          · rw [List.take_of_length_le (by omega)]
            rw [← HV.out]
            go_wp2_with fail
            go_ret2
            exact ⟨rfl, HB2.out.trans (hB.mono hw2)⟩
  · have HV := Lib.hid (lfN_no h0)
    have hv : ∃ x y z : Nat, lnV ws = phV x y z := by
      unfold lnV
      split
      · exact ⟨_, _, _, rfl⟩
      · exact ⟨0, 0, 0, rfl⟩
    obtain ⟨x, y, z, hv⟩ := hv
    rw [hv] at HC
    unfold phV at HC
    obtain ⟨r, hr2⟩ : ∃ r, ckErr ws = r := ⟨_, rfl⟩
    rw [hr2] at HC h0 ⊢
    have hrn : (r != 0) = true := by rw [bne_iff_ne]; exact h0
    clear hr2 hv h0
    go_enter Try.func30, Try.ntmps30
    go_wp2_with fail
    refine HC.out.mono ?_
    rintro e w1 ⟨rfl, hB1⟩
    go_wp2_with fail
    go_ret2
    exact ⟨by rw [HV.out]; rfl, hB1.alloc hB1.size _⟩
end Go.Proofs.Ytpifagclhhaniaa
