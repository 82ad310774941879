/- The law FinishWhen. -/
import Derived.Test.YtpifagclhhaniaaAl32
namespace Go.Proofs.Ytpifagclhhaniaa
open Go.RowKit

set_option maxRecDepth 100000 in
set_option maxHeartbeats 4000000 in
theorem finishWhen_walk (w : World) (A : Option Addr) (ws : List Nat) (c : Nat) (hn : ws.length ≤ maxLen) (_hc : ws.length ≤ c) (hr : RdW w w.heap.size A ws) (ho : ∀ x ∈ ws, x < 18446744073709551616) :
    Calls Try.prog 11 #[.slice A ws.length c] w fun e w' => e = .returned (.bool true) ∧ Below w.heap.size w w' := by
  unfold maxLen at hn
  have HR := Lib.hid hr
  have HO := Lib.hid ho
  clear hr ho
  cases hg : greatW ws.length
  · have HG := Lib.hid hg
    have HCH := Lib.hid (fun W (h : RdW W W.heap.size A ws) => fChange_c A ws c ws.length W rfl hn _hc h HO.out)
    unfold ChRes at HCH
    have HLF := Lib.hid (fun W (h : RdW W W.heap.size A ws) => cLeft_c A ws c ws.length W rfl hn _hc h HO.out)
    have HLN := Lib.hid (fun W (h : RdW W W.heap.size A ws) => line_c A ws c ws.length W rfl hn _hc h HO.out)
    obtain ⟨u1, u2, u3, hv⟩ : ∃ x y z : Nat, lnV ws = phV x y z := by
      unfold lnV
      split
      · exact ⟨_, _, _, rfl⟩
      · exact ⟨0, 0, 0, rfl⟩
    have hways : (∃ r, ckErr ws = r ∧ enErr ws = r ∧ (r != 0) = true ∧ (r == r) = true) ∨ (ckErr ws = 0 ∧ lnErr ws = 0 ∧ enErr ws = 0 ∧ ((u1 : Int) == 4) = true ∧ (u1 == 4) = true ∧ lfN ws = 0) ∨
        (ckErr ws = 0 ∧ lnErr ws = 0 ∧ enErr ws = 6 ∧ (((u1 : Int) == 4) = false ∧ (u1 == 4) = false ∨ ((u1 : Int) == 4) = true ∧ (u1 == 4) = true ∧ (((lfN ws : Nat) : Int) == 0) = false ∧ (lfN ws == 0) = false)) := by
      by_cases h0 : ckErr ws = 0
      · have hln := ck_ln h0
        have hu : u1 = wd ws 16 := by
          simp only [lnV, hln, if_true, phV] at hv
          injection hv with hv
          have := congrArg (fun a : Array Value => a[0]?) hv
          simp only [List.getElem?_toArray, List.getElem?_cons_zero, Option.some.injEq, Value.int.injEq, true_and] at this
          omega
        by_cases hx : wd ws 16 = 4
        · by_cases hN : lfN ws = 0
          · exact .inr (.inl ⟨h0, hln, (enErr_ok h0 hx hN).1, by rw [beq_iff_eq]; omega, by rw [beq_iff_eq]; omega, hN⟩)
          · exact .inr (.inr ⟨h0, hln, enErr_no h0 (fun h => hN h.2), .inr ⟨by rw [beq_iff_eq]; omega, by rw [beq_iff_eq]; omega, by rw [beq_eq_false_iff_ne]; omega, by rw [beq_eq_false_iff_ne]; exact hN⟩⟩)
        · exact .inr (.inr ⟨h0, hln, enErr_no h0 (fun h => hx h.1), .inl ⟨by rw [beq_eq_false_iff_ne]; omega, by rw [beq_eq_false_iff_ne]; omega⟩⟩)
      · exact .inl ⟨_, rfl, enErr_ck rfl h0, by rw [bne_iff_ne]; exact h0, by simp⟩
    rw [hv] at HLN
    unfold phV at HLN
    clear hg hv
    rcases hways with ⟨r, e1, e2, e3, e4⟩ | ⟨e1, e2, e3, e4, e5, e6⟩ | ⟨e1, e2, e3, ⟨e4, e5⟩ | ⟨e4, e5, e6, e7⟩⟩
    · rw [e2] at HCH
      rw [e1] at HLF
      obtain ⟨q, hq⟩ : ∃ q, lnErr ws = q := ⟨_, rfl⟩
      rw [hq] at HLN
      obtain ⟨N, hN⟩ : ∃ N, lfN ws = N := ⟨_, rfl⟩
      rw [hN] at HLF
      obtain ⟨m, hm⟩ : ∃ m, (chOut ws).length = m := ⟨_, rfl⟩
      rw [hm] at HCH
      clear e1 e2 hq hN hm
      go_enter Try.func11, Try.ntmps11
      go_wp2_with fail
      refine (alive32_c w).mono ?_
      rintro e w1 ⟨rfl, hB1⟩
      have HB1 := Lib.hid hB1
      have HR1 := Lib.hid (HR.out.up hB1 hB1.size)
      clear hB1
      go_wp2_with fail
      refine (great25_c A ws.length c _ hn).mono ?_
      rintro e w1' ⟨rfl, rfl⟩
      rw [HG.out]
      go_wp2_with fail
      refine (HCH.out _ HR1.out).mono ?_
      rintro e w2 ⟨⟨A2, c2, rfl, -, -⟩, hB2⟩
      have HB2 := Lib.hid (HB1.out.trans (hB2.mono HB1.out.size))
      have HR2 := Lib.hid (HR.out.up HB2.out HB2.out.size)
      clear hB2
      go_wp2_with fail
      refine (HLF.out _ HR2.out).mono ?_
      rintro e w3 ⟨rfl, hB3⟩
      have HB3 := Lib.hid (HB2.out.trans (hB3.mono HB2.out.size))
      have HR3 := Lib.hid (HR.out.up HB3.out HB3.out.size)
      clear hB3
      go_wp2_with fail
      refine (HLN.out _ HR3.out).mono ?_
      rintro e w4 ⟨rfl, hB4⟩
      have HB4 := Lib.hid (HB3.out.trans (hB4.mono HB3.out.size))
      have HR4 := Lib.hid (HR.out.up HB4.out HB4.out.size)
      clear hB4
      go_wp2_with fail
      go_ret
      exact ⟨rfl, HB4.out.alloc HB4.out.size _⟩
    all_goals
      rw [e3] at HCH
      rw [e1] at HLF
      rw [e2] at HLN
      (try rw [e6] at HLF)
      (try simp only [Int.cast_ofNat_Int] at HLF)
      obtain ⟨m, hm⟩ : ∃ m, (chOut ws).length = m := ⟨_, rfl⟩
      rw [hm] at HCH
      clear e1 e2 e3 hm
      go_enter Try.func11, Try.ntmps11
      go_wp2_with fail
      refine (alive32_c w).mono ?_
      rintro e w1 ⟨rfl, hB1⟩
      have HB1 := Lib.hid hB1
      have HR1 := Lib.hid (HR.out.up hB1 hB1.size)
      clear hB1
      go_wp2_with fail
      refine (great25_c A ws.length c _ hn).mono ?_
      rintro e w1' ⟨rfl, rfl⟩
      rw [HG.out]
      go_wp2_with fail
      refine (HCH.out _ HR1.out).mono ?_
      rintro e w2 ⟨⟨A2, c2, rfl, -, -⟩, hB2⟩
      have HB2 := Lib.hid (HB1.out.trans (hB2.mono HB1.out.size))
      have HR2 := Lib.hid (HR.out.up HB2.out HB2.out.size)
      clear hB2
      go_wp2_with fail
      refine (HLF.out _ HR2.out).mono ?_
      rintro e w3 ⟨rfl, hB3⟩
      have HB3 := Lib.hid (HB2.out.trans (hB3.mono HB2.out.size))
      have HR3 := Lib.hid (HR.out.up HB3.out HB3.out.size)
      clear hB3
      go_wp2_with fail
      refine (HLN.out _ HR3.out).mono ?_
      rintro e w4 ⟨rfl, hB4⟩
      have HB4 := Lib.hid (HB3.out.trans (hB4.mono HB3.out.size))
      have HR4 := Lib.hid (HR.out.up HB4.out HB4.out.size)
      clear hB4
      go_wp2_with fail
      go_ret
      exact ⟨rfl, HB4.out.alloc HB4.out.size _⟩
  · have HG := Lib.hid hg
    clear hg
    go_enter Try.func11, Try.ntmps11
    go_wp2_with fail
    refine (alive32_c w).mono ?_
    rintro e w1 ⟨rfl, hB1⟩
    go_wp2_with fail
    refine (great25_c A ws.length c _ hn).mono ?_
    rintro e w1' ⟨rfl, rfl⟩
    rw [HG.out]
    go_wp2_with fail
    go_ret
    exact ⟨rfl, hB1⟩
end Go.Proofs.Ytpifagclhhaniaa
