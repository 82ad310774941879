/- The program's Check of rows of blocks. -/
import Derived.Test.YtpifagclhhaniaaBrkP
namespace Go.Proofs.Ytpifagclhhaniaa
open Go.RowKit

set_option maxRecDepth 100000 in
set_option maxHeartbeats 1600000 in
theorem check_c (A : Option Addr) (l : List Bk) (c n : Nat) (w : World) (hn : l.length = n) (hm : n ≤ 9223372036854775807) (hr : RdB w w.heap.size A l) :
    Calls Try.prog 109 #[.slice A n c] w fun e w' => e = .returned (.int .i64 (rowErr l)) ∧ Below w.heap.size w w' := by
  subst hn
  have HR := Lib.hid hr
  clear hr
  by_cases h : 1024 < l.length
  · have HE := Lib.hid (rowErr_many h)
    go_enter Try.func109, Try.ntmps109
    go_wp2_with fail
    go_ret
    exact ⟨by rw [HE.out]; rfl, Below.refl _ _⟩
  · have hle : l.length ≤ 1024 := by omega
    clear h
    have d1 : decide ((1024 : Int) < (l.length : Int)) = false := by rw [decide_eq_false_iff_not]; omega
    go_enter Try.func109, Try.ntmps109
    go_wp2_with fail
    go_loopw [3, 13] (fun nx i wr => ∃ k : Nat, k ≤ l.length ∧ i = .int .i64 k ∧ nx = .int .i64 (rowNext l k) ∧ rowPre l k = true ∧ Below w.heap.size w wr) (fun _ i _ => l.length - (intOf i).toNat)
    case atStart => exact ⟨0, Nat.zero_le _, rfl, rfl, rfl, Below.refl _ _⟩
    case round =>
      obtain ⟨k, hk, rfl, rfl, hok, hB⟩ := hrel
      have HOK := Lib.hid hok
      have hz := hB.size
      obtain ⟨nb1, nb2⟩ := rowNext_bd hok
      clear hok
      by_cases hlt : k < l.length
      · obtain ⟨b, off, rfl, hb, h0, h1, h2, h3, h4, h5⟩ := HR.out.at_ hlt
        replace h0 := (hB.cell (p := ⟨b, off + k * 6, none⟩) hb).trans h0
        replace h1 := (hB.cell (p := ⟨b, off + k * 6 + 1, none⟩) hb).trans h1
        replace h2 := (hB.cell (p := ⟨b, off + k * 6 + 2, none⟩) hb).trans h2
        replace h3 := (hB.cell (p := ⟨b, off + k * 6 + 3, none⟩) hb).trans h3
        replace h4 := (hB.cell (p := ⟨b, off + k * 6 + 4, none⟩) hb).trans h4
        replace h5 := (hB.cell (p := ⟨b, off + k * 6 + 5, none⟩) hb).trans h5
        have E := Lib.hid (gk_get l k hlt)
        have hnx1 : rowNext l (k + 1) = (gk l k).at_ + (gk l k).size := rfl
        rw [E.out] at hnx1
        generalize hx : l[k] = x at *
        have HX := Lib.hid hx
        clear hx
        obtain ⟨xa, xs, xk, xt, xm, xn⟩ := x
        dsimp only at *
        have HNX1 := Lib.hid hnx1
        clear hnx1
        generalize hnx : rowNext l k = nx at *
        have HNX := Lib.hid hnx
        clear hnx
        have HBAD : Hid (∀ w' : World, ¬ ((xk = 1 ∨ xk = 2) ∧ 2 ≤ xs ∧ xs ≤ 2048 ∧ xs % 2 = 0 ∧ 128 ≤ xa ∧ xa % 2 = 0 ∧ xa ≤ 2048 - xs ∧ (k = 0 ∨ xa = nx)) → Below w.heap.size w w' → Ending.returned (.int .i64 8) = .returned (.int .i64 (rowErr l)) ∧ Below w.heap.size w w') :=
          fun _ h1 h2 => ⟨by rw [rowErr_bad (rowPre_of E.out HNX.out h1) hlt], h2⟩
        have HGOOD : Hid (((xk = 1 ∨ xk = 2) ∧ 2 ≤ xs ∧ xs ≤ 2048 ∧ xs % 2 = 0 ∧ 128 ≤ xa ∧ xa % 2 = 0 ∧ xa ≤ 2048 - xs ∧ (k = 0 ∨ xa = nx)) → rowPre l (k + 1) = true) := fun h => rowPre_good E.out HNX.out HOK.out h
        by_cases hk0 : k = 0
        · have hkb : ((k : Int) == 0) = true := by rw [beq_iff_eq]; omega
          have HK0 := Lib.hid hk0
          have HN0 := Lib.hid (show nx = 128 by rw [← HNX.out, hk0]; rfl)
          have hnx0 := HN0.out
          subst hnx0
          clear hk0 nb1 nb2
          by_cases hmx : 128 ≤ xa
          · have hif : (if (128 : Int) < xa then xa else 128) = xa := by split <;> omega
            go_wp2_with fail
            all_goals first
              | (go_ret; exact HBAD.out _ (by omega) (hB.alloc hz _))
              | (go_roundw
                 case rel => exact ⟨k + 1, by omega, by go_num, by rw [HNX1.out], HGOOD.out (by have := HK0.out; omega), hB.alloc hz _⟩
                 case measure => simp [intOf]; omega)
          · have hif : (if (128 : Int) < xa then xa else 128) = 128 := by rw [if_neg (by omega)]
            go_wp2_with fail
            all_goals (go_ret; exact HBAD.out _ (by omega) (hB.alloc hz _))
        · have hkb : ((k : Int) == 0) = false := by rw [beq_eq_false_iff_ne]; omega
          have HK0 := Lib.hid hk0
          clear hk0
          go_wp2_with fail
          all_goals first
            | (go_ret; exact HBAD.out _ (by have := HK0.out; omega) (hB.alloc hz _))
            | (go_roundw
               case rel => exact ⟨k + 1, by omega, by go_num, by rw [HNX1.out]; first | go_num | (congr 1; omega), HGOOD.out (by have := HK0.out; omega), hB.alloc hz _⟩
               case measure => simp [intOf]; omega)
      · have : k = l.length := by omega
        subst this
        have HE := Lib.hid (rowErr_ok hle HOK.out)
        go_wp2_with fail
        go_ret
        exact ⟨by rw [HE.out]; rfl, hB⟩
end Go.Proofs.Ytpifagclhhaniaa
