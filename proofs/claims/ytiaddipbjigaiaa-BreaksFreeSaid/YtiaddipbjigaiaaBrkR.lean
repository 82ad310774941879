/- The reference's Check of rows of blocks. -/
import Derived.Test.YtiaddipbjigaiaaBrkP
namespace Go.Proofs.Ytiaddipbjigaiaa
open Go.RowKit

set_option maxRecDepth 100000 in
set_option maxHeartbeats 4000000 in
theorem refCheck_c (A : Option Addr) (l : List Bk) (c n : Nat) (w : World) (hn : l.length = n) (hm : n ≤ 9223372036854775807) (hr : RdB w w.heap.size A l) :
    Calls Try.prog 27 #[.slice A n c] w fun e w' => e = .returned (.int .i64 (rowErr l)) ∧ Below w.heap.size w w' := by
  subst hn
  have HR := Lib.hid hr
  clear hr
  by_cases h : 1024 < l.length
  · have HE := Lib.hid (rowErr_many h)
    go_enter Try.func27, Try.ntmps27
    go_wp2_with fail
    go_ret
    exact ⟨by rw [HE.out]; rfl, Below.refl _ _⟩
  · have hle : l.length ≤ 1024 := by omega
    clear h
    have d1 : decide ((1024 : Int) < (l.length : Int)) = false := by rw [decide_eq_false_iff_not]; omega
    go_enter Try.func27, Try.ntmps27
    go_wp2_with fail
    go_loopw [3] (fun i wr => ∃ k : Nat, k ≤ l.length ∧ i = .int .i64 k ∧ rowPre l k = true ∧ Below w.heap.size w wr) (fun i _ => l.length - (intOf i).toNat)
    case atStart => exact ⟨0, Nat.zero_le _, rfl, rfl, Below.refl _ _⟩
    case round =>
      obtain ⟨k, hk, rfl, hok, hB⟩ := hrel
      have HOK := Lib.hid hok
      have hz := hB.size
      clear hok
      by_cases hlt : k < l.length
      · obtain ⟨b, off, rfl, hb, h0, h1, h2, h3, h4, h5⟩ := HR.out.at_ hlt
        replace h0 := (hB.cell (p := ⟨b, off + k * 6, none⟩) hb).trans h0
        replace h1 := (hB.cell (p := ⟨b, off + k * 6 + 1, none⟩) hb).trans h1
        replace h2 := (hB.cell (p := ⟨b, off + k * 6 + 2, none⟩) hb).trans h2
        replace h3 := (hB.cell (p := ⟨b, off + k * 6 + 3, none⟩) hb).trans h3
        replace h4 := (hB.cell (p := ⟨b, off + k * 6 + 4, none⟩) hb).trans h4
        replace h5 := (hB.cell (p := ⟨b, off + k * 6 + 5, none⟩) hb).trans h5
        have E := Lib.hid (gk_get l k hlt)
        have hbad : ∀ w' : World, bkOk l[k] = false → Below w.heap.size w w' → Ending.returned (.int .i64 8) = .returned (.int .i64 (rowErr l)) ∧ Below w.heap.size w w' := fun _ h1 h2 => ⟨by rw [rowErr_bad (rowPre_no (by rw [E.out]; exact h1)) hlt], h2⟩
        have HBAD := Lib.hid hbad
        clear hbad
        have hways := bk_ways l[k]
        generalize hx : l[k] = x at *
        have HX := Lib.hid hx
        clear hx
        obtain ⟨xa, xs, xk, xt, xm, xn⟩ := x
        dsimp only at *
        rcases hways with ⟨k1, k2⟩ | ⟨hk12, hways⟩
        · have hbk := Lib.hid (show bkOk ⟨xa, xs, xk, xt, xm, xn⟩ = false by
            cases hq : bkOk ⟨xa, xs, xk, xt, xm, xn⟩ with
            | false => rfl
            | true => have := (bkOk_iff _).1 hq; dsimp only at this; omega)
          have b1 : (xk != 1) = true := by rw [bne_iff_ne]; exact k1
          have b2 : (xk != 2) = true := by rw [bne_iff_ne]; exact k2
          clear k1 k2
          go_wp2_with fail
          go_ret
          exact HBAD.out _ hbk.out (hB.alloc hz _)
        · rcases hways with q | ⟨q1, q⟩ | ⟨⟨q1, q2⟩, q⟩ | ⟨⟨q1, q2⟩, q3, q⟩
          · have hbk := Lib.hid (show bkOk ⟨xa, xs, xk, xt, xm, xn⟩ = false by
              cases hq : bkOk ⟨xa, xs, xk, xt, xm, xn⟩ with
              | false => rfl
              | true => have := (bkOk_iff _).1 hq; dsimp only at this; omega)
            clear hk12
            go_wp2_with fail
            all_goals (go_ret; exact HBAD.out _ hbk.out (hB.alloc hz _))
          · have hbk := Lib.hid (show bkOk ⟨xa, xs, xk, xt, xm, xn⟩ = false by
              cases hq : bkOk ⟨xa, xs, xk, xt, xm, xn⟩ with
              | false => rfl
              | true => have := (bkOk_iff _).1 hq; dsimp only at this; omega)
            clear hk12
            go_wp2_with fail
            all_goals (go_ret; exact HBAD.out _ hbk.out (hB.alloc hz _))
          · have hbk := Lib.hid (show bkOk ⟨xa, xs, xk, xt, xm, xn⟩ = false by
              cases hq : bkOk ⟨xa, xs, xk, xt, xm, xn⟩ with
              | false => rfl
              | true => have := (bkOk_iff _).1 hq; dsimp only at this; omega)
            have b1 : (xs % 2 != 0) = true := by rw [bne_iff_ne]; omega
            clear q
            clear hk12
            go_wp2_with fail
            all_goals (go_ret; exact HBAD.out _ hbk.out (hB.alloc hz _))
          · have b1 : (xs % 2 != 0) = false := by rw [bne_eq_false_iff_eq]; exact q3
            rcases q with q | ⟨p1, q⟩ | ⟨⟨p1, p2⟩, q⟩ | ⟨⟨p1, p2⟩, p3, q | q⟩
            · have hbk := Lib.hid (show bkOk ⟨xa, xs, xk, xt, xm, xn⟩ = false by
                cases hq : bkOk ⟨xa, xs, xk, xt, xm, xn⟩ with
                | false => rfl
                | true => have := (bkOk_iff _).1 hq; dsimp only at this; omega)
              clear q3
              clear hk12
              go_wp2_with fail
              all_goals (go_ret; exact HBAD.out _ hbk.out (hB.alloc hz _))
            · have hbk := Lib.hid (show bkOk ⟨xa, xs, xk, xt, xm, xn⟩ = false by
                cases hq : bkOk ⟨xa, xs, xk, xt, xm, xn⟩ with
                | false => rfl
                | true => have := (bkOk_iff _).1 hq; dsimp only at this; omega)
              clear q3
              clear hk12
              go_wp2_with fail
              all_goals (go_ret; exact HBAD.out _ hbk.out (hB.alloc hz _))
            · have hbk := Lib.hid (show bkOk ⟨xa, xs, xk, xt, xm, xn⟩ = false by
                cases hq : bkOk ⟨xa, xs, xk, xt, xm, xn⟩ with
                | false => rfl
                | true => have := (bkOk_iff _).1 hq; dsimp only at this; omega)
              have b2 : (xa % 2 != 0) = true := by rw [bne_iff_ne]; omega
              clear q q3
              clear hk12
              go_wp2_with fail
              all_goals (go_ret; exact HBAD.out _ hbk.out (hB.alloc hz _))
            · have hbk := Lib.hid (show bkOk ⟨xa, xs, xk, xt, xm, xn⟩ = false by
                cases hq : bkOk ⟨xa, xs, xk, xt, xm, xn⟩ with
                | false => rfl
                | true => have := (bkOk_iff _).1 hq; dsimp only at this; omega)
              have b2 : (xa % 2 != 0) = false := by rw [bne_eq_false_iff_eq]; exact p3
              clear p3 q3
              clear hk12
              go_wp2_with fail
              all_goals (go_ret; exact HBAD.out _ hbk.out (hB.alloc hz _))
            · have hgood := Lib.hid ((bkOk_iff ⟨xa, xs, xk, xt, xm, xn⟩).2 ⟨hk12, q1, q2, q3, p1, p3, q⟩)
              have b2 : (xa % 2 != 0) = false := by rw [bne_eq_false_iff_eq]; exact p3
              clear p3 q3
              have HREL : Hid ((k = 0 ∨ (gk l k).at_ = rowNext l k) → rowPre l (k + 1) = true) := fun h => rowPre_yes HOK.out (by rw [E.out]; exact hgood.out) h
              by_cases hk0 : 0 < k
              · obtain ⟨b', off', hA, hb', g0, g1, g2⟩ := HR.out.at_ (show k - 1 < l.length by omega)
                cases hA
                replace g0 := (hB.cell (p := ⟨b, off + (k - 1) * 6, none⟩) hb).trans g0
                replace g1 := (hB.cell (p := ⟨b, off + (k - 1) * 6 + 1, none⟩) hb).trans g1
                obtain ⟨y1, y2⟩ := (bkOk_iff _).1 (rowPre_at HOK.out (show k - 1 < k by omega)).1
                have E2 := Lib.hid (gk_get l (k - 1) (by omega))
                rw [E2.out] at y1 y2
                have hnx := Lib.hid (show rowNext l k = l[k - 1].at_ + l[k - 1].size by
                  obtain ⟨m, rfl⟩ : ∃ m, k = m + 1 := ⟨k - 1, by omega⟩
                  simp only [rowNext, Nat.add_sub_cancel]
                  rw [gk_get l m (by omega)])
                clear y1 g2
                obtain ⟨pa, hpa⟩ : ∃ x, l[k - 1].at_ = x := ⟨_, rfl⟩
                obtain ⟨ps, hps⟩ : ∃ x, l[k - 1].size = x := ⟨_, rfl⟩
                rw [hpa] at g0 y2
                rw [hps] at g1 y2
                have HNX := Lib.hid (show rowNext l k = pa + ps by rw [hnx.out, hpa, hps])
                obtain ⟨z1, z2, -, z4, -, z6⟩ := y2
                clear hpa hps hnx
                have hz6 : pa + ps ≤ 2048 := by omega
                have hz7 : 0 ≤ pa + ps := by omega
                have HW := Lib.hid (IntWalk.i64_in (pa + ps) (by omega))
                have HWK := Lib.hid (IntWalk.i64_in ((k : Int) - 1) (by omega))
                have HTN := Lib.hid (show ((k : Int) - 1).toNat = k - 1 by omega)
                have ik0 : (0 : Int) ≤ (k : Int) - 1 := by omega
                have ik1 : (1 : Int) ≤ (k : Int) := by omega
                have hb2 : b < wr.heap.size := by omega
                have ik2 : (k : Int) - 1 < (l.length : Int) := by omega
                have hd0 : decide ((0 : Int) < (k : Int)) = true := by rw [decide_eq_true_iff]; omega
                have HK1 := Lib.hid (show k + 1 ≤ l.length by omega)
                by_cases heq : xa = pa + ps
                · have hne : (xa != pa + ps) = false := by rw [bne_eq_false_iff_eq]; exact heq
                  have HR2 := Lib.hid (HREL.out (.inr (by rw [E.out, HNX.out]; exact heq)))
                  clear heq
                  rcases hk12 with rfl | rfl
                  all_goals
                    go_wp2_with fail
                    have hw := HW.out
                    have hwk := HWK.out
                    have htn := HTN.out
                    go_quiet (fail)
                    clear hw hwk htn
                    go_wp2_with fail
                    go_roundw
                    case rel => exact ⟨k + 1, HK1.out, by go_num, HR2.out, below_drewN (hB.alloc hz _) _⟩
                    case measure => simp [intOf]; omega
                · have hne : (xa != pa + ps) = true := by rw [bne_iff_ne]; exact heq
                  have hbk2 := Lib.hid (rowPre_gap (l := l) (k := k) (by omega) (by rw [E.out, HNX.out]; exact heq))
                  clear heq
                  rcases hk12 with rfl | rfl
                  all_goals
                    go_wp2_with fail
                    have hw := HW.out
                    have hwk := HWK.out
                    have htn := HTN.out
                    go_quiet (fail)
                    clear hw hwk htn
                    go_wp2_with fail
                    go_ret
                    exact ⟨by rw [rowErr_bad hbk2.out hlt]; rfl, below_drewN (hB.alloc hz _) _⟩
              · have hk1 : k = 0 := by omega
                have HK := Lib.hid hk1
                have hd0 : decide ((0 : Int) < (k : Int)) = false := by rw [decide_eq_false_iff_not]; omega
                clear hk1
                rcases hk12 with rfl | rfl
                all_goals
                  go_wp2_with fail
                  go_quiet (fail)
                  go_wp2_with fail
                  go_roundw
                  case rel => exact ⟨k + 1, by omega, by go_num, HREL.out (.inl HK.out), below_drewN (hB.alloc hz _) _⟩
                  case measure => simp [intOf]; omega
      · have : k = l.length := by omega
        subst this
        have HE := Lib.hid (rowErr_ok hle HOK.out)
        go_wp2_with fail
        go_ret
        exact ⟨by rw [HE.out]; rfl, hB⟩
end Go.Proofs.Ytiaddipbjigaiaa
