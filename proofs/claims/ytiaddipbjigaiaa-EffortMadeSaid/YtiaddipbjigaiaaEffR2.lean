/- The reference's effort of a change: its error, and what it returns. -/
import Derived.Test.YtiaddipbjigaiaaEffR
namespace Go.Proofs.Ytiaddipbjigaiaa
open Go.RowKit

/-- What a function that returns an effort and an error returns. -/
def effRes (ad : List Int) : Value := .tuple #[effV (ofS ad) (ofF ad) (ofN ad), .int .i64 (ofErr ad)]
theorem effRes_err {ad : List Int} {e : Int} (h : ofErr ad = e) (h0 : e ≠ 0) : effRes ad = .tuple #[effV 0 0 0, .int .i64 e] := by
  simp [effRes, ofS, ofF, ofN, h, h0]
theorem effRes_ok {ad : List Int} (h : ofErr ad = 0) : effRes ad = .tuple #[effV (eStores ad) (eFlushes ad) (eFences ad), .int .i64 0] := by
  simp [effRes, ofS, ofF, ofN, h]

set_option maxHeartbeats 800000 in
theorem refOf_c (A : Option Addr) (l : List En) (c : Nat) (w : World) (hm : l.length ≤ 9223372036854775807) (hr : RdE w w.heap.size A l) :
    Calls Try.prog 12 #[.slice A l.length c] w fun e w' => e = .returned (effRes (addrs l)) ∧ Below w.heap.size w w' := by
  have HR := Lib.hid hr
  clear hr
  by_cases h : 32 < l.length
  · rw [effRes_err (ofErr_many (by rw [addrs_len]; exact h)) (by omega)]
    go_enter Try.func12, Try.ntmps12
    go_wp2_with fail
    exact bodyPost_ret (v := .tuple #[effV 0 0 0, .int .i64 4]) (by simp [results, Try.results12, go_sem, effV]) rfl ⟨rfl, (Below.refl _ _).alloc (Nat.le_refl _) _⟩
  · have hle : l.length ≤ 32 := by omega
    clear h
    have hbad : ∀ k, okPre (addrs l) k = false → k ≤ l.length → effRes (addrs l) = .tuple #[effV 0 0 0, .int .i64 2] := fun k h1 h2 =>
      effRes_err (ofErr_arg (by rw [addrs_len]; exact hle) h1 (by rw [addrs_len]; exact h2)) (by omega)
    have HBAD := Lib.hid hbad
    clear hbad
    go_enter Try.func12, Try.ntmps12
    go_wp2_with fail
    obtain ⟨w0, hw0⟩ : ∃ w0 : World, w0 = w.alloc (.cells #[.int .i64 0, .int .i64 0, .int .i64 0] 24) := ⟨_, rfl⟩
    rw [← hw0]
    have hB0 : Below (w.heap.size + 1) (w.alloc (.cells #[.int .i64 0, .int .i64 0, .int .i64 0] 24)) w0 := by rw [hw0]; exact Below.refl _ _
    have HW0 := Lib.hid hw0
    clear hw0
    go_loopw [4] (fun i wr => ∃ k : Nat, k ≤ l.length ∧ i = .int .i64 k ∧ okPre (addrs l) k = true ∧ Below (w.heap.size + 1) (w.alloc (.cells #[.int .i64 0, .int .i64 0, .int .i64 0] 24)) wr) (fun i _ => l.length - (intOf i).toNat)
    case atStart => exact ⟨0, Nat.zero_le _, rfl, rfl, hB0⟩
    case round =>
      obtain ⟨k, hk, rfl, hok, hB⟩ := hrel
      have HOK := Lib.hid hok
      clear hok
      obtain ⟨hc0, hc1, hc2, hf0, hf1, hf2, hb1, hz1⟩ := box3 hB
      by_cases hlt : k < l.length
      · obtain ⟨b, off, rfl, hb, h2, _⟩ := HR.out.at_ hlt
        have e2 := addrs_get l k hlt
        have E2 := Lib.hid e2
        clear e2
        replace h2 := (hb1.cell (p := ⟨b, off + k * 2, none⟩) hb).trans h2
        generalize hx : l[k].a = x at *
        have HX := Lib.hid hx
        clear hx
        have hend : ∀ w' : World, (∃ k, okPre (addrs l) k = false ∧ k ≤ l.length) → Below w.heap.size w w' →
            Ending.returned (.tuple #[effV 0 0 0, .int .i64 2]) = .returned (effRes (addrs l)) ∧ Below w.heap.size w w' :=
          fun _ ⟨k, h1, h2⟩ h3 => ⟨by rw [HBAD.out k h1 h2], h3⟩
        have HEND := Lib.hid hend
        clear hend
        by_cases hx0 : x < 0
        · have hbk := Lib.hid (okPre_bad (ad := addrs l) (k := k) (by rw [E2.out]; omega))
          go_wp2_with fail
          refine bodyPost_ret (v := .tuple #[effV 0 0 0, .int .i64 2]) (by simp [results, Try.results12, go_sem, effV, hc0, hc1, hc2]) rfl (HEND.out _ ⟨k + 1, hbk.out, hlt⟩ (((hb1.setCell ?_ _).setCell ?_ _).setCell ?_ _)) <;> exact Nat.le_refl _
        · have hx0' : 0 ≤ x := by omega
          by_cases hx1 : 2048 ≤ x
          · have hbk := Lib.hid (okPre_bad (ad := addrs l) (k := k) (by rw [E2.out]; omega))
            go_wp2_with fail
            refine bodyPost_ret (v := .tuple #[effV 0 0 0, .int .i64 2]) (by simp [results, Try.results12, go_sem, effV, hc0, hc1, hc2]) rfl (HEND.out _ ⟨k + 1, hbk.out, hlt⟩ (((hb1.setCell ?_ _).setCell ?_ _).setCell ?_ _)) <;> exact Nat.le_refl _
          · have hx1' : x < 2048 := by omega
            clear hx0 hx1
            go_wp2_with fail
            go_loopw [5] (fun i wr => ∃ j : Nat, j ≤ k ∧ i = .int .i64 j ∧ addrSeen (addrs l) x j = false ∧ Below (w.heap.size + 1) (w.alloc (.cells #[.int .i64 0, .int .i64 0, .int .i64 0] 24)) wr) (fun i _ => k - (intOf i).toNat)
            case atStart => exact ⟨0, Nat.zero_le _, rfl, rfl, hB⟩
            case round =>
              clear hc0 hc1 hc2 hf0 hf1 hf2 hb1 hz1 h2
              obtain ⟨j, hj, rfl, hns, hB1⟩ := hrel
              have HNS := Lib.hid hns
              clear hns
              obtain ⟨hc0, hc1, hc2, hf0, hf1, hf2, hb1, hz1⟩ := box3 hB1
              by_cases hlt2 : j < k
              · obtain ⟨b', off', hA1, hb', h1, _⟩ := HR.out.at_ (show j < l.length by omega)
                obtain ⟨b'', off'', hA2, _, h2, _⟩ := HR.out.at_ hlt
                cases hA1
                cases hA2
                have e1 := Lib.hid (addrs_get l j (by omega))
                rw [HX.out] at h2
                replace h1 := (hb1.cell (p := ⟨b, off + j * 2, none⟩) hb).trans h1
                replace h2 := (hb1.cell (p := ⟨b, off + k * 2, none⟩) hb).trans h2
                generalize hy : l[j].a = y at *
                have HY := Lib.hid hy
                clear hy
                by_cases hxy : y = x
                · subst hxy
                  have hbk := Lib.hid (okPre_twice (ad := addrs l) hlt2 (by rw [e1.out, E2.out]))
                  go_wp2_with fail
                  go_quiet (fail)
                  go_wp2_with fail
                  refine bodyPost_ret (v := .tuple #[effV 0 0 0, .int .i64 2]) (by simp [results, Try.results12, go_sem, effV, hc0, hc1, hc2]) rfl (HEND.out _ ⟨k + 1, hbk.out, hlt⟩ ((((below_drewN hb1 _).setCell ?_ _).setCell ?_ _).setCell ?_ _)) <;> exact Nat.le_refl _
                · have hne : (y == x) = false := by rw [beq_eq_false_iff_ne]; exact hxy
                  go_wp2_with fail
                  go_quiet (fail)
                  go_wp2_with fail
                  go_roundw
                  case rel => exact ⟨j + 1, by omega, by go_num, by simp only [addrSeen, HNS.out, e1.out, hne, Bool.or_self], below_drewN hB1 _⟩
                  case measure => simp [intOf]; omega
              · have : j = k := by omega
                subst this
                go_wp2_with fail
                go_roundw
                case rel => exact ⟨j + 1, by omega, by go_num, okPre_step HOK.out (by rw [E2.out]; exact hx0') (by rw [E2.out]; exact hx1') (by rw [E2.out]; exact HNS.out), hB1⟩
                case measure => simp [intOf]; omega
      · have : k = l.length := by omega
        subst this
        have hz : Hid (effRes (addrs l) = .tuple #[effV (eStores (addrs l)) (eFlushes (addrs l)) (eFences (addrs l)), .int .i64 0]) :=
          effRes_ok (ofErr_ok (by rw [addrs_len]; exact hle) (by rw [addrs_len]; exact HOK.out))
        go_wp2_with fail
        refine (refTaken_c A l c _ hle (HR.out.up hb1 (by omega)) HOK.out).mono ?_
        rintro e w2 ⟨rfl, hB2⟩
        have hb2 : Below w.heap.size w w2 := hb1.trans (hB2.mono (by omega))
        replace hc0 := (hB2.cell (p := ⟨w.heap.size, 0, none⟩) hz1).trans hc0
        replace hc1 := (hB2.cell (p := ⟨w.heap.size, 1, none⟩) hz1).trans hc1
        replace hc2 := (hB2.cell (p := ⟨w.heap.size, 2, none⟩) hz1).trans hc2
        replace hf0 := (hB2.frozen (p := ⟨w.heap.size, 0, none⟩) hz1).trans hf0
        replace hf1 := (hB2.frozen (p := ⟨w.heap.size, 1, none⟩) hz1).trans hf1
        replace hf2 := (hB2.frozen (p := ⟨w.heap.size, 2, none⟩) hz1).trans hf2
        unfold effV
        go_wp2_with fail
        refine bodyPost_ret (v := .tuple #[effV (eStores (addrs l)) (eFlushes (addrs l)) (eFences (addrs l)), .int .i64 0]) (by simp [results, Try.results12, go_sem, effV, hc0, hc1, hc2]) rfl ⟨by rw [hz.out], (((hb2.setCell ?_ _).setCell ?_ _).setCell ?_ _)⟩ <;> exact Nat.le_refl _
end Go.Proofs.Ytiaddipbjigaiaa
