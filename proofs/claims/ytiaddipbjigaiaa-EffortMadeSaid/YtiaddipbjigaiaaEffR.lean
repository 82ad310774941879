/- The reference's effort: what its functions return, for every slice of entries. -/
import Derived.Test.YtiaddipbjigaiaaBase
import Derived.Test.YtiaddipbjigaiaaEffP
namespace Go.Proofs.Ytiaddipbjigaiaa
open Go.RowKit

set_option maxHeartbeats 400000 in
theorem refLines_c (A : Option Addr) (l : List En) (c : Nat) (w : World) (h : l.length ≤ 32) (hr : RdE w w.heap.size A l) (hp : okPre (addrs l) l.length = true) :
    Calls Try.prog 48 #[.slice A l.length c] w fun e w' => e = .returned (.int .i64 (nLines (addrs l) l.length)) ∧ Below w.heap.size w w' := by
  go_enter Try.func48, Try.ntmps48
  have HP := Lib.hid hp
  clear hp
  have HR := Lib.hid hr
  clear hr
  go_wp2
  go_loopw [3, 4] (fun t i wr => ∃ k : Nat, k ≤ l.length ∧ i = .int .i64 k ∧ t = .int .i64 (nLines (addrs l) k : Nat) ∧ Below w.heap.size w wr) (fun _ i _ => l.length - (intOf i).toNat)
  case atStart => exact ⟨0, Nat.zero_le _, rfl, rfl, Below.refl _ _⟩
  case round =>
    obtain ⟨k, hk, rfl, rfl, hB⟩ := hrel
    have hle := nLines_le (addrs l) k
    by_cases hlt : k < l.length
    · go_wp2
      go_loopw [5, 6] (fun o i wr => ∃ j : Nat, j ≤ k ∧ i = .int .i64 j ∧ o = .bool (lineSeen (addrs l) ((addrs l)[k]?.getD 0) j) ∧ Below w.heap.size w wr) (fun _ i _ => k - (intOf i).toNat)
      case atStart => exact ⟨0, Nat.zero_le _, rfl, rfl, hB⟩
      case round =>
        obtain ⟨j, hj, rfl, rfl, hB1⟩ := hrel
        by_cases hlt2 : j < k
        · obtain ⟨b, off, hA1, hb, h1, _⟩ := HR.out.at_ (show j < l.length by omega)
          obtain ⟨b', off', hA2, _, h2, _⟩ := HR.out.at_ hlt
          subst hA1
          cases hA2
          replace h1 := (hB1.cell (p := ⟨b, off + j * 2, none⟩) hb).trans h1
          replace h2 := (hB1.cell (p := ⟨b, off + k * 2, none⟩) hb).trans h2
          have e1 := addrs_get l j (by omega)
          have e2 := addrs_get l k hlt
          have hr1 := okPre_lt HP.out (show j < l.length by omega)
          have hr2 := okPre_lt HP.out hlt
          rw [e1] at hr1
          rw [e2] at hr2
          obtain ⟨p1, p2, _⟩ := hr1
          obtain ⟨q1, q2, _⟩ := hr2
          have hfin : lineSeen (addrs l) ((addrs l)[k]?.getD 0) (j + 1) = (lineSeen (addrs l) ((addrs l)[k]?.getD 0) j || (l[j].a / 8 == l[k].a / 8)) := by
            simp only [lineSeen, e1, e2]
          have HF := Lib.hid hfin
          clear hfin e1 e2
          generalize l[j].a = x at *
          generalize l[k].a = y at *
          cases hs : lineSeen (addrs l) ((addrs l)[k]?.getD 0) j
          · have HS := Lib.hid hs
            clear hs
            go_wp2
            go_quiet (fail)
            go_wp2
            go_roundw
            case rel => exact ⟨j + 1, by omega, by go_num, by rw [HF.out, HS.out]; rfl, below_drewN hB1 _⟩
            case measure => simp [intOf]; omega
          · have HS := Lib.hid hs
            clear hs
            go_wp2
            go_quiet (fail)
            go_wp2
            go_roundw
            case rel => exact ⟨j + 1, by omega, by go_num, by rw [HF.out, HS.out]; rfl, below_drewN hB1 _⟩
            case measure => simp [intOf]; omega
        · have hjk : j = k := by omega
          subst hjk
          cases hs : lineSeen (addrs l) ((addrs l)[j]?.getD 0) j
          · have HS := Lib.hid hs
            clear hs
            go_wp2
            go_roundw
            case rel => exact ⟨j + 1, by omega, by go_num, by simp only [nLines, HS.out]; go_num, hB1⟩
            case measure => simp [intOf]; omega
          · have HS := Lib.hid hs
            clear hs
            go_wp2
            go_roundw
            case rel => exact ⟨j + 1, by omega, by go_num, by simp only [nLines, HS.out]; rfl, hB1⟩
            case measure => simp [intOf]; omega
    · have : k = l.length := by omega
      subst this
      go_wp2
      go_ret
      exact ⟨rfl, hB⟩
/-- An effort as a value. -/
def effV (s f n : Int) : Value := .agg #[.int .i64 s, .int .i64 f, .int .i64 n]

set_option maxHeartbeats 400000 in
theorem refTaken_c (A : Option Addr) (l : List En) (c : Nat) (w : World) (h : l.length ≤ 32) (hr : RdE w w.heap.size A l) (hp : okPre (addrs l) l.length = true) :
    Calls Try.prog 36 #[.slice A l.length c] w fun e w' => e = .returned (effV (eStores (addrs l)) (eFlushes (addrs l)) (eFences (addrs l))) ∧ Below w.heap.size w w' := by
  have hle := nLines_le (addrs l) l.length
  have HP := Lib.hid hp
  clear hp
  have HR := Lib.hid hr
  clear hr
  unfold eStores eFlushes eFences
  rw [addrs_len]
  by_cases h0 : l.length = 0
  · have H0 := Lib.hid h0
    have hb0 : ((l.length : Int) == 0) = true := by rw [h0]; rfl
    simp only [h0, if_true]
    clear h0
    go_enter Try.func36, Try.ntmps36
    go_wp2_with fail
    exact bodyPost_ret (v := effV 0 0 0) (by simp [results, Try.results36, go_sem, effV]) rfl ⟨rfl, (Below.refl _ _).alloc (Nat.le_refl _) _⟩
  · have hb0 : ((l.length : Int) == 0) = false := by rw [beq_eq_false_iff_ne]; omega
    simp only [h0, if_false]
    go_enter Try.func36, Try.ntmps36
    go_wp2_with fail
    refine (refLines_c A l c _ h ((HR.out.alloc (Nat.le_refl _) _).more (by simp)) HP.out).mono ?_
    rintro e w1 ⟨rfl, hB1⟩
    rw [World.size_alloc] at hB1
    obtain ⟨hc0, hc1, hc2, hf0, hf1, hf2, hb1, hz1⟩ := box3 hB1
    go_wp2_with fail
    refine bodyPost_ret (v := effV (3 * l.length + 2) ((2 * l.length + 7) / 8 + nLines (addrs l) l.length + 2) 4) ?_ rfl ⟨rfl, ((hb1.setCell ?_ _).setCell ?_ _).setCell ?_ _⟩
    · simp [results, Try.results36, go_sem, effV, hc0, hc1, hc2]
    all_goals exact Nat.le_refl _

end Go.Proofs.Ytiaddipbjigaiaa
