/- The heap's blocks, of which no two free ones stand side by side: plain, and what the reference returns. -/
import Derived.Test.YtoaepffpjoibaaaGreatKRef15
namespace Go.Proofs.YtoaepffpjoibaaaGreat
open Go.RowKit

/-- Whether a free block stands behind a free one. -/
def adjAt (l : List Bk) (j : Nat) : Bool := !(j == 0) && ((gk l (j - 1)).kind == 2 && (gk l j).kind == 2)
def adjOk (l : List Bk) : Bool := (List.range l.length).all fun j => !adjAt l j
def adjTo (l : List Bk) (k : Nat) : Prop := ∀ j, j < k → adjAt l j = false
theorem adjOk_iff (l : List Bk) : adjOk l = true ↔ adjTo l l.length := by
  unfold adjOk adjTo
  rw [List.all_eq_true]
  constructor
  · intro h j hj
    have := h j (List.mem_range.2 hj)
    simpa using this
  · intro h j hj
    have := h j (List.mem_range.1 hj)
    simpa using this
theorem adjTo_zero (l : List Bk) : adjTo l 0 := fun j h => absurd h (by omega)
theorem adjTo_succ {l : List Bk} {k : Nat} (h : adjTo l k) (h1 : adjAt l k = false) : adjTo l (k + 1) := fun j hj => by
  rcases Nat.lt_or_ge j k with h2 | h2
  · exact h j h2
  · have : j = k := by omega
    subst this; exact h1
theorem adjOk_bad {l : List Bk} {k : Nat} (hk : k < l.length) (h : adjAt l k = true) : adjOk l = false := by
  cases hq : adjOk l with
  | false => rfl
  | true => have := (adjOk_iff l).1 hq k hk; rw [h] at this; cases this
/-- Whether the heap is parsable. -/
def waOk (ws : List Nat) : Bool := match blocks ws 128 with | none => false | some l => adjOk l
theorem waOk_some {ws : List Nat} {l : List Bk} (h : blocks ws 128 = some l) : waOk ws = adjOk l := by unfold waOk; rw [h]
theorem waOk_none {ws : List Nat} (h : blocks ws 128 = none) : waOk ws = false := by unfold waOk; rw [h]
set_option maxRecDepth 100000 in
set_option maxHeartbeats 4000000 in
theorem rParsed_c (A : Option Addr) (ws : List Nat) (c n : Nat) (w : World) (hn : ws.length = n) (hs : sizeOk (n : Int) = true) (hr : RdW w w.heap.size A ws) (ho : ∀ x ∈ ws, x < 18446744073709551616) :
    Calls Tryz.prog 66 #[.slice A n c] w fun e w' => (∃ A k c, e = .returned (.tuple #[.slice A k c, .bool (waOk ws)]) ∧ (waOk ws = true → ∃ l, blocks ws 128 = some l ∧ k = l.length ∧ k ≤ c ∧ RdB w' w'.heap.size A l)) ∧ Below w.heap.size w w' := by
  subst hn
  have hb := (sizeOk_iff _).1 hs
  have HC := Lib.hid (rfFrom_c A ws c ws.length 128 w rfl (by omega) (by omega) (by omega) (by omega) hr ho)
  unfold RfRes rfOut at HC
  have hlen : ∀ l, blocks ws 128 = some l → l.length ≤ 1024 := fun l h => by
    have := (blocks_chain (by omega) _ _ h (by omega) (by omega) (by omega)).1
    omega
  cases hl : blocks ws 128 with
  | none =>
    rw [hl] at HC
    simp only [Option.getD_none, Option.isSome_none, List.length_nil] at HC
    have HV := Lib.hid (waOk_none hl)
    clear hl hr ho hs hb hlen
    go_enter Tryz.func66, Tryz.ntmps66
    go_wp2_with fail
    refine HC.out.mono ?_
    rintro e w1 ⟨⟨A1, c1, rfl, -, -⟩, hB1⟩
    go_wp2_with fail
    go_loopw [5, 6] (fun v i wr => v = .bool false ∧ i = .int .i64 1 ∧ wr = w1) (fun _ _ _ => 0)
    case atStart => exact ⟨rfl, rfl, rfl⟩
    case round =>
      obtain ⟨rfl, rfl, rfl⟩ := hrel
      go_wp2_with fail
      go_ret2
      exact ⟨⟨none, 0, 0, by rw [HV.out]; rfl, fun h => by rw [HV.out] at h; cases h⟩, hB1⟩
  | some l =>
    have hl24 := hlen l hl
    rw [hl] at HC
    simp only [Option.getD_some, Option.isSome_some] at HC
    have HV := Lib.hid (waOk_some hl)
    clear hl hr ho hs hb hlen
    have HBD := Lib.hid (fun k hk h => adjOk_bad (l := l) (k := k) hk h)
    have HOK := Lib.hid (adjOk_iff l)
    go_enter Tryz.func66, Tryz.ntmps66
    go_wp2_with fail
    refine HC.out.mono ?_
    rintro e w1 ⟨⟨A1, c1, rfl, hrd, hcl⟩, hB1⟩
    have HRD := Lib.hid hrd
    have HB1 := Lib.hid hB1
    have HCL := Lib.hid hcl
    clear hrd hB1 hcl
    go_wp2_with fail
    go_loopw [5, 6] (fun v i wr => ∃ (k : Nat) (q : Bool), 1 ≤ k ∧ (k ≤ l.length ∨ k = 1) ∧ v = .bool q ∧ i = .int .i64 k ∧ wr = w1 ∧ Hid ((q = true → adjTo l k) ∧ (q = false → adjOk l = false))) (fun _ i _ => l.length - (intOf i).toNat)
    case atStart =>
      refine ⟨1, true, Nat.le_refl _, .inr rfl, rfl, rfl, rfl, Lib.hid ⟨fun _ => adjTo_succ (adjTo_zero l) rfl, fun h => by cases h⟩⟩
    case round =>
      obtain ⟨k, q, hk1, hk, rfl, rfl, rfl, HQ⟩ := hrel
      by_cases hlt : k < l.length
      · obtain ⟨b, off, rfl, hb, -, -, p2, -⟩ := RdB.at_ HRD.out hlt
        obtain ⟨b', off', e', -, -, -, r2, -⟩ := RdB.at_ HRD.out (show k - 1 < l.length by omega)
        cases e'
        have HNX := Lib.hid (fun h => adjTo_succ (HQ.out.1 h))
        have HBK := Lib.hid (HBD.out k hlt)
        have hadj : adjAt l k = ((l[k - 1].kind == 2) && (l[k].kind == 2)) := by
          unfold adjAt
          rw [gk_get l k hlt, gk_get l (k - 1) (by omega), show (k == 0) = false by rw [beq_eq_false_iff_ne]; omega]
          rfl
        have HQ2 := Lib.hid HQ.out.2
        obtain ⟨x, hx⟩ : ∃ x, l[k].kind = x := ⟨_, rfl⟩
        obtain ⟨y, hy⟩ : ∃ y, l[k - 1].kind = y := ⟨_, rfl⟩
        rw [hx] at p2 hadj
        rw [hy] at r2 hadj
        have i1 : IntKind.i64.wrap ((k : Int) - 1) = ((k - 1 : Nat) : Int) := by rw [IntWalk.i64_in _ (by omega)]; omega
        have hki : (k : Int) < (l.length : Int) := by omega
        have hk0 : (0 : Int) ≤ (k : Int) := by omega
        have hk1i : ((k - 1 : Nat) : Int) < (l.length : Int) := by omega
        have hk10 : (0 : Int) ≤ ((k - 1 : Nat) : Int) := by omega
        obtain ⟨m, hm⟩ : ∃ m, k - 1 = m := ⟨_, rfl⟩
        rw [hm] at i1 hk1i hk10 r2
        have HA := Lib.hid hadj
        clear hx hy HQ hm hadj
        by_cases hy2 : y = 2
        · subst hy2
          by_cases hx2 : x = 2
          · subst hx2
            have HF := Lib.hid (HBK.out (by rw [HA.out]; rfl))
            go_wp2_with fail
            go_roundw
            case rel => exact ⟨k + 1, false, by omega, by omega, rfl, by go_num, trivial, Lib.hid ⟨fun h => (by cases h), fun _ => HF.out⟩⟩
            case measure => simp [intOf]; omega
          · have e1 : (x == 2) = false := by rw [beq_eq_false_iff_ne]; exact hx2
            have HF : Hid (adjAt l k = false) := Lib.hid (by rw [HA.out, e1]; rfl)
            clear hx2
            go_wp2_with fail
            go_roundw
            case rel => exact ⟨k + 1, q, by omega, by omega, rfl, by go_num, trivial, Lib.hid ⟨fun h => HNX.out h HF.out, HQ2.out⟩⟩
            case measure => simp [intOf]; omega
        · have e1 : (y == 2) = false := by rw [beq_eq_false_iff_ne]; exact hy2
          have HF : Hid (adjAt l k = false) := Lib.hid (by rw [HA.out, e1]; rfl)
          clear hy2
          go_wp2_with fail
          go_roundw
          case rel => exact ⟨k + 1, q, by omega, by omega, rfl, by go_num, trivial, Lib.hid ⟨fun h => HNX.out h HF.out, HQ2.out⟩⟩
          case measure => simp [intOf]; omega
      · have hend : decide ((k : Int) < (l.length : Int)) = false := by rw [decide_eq_false_iff_not]; omega
        have hendn : decide (k < l.length) = false := by rw [decide_eq_false_iff_not]; exact hlt
        cases q with
        | true =>
          have HT : Hid (waOk ws = true) := Lib.hid (by
            rw [HV.out]
            refine HOK.out.2 fun j hj => HQ.out.1 rfl j (by omega))
          clear HQ hk1 hk hlt
          go_wp2_with fail
          go_ret2
          exact ⟨⟨A1, l.length, c1, by rw [HT.out]; rfl, fun _ => ⟨l, rfl, rfl, HCL.out, HRD.out⟩⟩, HB1.out⟩
        | false =>
          have HT : Hid (waOk ws = false) := Lib.hid (by rw [HV.out]; exact HQ.out.2 rfl)
          clear HQ hk1 hk hlt
          go_wp2_with fail
          go_ret2
          exact ⟨⟨none, 0, 0, by rw [HT.out]; rfl, fun h => by rw [HT.out] at h; cases h⟩, HB1.out⟩
end Go.Proofs.YtoaepffpjoibaaaGreat
