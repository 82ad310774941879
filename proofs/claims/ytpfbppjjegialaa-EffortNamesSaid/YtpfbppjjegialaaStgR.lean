/- The views between the changes of a phase: plain facts; and lists of changes compared. -/
import Derived.Test.YtpfbppjjegialaaStgA
import Derived.Test.YtpfbppjjegialaaKMove
namespace Go.Proofs.Ytpfbppjjegialaa
open Go.RowKit

/-- The view behind the first n changes. -/
def stX (x : List Nat) (outs : List (List En)) (n : Nat) : List Nat := (outs.take n).foldl putE x
theorem stX_zero (x : List Nat) (outs : List (List En)) : stX x outs 0 = x := rfl
theorem stX_succ {x : List Nat} {outs : List (List En)} {n : Nat} (h : n < outs.length) : stX x outs (n + 1) = putE (stX x outs n) outs[n] := by
  unfold stX
  rw [List.take_succ_eq_append_getElem h, List.foldl_append]
  rfl
theorem stX_cons (x : List Nat) (E : List En) (outs : List (List En)) (n : Nat) : stX x (E :: outs) (n + 1) = stX (putE x E) outs n := rfl
theorem all_cons {p : Nat} {x y : List Nat} {E : List En} {outs : List (List En)} (ho : ∀ v ∈ x, v < 18446744073709551616) (h : allE p x = (0, E :: outs, y)) : wd x 16 = p ∧ sgOne x = (0, E) ∧ allE p (putE x E) = (0, outs, y) := by
  by_cases hp : wd x 16 = p
  · by_cases h6 : (sgOne x).1 = 6
    · rw [allE_none hp h6] at h
      simp at h
    · by_cases h0 : (sgOne x).1 = 0
      · rw [allE_step ho hp h0] at h
        by_cases h1 : (allE p (putE x (sgOne x).2)).1 = 0
        · rw [if_pos h1] at h
          simp only [Prod.mk.injEq, List.cons.injEq, true_and] at h
          obtain ⟨⟨h2, h3⟩, h4⟩ := h
          refine ⟨hp, by rw [← h0, ← h2], ?_⟩
          rw [← h2, ← h3, ← h4, ← h1]
        · rw [if_neg h1] at h
          simp at h
      · rw [allE_err hp h6 h0] at h
        simp at h
  · rw [allE_other hp] at h
    simp at h
theorem all_at {p : Nat} : ∀ {outs : List (List En)} {x y : List Nat}, (∀ v ∈ x, v < 18446744073709551616) → allE p x = (0, outs, y) → ∀ n, n ≤ outs.length → (∀ v ∈ stX x outs n, v < 18446744073709551616) ∧ (stX x outs n).length = x.length ∧ allE p (stX x outs n) = (0, outs.drop n, y) ∧ ∀ h : n < outs.length, wd (stX x outs n) 16 = p ∧ sgOne (stX x outs n) = (0, outs[n]) := by
  intro outs
  induction outs with
  | nil =>
    intro x y ho h n hn
    have : n = 0 := by simpa using hn
    subst this
    exact ⟨ho, rfl, h, fun h => absurd h (by simp)⟩
  | cons E outs ih =>
    intro x y ho h n hn
    obtain ⟨h1, h2, h3⟩ := all_cons ho h
    cases n with
    | zero => exact ⟨ho, rfl, h, fun _ => ⟨h1, h2⟩⟩
    | succ n =>
      rw [stX_cons]
      have hl : ∀ v ∈ putE x E, v < 18446744073709551616 := by
        have := putS_lt ho (by rw [h2])
        rwa [h2] at this
      obtain ⟨g1, g2, g3, g4⟩ := ih hl h3 n (by simpa using hn)
      exact ⟨g1, by rw [g2, putE_len], g3, fun hh => g4 (by simpa using hh)⟩
theorem all_last {p : Nat} {outs : List (List En)} {x y : List Nat} (ho : ∀ v ∈ x, v < 18446744073709551616) (h : allE p x = (0, outs, y)) : stX x outs outs.length = y ∧ (wd y 16 ≠ p ∨ wd y 16 = p ∧ (sgOne y).1 = 6) := by
  obtain ⟨g1, g2, g3, g4⟩ := all_at ho h outs.length (Nat.le_refl _)
  rw [List.drop_length] at g3
  by_cases hp : wd (stX x outs outs.length) 16 = p
  · by_cases h6 : (sgOne (stX x outs outs.length)).1 = 6
    · rw [allE_none hp h6] at g3
      simp only [Prod.mk.injEq, true_and] at g3
      rw [g3] at hp h6
      exact ⟨g3, .inr ⟨hp, h6⟩⟩
    · by_cases h0 : (sgOne (stX x outs outs.length)).1 = 0
      · rw [allE_step g1 hp h0] at g3
        split at g3
        · simp at g3
        · rename_i h1
          simp only [Prod.mk.injEq] at g3
          exact absurd g3.1 h1
      · rw [allE_err hp h6 h0] at g3
        simp only [Prod.mk.injEq] at g3
        exact absurd g3.1 h0
  · rw [allE_other hp] at g3
    simp only [Prod.mk.injEq, true_and] at g3
    rw [g3] at hp
    exact ⟨g3, .inl hp⟩
theorem all_len {p : Nat} : ∀ {outs : List (List En)} {x y : List Nat}, (∀ v ∈ x, v < 18446744073709551616) → allE p x = (0, outs, y) → outs.length ≤ mzS p x := by
  intro outs
  induction outs with
  | nil => intro x y _ _; exact Nat.zero_le _
  | cons E outs ih =>
    intro x y ho h
    obtain ⟨h1, h2, h3⟩ := all_cons ho h
    have hl : ∀ v ∈ putE x E, v < 18446744073709551616 := by
      have := putS_lt ho (by rw [h2])
      rwa [h2] at this
    have hd := mzS_dec ho h1 (by rw [h2])
    rw [h2] at hd
    have := ih hl h3
    rw [List.length_cons]
    dsimp only at hd
    omega
theorem sg_len {ws y : List Nat} {outs : List (List En)} (ho : ∀ v ∈ ws, v < 18446744073709551616) (h : sgAll ws = (0, outs, y)) (hn : ws.length ≤ 2048) : outs.length ≤ 2060 := by
  unfold sgAll at h
  split at h
  · exact Nat.le_trans (all_len ho h) (mzS_le hn)
  · rename_i h0
    simp only [Prod.mk.injEq] at h
    exact absurd h.1 h0
/-- Behind each change the others follow. -/
theorem sg_on {ws y : List Nat} {outs : List (List En)} (ho : ∀ v ∈ ws, v < 18446744073709551616) (h : sgAll ws = (0, outs, y)) : ckErr ws = 0 ∧ ∀ n, n < outs.length → (∀ v ∈ stX ws outs n, v < 18446744073709551616) ∧ (stX ws outs n).length = ws.length ∧ sgAll (stX ws outs n) = (0, outs.drop n, y) ∧ (∃ hn : n < outs.length, sgOne (stX ws outs n) = (0, outs[n])) ∧ wd (stX ws outs n) 16 = wd ws 16 := by
  have hck : ckErr ws = 0 := by
    by_cases h0 : ckErr ws = 0
    · exact h0
    · unfold sgAll at h; rw [if_neg h0] at h
      simp only [Prod.mk.injEq] at h
      exact absurd h.1 h0
  have ha : allE (wd ws 16) ws = (0, outs, y) := by unfold sgAll at h; rw [if_pos hck] at h; exact h
  refine ⟨hck, fun n hn => ?_⟩
  obtain ⟨g1, g2, g3, g4⟩ := all_at ho ha n (Nat.le_of_lt hn)
  obtain ⟨g5, g6⟩ := g4 hn
  have hc := (sg_ok g1 (by rw [g6])).1
  refine ⟨g1, g2, ?_, ⟨hn, g6⟩, g5⟩
  unfold sgAll
  rw [if_pos hc, g5]
  exact g3

set_option maxRecDepth 100000 in
set_option maxHeartbeats 2000000 in
theorem sameChs_c (A B : Option Addr) (a b : List Ch) (c d n m : Nat) (w : World) (hn : a.length = n) (hm : b.length = m) (h : a.map Ch.l = b.map Ch.l) (hl : n ≤ 100000) (ha : RdC w w.heap.size A a) (hb : RdC w w.heap.size B b) (hae : ∀ x ∈ a, RdE w w.heap.size x.A x.l ∧ x.l.length ≤ 100000) (hbe : ∀ x ∈ b, RdE w w.heap.size x.A x.l) :
    Calls Try.prog 15 #[.slice A n c, .slice B m d] w fun e w' => e = .returned (.bool true) ∧ Below w.heap.size w w' := by
  have hnm : m = n := by have := congrArg List.length h; simp at this; omega
  subst hn hnm
  have HA := Lib.hid ha
  have HB := Lib.hid (show RdC w w.heap.size B b from hb)
  have HLB : Hid (b.length = a.length) := Lib.hid hm
  have HE : Hid (∀ k (h1 : k < a.length) (h2 : k < b.length), a[k].l = b[k].l ∧ RdE w w.heap.size a[k].A a[k].l ∧ RdE w w.heap.size b[k].A b[k].l ∧ a[k].l.length ≤ 100000) := Lib.hid fun k h1 h2 => by
    refine ⟨?_, (hae _ (List.getElem_mem h1)).1, hbe _ (List.getElem_mem h2), (hae _ (List.getElem_mem h1)).2⟩
    have h3 := congrArg (fun l => l[k]?) h
    simpa [h1, h2] using h3
  clear ha hb hae hbe h hm
  go_enter Try.func15, Try.ntmps15
  go_wp2_with fail
  go_loopw [5] (fun i wr => ∃ k : Nat, k ≤ a.length ∧ i = .int .i64 k ∧ Below w.heap.size w wr) (fun i _ => a.length - (intOf i).toNat)
  case atStart => exact ⟨0, Nat.zero_le _, rfl, Below.refl _ _⟩
  case round =>
    obtain ⟨k, hk, rfl, hB⟩ := hrel
    have hz := hB.size
    by_cases hlt : k < a.length
    · have hlt2 : k < b.length := by rw [HLB.out]; exact hlt
      obtain ⟨b1, o1, rfl, hb1, p1⟩ := RdC.at_ (Rd.below HA.out hB) hlt
      obtain ⟨b2, o2, rfl, hb2, p2⟩ := RdC.at_ (Rd.below HB.out hB) hlt2
      obtain ⟨e1, e2, e3, e4⟩ := HE.out k hlt hlt2
      rw [e1] at e2 e4 p1
      obtain ⟨x, hx⟩ : ∃ x, a[k] = x := ⟨_, rfl⟩
      obtain ⟨y, hy⟩ : ∃ y, b[k] = y := ⟨_, rfl⟩
      rw [hx] at p1 e2
      rw [hy] at p1 p2 e2 e3 e4
      obtain ⟨xA, xc, xl⟩ := x
      obtain ⟨yA, yc, yl⟩ := y
      dsimp only at p1 p2 e2 e3 e4
      have HQ := Lib.hid (fun W (hW : Below w.heap.size w W) => sameEntries_c xA yA yl yl yl.length yl.length xc yc w.heap.size W rfl rfl (by omega) (e2.below hW) (e3.below hW) hW.size)
      rw [show decide (yl = yl) = true by simp] at HQ
      have hki : (k : Int) < (a.length : Int) := by omega
      have hk0 : (0 : Int) ≤ (k : Int) := by omega
      have hB' := Lib.hid hB
      have hb1' : b1 < wr.heap.size := by omega
      have hb2' : b2 < wr.heap.size := by omega
      clear hx hy e1 e2 e3 e4
      go_wp2_with fail
      go_region_held3 (fun X : World => X.cell? ⟨b1, o1 + k, none⟩ = some (.slice xA yl.length xc) ∧ X.cell? ⟨b2, o2 + k, none⟩ = some (.slice yA yl.length yc)) (go_keep)
        (first | (go_at_call 34; refine (HQ.out _ (below_drewN hB'.out _)).mono ?_; rintro e w5 ⟨rfl, hB5⟩; have m0 := (hB5.cell (p := ⟨b1, o1 + k, none⟩) hb1').trans p1; have m1 := (hB5.cell (p := ⟨b2, o2 + k, none⟩) hb2').trans p2))
      have HB5 := Lib.hid (hB'.out.trans (((Below.refl wr.heap.size wr).drew.trans hB5).mono hz))
      clear hB5 m0 m1
      go_wp2_with fail
      go_roundw
      case rel => exact ⟨k + 1, by omega, by go_num, HB5.out⟩
      case measure => simp [intOf]; omega
    · obtain rfl : k = a.length := by omega
      go_wp2_with fail
      go_ret
      exact ⟨rfl, hB⟩
end Go.Proofs.Ytpfbppjjegialaa
