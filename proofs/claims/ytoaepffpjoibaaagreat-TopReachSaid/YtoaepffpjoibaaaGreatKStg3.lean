/- Texts laid together: StgR Frsh Al25P StgN StgM StgT MkJP FxTP StgV. -/
import Derived.Test.YtoaepffpjoibaaaGreatKStg2
import Derived.Test.YtoaepffpjoibaaaGreatKMove
import Derived.Test.YtoaepffpjoibaaaGreatKImage
import Derived.Test.YtoaepffpjoibaaaGreatKStg1
import Derived.Test.YtoaepffpjoibaaaGreatKFix
namespace Go.Proofs.YtoaepffpjoibaaaGreat
open Go.RowKit

/-- The view behind the first n changes. -/
def stX (x : List Nat) (outs : List (List En)) (n : Nat) : List Nat := (outs.take n).foldl putE x
theorem stX_zero (x : List Nat) (outs : List (List En)) : stX x outs 0 = x := rfl
theorem stX_succ {x : List Nat} {outs : List (List En)} {n : Nat} (h : n < outs.length) : stX x outs (n + 1) = putE (stX x outs n) outs[n] := by
  unfold stX
  rw [List.take_succ_eq_append_getElem h, List.foldl_append]
  rfl
theorem stX_cons (x : List Nat) (E : List En) (outs : List (List En)) (n : Nat) : stX x (E :: outs) (n + 1) = stX (putE x E) outs n := rfl
theorem all_cons {p : Nat} {x y : List Nat} {E : List En} {outs : List (List En)} (ho : ∀ v ∈ x, v < 18446744073709551616) (h : allE p x = (0, E :: outs, y)) : wd x 16 = p ∧ sgOne x = (0, E) ∧ allE p (putE x E) = (0, outs, y) := by
  by_cases hp : wd x 16 = p
  · by_cases h6 : (sgOne x).1 = 6
    · rw [allE_none hp h6] at h
      simp at h
    · by_cases h0 : (sgOne x).1 = 0
      · rw [allE_step ho hp h0] at h
        by_cases h1 : (allE p (putE x (sgOne x).2)).1 = 0
        · rw [if_pos h1] at h
          simp only [Prod.mk.injEq, List.cons.injEq, true_and] at h
          obtain ⟨⟨h2, h3⟩, h4⟩ := h
          refine ⟨hp, by rw [← h0, ← h2], ?_⟩
          rw [← h2, ← h3, ← h4, ← h1]
        · rw [if_neg h1] at h
          simp at h
      · rw [allE_err hp h6 h0] at h
        simp at h
  · rw [allE_other hp] at h
    simp at h
theorem all_at {p : Nat} : ∀ {outs : List (List En)} {x y : List Nat}, (∀ v ∈ x, v < 18446744073709551616) → allE p x = (0, outs, y) → ∀ n, n ≤ outs.length → (∀ v ∈ stX x outs n, v < 18446744073709551616) ∧ (stX x outs n).length = x.length ∧ allE p (stX x outs n) = (0, outs.drop n, y) ∧ ∀ h : n < outs.length, wd (stX x outs n) 16 = p ∧ sgOne (stX x outs n) = (0, outs[n]) := by
  intro outs
  induction outs with
  | nil =>
    intro x y ho h n hn
    have : n = 0 := by simpa using hn
    subst this
    exact ⟨ho, rfl, h, fun h => absurd h (by simp)⟩
  | cons E outs ih =>
    intro x y ho h n hn
    obtain ⟨h1, h2, h3⟩ := all_cons ho h
    cases n with
    | zero => exact ⟨ho, rfl, h, fun _ => ⟨h1, h2⟩⟩
    | succ n =>
      rw [stX_cons]
      have hl : ∀ v ∈ putE x E, v < 18446744073709551616 := by
        have := putS_lt ho (by rw [h2])
        rwa [h2] at this
      obtain ⟨g1, g2, g3, g4⟩ := ih hl h3 n (by simpa using hn)
      exact ⟨g1, by rw [g2, putE_len], g3, fun hh => g4 (by simpa using hh)⟩
theorem all_last {p : Nat} {outs : List (List En)} {x y : List Nat} (ho : ∀ v ∈ x, v < 18446744073709551616) (h : allE p x = (0, outs, y)) : stX x outs outs.length = y ∧ (wd y 16 ≠ p ∨ wd y 16 = p ∧ (sgOne y).1 = 6) := by
  obtain ⟨g1, g2, g3, g4⟩ := all_at ho h outs.length (Nat.le_refl _)
  rw [List.drop_length] at g3
  by_cases hp : wd (stX x outs outs.length) 16 = p
  · by_cases h6 : (sgOne (stX x outs outs.length)).1 = 6
    · rw [allE_none hp h6] at g3
      simp only [Prod.mk.injEq, true_and] at g3
      rw [g3] at hp h6
      exact ⟨g3, .inr ⟨hp, h6⟩⟩
    · by_cases h0 : (sgOne (stX x outs outs.length)).1 = 0
      · rw [allE_step g1 hp h0] at g3
        split at g3
        · simp at g3
        · rename_i h1
          simp only [Prod.mk.injEq] at g3
          exact absurd g3.1 h1
      · rw [allE_err hp h6 h0] at g3
        simp only [Prod.mk.injEq] at g3
        exact absurd g3.1 h0
  · rw [allE_other hp] at g3
    simp only [Prod.mk.injEq, true_and] at g3
    rw [g3] at hp
    exact ⟨g3, .inl hp⟩
theorem all_len {p : Nat} : ∀ {outs : List (List En)} {x y : List Nat}, (∀ v ∈ x, v < 18446744073709551616) → allE p x = (0, outs, y) → outs.length ≤ mzS p x := by
  intro outs
  induction outs with
  | nil => intro x y _ _; exact Nat.zero_le _
  | cons E outs ih =>
    intro x y ho h
    obtain ⟨h1, h2, h3⟩ := all_cons ho h
    have hl : ∀ v ∈ putE x E, v < 18446744073709551616 := by
      have := putS_lt ho (by rw [h2])
      rwa [h2] at this
    have hd := mzS_dec ho h1 (by rw [h2])
    rw [h2] at hd
    have := ih hl h3
    rw [List.length_cons]
    dsimp only at hd
    omega
theorem sg_len {ws y : List Nat} {outs : List (List En)} (ho : ∀ v ∈ ws, v < 18446744073709551616) (h : sgAll ws = (0, outs, y)) (hn : ws.length ≤ 2048) : outs.length ≤ 2060 := by
  unfold sgAll at h
  split at h
  · exact Nat.le_trans (all_len ho h) (mzS_le hn)
  · rename_i h0
    simp only [Prod.mk.injEq] at h
    exact absurd h.1 h0
/-- Behind each change the others follow. -/
theorem sg_on {ws y : List Nat} {outs : List (List En)} (ho : ∀ v ∈ ws, v < 18446744073709551616) (h : sgAll ws = (0, outs, y)) : ckErr ws = 0 ∧ ∀ n, n < outs.length → (∀ v ∈ stX ws outs n, v < 18446744073709551616) ∧ (stX ws outs n).length = ws.length ∧ sgAll (stX ws outs n) = (0, outs.drop n, y) ∧ (∃ hn : n < outs.length, sgOne (stX ws outs n) = (0, outs[n])) ∧ wd (stX ws outs n) 16 = wd ws 16 := by
  have hck : ckErr ws = 0 := by
    by_cases h0 : ckErr ws = 0
    · exact h0
    · unfold sgAll at h; rw [if_neg h0] at h
      simp only [Prod.mk.injEq] at h
      exact absurd h.1 h0
  have ha : allE (wd ws 16) ws = (0, outs, y) := by unfold sgAll at h; rw [if_pos hck] at h; exact h
  refine ⟨hck, fun n hn => ?_⟩
  obtain ⟨g1, g2, g3, g4⟩ := all_at ho ha n (Nat.le_of_lt hn)
  obtain ⟨g5, g6⟩ := g4 hn
  have hc := (sg_ok g1 (by rw [g6])).1
  refine ⟨g1, g2, ?_, ⟨hn, g6⟩, g5⟩
  unfold sgAll
  rw [if_pos hc, g5]
  exact g3

end Go.Proofs.YtoaepffpjoibaaaGreat

namespace Go.Proofs.YtoaepffpjoibaaaGreat
open Go.RowKit

theorem own_cap {w : World} {H n c : Nat} {e : TypeId} {sz : Nat} {A : Option Addr} {xs : List Value} (h : w.ownsRow H e sz (.slice A n c) n xs) : n ≤ c := by
  obtain ⟨A', c', hv, hle, -⟩ := slice_of h
  cases hv; exact hle
def freshL : List Nat := buildL 256 [] [] []
theorem freshL_len : freshL.length = 256 := by decide +kernel
theorem freshL_lt : ∀ x ∈ freshL, x < 18446744073709551616 := by decide +kernel
end Go.Proofs.YtoaepffpjoibaaaGreat

namespace Go.Proofs.YtoaepffpjoibaaaGreat
open Go.RowKit

theorem rc_of {ws : List Nat} (T : List Nat) (h0 : hpErr ws = 0) (hs : slsOk ws = true) (ht : ∀ a ∈ T, tb ws a ≠ 0) (h1 : ∀ i, i < 16 → (slAt ws i).used = true → (slAt ws i).at_.toNat ∈ T)
    (h2 : ∀ a ∈ T, ∀ i, i < 8 → (flds ws a)[i]? = some 3 → wd ws (a + 2 + i) ≠ 0 → min (wd ws (a + 2 + i)) 2048 ∈ T) (h3 : ∀ a ∈ T, Rch ws a) (h4 : T.Pairwise (· < ·)) : rcErr ws = 0 ∧ rcOut ws = T.map (fun a : Nat => (a : Int)) := by
  have hall : ∀ a, Rch ws a → a ∈ T := by
    intro a ha
    induction ha with
    | slot i hi hu => exact h1 i hi hu
    | ref a i ha ht hf hv ih =>
      have := (List.getElem?_eq_some_iff.1 hf).1
      exact h2 a ih i (by have := flds_le ws a; omega) hf hv
  have he : rcErr ws = 0 := rc_ok h0 hs (fun a ha => ht a (hall a ha))
  refine ⟨he, inc_ext (rcOut_inc he) ?_ fun x => ?_⟩
  · rw [List.pairwise_map]
    exact List.Pairwise.imp (fun {a b} hab => by omega) h4
  · rw [rcOut_mem he, List.mem_map]
    constructor
    · rintro ⟨a, rfl, -, hr⟩
      exact ⟨a, hall a hr, rfl⟩
    · rintro ⟨a, ha, rfl⟩
      exact ⟨a, rfl, tb_lt (ht a ha), h3 a ha⟩
theorem wtOut_none {ws : List Nat} (h : rcErr ws = 0) (hk : ∀ b ∈ hpOut ws, b.kind ≠ 1) : wtOut ws = [] := by
  rw [List.eq_nil_iff_forall_not_mem]
  intro e he
  obtain ⟨a, hm, -, -, -, -, g2, -⟩ := wtOut_mem h he
  exact hk _ hm g2
theorem fresh_hp : hpErr freshL = 0 := by decide +kernel
theorem fresh_sl : slsOk freshL = true := by decide +kernel
theorem fresh_us : ∀ i, i < 16 → (slAt freshL i).used = true → (slAt freshL i).at_.toNat ∈ ([] : List Nat) := by decide +kernel
theorem fresh_kd : ∀ b ∈ hpOut freshL, b.kind ≠ 1 := by decide +kernel
theorem fresh_rc : rcErr freshL = 0 ∧ rcOut freshL = [] := rc_of [] fresh_hp fresh_sl (fun a h => absurd h (by simp)) fresh_us (fun a h => absurd h (by simp)) (fun a h => absurd h (by simp)) List.Pairwise.nil
theorem fresh_wt : wtOut freshL = [] := wtOut_none fresh_rc.1 fresh_kd
theorem pairL_lt : ∀ x ∈ pairL, x < 18446744073709551616 := by decide +kernel
theorem pair_hp : hpErr pairL = 0 := by decide +kernel
theorem pair_sl : slsOk pairL = true := by decide +kernel
theorem pair_tb : ∀ a ∈ [132], tb pairL a ≠ 0 := by decide +kernel
theorem pair_us : ∀ i, i < 16 → (slAt pairL i).used = true → (slAt pairL i).at_.toNat ∈ [132] := by decide +kernel
theorem pair_rf : ∀ a ∈ [132], ∀ i, i < 8 → (flds pairL a)[i]? = some 3 → wd pairL (a + 2 + i) ≠ 0 → min (wd pairL (a + 2 + i)) 2048 ∈ [132] := by decide +kernel
theorem pair_s0 : (slAt pairL 0).used = true ∧ (slAt pairL 0).at_.toNat = 132 := by decide +kernel
theorem pair_rc : rcErr pairL = 0 ∧ rcOut pairL = [132] := rc_of [132] pair_hp pair_sl pair_tb pair_us pair_rf (fun a h => by
  rw [List.mem_singleton] at h
  subst h
  have := Rch.slot (ws := pairL) 0 (by omega) pair_s0.1
  rw [pair_s0.2] at this
  exact this) (List.pairwise_singleton _ _)
def noneL : List Nat := pairL.set 112 0
theorem noneL_len : noneL.length = 256 := by unfold noneL; rw [List.length_set, pairL_len]
theorem noneL_lt : ∀ x ∈ noneL, x < 18446744073709551616 := by decide +kernel
theorem none_hp : hpErr noneL = 0 := by decide +kernel
theorem none_sl : slsOk noneL = true := by decide +kernel
theorem none_us : ∀ i, i < 16 → (slAt noneL i).used = true → (slAt noneL i).at_.toNat ∈ ([] : List Nat) := by decide +kernel
theorem none_rc : rcErr noneL = 0 ∧ rcOut noneL = [] := rc_of [] none_hp none_sl (fun a h => absurd h (by simp)) none_us (fun a h => absurd h (by simp)) (fun a h => absurd h (by simp)) List.Pairwise.nil
end Go.Proofs.YtoaepffpjoibaaaGreat

namespace Go.Proofs.YtoaepffpjoibaaaGreat
open Go.RowKit

theorem chs_get {L : List Ch} {outs : List (List En)} (h : L.map Ch.l = outs) {k : Nat} (hk : k < L.length) : ∃ h2 : k < outs.length, outs[k] = L[k].l := by
  subst h
  exact ⟨by rw [List.length_map]; exact hk, by rw [List.getElem_map]⟩

end Go.Proofs.YtoaepffpjoibaaaGreat

namespace Go.Proofs.YtoaepffpjoibaaaGreat
open Go.RowKit

theorem hpOut_few (ws : List Nat) : (hpOut ws).length ≤ ws.length := by
  unfold hpOut
  split
  · rename_i h
    obtain ⟨h1, l, h2, -⟩ := hpErr_zero h
    have hb := (sizeOk_iff _).1 h1
    have := (blocks_chain (by omega) _ _ h2 (by omega) (by omega) (by omega)).1
    rw [h2]; simp only [Option.getD_some]; omega
  · simp
theorem mzS_few {p : Nat} {x : List Nat} : mzS p x ≤ x.length + 3 := by
  unfold mzS stM
  split
  · split
    · by_cases h : rcErr x = 0
      · rw [wtOut_eq h, List.length_map]
        have h1 := wntL_len (seenL x) (hpOut x)
        have h2 := hpOut_few x
        omega
      · unfold wtOut; rw [if_neg h]; simp
    · split
      · by_cases h : hpErr x = 0
        · have hw : wnOut x = wantE (hpOut x) 128 := by unfold wnOut; rw [if_pos h]
          have h1 := wantE_len (hpOut x) 128
          have h2 := hpOut_few x
          rw [hw]; omega
        · unfold wnOut; rw [if_neg h]; simp
      · omega
  · omega
theorem sm_on {ws y : List Nat} {outs : List (List En)} (ho : ∀ v ∈ ws, v < 18446744073709551616) (h : sgAll ws = (0, outs, y)) :
    stX ws outs outs.length = y ∧ outs.length ≤ ws.length + 3 ∧ prErr ws = 0 ∧ ∀ i (hi : i < outs.length), Small ws.length outs[i] ∧ (stX ws outs i).length = ws.length ∧ (stX ws outs (i + 1)).length = ws.length ∧ (∀ v ∈ stX ws outs (i + 1), v < 18446744073709551616) ∧ prErr (stX ws outs (i + 1)) = 0 ∧
      onW (stX ws outs i) (stX ws outs (i + 1)) ∧ (i + 1 < outs.length → wd (stX ws outs (i + 1)) 16 = wd (stX ws outs i) 16) := by
  obtain ⟨hck, hon⟩ := sg_on ho h
  have ha : allE (wd ws 16) ws = (0, outs, y) := by unfold sgAll at h; rw [if_pos hck] at h; exact h
  obtain ⟨e1, -⟩ := all_last ho ha
  refine ⟨e1, Nat.le_trans (all_len ho ha) mzS_few, (ck_parts hck).1, fun i hi => ?_⟩
  obtain ⟨g1, g2, -, ⟨_, g4⟩, g5⟩ := hon i hi
  have hk := sg_ok g1 (by rw [g4])
  have hp := putS_lt g1 (by rw [g4])
  rw [g4] at hk hp
  dsimp only at hk hp
  have h9 : i + 1 < outs.length → wd (stX ws outs (i + 1)) 16 = wd (stX ws outs i) 16 := fun hl => by rw [(hon (i + 1) hl).2.2.2.2, g5]
  rw [stX_succ hi] at h9 ⊢
  refine ⟨?_, g2, by rw [putE_len]; exact g2, hp, hk.2.2.1, hk.2.2.2.1, h9⟩
  have := hk.2.1
  rw [g2] at this
  exact this
/-- What a walk needs of a step of the phase line. -/
theorem on_dec {ws xs : List Nat} (h : onW ws xs) : (wd xs 16 = wd ws 16 ∧ wd ws 17 ≤ wd xs 17 ∧ wd ws 18 ≤ wd xs 18) ∨ wd ws 16 < wd xs 16 := by
  by_cases e : wd xs 16 = wd ws 16
  · exact .inl ⟨e, h.2 e⟩
  · exact .inr (by have := h.1; omega)

end Go.Proofs.YtoaepffpjoibaaaGreat

namespace Go.Proofs.YtoaepffpjoibaaaGreat

/-- In the phase of marks: what one step is. -/
theorem mk_step {x : List Nat} (p1 : wd x 16 = 1) (h : (sgOne x).1 = 0) : rcErr x = 0 ∧ sgOne x = (0, batE (wtOut x) 2) := by
  have hck : ckErr x = 0 := by
    by_cases h0 : ckErr x = 0
    · exact h0
    · unfold sgOne at h; rw [if_neg h0] at h; exact absurd h h0
  have hrc : rcErr x = 0 := by
    by_cases h0 : rcErr x = 0
    · exact h0
    · unfold sgOne at h; rw [if_pos hck, if_pos p1, if_neg h0] at h; exact absurd h h0
  exact ⟨hrc, by unfold sgOne; rw [if_pos hck, if_pos p1, if_pos hrc]⟩
/-- In the phase of next-words: what one step is. -/
theorem fwd_step2 {x : List Nat} (p2 : wd x 16 = 2) (h : (sgOne x).1 = 0) : hpErr x = 0 ∧ sgOne x = (0, batE (wnOut x) 3) := by
  have hck : ckErr x = 0 := by
    by_cases h0 : ckErr x = 0
    · exact h0
    · unfold sgOne at h; rw [if_neg h0] at h; exact absurd h h0
  have p1 : ¬ wd x 16 = 1 := by omega
  have hhp : hpErr x = 0 := by
    by_cases h0 : hpErr x = 0
    · exact h0
    · unfold sgOne at h; rw [if_pos hck, if_neg p1, if_pos p2, if_neg h0] at h; exact absurd h h0
  exact ⟨hhp, by unfold sgOne; rw [if_pos hck, if_neg p1, if_pos p2, if_pos hhp]⟩
/-- A step that stays in the phase of marks keeps what is reached. -/
theorem mk_keep {x : List Nat} (p1 : wd x 16 = 1) (h : (sgOne x).1 = 0) (h32 : 32 ≤ (wtOut x).length) : rcErr (putE x (sgOne x).2) = 0 ∧ rcOut (putE x (sgOne x).2) = rcOut x := by
  obtain ⟨hrc, e⟩ := mk_step p1 h
  rw [e]
  dsimp only
  rw [batE_great h32]
  obtain ⟨g1, g2, -⟩ := (puts_rm_sub hrc (List.take_sublist 31 _)).same hrc
  exact ⟨g1, g2⟩
/-- A step that does not stay: the few marks that are left, and the phase. -/
theorem mk_few {x : List Nat} (ho : ∀ v ∈ x, v < 18446744073709551616) (p1 : wd x 16 = 1) (h : (sgOne x).1 = 0) : wd (putE x (sgOne x).2) 16 = (if 32 ≤ (wtOut x).length then 1 else 2) := by
  have hck := (sg_ok ho h).1
  obtain ⟨hrc, e⟩ := mk_step p1 h
  rw [e]
  dsimp only
  obtain ⟨r1, r2⟩ := wt_rows hrc
  obtain ⟨g1, g2, g3, g4, g5, g6⟩ := bat_props hck p1 (.inl rfl) (wtOut_inc hrc) (fun x hx => by
    obtain ⟨i, hi⟩ := List.mem_iff_getElem?.1 hx
    exact r1 i x hi) (wtOut_v hrc)
  exact g4
/-- What is reached stays up to the last step of the phase of marks. -/
theorem mk_run {ws y : List Nat} {outs : List (List En)} (ho : ∀ v ∈ ws, v < 18446744073709551616) (h : sgAll ws = (0, outs, y)) (p1 : wd ws 16 = 1) : ∀ n, n < outs.length → rcErr (stX ws outs n) = 0 ∧ rcOut (stX ws outs n) = rcOut ws := by
  obtain ⟨hck, hon⟩ := sg_on ho h
  intro n
  induction n with
  | zero =>
    intro h0
    obtain ⟨g1, g2, -, ⟨_, g4⟩, g5⟩ := hon 0 h0
    rw [stX_zero] at g4 ⊢
    exact ⟨(mk_step p1 (by rw [g4])).1, rfl⟩
  | succ n ih =>
    intro h1
    obtain ⟨i1, i2⟩ := ih (by omega)
    obtain ⟨g1, g2, -, ⟨hn, g4⟩, g5⟩ := hon n (by omega)
    obtain ⟨-, -, -, -, k5⟩ := hon (n + 1) h1
    have hp : wd (stX ws outs n) 16 = 1 := by rw [g5]; exact p1
    have h0 : (sgOne (stX ws outs n)).1 = 0 := by rw [g4]
    have hf := mk_few g1 hp h0
    have hs : putE (stX ws outs n) (sgOne (stX ws outs n)).2 = stX ws outs (n + 1) := by rw [g4, stX_succ hn]
    rw [hs, k5, p1] at hf
    have h32 : 32 ≤ (wtOut (stX ws outs n)).length := by
      by_cases h3 : 32 ≤ (wtOut (stX ws outs n)).length
      · exact h3
      · rw [if_neg h3] at hf; omega
    obtain ⟨j1, j2⟩ := mk_keep hp h0 h32
    rw [hs] at j1 j2
    exact ⟨j1, j2.trans i2⟩

/-! Words of which those from 19 on have other marks alone -/
structure RmL (ws xs : List Nat) : Prop where
  len : xs.length = ws.length
  at_ : ∀ i, 19 ≤ i → wd xs i = wd ws i ∨ (128 ≤ i ∧ i % 2 = 0 ∧ splitOk (wd ws i) = true ∧ (rawBk (wd ws i)).kind = 1 ∧ ∃ m, wd xs i = mkVal (wd ws i) m)
section
variable {ws xs : List Nat}
theorem RmL.low (h : RmL ws xs) {i : Nat} (h19 : 19 ≤ i) (hi : i < 128) : wd xs i = wd ws i := by
  rcases h.at_ i h19 with h1 | h1
  · exact h1
  · omega
theorem RmL.odd (h : RmL ws xs) {i : Nat} (h19 : 19 ≤ i) (hi : i % 2 = 1) : wd xs i = wd ws i := by
  rcases h.at_ i h19 with h1 | h1
  · exact h1
  · omega
theorem RmL.sp (h : RmL ws xs) (i : Nat) (h19 : 19 ≤ i) : splitOk (wd xs i) = splitOk (wd ws i) := by
  rcases h.at_ i h19 with h1 | ⟨-, -, h3, h4, m, h5⟩
  · rw [h1]
  · rw [h5, h3, (mk_word h3 h4 m).1]
theorem RmL.raw (h : RmL ws xs) (i : Nat) (h19 : 19 ≤ i) : rawBk (wd xs i) = { rawBk (wd ws i) with mark := mkAt xs i } := by
  unfold mkAt
  rcases h.at_ i h19 with h1 | ⟨-, -, h3, h4, m, h5⟩
  · rw [h1]
  · rw [h5, (mk_word h3 h4 m).2.1]
theorem RmL.sz (h : RmL ws xs) (i : Nat) (h19 : 19 ≤ i) : (rawBk (wd xs i)).size = (rawBk (wd ws i)).size := by rw [h.raw i h19]
theorem RmL.szAt (h : RmL ws xs) (i : Nat) (h19 : 19 ≤ i) : szAt xs i = szAt ws i := by
  have h1 := h.sz i h19
  have e : ∀ w, (rawBk w).size = ((w / 65536 % 65536 : Nat) : Int) := fun _ => rfl
  rw [e, e] at h1
  unfold Proofs.YtoaepffpjoibaaaGreat.szAt
  exact Int.ofNat.inj h1
theorem RmL.stands (h : RmL ws xs) (i : Nat) (h19 : 19 ≤ i) : stands xs i = stands ws i := by
  unfold Proofs.YtoaepffpjoibaaaGreat.stands
  rw [h.sp i h19, h.sz i h19, h.len]
theorem RmL.bkAt (h : RmL ws xs) {i : Nat} (h19 : 19 ≤ i) (hi : i % 2 = 0) : bkAt xs i = mkB xs (bkAt ws i) := by
  unfold mkB
  have h1 : (Proofs.YtoaepffpjoibaaaGreat.bkAt ws i).at_.toNat = i := by rw [bkAt_at, Int.toNat_natCast]
  rw [h1]
  unfold Proofs.YtoaepffpjoibaaaGreat.bkAt
  rw [h.raw i h19, h.odd (i := i + 1) (by omega) (by omega)]
theorem RmL.blocks (h : RmL ws xs) : ∀ i l, blocks ws i = some l → i % 2 = 0 → 19 ≤ i → blocks xs i = some (l.map (mkB xs)) := by
  refine blocks_ind (fun i l => i % 2 = 0 → 19 ≤ i → Proofs.YtoaepffpjoibaaaGreat.blocks xs i = some (l.map (mkB xs))) (fun i hi _ _ => ?_) (fun i l hi hs hb ih h2 h19 => ?_)
  · exact blocks_end (by rw [h.len]; exact hi)
  · have hsz := stands_sz hs
    have ih := ih (by omega) (by omega)
    rw [blocks_step (by rw [h.len]; exact hi) (by rw [h.stands i h19]; exact hs), h.szAt i h19, ih, h.bkAt h19 h2]
    rfl
theorem fitB_mkL (h : RmL ws xs) {b : Bk} (hb : b.kind = 1 → tyA b + 1 < 128) : fitB xs (mkB xs b) = fitB ws b := by
  by_cases hk : b.kind = 1
  · have h2 := hb hk
    unfold fitB typedB
    show (b.kind != 1 || (typOk (wd xs (tyA b)) (wd xs (tyA b + 1)) && b.size == ((objSz (wd xs (tyA b) % 256) : Nat) : Int))) = _
    rw [h.low (by unfold tyA; omega) (by omega), h.low (by unfold tyA; omega) (by omega)]
  · rw [fit_other hk, fit_other (b := mkB xs b) hk]
theorem RmL.heap (h : RmL ws xs) (h0 : hpErr ws = 0) : hpErr xs = 0 ∧ hpOut xs = (hpOut ws).map (mkB xs) := by
  obtain ⟨h1, l, h2, h3, h4⟩ := hpErr_zero h0
  have hb := h.blocks 128 l h2 (by omega) (by omega)
  rw [h4]
  refine hpErr_ok (by rw [h.len]; exact h1) hb ?_
  rw [List.all_map, List.all_eq_true]
  rw [List.all_eq_true] at h3
  intro b hb2
  show fitB xs (mkB xs b) = true
  rw [fitB_mkL h (blocks_ty h2 (by omega) b hb2)]
  exact h3 b hb2
theorem RmL.tb (h : RmL ws xs) (h0 : hpErr ws = 0) (a : Nat) : tb xs a = tb ws a := by
  unfold Proofs.YtoaepffpjoibaaaGreat.tb
  rw [(h.heap h0).2, h.len, tabL_mk]
theorem RmL.slAt (h : RmL ws xs) {i : Nat} (hi : i < 16) : slAt xs i = slAt ws i := by
  unfold Proofs.YtoaepffpjoibaaaGreat.slAt
  rw [h.low (by omega) (by omega)]
theorem RmL.slsOk (h : RmL ws xs) : slsOk xs = slsOk ws := by
  rw [Bool.eq_iff_iff, slsOk_iff, slsOk_iff]
  unfold slsTo
  constructor
  · intro h1 i hi; rw [← h.slAt hi]; exact h1 i hi
  · intro h1 i hi; rw [h.slAt hi]; exact h1 i hi
theorem RmL.flds (h : RmL ws xs) (h0 : hpErr ws = 0) {a : Nat} (ha : Proofs.YtoaepffpjoibaaaGreat.tb ws a ≠ 0) : flds xs a = flds ws a := by
  obtain ⟨ho, -⟩ := tb_obj h0 ha
  have := obj_typ ho
  have h19 := ho.1
  unfold Proofs.YtoaepffpjoibaaaGreat.flds
  rw [h.raw a (by omega)]
  dsimp only
  rw [h.low (by omega) (by omega), h.low (by omega) (by omega)]
/-- A field of an object that is reached is no header. -/
theorem RmL.ref (h : RmL ws xs) (hg : Good ws) (h0 : hpErr ws = 0) {a i : Nat} (ha : Rch ws a) (ht : Proofs.YtoaepffpjoibaaaGreat.tb ws a ≠ 0) (hf : (Proofs.YtoaepffpjoibaaaGreat.flds ws a)[i]? = some 3) : wd xs (a + 2 + i) = wd ws (a + 2 + i) := by
  have h19 := (tb_obj h0 ht).1.1
  rcases h.at_ (a + 2 + i) (by omega) with h1 | ⟨-, -, h3, -⟩
  · exact h1
  · exfalso
    have hb := splitOk_big h3
    have h4 := hg _ (Rch.ref a i ha ht hf (by omega))
    rw [Nat.min_eq_right (by omega)] at h4
    have := tb_lt h4
    have := (fr_bd ws (hpErr_zero h0).1).2.1
    omega
theorem RmL.rch (h : RmL ws xs) (hg : Good ws) (h0 : hpErr ws = 0) (a : Nat) : Rch xs a ↔ Rch ws a := by
  constructor
  · intro ha
    induction ha with
    | slot i hi hu => rw [h.slAt hi] at hu ⊢; exact Rch.slot i hi hu
    | ref a i ha ht hf hv ih =>
      rw [h.tb h0] at ht
      rw [h.flds h0 ht] at hf
      rw [h.ref hg h0 ih ht hf] at hv ⊢
      exact Rch.ref a i ih ht hf hv
  · intro ha
    induction ha with
    | slot i hi hu => rw [← h.slAt hi] at hu ⊢; exact Rch.slot i hi hu
    | ref a i ha ht hf hv ih =>
      rw [← h.ref hg h0 ha ht hf] at hv ⊢
      exact Rch.ref a i ih (by rw [h.tb h0]; exact ht) (by rw [h.flds h0 ht]; exact hf) hv
/-- The same is reached. -/
theorem RmL.same (h : RmL ws xs) (h0 : rcErr ws = 0) : rcErr xs = 0 ∧ rcOut xs = rcOut ws ∧ seenL xs = seenL ws ∧ hpErr xs = 0 ∧ hpOut xs = (hpOut ws).map (mkB xs) := by
  obtain ⟨h1, h2, h3⟩ := rcErr_zero h0
  have hr := h.rch h3 h1
  have hh := h.heap h1
  have hg : Good xs := fun a ha => by rw [h.tb h1]; exact h3 a ((hr a).1 ha)
  have he : rcErr xs = 0 := rc_ok hh.1 (by rw [h.slsOk]; exact h2) hg
  have hs : seenL xs = seenL ws := by
    unfold seenL
    rw [h.len]
    refine List.map_congr_left fun a _ => ?_
    exact decide_eq_decide.2 (hr a)
  refine ⟨he, ?_, hs, hh⟩
  rw [rcOut_seen he, rcOut_seen h0, hs, h.len]
end

/-- What stands at a place behind changes depends on that place alone. -/
theorem putE_agree {i : Nat} : ∀ {l : List En} {x z : List Nat}, z.length = x.length → wd z i = wd x i → wd (putE z l) i = wd (putE x l) i := by
  intro l
  induction l with
  | nil => intro x z _ h; exact h
  | cons e l ih =>
    intro x z hl h
    simp only [putE]
    rw [hl]
    split
    · refine ih (by rw [List.length_set, List.length_set, hl]) ?_
      rename_i hr
      by_cases hi : i = e.a.toNat
      · subst hi
        unfold wd
        rw [List.getElem?_set_self (by omega), List.getElem?_set_self (by omega)]
      · unfold wd
        rw [List.getElem?_set_ne (by omega), List.getElem?_set_ne (by omega)]
        exact h
    · exact ih hl h
/-- The last step of the phase of marks: as putting all marks, but for the phase. -/
theorem rml_last {x : List Nat} (h : rcErr x = 0) (p : Nat) : RmL x (putE x (⟨16, p⟩ :: wtOut x)) := by
  have hr := puts_rm h
  refine ⟨putE_len _ _, fun i h19 => ?_⟩
  have e : wd (putE x (⟨16, p⟩ :: wtOut x)) i = wd (putE x (wtOut x)) i := by
    simp only [putE]
    split
    · refine putE_agree (by rw [List.length_set]) ?_
      unfold wd
      rw [List.getElem?_set_ne (by simp; omega)]
    · rfl
  rw [e]
  exact hr.at_ i

theorem last_wd {x : List Nat} {l : List En} (p : Nat) {i : Nat} (h19 : 19 ≤ i) : wd (putE x (⟨16, p⟩ :: l)) i = wd (putE x l) i := by
  simp only [putE]
  split
  · refine putE_agree (by rw [List.length_set]) ?_
    unfold wd
    rw [List.getElem?_set_ne (by simp; omega)]
  · rfl
/-- Behind the last step of the phase of marks: what is reached is what is marked. -/
theorem last_mk {x : List Nat} (h : rcErr x = 0) (p : Nat) : rcErr (putE x (⟨16, p⟩ :: wtOut x)) = 0 ∧ rcOut (putE x (⟨16, p⟩ :: wtOut x)) = rcOut x ∧ hpErr (putE x (⟨16, p⟩ :: wtOut x)) = 0 ∧ mkdL (hpOut (putE x (⟨16, p⟩ :: wtOut x))) = rcOut x := by
  obtain ⟨g1, g2, g3, g4, g5⟩ := (rml_last h p).same h
  refine ⟨g1, g2, g4, ?_⟩
  rw [g5, ← puts_mkd h]
  congr 1
  refine List.map_congr_left fun b hb => ?_
  obtain ⟨a, rfl, a1, -⟩ := (hp_row (rcErr_zero h).1).1 b hb
  unfold mkB mkAt
  rw [bkAt_at, Int.toNat_natCast, last_wd p (by omega)]

/-- The end of a run in the phase of marks. -/
theorem mk_end {ws y : List Nat} {outs : List (List En)} (ho : ∀ v ∈ ws, v < 18446744073709551616) (h : sgAll ws = (0, outs, y)) (p1 : wd ws 16 = 1) (h0 : 0 < outs.length) : rcErr y = 0 ∧ rcOut y = rcOut ws ∧ hpErr y = 0 ∧ mkdL (hpOut y) = rcOut ws := by
  obtain ⟨hck, hon⟩ := sg_on ho h
  have ha : allE (wd ws 16) ws = (0, outs, y) := by unfold sgAll at h; rw [if_pos hck] at h; exact h
  obtain ⟨e1, e2⟩ := all_last ho ha
  obtain ⟨n, hn⟩ : ∃ n, outs.length = n + 1 := ⟨outs.length - 1, by omega⟩
  obtain ⟨i1, i2⟩ := mk_run ho h p1 n (by omega)
  obtain ⟨g1, g2, -, ⟨hn2, g4⟩, g5⟩ := hon n (by omega)
  have hp : wd (stX ws outs n) 16 = 1 := by rw [g5]; exact p1
  have hz : (sgOne (stX ws outs n)).1 = 0 := by rw [g4]
  have hs : putE (stX ws outs n) (sgOne (stX ws outs n)).2 = y := by rw [g4, ← e1, hn, stX_succ hn2]
  obtain ⟨-, e⟩ := mk_step hp hz
  by_cases h32 : 32 ≤ (wtOut (stX ws outs n)).length
  · exfalso
    have hf := mk_few g1 hp hz
    rw [hs, if_pos h32] at hf
    obtain ⟨j1, -⟩ := mk_keep hp hz h32
    rw [hs] at j1
    rcases e2 with e2 | ⟨-, e2⟩
    · omega
    · unfold sgOne at e2
      have hpr := (sg_ok g1 hz).2.2.1
      rw [hs] at hpr
      have hln : lnErr y = 0 := by
        unfold lnErr
        rw [if_pos hpr, if_neg (fun h9 => by have := h9.1; omega)]
      have hk : ckErr y = 0 := by
        unfold ckErr
        rw [if_pos hln, if_neg (by omega), if_neg (by omega)]
        exact (rcErr_zero j1).1
      rw [if_pos hk, if_pos hf, if_pos j1] at e2
      exact absurd e2 (by simp)
  · rw [e] at hs
    dsimp only at hs
    rw [batE_few h32] at hs
    obtain ⟨k1, k2, k3, k4⟩ := last_mk i1 2
    rw [hs] at k1 k2 k3 k4
    exact ⟨k1, k2.trans i2, k3, k4.trans i2⟩
end Go.Proofs.YtoaepffpjoibaaaGreat

namespace Go.Proofs.YtoaepffpjoibaaaGreat
open Go.RowKit

/-- The addresses of the first k fields of an object that are references. -/
def refsN (ws : List Nat) (a k : Nat) : List Int := ((List.range k).filter fun i => (flds ws a)[i]? == some 3).map fun i => ((a + 2 + i : Nat) : Int)
theorem refsN_succ (ws : List Nat) (a k : Nat) : refsN ws a (k + 1) = refsN ws a k ++ (if (flds ws a)[k]? = some 3 then [((a + 2 + k : Nat) : Int)] else []) := by
  unfold refsN
  rw [List.range_succ, List.filter_append, List.map_append]
  congr 1
  by_cases h : (flds ws a)[k]? = some 3
  · simp [h]
  · simp [h]
theorem refsN_len (ws : List Nat) (a k : Nat) : (refsN ws a k).length ≤ k := by
  unfold refsN
  rw [List.length_map]
  have := List.length_filter_le (fun i => (flds ws a)[i]? == some 3) (List.range k)
  rwa [List.length_range] at this
def refsL (ws : List Nat) (a : Nat) : List Int := refsN ws a (flds ws a).length
theorem refsL_mem {ws : List Nat} {a : Nat} {x : Int} : x ∈ refsL ws a ↔ ∃ i : Nat, x = ((a + 2 + i : Nat) : Int) ∧ (flds ws a)[i]? = some 3 := by
  unfold refsL refsN
  rw [List.mem_map]
  constructor
  · rintro ⟨i, hi, rfl⟩
    rw [List.mem_filter] at hi
    exact ⟨i, rfl, by simpa using hi.2⟩
  · rintro ⟨i, rfl, hi⟩
    refine ⟨i, List.mem_filter.2 ⟨List.mem_range.2 (List.getElem?_eq_some_iff.1 hi).1, by simpa using hi⟩, rfl⟩
/-- What the first k of some references refer to. -/
def valsN (ws : List Nat) (R : List Int) (k : Nat) : List Nat := (R.take k).filterMap fun r => if wd ws r.toNat ≠ 0 then some (wd ws r.toNat) else none
theorem valsN_succ (ws : List Nat) (R : List Int) {k : Nat} (h : k < R.length) : valsN ws R (k + 1) = valsN ws R k ++ (if wd ws R[k].toNat ≠ 0 then [wd ws R[k].toNat] else []) := by
  unfold valsN
  rw [List.take_succ_eq_append_getElem h, List.filterMap_append]
  congr 1
  by_cases h1 : wd ws R[k].toNat ≠ 0
  · rw [if_pos h1]
    simp [h1]
  · rw [if_neg h1]
    have h1 : wd ws R[k].toNat = 0 := by omega
    simp [h1]
theorem valsN_mem {ws : List Nat} {R : List Int} {x : Nat} : x ∈ valsN ws R R.length ↔ ∃ r ∈ R, wd ws r.toNat ≠ 0 ∧ x = wd ws r.toNat := by
  unfold valsN
  rw [List.take_length, List.mem_filterMap]
  constructor
  · rintro ⟨r, hr, h⟩
    split at h
    · rename_i h2
      injection h with h
      exact ⟨r, hr, h2, h.symm⟩
    · cases h
  · rintro ⟨r, hr, h, rfl⟩
    exact ⟨r, hr, by rw [if_pos h]⟩
def allV (ws : List Nat) (a : Int) : List Nat := valsN ws (refsL ws a.toNat) (refsL ws a.toNat).length
/-- Which addresses some addresses are. -/
def toldL (n : Nat) (l : List Nat) : List Bool := l.foldl (fun t a => t.set a true) (List.replicate n false)
theorem toldL_snoc (n : Nat) (l : List Nat) (a : Nat) : toldL n (l ++ [a]) = (toldL n l).set a true := by
  unfold toldL
  rw [List.foldl_append]
  rfl
theorem toldL_len (n : Nat) (l : List Nat) : (toldL n l).length = n := by
  unfold toldL
  have key : ∀ (l : List Nat) (t : List Bool), (l.foldl (fun t a => t.set a true) t).length = t.length := by
    intro l
    induction l with
    | nil => intro t; rfl
    | cons a l ih => intro t; rw [List.foldl_cons, ih, List.length_set]
  rw [key, List.length_replicate]
theorem toldL_get (n : Nat) (l : List Nat) (x : Nat) (hx : x < n) : (toldL n l)[x]? = some true ↔ x ∈ l := by
  have key : ∀ (l : List Nat) (t : List Bool), t.length = n → ((l.foldl (fun t a => t.set a true) t)[x]? = some true ↔ x ∈ l ∨ t[x]? = some true) := by
    intro l
    induction l with
    | nil => intro t _; simp
    | cons a l ih =>
      intro t ht
      rw [List.foldl_cons, ih _ (by rw [List.length_set]; exact ht), List.getElem?_set, List.mem_cons]
      by_cases e : a = x
      · subst e
        simp [ht, hx]
      · rw [if_neg e]
        constructor
        · rintro (h | h)
          · exact .inl (.inr h)
          · exact .inr h
        · rintro ((h | h) | h)
          · exact absurd h.symm e
          · exact .inl h
          · exact .inr h
  unfold toldL
  rw [key l _ (by rw [List.length_replicate])]
  rw [List.getElem?_replicate, if_pos hx]
  simp
/-- What is told behind all objects that are reached: just what is reached. -/
theorem rch_val {ws : List Nat} (h : rcErr ws = 0) {a : Nat} (ha : Rch ws a) {r : Int} (hr : r ∈ refsL ws a) : (∃ j : Nat, r = (j : Int) ∧ j < ws.length) ∧ wd ws r.toNat < ws.length ∧ (wd ws r.toNat ≠ 0 → Rch ws (wd ws r.toNat)) := by
  obtain ⟨h1, h2, h3⟩ := rcErr_zero h
  obtain ⟨i, rfl, hi⟩ := refsL_mem.1 hr
  have hb := fr_bd ws (hpErr_zero h1).1
  obtain ⟨ho, -⟩ := tb_obj h1 (h3 a ha)
  have hin := flds_in ho (List.getElem?_eq_some_iff.1 hi).1
  refine ⟨⟨_, rfl, hin⟩, ?_⟩
  rw [Int.toNat_natCast]
  by_cases hv : wd ws (a + 2 + i) = 0
  · exact ⟨by omega, fun h => absurd hv h⟩
  · have hr := Rch.ref a i ha (h3 a ha) hi hv
    have ht := tb_lt (h3 _ hr)
    have e : min (wd ws (a + 2 + i)) 2048 = wd ws (a + 2 + i) := by omega
    rw [e] at hr ht
    exact ⟨ht, fun _ => hr⟩
theorem slTo_mem {ws : List Nat} {x : Nat} : x ∈ slTo ws 16 ↔ ∃ i, i < 16 ∧ (slAt ws i).used = true ∧ x = (slAt ws i).at_.toNat := by
  unfold slTo
  rw [List.mem_filterMap]
  constructor
  · rintro ⟨i, hi, h⟩
    split at h
    · rename_i h2
      injection h with h
      exact ⟨i, List.mem_range.1 hi, h2, h.symm⟩
    · cases h
  · rintro ⟨i, hi, h2, rfl⟩
    exact ⟨i, List.mem_range.2 hi, by rw [if_pos h2]⟩
theorem just_told {ws : List Nat} (h : rcErr ws = 0) : toldL ws.length (slTo ws 16 ++ (rcOut ws).flatMap (allV ws)) = seenL ws := by
  obtain ⟨h1, h2, h3⟩ := rcErr_zero h
  have hb := fr_bd ws (hpErr_zero h1).1
  apply List.ext_getElem?
  intro x
  by_cases hx : x < ws.length
  · have key : (toldL ws.length (slTo ws 16 ++ (rcOut ws).flatMap (allV ws)))[x]? = some true ↔ (seenL ws)[x]? = some true := by
      have e2 : (seenL ws)[x]? = some true ↔ Rch ws x := by
        rw [← seenL_get hx, List.getElem?_eq_getElem (by rw [seenL_len]; exact hx)]
        simp
      rw [toldL_get _ _ _ hx, e2, List.mem_append, List.mem_flatMap]
      constructor
      · rintro (h4 | ⟨a, ha, h4⟩)
        · obtain ⟨i, hi, hu, rfl⟩ := slTo_mem.1 h4
          exact Rch.slot i hi hu
        · obtain ⟨j, rfl, -, hj⟩ := (rcOut_mem h a).1 ha
          unfold allV at h4
          rw [Int.toNat_natCast] at h4
          obtain ⟨r, hr, hv, rfl⟩ := valsN_mem.1 h4
          exact (rch_val h hj hr).2.2 hv
      · intro hr
        cases hr with
        | slot i hi hu => exact .inl (slTo_mem.2 ⟨i, hi, hu, rfl⟩)
        | ref a i ha ht hf hv =>
          refine .inr ⟨(a : Int), (rcOut_mem h _).2 ⟨a, rfl, tb_lt ht, ha⟩, ?_⟩
          unfold allV
          rw [Int.toNat_natCast]
          refine valsN_mem.2 ⟨((a + 2 + i : Nat) : Int), refsL_mem.2 ⟨i, rfl, hf⟩, ?_⟩
          rw [Int.toNat_natCast]
          exact ⟨hv, by omega⟩
    have l1 : x < (toldL ws.length (slTo ws 16 ++ (rcOut ws).flatMap (allV ws))).length := by rw [toldL_len]; exact hx
    have l2 : x < (seenL ws).length := by rw [seenL_len]; exact hx
    rw [List.getElem?_eq_getElem l1, List.getElem?_eq_getElem l2] at key ⊢
    simp only [Option.some.injEq] at key ⊢
    exact Bool.eq_iff_iff.2 key
  · rw [List.getElem?_eq_none (by rw [toldL_len]; omega), List.getElem?_eq_none (by rw [seenL_len]; omega)]
theorem seenTo_pre (S : List Bool) {k n : Nat} (h : k ≤ n) : ∃ t, seenTo S n = seenTo S k ++ t := by
  induction n with
  | zero => have : k = 0 := by omega
            subst this; exact ⟨[], by simp⟩
  | succ n ih =>
    rcases Nat.lt_or_ge n k with h1 | h1
    · have : k = n + 1 := by omega
      subst this; exact ⟨[], by simp⟩
    · obtain ⟨t, ht⟩ := ih h1
      exact ⟨t ++ (if S[n]?.getD false = true then [(n : Int)] else []), by rw [seenTo_succ, ht, List.append_assoc]⟩
theorem seenTo_at {S : List Bool} {k n : Nat} (h : k < n) (hs : S[k]?.getD false = true) : (seenTo S n)[(seenTo S k).length]? = some (k : Int) := by
  obtain ⟨t, ht⟩ := seenTo_pre S (show k + 1 ≤ n by omega)
  rw [ht, seenTo_succ, if_pos hs, List.append_assoc, List.getElem?_append_right (Nat.le_refl _)]
  simp
/-- Each slot that is used has an address that is reached. -/
theorem slot_in {ws : List Nat} (h : rcErr ws = 0) {i : Nat} (hi : i < 16) (hu : (slAt ws i).used = true) : ∃ a : Nat, (slAt ws i).at_ = (a : Int) ∧ a < ws.length := by
  obtain ⟨h1, h2, h3⟩ := rcErr_zero h
  have := tb_lt (h3 _ (Rch.slot i hi hu))
  exact ⟨(slAt ws i).at_.toNat, by show _ = (((slRaw (wd ws (112 + i))).at_.toNat : Nat) : Int); have := (slRaw_bd (wd ws (112 + i))).2.2.1; show (slRaw (wd ws (112 + i))).at_ = _; omega, this⟩
/-- What fieldsOf finds. -/
theorem obj_from {ws : List Nat} (h : rcErr ws = 0) {a : Nat} (ha : Rch ws a) : frErr ws (a : Int) = 0 ∧ (∃ h2 : 0 < (frOut ws (a : Int)).length, (frOut ws (a : Int))[0] = bkAt ws a) ∧ (bkAt ws a).kind = 1 ∧ (∃ t : Nat, (bkAt ws a).typ = (t : Int) ∧ t < 8 ∧ typOk (wd ws (96 + 2 * t)) (wd ws (96 + 2 * t + 1)) = true ∧ flds ws a = krOut (wd ws (96 + 2 * t)) (wd ws (96 + 2 * t + 1))) ∧ a + 2 + (flds ws a).length ≤ ws.length := by
  obtain ⟨h1, h2, h3⟩ := rcErr_zero h
  obtain ⟨ho, -⟩ := tb_obj h1 (h3 a ha)
  have hty := obj_typ ho
  obtain ⟨o1, o2, o3, o4, o5, o6, k, hk, e, hbk⟩ := ho
  have hsz := (hpErr_zero h1).1
  obtain ⟨f1, f2⟩ := frErr_some (ws := ws) (a := (a : Int)) hsz (by
    simp only [frArg, Bool.or_eq_false_iff, decide_eq_false_iff_not, bne_eq_false_iff_eq]; omega) (l := (hpOut ws).drop k) (by rw [Int.toNat_natCast]; exact hbk)
  have hfo := fit_obj (ws := ws) (b := bkAt ws a) o5
  rw [o6] at hfo
  have hfo := hfo.symm
  simp only [Bool.and_eq_true, beq_iff_eq] at hfo
  have hst := stands_sz o4
  have hcast : (((rawBk (wd ws a)).typ.toNat : Nat) : Int) = (rawBk (wd ws a)).typ := by
    show ((((wd ws a / 512 % 128 : Nat) : Int).toNat : Nat) : Int) = _
    rw [Int.toNat_natCast]; rfl
  refine ⟨f1, ?_, o5, ⟨(rawBk (wd ws a)).typ.toNat, hcast.symm, hty, hfo.1, rfl⟩, ?_⟩
  · rw [f2]
    refine ⟨by rw [List.length_drop]; omega, ?_⟩
    rw [List.getElem_drop]
    exact e
  · have h7 := hfo.2
    rw [bkAt_size] at h7
    have h8 : (flds ws a).length = (krOut (wd ws (tyA (bkAt ws a))) (wd ws (tyA (bkAt ws a) + 1))).length := rfl
    unfold objSz at h7
    omega
end Go.Proofs.YtoaepffpjoibaaaGreat

namespace Go.Proofs.YtoaepffpjoibaaaGreat
open Go.RowKit

theorem slFix_all {ws : List Nat} {m : List (Int × Int)} : ∀ k, (∀ i, i < k → ∃ o, slStep ws m i = some o) → ∃ o, slFix ws m k = some o ∧ ((∀ i, i < k → slStep ws m i = some []) → o = []) := by
  intro k
  induction k with
  | zero => intro _; exact ⟨[], rfl, fun _ => rfl⟩
  | succ k ih =>
    intro h
    obtain ⟨o, ho, hn⟩ := ih (fun i hi => h i (by omega))
    obtain ⟨x, hx⟩ := h k (by omega)
    refine ⟨o ++ x, by simp only [slFix, ho, hx, Option.map_some], fun h2 => ?_⟩
    have h3 := h2 k (by omega)
    rw [hx] at h3
    injection h3 with h3
    rw [h3, hn (fun i hi => h2 i (by omega)), List.append_nil]
theorem obFix_all {ws : List Nat} {m : List (Int × Int)} : ∀ R : List Int, (∀ r ∈ R, ∃ o, obStep ws m r.toNat = some o) → ∃ o, obFix ws m R = some o ∧ ((∀ r ∈ R, obStep ws m r.toNat = some []) → o = []) := by
  intro R
  induction R with
  | nil => intro _; exact ⟨[], rfl, fun _ => rfl⟩
  | cons r R ih =>
    intro h
    obtain ⟨o, ho, hn⟩ := ih (fun i hi => h i (by simp [hi]))
    obtain ⟨x, hx⟩ := h r (by simp)
    refine ⟨x ++ o, by simp only [obFix, ho, hx, Option.map_some], fun h2 => ?_⟩
    have h3 := h2 r (by simp)
    rw [hx] at h3
    injection h3 with h3
    rw [h3, hn (fun i hi => h2 i (by simp [hi])), List.append_nil]
theorem mvTo_live : ∀ {l : List Bk} {s : Int} {b : Bk}, b ∈ l → liveB b = true → ∃ t, mvTo (moves l s) b.at_ = some t := by
  intro l
  induction l with
  | nil => intro s b h; simp at h
  | cons x l ih =>
    intro s b h hb
    simp only [moves]
    by_cases hx : liveB x = true
    · rw [if_pos hx]
      simp only [mvTo]
      by_cases e : x.at_ = b.at_
      · exact ⟨s, by rw [if_pos e]⟩
      · rw [if_neg e]
        rcases List.mem_cons.1 h with rfl | h
        · exact absurd rfl e
        · exact ih h hb
    · rw [if_neg hx]
      rcases List.mem_cons.1 h with rfl | h
      · exact absurd hb hx
      · exact ih h hb
theorem moves_mem : ∀ {l : List Bk} {s : Int} {m : Int × Int}, m ∈ moves l s → ∃ b ∈ l, liveB b = true ∧ b.at_ = m.1 := by
  intro l
  induction l with
  | nil => intro s m h; simp [moves] at h
  | cons x l ih =>
    intro s m h
    simp only [moves] at h
    split at h
    · rename_i hx
      rcases List.mem_cons.1 h with rfl | h
      · exact ⟨x, by simp, hx, rfl⟩
      · obtain ⟨b, h1, h2⟩ := ih h
        exact ⟨b, by simp [h1], h2⟩
    · obtain ⟨b, h1, h2⟩ := ih h
      exact ⟨b, by simp [h1], h2⟩
theorem wantE_mem : ∀ {l : List Bk} {s : Int} {e : En}, e ∈ wantE l s → ∃ b ∈ l, b.kind = 1 ∧ e.a = b.at_ + 1 := by
  intro l
  induction l with
  | nil => intro s e h; simp [wantE] at h
  | cons x l ih =>
    intro s e h
    simp only [wantE, List.mem_append] at h
    rcases h with h | h
    · split at h
      · rename_i hx
        rw [List.mem_singleton] at h
        subst h
        exact ⟨x, by simp, hx.1, rfl⟩
      · simp at h
    · obtain ⟨b, h1, h2⟩ := ih h
      exact ⟨b, by simp [h1], h2⟩
theorem fwB_mem : ∀ {l : List Bk} {s : Int} {b : Bk}, b ∈ fwB l s → ∃ b0 ∈ l, b.at_ = b0.at_ ∧ b.kind = b0.kind ∧ b.mark = b0.mark ∧ b.typ = b0.typ := by
  intro l
  induction l with
  | nil => intro s b h; simp [fwB] at h
  | cons x l ih =>
    intro s b h
    simp only [fwB] at h
    rcases List.mem_cons.1 h with rfl | h
    · refine ⟨x, by simp, ?_⟩
      split <;> exact ⟨rfl, rfl, rfl, rfl⟩
    · obtain ⟨b0, h1, h2⟩ := ih h
      exact ⟨b0, by simp [h1], h2⟩
theorem fwB_has : ∀ {l : List Bk} {s : Int} {b : Bk}, b ∈ l → ∃ b2 ∈ fwB l s, b2.at_ = b.at_ ∧ b2.kind = b.kind := by
  intro l
  induction l with
  | nil => intro s b h; simp at h
  | cons x l ih =>
    intro s b h
    simp only [fwB]
    rcases List.mem_cons.1 h with rfl | h
    · refine ⟨_, List.mem_cons_self .., ?_⟩
      split <;> exact ⟨rfl, rfl⟩
    · obtain ⟨b2, h1, h2⟩ := ih (s := nextS x s) h
      exact ⟨b2, List.mem_cons_of_mem _ h1, h2⟩
theorem objF_isSome {l : List Bk} {a : Int} {b : Bk} (h : b ∈ l) (h1 : b.at_ = a) (h2 : b.kind = 1) : ∃ b2, objF l a = some b2 := by
  cases hq : objF l a with
  | some b2 => exact ⟨b2, rfl⟩
  | none =>
    unfold objF at hq
    rw [List.find?_eq_none] at hq
    exact absurd (by simp [h1, h2]) (hq b h)
theorem inc_uniq {l : List Bk} (h : l.Pairwise (fun a b => a.at_ < b.at_)) {a b : Bk} (ha : a ∈ l) (hb : b ∈ l) (e : a.at_ = b.at_) : a = b := by
  obtain ⟨i, hi, rfl⟩ := List.getElem_of_mem ha
  obtain ⟨j, hj, rfl⟩ := List.getElem_of_mem hb
  rw [List.pairwise_iff_getElem] at h
  rcases Nat.lt_trichotomy i j with h1 | h1 | h1
  · have := h i j hi hj h1; omega
  · subst h1; rfl
  · have := h j i hj hi h1; omega
theorem slWd_raw {w : Nat} (h : w < 18446744073709551616) : slWd (slRaw w) = w := by
  unfold slWd slRaw
  dsimp only
  rw [Int.toNat_natCast, Int.toNat_natCast]
  by_cases hu : w / 9223372036854775808 = 1
  · rw [show (w / 9223372036854775808 == 1) = true by rw [beq_iff_eq]; exact hu, if_pos rfl]; omega
  · rw [show (w / 9223372036854775808 == 1) = false by rw [beq_eq_false_iff_ne]; exact hu, if_neg (by decide)]; omega
/-- Other blocks' second words are no fields of an object. -/
theorem fld_apart {ws : List Nat} (h : hpErr ws = 0) {a : Nat} (ho : isObj ws a) {i : Nat} (hi : i < (flds ws a).length) {b : Bk} (hb : b ∈ hpOut ws) : b.at_ + 1 ≠ ((a + 2 + i : Nat) : Int) := by
  obtain ⟨o1, o2, o3, o4, o5, o6, k, hk, e, hbk⟩ := ho
  have hfo := fit_obj (ws := ws) (b := bkAt ws a) o5
  rw [o6] at hfo
  have hfo := hfo.symm
  simp only [Bool.and_eq_true, beq_iff_eq] at hfo
  have h7 := hfo.2
  rw [bkAt_size] at h7
  have h8 : (flds ws a).length = (krOut (wd ws (tyA (bkAt ws a))) (wd ws (tyA (bkAt ws a) + 1))).length := rfl
  unfold objSz at h7
  obtain ⟨j, hj, rfl⟩ := List.getElem_of_mem hb
  rcases Nat.lt_or_ge k j with h1 | h1
  · rw [blocks_step o3 o4] at hbk
    cases hq : blocks ws (a + szAt ws a) with
    | none => rw [hq] at hbk; cases hbk
    | some l' =>
      rw [hq] at hbk
      simp only [Option.map_some, Option.some.injEq] at hbk
      have hd : l' = (hpOut ws).drop (k + 1) := by
        have := congrArg (List.drop 1) hbk
        rw [List.drop_drop] at this
        simpa using this
      have hm : (hpOut ws)[j] ∈ l' := by
        rw [hd]
        refine List.mem_iff_getElem.2 ⟨j - (k + 1), by rw [List.length_drop]; omega, ?_⟩
        rw [List.getElem_drop]
        congr 1
        omega
      have := (blocks_inc _ _ hq).1 _ hm
      omega
  · have hp := (hp_row h).2
    rw [List.pairwise_iff_getElem] at hp
    have ha : (hpOut ws)[k].at_ = (a : Int) := by rw [e, bkAt_at]
    rcases Nat.lt_or_ge j k with h2 | h2
    · have := hp j k hj hk h2
      omega
    · have : j = k := by omega
      subst this
      omega
/-- FixupStill. -/
theorem still_plain {ws : List Nat} (h : rcErr ws = 0) (ho : ∀ x ∈ ws, x < 18446744073709551616) : ∃ (x1 x2 : List Nat) (M : List (Int × Int)), x1 = putE ws (wtOut ws) ∧ x2 = putE x1 (wnOut x1) ∧ hpErr x1 = 0 ∧ rdErr x2 128 128 = 0 ∧ rdMv x2 128 128 = M ∧ fsErr x2 = 0 ∧ (∀ m ∈ M, obErr x2 m.1 = 0) ∧
    ((∀ m ∈ M, m.1 = m.2) → fsOut x2 = [] ∧ ∀ m ∈ M, obOut x2 m.1 = []) := by
  obtain ⟨h1, h2, h3⟩ := rcErr_zero h
  have hrm := puts_rm h
  obtain ⟨g1, g2, g3, g4, g5⟩ := hrm.same h
  obtain ⟨x1, hx1⟩ : ∃ x1, x1 = putE ws (wtOut ws) := ⟨_, rfl⟩
  rw [← hx1] at hrm g1 g2 g3 g4 g5
  obtain ⟨l, k1, k2, k3, k4, k5, k6, k7, -, -⟩ := back_plain g4
  have hwn : wnOut x1 = wantE l 128 := by unfold wnOut; rw [if_pos g4, k2]
  obtain ⟨x2, hx2⟩ : ∃ x2, x2 = putE x1 (wantE l 128) := ⟨_, rfl⟩
  rw [← hx2] at k4 k5 k6 k7
  have hll : l = (hpOut ws).map (mkB x1) := by rw [← k2, g5]
  have hinc : l.Pairwise (fun a b => a.at_ < b.at_) := by rw [hll]; exact map_inc (hp_row h1).2
  have hbd := fr_bd ws (hpErr_zero h1).1
  have hlen1 : x1.length = ws.length := hrm.len
  have hlen2 : x2.length = ws.length := by rw [hx2, putE_len, hlen1]
  -- words of x2
  have hlow : ∀ p, p < 128 → wd x2 p = wd ws p := by
    intro p hp
    rw [hx2, putE_wd _ _ _ (fun e he => ?_), hrm.low hp]
    have := wantE_at _ _ k1 128 e he
    omega
  have hfl : ∀ {a i : Nat}, Rch ws a → (flds ws a)[i]? = some 3 → wd x2 (a + 2 + i) = wd ws (a + 2 + i) := by
    intro a i ha hi
    obtain ⟨hob, -⟩ := tb_obj h1 (h3 a ha)
    rw [hx2, putE_wd _ _ _ (fun e he => ?_), hrm.ref h3 h1 ha (h3 a ha) hi]
    obtain ⟨b, hb, -, e2⟩ := wantE_mem he
    rw [e2]
    rw [hll] at hb
    obtain ⟨b0, hb0, rfl⟩ := List.mem_map.1 hb
    have hap := fld_apart h1 hob (List.getElem?_eq_some_iff.1 hi).1 (b := b0) hb0
    exact hap
  -- each reached object is moved
  have hlive : ∀ {a : Nat}, Rch ws a → ∃ t, mvTo (moves l 128) (a : Int) = some t := by
    intro a ha
    obtain ⟨b, hb, e, hk, -⟩ := rch_mem h ha
    have hb2 : mkB x1 b ∈ l := by rw [hll]; exact List.mem_map_of_mem hb
    have hm : (mkB x1 b).mark = true := by
      rw [hx1, puts_mark h hb, e]
      have hal := tb_lt (h3 a ha)
      exact (seenAt_iff hal).2 ha
    obtain ⟨t, ht⟩ := mvTo_live (s := 128) hb2 (by unfold liveB; rw [hm, show (mkB x1 b).kind = 1 from hk]; rfl)
    refine ⟨t, ?_⟩
    rw [show (mkB x1 b).at_ = (a : Int) by show b.at_ = _; rw [e, bkAt_at]] at ht
    exact ht
  have hfix : ∀ {a : Nat}, Rch ws a → ∃ t, fixOf (moves l 128) a = some t ∧ mvTo (moves l 128) (a : Int) = some t := by
    intro a ha
    obtain ⟨t, ht⟩ := hlive ha
    have hal := tb_lt (h3 a ha)
    exact ⟨t, by unfold fixOf; rw [if_neg (by omega)]; exact ht, ht⟩
  have hfx : fxErr x2 = 0 := by unfold fxErr; rw [if_pos k6, k4]
  have hmv : fxMv x2 = moves l 128 := by rw [(fxErr_zero hfx).2.2, k5]
  have hsl : ∀ i, i < 16 → slAt x2 i = slAt ws i := fun i hi => by unfold slAt; rw [hlow _ (by omega)]
  have hso : slsOk x2 = true := by
    rw [slsOk_iff]
    intro i hi
    rw [hsl i hi]
    exact (slsOk_iff ws).1 h2 i hi
  -- the slots
  have hst : ∀ i, i < 16 → ∃ o, slStep x2 (moves l 128) i = some o ∧ ((∀ m ∈ moves l 128, m.1 = m.2) → o = []) := by
    intro i hi
    unfold slStep
    by_cases hu : (slAt x2 i).used = true
    · rw [if_pos hu]
      have hu2 := hu
      rw [hsl i hi] at hu2 ⊢
      obtain ⟨t, t1, t2⟩ := hfix (Rch.slot i hi hu2)
      rw [t1]
      dsimp only
      have hat : (((slAt ws i).at_.toNat : Nat) : Int) = (slAt ws i).at_ := Int.toNat_of_nonneg (slRaw_bd (wd ws (112 + i))).2.2.1
      by_cases he : wd x2 (112 + i) = slWd ⟨(slAt ws i).gen, true, t⟩
      · rw [if_pos he]; exact ⟨[], rfl, fun _ => rfl⟩
      · rw [if_neg he]
        refine ⟨_, rfl, fun hstill => absurd ?_ he⟩
        have hte := hstill _ (mvTo_mem t2)
        dsimp only at hte
        have h5 : slWd (slAt ws i) = wd ws (112 + i) := slWd_raw (wd_lt ho _)
        rw [hlow _ (by omega), ← h5]
        congr 1
        rw [← hte, hat]
        obtain ⟨y, hy⟩ : ∃ y, slAt ws i = y := ⟨_, rfl⟩
        rw [hy] at hu2 ⊢
        obtain ⟨yg, yu, ya⟩ := y
        dsimp only at hu2 ⊢
        rw [hu2]
    · rw [if_neg hu]; exact ⟨[], rfl, fun _ => rfl⟩
  obtain ⟨o, ho1, ho2⟩ := slFix_all (ws := x2) (m := moves l 128) 16 (fun i hi => by obtain ⟨o, h4, -⟩ := hst i hi; exact ⟨o, h4⟩)
  have hfs := fs_ok hfx hso (o := o) (by rw [hmv]; exact ho1)
  -- the objects
  have hob : ∀ m ∈ moves l 128, obErr x2 m.1 = 0 ∧ ((∀ m ∈ moves l 128, m.1 = m.2) → obOut x2 m.1 = []) := by
    intro m hm
    obtain ⟨b, hb, hlv, hat⟩ := moves_mem hm
    unfold liveB at hlv
    simp only [Bool.and_eq_true, beq_iff_eq] at hlv
    have hfr : frOut x2 128 = fwB l 128 := by rw [(hp_fr k6).2.1, k7]
    obtain ⟨b2, hb2, e1, e2⟩ := fwB_has (s := 128) hb
    obtain ⟨b3, hb3⟩ := objF_isSome (a := m.1) hb2 (by rw [e1, hat]) (by rw [e2, hlv.1])
    obtain ⟨f1, f2, f3⟩ := objF_some hb3
    obtain ⟨b0, hb0, r1, r2, r3, r4⟩ := fwB_mem f1
    have hbe : b0 = b := inc_uniq hinc hb0 hb (by rw [← r1, f2, hat])
    subst hbe
    rw [hll] at hb0
    obtain ⟨bw, hbw, hbe⟩ := List.mem_map.1 hb0
    obtain ⟨a, ha, -, -, ha3, -⟩ := (hp_row h1).1 bw hbw
    have hra : Rch ws a := by
      have := puts_mark h hbw
      rw [← hx1, hbe, hlv.2, ha] at this
      exact (seenAt_iff ha3).1 this.symm
    have hat3 : b3.at_ = (a : Int) := by rw [r1, ← hbe, ha]; exact bkAt_at ws a
    have hty : b3.typ = (rawBk (wd ws a)).typ := by rw [r4, ← hbe, ha]; rfl
    obtain ⟨hob, -⟩ := tb_obj h1 (h3 a hra)
    have hty8 := obj_typ hob
    have hfb : fldB x2 b3 = flds ws a := by
      unfold fldB flds tyA
      rw [hty, hlow _ (by omega), hlow _ (by omega)]
    have hrs : ∀ r ∈ rfsB x2 b3, ∃ o, obStep x2 (moves l 128) r.toNat = some o ∧ ((∀ m ∈ moves l 128, m.1 = m.2) → o = []) := by
      intro r hr
      unfold rfsB at hr
      obtain ⟨i, -, hi, rfl⟩ := rfTo_mem.1 hr
      rw [hfb] at hi
      have hn : (b3.at_ + 2 + (i : Int)).toNat = a + 2 + i := by rw [hat3]; omega
      rw [hn]
      unfold obStep
      rw [hfl hra hi]
      by_cases hv : wd ws (a + 2 + i) = 0
      · rw [if_pos hv]; exact ⟨[], rfl, fun _ => rfl⟩
      · rw [if_neg hv]
        have hr := (rch_val h hra (r := ((a + 2 + i : Nat) : Int)) (refsL_mem.2 ⟨i, rfl, hi⟩)).2.2
        rw [Int.toNat_natCast] at hr
        obtain ⟨t, t1, t2⟩ := hfix (hr hv)
        rw [t1]
        dsimp only
        by_cases he : ((wd ws (a + 2 + i) : Nat) : Int) = t
        · rw [if_pos he]; exact ⟨[], rfl, fun _ => rfl⟩
        · rw [if_neg he]
          refine ⟨_, rfl, fun hstill => absurd ?_ he⟩
          exact hstill _ (mvTo_mem t2)
    obtain ⟨q, hq1, hq2⟩ := obFix_all (ws := x2) (m := moves l 128) (rfsB x2 b3) (fun r hr => by obtain ⟨o, h4, -⟩ := hrs r hr; exact ⟨o, h4⟩)
    have hok := ob_ok hfx (a := m.1) (b := b3) (by rw [hfr]; exact hb3) (by rw [r3]; exact hlv.2) (o := q) (by rw [hmv]; exact hq1)
    refine ⟨hok.1, fun hstill => ?_⟩
    rw [hok.2]
    refine hq2 fun r hr => ?_
    obtain ⟨o, h4, h5⟩ := hrs r hr
    rw [h4, h5 hstill]
  refine ⟨x1, x2, moves l 128, hx1, by rw [hwn]; exact hx2, g4, k4, k5, hfs.1, fun m hm => (hob m hm).1, fun hstill => ⟨?_, fun m hm => (hob m hm).2 hstill⟩⟩
  rw [hfs.2]
  refine ho2 fun i hi => ?_
  obtain ⟨o', h4, h5⟩ := hst i hi
  rw [h4, h5 hstill]
end Go.Proofs.YtoaepffpjoibaaaGreat

namespace Go.Proofs.YtoaepffpjoibaaaGreat
open Go.RowKit

/-! Words of which those from 19 on are other second words of blocks alone -/
structure NxL (ws xs : List Nat) : Prop where
  len : xs.length = ws.length
  at_ : ∀ i : Nat, 19 ≤ i → wd xs i = wd ws i ∨ ∃ b ∈ hpOut ws, (i : Int) = b.at_ + 1
theorem tabL_nx {xs : List Nat} (n : Nat) (l : List Bk) : tabL n (l.map (nxB xs)) = tabL n l := by
  unfold tabL
  rw [List.foldl_map]
  rfl
section
variable {ws xs : List Nat}
theorem NxL.low (h : NxL ws xs) (h0 : hpErr ws = 0) {i : Nat} (h19 : 19 ≤ i) (hi : i < 128) : wd xs i = wd ws i := by
  rcases h.at_ i h19 with h1 | ⟨b, hb, h1⟩
  · exact h1
  · obtain ⟨a, rfl, a1, -⟩ := (hp_row h0).1 b hb
    rw [bkAt_at] at h1
    omega
theorem NxL.even (h : NxL ws xs) (h0 : hpErr ws = 0) {i : Nat} (h19 : 19 ≤ i) (hi : i % 2 = 0) : wd xs i = wd ws i := by
  rcases h.at_ i h19 with h1 | ⟨b, hb, h1⟩
  · exact h1
  · obtain ⟨a, rfl, -, a1, -⟩ := (hp_row h0).1 b hb
    rw [bkAt_at] at h1
    omega
theorem NxL.ev (h : NxL ws xs) (h0 : hpErr ws = 0) : Ev ws xs := by
  refine ⟨h.len, fun i hi => ?_⟩
  rcases hi with ⟨h1, h2⟩ | ⟨h1, h2⟩
  · exact h.even h0 (by omega) h1
  · exact h.low h0 (by omega) h2
theorem NxL.tb (h : NxL ws xs) (h0 : hpErr ws = 0) (a : Nat) : tb xs a = tb ws a := by
  unfold Proofs.YtoaepffpjoibaaaGreat.tb
  rw [((h.ev h0).heap h0).2, h.len, tabL_nx]
theorem NxL.slAt (h : NxL ws xs) (h0 : hpErr ws = 0) {i : Nat} (hi : i < 16) : slAt xs i = slAt ws i := by
  unfold Proofs.YtoaepffpjoibaaaGreat.slAt
  rw [h.low h0 (by omega) (by omega)]
theorem NxL.slsOk (h : NxL ws xs) (h0 : hpErr ws = 0) : slsOk xs = slsOk ws := by
  rw [Bool.eq_iff_iff, slsOk_iff, slsOk_iff]
  unfold slsTo
  constructor
  · intro h1 i hi; rw [← h.slAt h0 hi]; exact h1 i hi
  · intro h1 i hi; rw [h.slAt h0 hi]; exact h1 i hi
theorem NxL.flds (h : NxL ws xs) (h0 : hpErr ws = 0) {a : Nat} (ha : Proofs.YtoaepffpjoibaaaGreat.tb ws a ≠ 0) : flds xs a = flds ws a := by
  obtain ⟨ho, -⟩ := tb_obj h0 ha
  have := obj_typ ho
  have h19 := ho.1
  have h2 := ho.2.1
  unfold Proofs.YtoaepffpjoibaaaGreat.flds
  rw [h.even h0 (by omega) h2, h.low h0 (by omega) (by omega), h.low h0 (by omega) (by omega)]
/-- A field of an object is no second word. -/
theorem NxL.ref (h : NxL ws xs) (h0 : hpErr ws = 0) {a i : Nat} (ht : Proofs.YtoaepffpjoibaaaGreat.tb ws a ≠ 0) (hf : (Proofs.YtoaepffpjoibaaaGreat.flds ws a)[i]? = some 3) : wd xs (a + 2 + i) = wd ws (a + 2 + i) := by
  have hob := (tb_obj h0 ht).1
  have h19 := hob.1
  rcases h.at_ (a + 2 + i) (by omega) with h1 | ⟨b, hb, h1⟩
  · exact h1
  · exact absurd h1.symm (fld_apart h0 hob (List.getElem?_eq_some_iff.1 hf).1 hb)
theorem NxL.rch (h : NxL ws xs) (h0 : hpErr ws = 0) (a : Nat) : Rch xs a ↔ Rch ws a := by
  constructor
  · intro ha
    induction ha with
    | slot i hi hu => rw [h.slAt h0 hi] at hu ⊢; exact Rch.slot i hi hu
    | ref a i ha ht hf hv ih =>
      rw [h.tb h0] at ht
      rw [h.flds h0 ht] at hf
      rw [h.ref h0 ht hf] at hv ⊢
      exact Rch.ref a i ih ht hf hv
  · intro ha
    induction ha with
    | slot i hi hu => rw [← h.slAt h0 hi] at hu ⊢; exact Rch.slot i hi hu
    | ref a i ha ht hf hv ih =>
      rw [← h.ref h0 ht hf] at hv ⊢
      exact Rch.ref a i ih (by rw [h.tb h0]; exact ht) (by rw [h.flds h0 ht]; exact hf) hv
/-- The same is reached, and the error is the same. -/
theorem NxL.same (h : NxL ws xs) (h0 : hpErr ws = 0) : hpErr xs = 0 ∧ rcErr xs = rcErr ws ∧ rcOut xs = rcOut ws := by
  have hr := h.rch h0
  have hh := (h.ev h0).heap h0
  have hg : Good xs ↔ Good ws := by
    constructor
    · intro h1 a ha; rw [← h.tb h0]; exact h1 a ((hr a).2 ha)
    · intro h1 a ha; rw [h.tb h0]; exact h1 a ((hr a).1 ha)
  have he : rcErr xs = rcErr ws := by
    unfold rcErr
    rw [if_pos hh.1, if_pos h0, h.slsOk h0, propext hg]
  refine ⟨hh.1, he, ?_⟩
  have hs : seenL xs = seenL ws := by
    unfold seenL
    rw [h.len]
    refine List.map_congr_left fun a _ => ?_
    exact decide_eq_decide.2 (hr a)
  by_cases hz : rcErr ws = 0
  · rw [rcOut_seen (by rw [he]; exact hz), rcOut_seen hz, hs, h.len]
  · rw [rcOut_no (by rw [he]; exact hz), rcOut_no hz]
end
/-- Entries at second words, and perhaps one of the phase. -/
theorem nxl_put {x : List Nat} {E : List En} (hE : ∀ e ∈ E, e.a < 19 ∨ ∃ b ∈ hpOut x, e.a = b.at_ + 1) : NxL x (putE x E) := by
  refine ⟨putE_len _ _, fun i h19 => ?_⟩
  by_cases hx : ∃ b ∈ hpOut x, (i : Int) = b.at_ + 1
  · exact .inr hx
  · refine .inl (putE_wd _ _ _ fun e he h2 => ?_)
    rcases hE e he with h3 | ⟨b, hb, h3⟩
    · omega
    · exact hx ⟨b, hb, by rw [← h3, h2]⟩
/-- A step of the phase of next-words keeps what is reached. -/
theorem fwd_keep {x : List Nat} (p2 : wd x 16 = 2) (h : (sgOne x).1 = 0) : hpErr (putE x (sgOne x).2) = 0 ∧ rcErr (putE x (sgOne x).2) = rcErr x ∧ rcOut (putE x (sgOne x).2) = rcOut x := by
  obtain ⟨hhp, e⟩ := fwd_step2 p2 h
  rw [e]
  dsimp only
  have hw : ∀ e ∈ wnOut x, ∃ b ∈ hpOut x, e.a = b.at_ + 1 := by
    intro e he
    rw [wn_eq hhp] at he
    obtain ⟨b, hb, -, h3⟩ := wantE_memD he
    exact ⟨b, hb, h3⟩
  refine (nxl_put fun e he => ?_).same hhp
  by_cases h32 : 32 ≤ (wnOut x).length
  · rw [batE_great h32] at he
    exact .inr (hw e (List.mem_of_mem_take he))
  · rw [batE_few h32] at he
    rcases List.mem_cons.1 he with rfl | he
    · exact .inl (by dsimp only; omega)
    · exact .inr (hw e he)
theorem fwd_run {ws y : List Nat} {outs : List (List En)} (ho : ∀ v ∈ ws, v < 18446744073709551616) (h : sgAll ws = (0, outs, y)) (p2 : wd ws 16 = 2) : ∀ n, n ≤ outs.length → rcErr (stX ws outs n) = rcErr ws ∧ rcOut (stX ws outs n) = rcOut ws ∧ (0 < n → hpErr (stX ws outs n) = 0) := by
  obtain ⟨hck, hon⟩ := sg_on ho h
  intro n
  induction n with
  | zero => intro _; exact ⟨rfl, rfl, fun h0 => absurd h0 (by omega)⟩
  | succ n ih =>
    intro h1
    obtain ⟨i1, i2, -⟩ := ih (by omega)
    obtain ⟨g1, g2, -, ⟨hn, g4⟩, g5⟩ := hon n (by omega)
    have h0 : (sgOne (stX ws outs n)).1 = 0 := by rw [g4]
    obtain ⟨k1, k2, k3⟩ := fwd_keep (by rw [g5]; exact p2) h0
    have hs : putE (stX ws outs n) (sgOne (stX ws outs n)).2 = stX ws outs (n + 1) := by rw [g4, stX_succ hn]
    rw [hs] at k1 k2 k3
    exact ⟨k2.trans i1, k3.trans i2, fun _ => k1⟩
/-- The end of a run in the phase of next-words. -/
theorem fwd_end {ws y : List Nat} {outs : List (List En)} (ho : ∀ v ∈ ws, v < 18446744073709551616) (h : sgAll ws = (0, outs, y)) (p2 : wd ws 16 = 2) (h0 : 0 < outs.length) : rcErr y = rcErr ws ∧ rcOut y = rcOut ws ∧ hpErr y = 0 := by
  obtain ⟨hck, hon⟩ := sg_on ho h
  have ha : allE (wd ws 16) ws = (0, outs, y) := by unfold sgAll at h; rw [if_pos hck] at h; exact h
  obtain ⟨e1, -⟩ := all_last ho ha
  obtain ⟨k1, k2, k3⟩ := fwd_run ho h p2 outs.length (Nat.le_refl _)
  rw [e1] at k1 k2 k3
  exact ⟨k1, k2, k3 h0⟩
theorem ckErr_lnV {ws : List Nat} (h : lnErr ws ≠ 0) : ckErr ws = lnErr ws := by unfold ckErr; rw [if_neg h]
theorem sgOne_ck {ws : List Nat} (h : ckErr ws ≠ 0) : (sgOne ws).1 = ckErr ws := by unfold sgOne; rw [if_neg h]
/-- The phase line at the end of a run. -/
theorem line_end {ws y : List Nat} {outs : List (List En)} (ho : ∀ v ∈ ws, v < 18446744073709551616) (h : sgAll ws = (0, outs, y)) (h0 : 0 < outs.length) : lnErr ws = 0 ∧ lnErr y = 0 ∧ (wd y 16 = wd ws 16 ∨ wd y 16 = wd ws 16 + 1) ∧ (wd ws 16 = 4 → wd y 16 = 4) ∧ 1 ≤ wd ws 16 ∧ wd ws 16 ≤ 4 := by
  obtain ⟨hck, hon⟩ := sg_on ho h
  have ha : allE (wd ws 16) ws = (0, outs, y) := by unfold sgAll at h; rw [if_pos hck] at h; exact h
  obtain ⟨e1, e2⟩ := all_last ho ha
  obtain ⟨n, hn⟩ : ∃ n, outs.length = n + 1 := ⟨outs.length - 1, by omega⟩
  obtain ⟨g1, g2, -, ⟨hn2, g4⟩, g5⟩ := hon n (by omega)
  have hz : (sgOne (stX ws outs n)).1 = 0 := by rw [g4]
  have hs : putE (stX ws outs n) (sgOne (stX ws outs n)).2 = y := by rw [g4, ← e1, hn, stX_succ hn2]
  obtain ⟨k1, k2, k3, k4, k5, k6, k7, k8⟩ := sg_ok g1 hz
  rw [hs, g5] at k7 k8
  rw [hs] at k3 k4
  have hle := k4.1
  rw [g5] at hle
  rw [g5] at k6
  have h5 : wd y 16 = wd ws 16 ∨ wd y 16 = wd ws 16 + 1 := by omega
  refine ⟨ck_ln hck, ?_, h5, k8, k6.1, k6.2⟩
  rcases e2 with e2 | ⟨-, e2⟩
  · unfold lnErr
    rw [if_pos k3]
    refine if_neg fun h9 => ?_
    obtain ⟨h3, h4, -⟩ := h9
    have p2 : wd (stX ws outs n) 16 = 2 := by omega
    obtain ⟨hhp, e⟩ := fwd_step2 p2 hz
    obtain ⟨r1, r2, r3⟩ := fw_ent hhp
    obtain ⟨-, -, -, -, q5, -⟩ := bat_props k1 p2 (.inr rfl) r1 r2 r3
    simp only [Nat.reduceAdd] at q5
    rw [e] at hs
    dsimp only at hs
    rw [hs] at q5
    exact h4 q5
  · by_cases hl : lnErr y = 0
    · exact hl
    · exfalso
      have hc := ckErr_lnV hl
      rw [sgOne_ck (by rw [hc]; exact hl), hc] at e2
      rcases lnErr_val y with h6 | h6 | h6 <;> omega
theorem end_word {ws y : List Nat} {outs : List (List En)} (ho : ∀ v ∈ ws, v < 18446744073709551616) (h : sgAll ws = (0, outs, y)) : (∀ v ∈ y, v < 18446744073709551616) ∧ y.length = ws.length := by
  obtain ⟨hck, -⟩ := sg_on ho h
  have ha : allE (wd ws 16) ws = (0, outs, y) := by unfold sgAll at h; rw [if_pos hck] at h; exact h
  obtain ⟨e1, -⟩ := all_last ho ha
  obtain ⟨g1, g2, -⟩ := all_at ho ha outs.length (Nat.le_refl _)
  rw [e1] at g1 g2
  exact ⟨g1, g2⟩
/-- All that StagesReach says. -/
theorem reach_plain {ws y : List Nat} {outs : List (List En)} (ho : ∀ v ∈ ws, v < 18446744073709551616) (h : sgAll ws = (0, outs, y)) (h0 : 0 < outs.length) (hp : wd ws 16 = 1 ∨ wd ws 16 = 2) : rcErr y = rcErr ws ∧ rcOut y = rcOut ws ∧ hpErr y = 0 ∧ (wd ws 16 = 1 → rcErr ws = 0 ∧ mkdL (hpOut y) = rcOut ws) := by
  rcases hp with p1 | p2
  · obtain ⟨a1, a2, a3, a4⟩ := mk_end ho h p1 h0
    obtain ⟨b1, -⟩ := mk_run ho h p1 0 h0
    rw [stX_zero] at b1
    exact ⟨by rw [a1, b1], a2, a3, fun _ => ⟨b1, a4⟩⟩
  · obtain ⟨a1, a2, a3⟩ := fwd_end ho h p2 h0
    exact ⟨a1, a2, a3, fun p1 => by omega⟩
end Go.Proofs.YtoaepffpjoibaaaGreat
