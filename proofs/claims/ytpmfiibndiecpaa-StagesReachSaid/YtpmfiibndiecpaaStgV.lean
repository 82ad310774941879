/- Plain, for StagesReach: what is reached stays through the steps of the phase of next-words; the line at the end of a run. -/
import Derived.Test.YtpmfiibndiecpaaStgT
import Derived.Test.YtpmfiibndiecpaaFxTP
namespace Go.Proofs.Ytpmfiibndiecpaa
open Go.RowKit

/-! Words of which those from 19 on are other second words of blocks alone -/
structure NxL (ws xs : List Nat) : Prop where
  len : xs.length = ws.length
  at_ : ∀ i : Nat, 19 ≤ i → wd xs i = wd ws i ∨ ∃ b ∈ hpOut ws, (i : Int) = b.at_ + 1
theorem tabL_nx {xs : List Nat} (n : Nat) (l : List Bk) : tabL n (l.map (nxB xs)) = tabL n l := by
  unfold tabL
  rw [List.foldl_map]
  rfl
section
variable {ws xs : List Nat}
theorem NxL.low (h : NxL ws xs) (h0 : hpErr ws = 0) {i : Nat} (h19 : 19 ≤ i) (hi : i < 128) : wd xs i = wd ws i := by
  rcases h.at_ i h19 with h1 | ⟨b, hb, h1⟩
  · exact h1
  · obtain ⟨a, rfl, a1, -⟩ := (hp_row h0).1 b hb
    rw [bkAt_at] at h1
    omega
theorem NxL.even (h : NxL ws xs) (h0 : hpErr ws = 0) {i : Nat} (h19 : 19 ≤ i) (hi : i % 2 = 0) : wd xs i = wd ws i := by
  rcases h.at_ i h19 with h1 | ⟨b, hb, h1⟩
  · exact h1
  · obtain ⟨a, rfl, -, a1, -⟩ := (hp_row h0).1 b hb
    rw [bkAt_at] at h1
    omega
theorem NxL.ev (h : NxL ws xs) (h0 : hpErr ws = 0) : Ev ws xs := by
  refine ⟨h.len, fun i hi => ?_⟩
  rcases hi with ⟨h1, h2⟩ | ⟨h1, h2⟩
  · exact h.even h0 (by omega) h1
  · exact h.low h0 (by omega) h2
theorem NxL.tb (h : NxL ws xs) (h0 : hpErr ws = 0) (a : Nat) : tb xs a = tb ws a := by
  unfold Proofs.Ytpmfiibndiecpaa.tb
  rw [((h.ev h0).heap h0).2, h.len, tabL_nx]
theorem NxL.slAt (h : NxL ws xs) (h0 : hpErr ws = 0) {i : Nat} (hi : i < 16) : slAt xs i = slAt ws i := by
  unfold Proofs.Ytpmfiibndiecpaa.slAt
  rw [h.low h0 (by omega) (by omega)]
theorem NxL.slsOk (h : NxL ws xs) (h0 : hpErr ws = 0) : slsOk xs = slsOk ws := by
  rw [Bool.eq_iff_iff, slsOk_iff, slsOk_iff]
  unfold slsTo
  constructor
  · intro h1 i hi; rw [← h.slAt h0 hi]; exact h1 i hi
  · intro h1 i hi; rw [h.slAt h0 hi]; exact h1 i hi
theorem NxL.flds (h : NxL ws xs) (h0 : hpErr ws = 0) {a : Nat} (ha : Proofs.Ytpmfiibndiecpaa.tb ws a ≠ 0) : flds xs a = flds ws a := by
  obtain ⟨ho, -⟩ := tb_obj h0 ha
  have := obj_typ ho
  have h19 := ho.1
  have h2 := ho.2.1
  unfold Proofs.Ytpmfiibndiecpaa.flds
  rw [h.even h0 (by omega) h2, h.low h0 (by omega) (by omega), h.low h0 (by omega) (by omega)]
/-- A field of an object is no second word. -/
theorem NxL.ref (h : NxL ws xs) (h0 : hpErr ws = 0) {a i : Nat} (ht : Proofs.Ytpmfiibndiecpaa.tb ws a ≠ 0) (hf : (Proofs.Ytpmfiibndiecpaa.flds ws a)[i]? = some 3) : wd xs (a + 2 + i) = wd ws (a + 2 + i) := by
  have hob := (tb_obj h0 ht).1
  have h19 := hob.1
  rcases h.at_ (a + 2 + i) (by omega) with h1 | ⟨b, hb, h1⟩
  · exact h1
  · exact absurd h1.symm (fld_apart h0 hob (List.getElem?_eq_some_iff.1 hf).1 hb)
theorem NxL.rch (h : NxL ws xs) (h0 : hpErr ws = 0) (a : Nat) : Rch xs a ↔ Rch ws a := by
  constructor
  · intro ha
    induction ha with
    | slot i hi hu => rw [h.slAt h0 hi] at hu ⊢; exact Rch.slot i hi hu
    | ref a i ha ht hf hv ih =>
      rw [h.tb h0] at ht
      rw [h.flds h0 ht] at hf
      rw [h.ref h0 ht hf] at hv ⊢
      exact Rch.ref a i ih ht hf hv
  · intro ha
    induction ha with
    | slot i hi hu => rw [← h.slAt h0 hi] at hu ⊢; exact Rch.slot i hi hu
    | ref a i ha ht hf hv ih =>
      rw [← h.ref h0 ht hf] at hv ⊢
      exact Rch.ref a i ih (by rw [h.tb h0]; exact ht) (by rw [h.flds h0 ht]; exact hf) hv
/-- The same is reached, and the error is the same. -/
theorem NxL.same (h : NxL ws xs) (h0 : hpErr ws = 0) : hpErr xs = 0 ∧ rcErr xs = rcErr ws ∧ rcOut xs = rcOut ws := by
  have hr := h.rch h0
  have hh := (h.ev h0).heap h0
  have hg : Good xs ↔ Good ws := by
    constructor
    · intro h1 a ha; rw [← h.tb h0]; exact h1 a ((hr a).2 ha)
    · intro h1 a ha; rw [h.tb h0]; exact h1 a ((hr a).1 ha)
  have he : rcErr xs = rcErr ws := by
    unfold rcErr
    rw [if_pos hh.1, if_pos h0, h.slsOk h0, propext hg]
  refine ⟨hh.1, he, ?_⟩
  have hs : seenL xs = seenL ws := by
    unfold seenL
    rw [h.len]
    refine List.map_congr_left fun a _ => ?_
    exact decide_eq_decide.2 (hr a)
  by_cases hz : rcErr ws = 0
  · rw [rcOut_seen (by rw [he]; exact hz), rcOut_seen hz, hs, h.len]
  · rw [rcOut_no (by rw [he]; exact hz), rcOut_no hz]
end
/-- Entries at second words, and perhaps one of the phase. -/
theorem nxl_put {x : List Nat} {E : List En} (hE : ∀ e ∈ E, e.a < 19 ∨ ∃ b ∈ hpOut x, e.a = b.at_ + 1) : NxL x (putE x E) := by
  refine ⟨putE_len _ _, fun i h19 => ?_⟩
  by_cases hx : ∃ b ∈ hpOut x, (i : Int) = b.at_ + 1
  · exact .inr hx
  · refine .inl (putE_wd _ _ _ fun e he h2 => ?_)
    rcases hE e he with h3 | ⟨b, hb, h3⟩
    · omega
    · exact hx ⟨b, hb, by rw [← h3, h2]⟩
/-- A step of the phase of next-words keeps what is reached. -/
theorem fwd_keep {x : List Nat} (p2 : wd x 16 = 2) (h : (sgOne x).1 = 0) : hpErr (putE x (sgOne x).2) = 0 ∧ rcErr (putE x (sgOne x).2) = rcErr x ∧ rcOut (putE x (sgOne x).2) = rcOut x := by
  obtain ⟨hhp, e⟩ := fwd_step2 p2 h
  rw [e]
  dsimp only
  have hw : ∀ e ∈ wnOut x, ∃ b ∈ hpOut x, e.a = b.at_ + 1 := by
    intro e he
    rw [wn_eq hhp] at he
    obtain ⟨b, hb, -, h3⟩ := wantE_memD he
    exact ⟨b, hb, h3⟩
  refine (nxl_put fun e he => ?_).same hhp
  by_cases h32 : 32 ≤ (wnOut x).length
  · rw [batE_great h32] at he
    exact .inr (hw e (List.mem_of_mem_take he))
  · rw [batE_few h32] at he
    rcases List.mem_cons.1 he with rfl | he
    · exact .inl (by dsimp only; omega)
    · exact .inr (hw e he)
theorem fwd_run {ws y : List Nat} {outs : List (List En)} (ho : ∀ v ∈ ws, v < 18446744073709551616) (h : sgAll ws = (0, outs, y)) (p2 : wd ws 16 = 2) : ∀ n, n ≤ outs.length → rcErr (stX ws outs n) = rcErr ws ∧ rcOut (stX ws outs n) = rcOut ws ∧ (0 < n → hpErr (stX ws outs n) = 0) := by
  obtain ⟨hck, hon⟩ := sg_on ho h
  intro n
  induction n with
  | zero => intro _; exact ⟨rfl, rfl, fun h0 => absurd h0 (by omega)⟩
  | succ n ih =>
    intro h1
    obtain ⟨i1, i2, -⟩ := ih (by omega)
    obtain ⟨g1, g2, -, ⟨hn, g4⟩, g5⟩ := hon n (by omega)
    have h0 : (sgOne (stX ws outs n)).1 = 0 := by rw [g4]
    obtain ⟨k1, k2, k3⟩ := fwd_keep (by rw [g5]; exact p2) h0
    have hs : putE (stX ws outs n) (sgOne (stX ws outs n)).2 = stX ws outs (n + 1) := by rw [g4, stX_succ hn]
    rw [hs] at k1 k2 k3
    exact ⟨k2.trans i1, k3.trans i2, fun _ => k1⟩
/-- The end of a run in the phase of next-words. -/
theorem fwd_end {ws y : List Nat} {outs : List (List En)} (ho : ∀ v ∈ ws, v < 18446744073709551616) (h : sgAll ws = (0, outs, y)) (p2 : wd ws 16 = 2) (h0 : 0 < outs.length) : rcErr y = rcErr ws ∧ rcOut y = rcOut ws ∧ hpErr y = 0 := by
  obtain ⟨hck, hon⟩ := sg_on ho h
  have ha : allE (wd ws 16) ws = (0, outs, y) := by unfold sgAll at h; rw [if_pos hck] at h; exact h
  obtain ⟨e1, -⟩ := all_last ho ha
  obtain ⟨k1, k2, k3⟩ := fwd_run ho h p2 outs.length (Nat.le_refl _)
  rw [e1] at k1 k2 k3
  exact ⟨k1, k2, k3 h0⟩
theorem ckErr_lnV {ws : List Nat} (h : lnErr ws ≠ 0) : ckErr ws = lnErr ws := by unfold ckErr; rw [if_neg h]
theorem sgOne_ck {ws : List Nat} (h : ckErr ws ≠ 0) : (sgOne ws).1 = ckErr ws := by unfold sgOne; rw [if_neg h]
/-- The phase line at the end of a run. -/
theorem line_end {ws y : List Nat} {outs : List (List En)} (ho : ∀ v ∈ ws, v < 18446744073709551616) (h : sgAll ws = (0, outs, y)) (h0 : 0 < outs.length) : lnErr ws = 0 ∧ lnErr y = 0 ∧ (wd y 16 = wd ws 16 ∨ wd y 16 = wd ws 16 + 1) ∧ (wd ws 16 = 4 → wd y 16 = 4) ∧ 1 ≤ wd ws 16 ∧ wd ws 16 ≤ 4 := by
  obtain ⟨hck, hon⟩ := sg_on ho h
  have ha : allE (wd ws 16) ws = (0, outs, y) := by unfold sgAll at h; rw [if_pos hck] at h; exact h
  obtain ⟨e1, e2⟩ := all_last ho ha
  obtain ⟨n, hn⟩ : ∃ n, outs.length = n + 1 := ⟨outs.length - 1, by omega⟩
  obtain ⟨g1, g2, -, ⟨hn2, g4⟩, g5⟩ := hon n (by omega)
  have hz : (sgOne (stX ws outs n)).1 = 0 := by rw [g4]
  have hs : putE (stX ws outs n) (sgOne (stX ws outs n)).2 = y := by rw [g4, ← e1, hn, stX_succ hn2]
  obtain ⟨k1, k2, k3, k4, k5, k6, k7, k8⟩ := sg_ok g1 hz
  rw [hs, g5] at k7 k8
  rw [hs] at k3 k4
  have hle := k4.1
  rw [g5] at hle
  rw [g5] at k6
  have h5 : wd y 16 = wd ws 16 ∨ wd y 16 = wd ws 16 + 1 := by omega
  refine ⟨ck_ln hck, ?_, h5, k8, k6.1, k6.2⟩
  rcases e2 with e2 | ⟨-, e2⟩
  · unfold lnErr
    rw [if_pos k3]
    refine if_neg fun h9 => ?_
    obtain ⟨h3, h4, -⟩ := h9
    have p2 : wd (stX ws outs n) 16 = 2 := by omega
    obtain ⟨hhp, e⟩ := fwd_step2 p2 hz
    obtain ⟨r1, r2, r3⟩ := fw_ent hhp
    obtain ⟨-, -, -, -, q5, -⟩ := bat_props k1 p2 (.inr rfl) r1 r2 r3
    simp only [Nat.reduceAdd] at q5
    rw [e] at hs
    dsimp only at hs
    rw [hs] at q5
    exact h4 q5
  · by_cases hl : lnErr y = 0
    · exact hl
    · exfalso
      have hc := ckErr_lnV hl
      rw [sgOne_ck (by rw [hc]; exact hl), hc] at e2
      rcases lnErr_val y with h6 | h6 | h6 <;> omega
theorem end_word {ws y : List Nat} {outs : List (List En)} (ho : ∀ v ∈ ws, v < 18446744073709551616) (h : sgAll ws = (0, outs, y)) : (∀ v ∈ y, v < 18446744073709551616) ∧ y.length = ws.length := by
  obtain ⟨hck, -⟩ := sg_on ho h
  have ha : allE (wd ws 16) ws = (0, outs, y) := by unfold sgAll at h; rw [if_pos hck] at h; exact h
  obtain ⟨e1, -⟩ := all_last ho ha
  obtain ⟨g1, g2, -⟩ := all_at ho ha outs.length (Nat.le_refl _)
  rw [e1] at g1 g2
  exact ⟨g1, g2⟩
/-- All that StagesReach says. -/
theorem reach_plain {ws y : List Nat} {outs : List (List En)} (ho : ∀ v ∈ ws, v < 18446744073709551616) (h : sgAll ws = (0, outs, y)) (h0 : 0 < outs.length) (hp : wd ws 16 = 1 ∨ wd ws 16 = 2) : rcErr y = rcErr ws ∧ rcOut y = rcOut ws ∧ hpErr y = 0 ∧ (wd ws 16 = 1 → rcErr ws = 0 ∧ mkdL (hpOut y) = rcOut ws) := by
  rcases hp with p1 | p2
  · obtain ⟨a1, a2, a3, a4⟩ := mk_end ho h p1 h0
    obtain ⟨b1, -⟩ := mk_run ho h p1 0 h0
    rw [stX_zero] at b1
    exact ⟨by rw [a1, b1], a2, a3, fun _ => ⟨b1, a4⟩⟩
  · obtain ⟨a1, a2, a3⟩ := fwd_end ho h p2 h0
    exact ⟨a1, a2, a3, fun p1 => by omega⟩
end Go.Proofs.Ytpmfiibndiecpaa
