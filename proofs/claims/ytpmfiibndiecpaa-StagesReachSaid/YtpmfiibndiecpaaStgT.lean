/- Plain, for StagesReach: what is reached stays through the steps of the phase of marks. -/
import Derived.Test.YtpmfiibndiecpaaStgM
namespace Go.Proofs.Ytpmfiibndiecpaa

/-- In the phase of marks: what one step is. -/
theorem mk_step {x : List Nat} (p1 : wd x 16 = 1) (h : (sgOne x).1 = 0) : rcErr x = 0 ∧ sgOne x = (0, batE (wtOut x) 2) := by
  have hck : ckErr x = 0 := by
    by_cases h0 : ckErr x = 0
    · exact h0
    · unfold sgOne at h; rw [if_neg h0] at h; exact absurd h h0
  have hrc : rcErr x = 0 := by
    by_cases h0 : rcErr x = 0
    · exact h0
    · unfold sgOne at h; rw [if_pos hck, if_pos p1, if_neg h0] at h; exact absurd h h0
  exact ⟨hrc, by unfold sgOne; rw [if_pos hck, if_pos p1, if_pos hrc]⟩
/-- In the phase of next-words: what one step is. -/
theorem fwd_step2 {x : List Nat} (p2 : wd x 16 = 2) (h : (sgOne x).1 = 0) : hpErr x = 0 ∧ sgOne x = (0, batE (wnOut x) 3) := by
  have hck : ckErr x = 0 := by
    by_cases h0 : ckErr x = 0
    · exact h0
    · unfold sgOne at h; rw [if_neg h0] at h; exact absurd h h0
  have p1 : ¬ wd x 16 = 1 := by omega
  have hhp : hpErr x = 0 := by
    by_cases h0 : hpErr x = 0
    · exact h0
    · unfold sgOne at h; rw [if_pos hck, if_neg p1, if_pos p2, if_neg h0] at h; exact absurd h h0
  exact ⟨hhp, by unfold sgOne; rw [if_pos hck, if_neg p1, if_pos p2, if_pos hhp]⟩
/-- A step that stays in the phase of marks keeps what is reached. -/
theorem mk_keep {x : List Nat} (p1 : wd x 16 = 1) (h : (sgOne x).1 = 0) (h32 : 32 ≤ (wtOut x).length) : rcErr (putE x (sgOne x).2) = 0 ∧ rcOut (putE x (sgOne x).2) = rcOut x := by
  obtain ⟨hrc, e⟩ := mk_step p1 h
  rw [e]
  dsimp only
  rw [batE_great h32]
  obtain ⟨g1, g2, -⟩ := (puts_rm_sub hrc (List.take_sublist 31 _)).same hrc
  exact ⟨g1, g2⟩
/-- A step that does not stay: the few marks that are left, and the phase. -/
theorem mk_few {x : List Nat} (ho : ∀ v ∈ x, v < 18446744073709551616) (p1 : wd x 16 = 1) (h : (sgOne x).1 = 0) : wd (putE x (sgOne x).2) 16 = (if 32 ≤ (wtOut x).length then 1 else 2) := by
  have hck := (sg_ok ho h).1
  obtain ⟨hrc, e⟩ := mk_step p1 h
  rw [e]
  dsimp only
  obtain ⟨r1, r2⟩ := wt_rows hrc
  obtain ⟨g1, g2, g3, g4, g5, g6⟩ := bat_props hck p1 (.inl rfl) (wtOut_inc hrc) (fun x hx => by
    obtain ⟨i, hi⟩ := List.mem_iff_getElem?.1 hx
    exact r1 i x hi) (wtOut_v hrc)
  exact g4
/-- What is reached stays up to the last step of the phase of marks. -/
theorem mk_run {ws y : List Nat} {outs : List (List En)} (ho : ∀ v ∈ ws, v < 18446744073709551616) (h : sgAll ws = (0, outs, y)) (p1 : wd ws 16 = 1) : ∀ n, n < outs.length → rcErr (stX ws outs n) = 0 ∧ rcOut (stX ws outs n) = rcOut ws := by
  obtain ⟨hck, hon⟩ := sg_on ho h
  intro n
  induction n with
  | zero =>
    intro h0
    obtain ⟨g1, g2, -, ⟨_, g4⟩, g5⟩ := hon 0 h0
    rw [stX_zero] at g4 ⊢
    exact ⟨(mk_step p1 (by rw [g4])).1, rfl⟩
  | succ n ih =>
    intro h1
    obtain ⟨i1, i2⟩ := ih (by omega)
    obtain ⟨g1, g2, -, ⟨hn, g4⟩, g5⟩ := hon n (by omega)
    obtain ⟨-, -, -, -, k5⟩ := hon (n + 1) h1
    have hp : wd (stX ws outs n) 16 = 1 := by rw [g5]; exact p1
    have h0 : (sgOne (stX ws outs n)).1 = 0 := by rw [g4]
    have hf := mk_few g1 hp h0
    have hs : putE (stX ws outs n) (sgOne (stX ws outs n)).2 = stX ws outs (n + 1) := by rw [g4, stX_succ hn]
    rw [hs, k5, p1] at hf
    have h32 : 32 ≤ (wtOut (stX ws outs n)).length := by
      by_cases h3 : 32 ≤ (wtOut (stX ws outs n)).length
      · exact h3
      · rw [if_neg h3] at hf; omega
    obtain ⟨j1, j2⟩ := mk_keep hp h0 h32
    rw [hs] at j1 j2
    exact ⟨j1, j2.trans i2⟩

/-! Words of which those from 19 on have other marks alone -/
structure RmL (ws xs : List Nat) : Prop where
  len : xs.length = ws.length
  at_ : ∀ i, 19 ≤ i → wd xs i = wd ws i ∨ (128 ≤ i ∧ i % 2 = 0 ∧ splitOk (wd ws i) = true ∧ (rawBk (wd ws i)).kind = 1 ∧ ∃ m, wd xs i = mkVal (wd ws i) m)
section
variable {ws xs : List Nat}
theorem RmL.low (h : RmL ws xs) {i : Nat} (h19 : 19 ≤ i) (hi : i < 128) : wd xs i = wd ws i := by
  rcases h.at_ i h19 with h1 | h1
  · exact h1
  · omega
theorem RmL.odd (h : RmL ws xs) {i : Nat} (h19 : 19 ≤ i) (hi : i % 2 = 1) : wd xs i = wd ws i := by
  rcases h.at_ i h19 with h1 | h1
  · exact h1
  · omega
theorem RmL.sp (h : RmL ws xs) (i : Nat) (h19 : 19 ≤ i) : splitOk (wd xs i) = splitOk (wd ws i) := by
  rcases h.at_ i h19 with h1 | ⟨-, -, h3, h4, m, h5⟩
  · rw [h1]
  · rw [h5, h3, (mk_word h3 h4 m).1]
theorem RmL.raw (h : RmL ws xs) (i : Nat) (h19 : 19 ≤ i) : rawBk (wd xs i) = { rawBk (wd ws i) with mark := mkAt xs i } := by
  unfold mkAt
  rcases h.at_ i h19 with h1 | ⟨-, -, h3, h4, m, h5⟩
  · rw [h1]
  · rw [h5, (mk_word h3 h4 m).2.1]
theorem RmL.sz (h : RmL ws xs) (i : Nat) (h19 : 19 ≤ i) : (rawBk (wd xs i)).size = (rawBk (wd ws i)).size := by rw [h.raw i h19]
theorem RmL.szAt (h : RmL ws xs) (i : Nat) (h19 : 19 ≤ i) : szAt xs i = szAt ws i := by
  have h1 := h.sz i h19
  have e : ∀ w, (rawBk w).size = ((w / 65536 % 65536 : Nat) : Int) := fun _ => rfl
  rw [e, e] at h1
  unfold Proofs.Ytpmfiibndiecpaa.szAt
  exact Int.ofNat.inj h1
theorem RmL.stands (h : RmL ws xs) (i : Nat) (h19 : 19 ≤ i) : stands xs i = stands ws i := by
  unfold Proofs.Ytpmfiibndiecpaa.stands
  rw [h.sp i h19, h.sz i h19, h.len]
theorem RmL.bkAt (h : RmL ws xs) {i : Nat} (h19 : 19 ≤ i) (hi : i % 2 = 0) : bkAt xs i = mkB xs (bkAt ws i) := by
  unfold mkB
  have h1 : (Proofs.Ytpmfiibndiecpaa.bkAt ws i).at_.toNat = i := by rw [bkAt_at, Int.toNat_natCast]
  rw [h1]
  unfold Proofs.Ytpmfiibndiecpaa.bkAt
  rw [h.raw i h19, h.odd (i := i + 1) (by omega) (by omega)]
theorem RmL.blocks (h : RmL ws xs) : ∀ i l, blocks ws i = some l → i % 2 = 0 → 19 ≤ i → blocks xs i = some (l.map (mkB xs)) := by
  refine blocks_ind (fun i l => i % 2 = 0 → 19 ≤ i → Proofs.Ytpmfiibndiecpaa.blocks xs i = some (l.map (mkB xs))) (fun i hi _ _ => ?_) (fun i l hi hs hb ih h2 h19 => ?_)
  · exact blocks_end (by rw [h.len]; exact hi)
  · have hsz := stands_sz hs
    have ih := ih (by omega) (by omega)
    rw [blocks_step (by rw [h.len]; exact hi) (by rw [h.stands i h19]; exact hs), h.szAt i h19, ih, h.bkAt h19 h2]
    rfl
theorem fitB_mkL (h : RmL ws xs) {b : Bk} (hb : b.kind = 1 → tyA b + 1 < 128) : fitB xs (mkB xs b) = fitB ws b := by
  by_cases hk : b.kind = 1
  · have h2 := hb hk
    unfold fitB typedB
    show (b.kind != 1 || (typOk (wd xs (tyA b)) (wd xs (tyA b + 1)) && b.size == ((objSz (wd xs (tyA b) % 256) : Nat) : Int))) = _
    rw [h.low (by unfold tyA; omega) (by omega), h.low (by unfold tyA; omega) (by omega)]
  · rw [fit_other hk, fit_other (b := mkB xs b) hk]
theorem RmL.heap (h : RmL ws xs) (h0 : hpErr ws = 0) : hpErr xs = 0 ∧ hpOut xs = (hpOut ws).map (mkB xs) := by
  obtain ⟨h1, l, h2, h3, h4⟩ := hpErr_zero h0
  have hb := h.blocks 128 l h2 (by omega) (by omega)
  rw [h4]
  refine hpErr_ok (by rw [h.len]; exact h1) hb ?_
  rw [List.all_map, List.all_eq_true]
  rw [List.all_eq_true] at h3
  intro b hb2
  show fitB xs (mkB xs b) = true
  rw [fitB_mkL h (blocks_ty h2 (by omega) b hb2)]
  exact h3 b hb2
theorem RmL.tb (h : RmL ws xs) (h0 : hpErr ws = 0) (a : Nat) : tb xs a = tb ws a := by
  unfold Proofs.Ytpmfiibndiecpaa.tb
  rw [(h.heap h0).2, h.len, tabL_mk]
theorem RmL.slAt (h : RmL ws xs) {i : Nat} (hi : i < 16) : slAt xs i = slAt ws i := by
  unfold Proofs.Ytpmfiibndiecpaa.slAt
  rw [h.low (by omega) (by omega)]
theorem RmL.slsOk (h : RmL ws xs) : slsOk xs = slsOk ws := by
  rw [Bool.eq_iff_iff, slsOk_iff, slsOk_iff]
  unfold slsTo
  constructor
  · intro h1 i hi; rw [← h.slAt hi]; exact h1 i hi
  · intro h1 i hi; rw [h.slAt hi]; exact h1 i hi
theorem RmL.flds (h : RmL ws xs) (h0 : hpErr ws = 0) {a : Nat} (ha : Proofs.Ytpmfiibndiecpaa.tb ws a ≠ 0) : flds xs a = flds ws a := by
  obtain ⟨ho, -⟩ := tb_obj h0 ha
  have := obj_typ ho
  have h19 := ho.1
  unfold Proofs.Ytpmfiibndiecpaa.flds
  rw [h.raw a (by omega)]
  dsimp only
  rw [h.low (by omega) (by omega), h.low (by omega) (by omega)]
/-- A field of an object that is reached is no header. -/
theorem RmL.ref (h : RmL ws xs) (hg : Good ws) (h0 : hpErr ws = 0) {a i : Nat} (ha : Rch ws a) (ht : Proofs.Ytpmfiibndiecpaa.tb ws a ≠ 0) (hf : (Proofs.Ytpmfiibndiecpaa.flds ws a)[i]? = some 3) : wd xs (a + 2 + i) = wd ws (a + 2 + i) := by
  have h19 := (tb_obj h0 ht).1.1
  rcases h.at_ (a + 2 + i) (by omega) with h1 | ⟨-, -, h3, -⟩
  · exact h1
  · exfalso
    have hb := splitOk_big h3
    have h4 := hg _ (Rch.ref a i ha ht hf (by omega))
    rw [Nat.min_eq_right (by omega)] at h4
    have := tb_lt h4
    have := (fr_bd ws (hpErr_zero h0).1).2.1
    omega
theorem RmL.rch (h : RmL ws xs) (hg : Good ws) (h0 : hpErr ws = 0) (a : Nat) : Rch xs a ↔ Rch ws a := by
  constructor
  · intro ha
    induction ha with
    | slot i hi hu => rw [h.slAt hi] at hu ⊢; exact Rch.slot i hi hu
    | ref a i ha ht hf hv ih =>
      rw [h.tb h0] at ht
      rw [h.flds h0 ht] at hf
      rw [h.ref hg h0 ih ht hf] at hv ⊢
      exact Rch.ref a i ih ht hf hv
  · intro ha
    induction ha with
    | slot i hi hu => rw [← h.slAt hi] at hu ⊢; exact Rch.slot i hi hu
    | ref a i ha ht hf hv ih =>
      rw [← h.ref hg h0 ha ht hf] at hv ⊢
      exact Rch.ref a i ih (by rw [h.tb h0]; exact ht) (by rw [h.flds h0 ht]; exact hf) hv
/-- The same is reached. -/
theorem RmL.same (h : RmL ws xs) (h0 : rcErr ws = 0) : rcErr xs = 0 ∧ rcOut xs = rcOut ws ∧ seenL xs = seenL ws ∧ hpErr xs = 0 ∧ hpOut xs = (hpOut ws).map (mkB xs) := by
  obtain ⟨h1, h2, h3⟩ := rcErr_zero h0
  have hr := h.rch h3 h1
  have hh := h.heap h1
  have hg : Good xs := fun a ha => by rw [h.tb h1]; exact h3 a ((hr a).1 ha)
  have he : rcErr xs = 0 := rc_ok hh.1 (by rw [h.slsOk]; exact h2) hg
  have hs : seenL xs = seenL ws := by
    unfold seenL
    rw [h.len]
    refine List.map_congr_left fun a _ => ?_
    exact decide_eq_decide.2 (hr a)
  refine ⟨he, ?_, hs, hh⟩
  rw [rcOut_seen he, rcOut_seen h0, hs, h.len]
end

/-- What stands at a place behind changes depends on that place alone. -/
theorem putE_agree {i : Nat} : ∀ {l : List En} {x z : List Nat}, z.length = x.length → wd z i = wd x i → wd (putE z l) i = wd (putE x l) i := by
  intro l
  induction l with
  | nil => intro x z _ h; exact h
  | cons e l ih =>
    intro x z hl h
    simp only [putE]
    rw [hl]
    split
    · refine ih (by rw [List.length_set, List.length_set, hl]) ?_
      rename_i hr
      by_cases hi : i = e.a.toNat
      · subst hi
        unfold wd
        rw [List.getElem?_set_self (by omega), List.getElem?_set_self (by omega)]
      · unfold wd
        rw [List.getElem?_set_ne (by omega), List.getElem?_set_ne (by omega)]
        exact h
    · exact ih hl h
/-- The last step of the phase of marks: as putting all marks, but for the phase. -/
theorem rml_last {x : List Nat} (h : rcErr x = 0) (p : Nat) : RmL x (putE x (⟨16, p⟩ :: wtOut x)) := by
  have hr := puts_rm h
  refine ⟨putE_len _ _, fun i h19 => ?_⟩
  have e : wd (putE x (⟨16, p⟩ :: wtOut x)) i = wd (putE x (wtOut x)) i := by
    simp only [putE]
    split
    · refine putE_agree (by rw [List.length_set]) ?_
      unfold wd
      rw [List.getElem?_set_ne (by simp; omega)]
    · rfl
  rw [e]
  exact hr.at_ i

theorem last_wd {x : List Nat} {l : List En} (p : Nat) {i : Nat} (h19 : 19 ≤ i) : wd (putE x (⟨16, p⟩ :: l)) i = wd (putE x l) i := by
  simp only [putE]
  split
  · refine putE_agree (by rw [List.length_set]) ?_
    unfold wd
    rw [List.getElem?_set_ne (by simp; omega)]
  · rfl
/-- Behind the last step of the phase of marks: what is reached is what is marked. -/
theorem last_mk {x : List Nat} (h : rcErr x = 0) (p : Nat) : rcErr (putE x (⟨16, p⟩ :: wtOut x)) = 0 ∧ rcOut (putE x (⟨16, p⟩ :: wtOut x)) = rcOut x ∧ hpErr (putE x (⟨16, p⟩ :: wtOut x)) = 0 ∧ mkdL (hpOut (putE x (⟨16, p⟩ :: wtOut x))) = rcOut x := by
  obtain ⟨g1, g2, g3, g4, g5⟩ := (rml_last h p).same h
  refine ⟨g1, g2, g4, ?_⟩
  rw [g5, ← puts_mkd h]
  congr 1
  refine List.map_congr_left fun b hb => ?_
  obtain ⟨a, rfl, a1, -⟩ := (hp_row (rcErr_zero h).1).1 b hb
  unfold mkB mkAt
  rw [bkAt_at, Int.toNat_natCast, last_wd p (by omega)]

/-- The end of a run in the phase of marks. -/
theorem mk_end {ws y : List Nat} {outs : List (List En)} (ho : ∀ v ∈ ws, v < 18446744073709551616) (h : sgAll ws = (0, outs, y)) (p1 : wd ws 16 = 1) (h0 : 0 < outs.length) : rcErr y = 0 ∧ rcOut y = rcOut ws ∧ hpErr y = 0 ∧ mkdL (hpOut y) = rcOut ws := by
  obtain ⟨hck, hon⟩ := sg_on ho h
  have ha : allE (wd ws 16) ws = (0, outs, y) := by unfold sgAll at h; rw [if_pos hck] at h; exact h
  obtain ⟨e1, e2⟩ := all_last ho ha
  obtain ⟨n, hn⟩ : ∃ n, outs.length = n + 1 := ⟨outs.length - 1, by omega⟩
  obtain ⟨i1, i2⟩ := mk_run ho h p1 n (by omega)
  obtain ⟨g1, g2, -, ⟨hn2, g4⟩, g5⟩ := hon n (by omega)
  have hp : wd (stX ws outs n) 16 = 1 := by rw [g5]; exact p1
  have hz : (sgOne (stX ws outs n)).1 = 0 := by rw [g4]
  have hs : putE (stX ws outs n) (sgOne (stX ws outs n)).2 = y := by rw [g4, ← e1, hn, stX_succ hn2]
  obtain ⟨-, e⟩ := mk_step hp hz
  by_cases h32 : 32 ≤ (wtOut (stX ws outs n)).length
  · exfalso
    have hf := mk_few g1 hp hz
    rw [hs, if_pos h32] at hf
    obtain ⟨j1, -⟩ := mk_keep hp hz h32
    rw [hs] at j1
    rcases e2 with e2 | ⟨-, e2⟩
    · omega
    · unfold sgOne at e2
      have hpr := (sg_ok g1 hz).2.2.1
      rw [hs] at hpr
      have hln : lnErr y = 0 := by
        unfold lnErr
        rw [if_pos hpr, if_neg (fun h9 => by have := h9.1; omega)]
      have hk : ckErr y = 0 := by
        unfold ckErr
        rw [if_pos hln, if_neg (by omega), if_neg (by omega)]
        exact (rcErr_zero j1).1
      rw [if_pos hk, if_pos hf, if_pos j1] at e2
      exact absurd e2 (by simp)
  · rw [e] at hs
    dsimp only at hs
    rw [batE_few h32] at hs
    obtain ⟨k1, k2, k3, k4⟩ := last_mk i1 2
    rw [hs] at k1 k2 k3 k4
    exact ⟨k1, k2.trans i2, k3, k4.trans i2⟩
end Go.Proofs.Ytpmfiibndiecpaa
