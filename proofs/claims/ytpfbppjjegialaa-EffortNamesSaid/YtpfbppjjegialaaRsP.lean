/- What comes next, and going on: plain functions. -/
import Derived.Test.YtpfbppjjegialaaStgR
import Derived.Test.YtpfbppjjegialaaFinP
namespace Go.Proofs.Ytpfbppjjegialaa
open Go.RowKit

/-- What comes next: the error, whether it is done, the change. -/
noncomputable def rsNx (x : List Nat) : Int × Bool × List En := if (sgOne x).1 = 6 then (if wd x 16 = 0 then (0, true, []) else (enErr x, false, chOut x)) else ((sgOne x).1, false, (sgOne x).2)
theorem rdErr_ne6 (ws : List Nat) (f s : Int) : rdErr ws f s ≠ 6 := by
  unfold rdErr heapErr
  split
  · split
    · decide
    · split
      · decide
      · split <;> decide
  · decide
theorem ckErr_ne6 (x : List Nat) : ckErr x ≠ 6 := by
  unfold ckErr
  split
  · split
    · split
      · exact rdErr_ne6 _ _ _
      · decide
    · split
      · exact rdErr_ne6 _ _ _
      · rcases hpErr_val x with h | h | h <;> rw [h] <;> decide
  · rcases lnErr_val x with h | h | h <;> rw [h] <;> decide
theorem six_ck {x : List Nat} (h : (sgOne x).1 = 6) : ckErr x = 0 := by
  by_cases h0 : ckErr x = 0
  · exact h0
  · unfold sgOne at h
    rw [if_neg h0] at h
    exact absurd h (ckErr_ne6 x)
theorem rs_ck {x : List Nat} (h : (rsNx x).1 = 0) : ckErr x = 0 := by
  by_cases h6 : (sgOne x).1 = 6
  · exact six_ck h6
  · unfold rsNx at h
    rw [if_neg h6] at h
    by_cases h0 : ckErr x = 0
    · exact h0
    · unfold sgOne at h
      rw [if_neg h0] at h
      exact absurd h h0

/-! How much is left -/
theorem hp_half (x : List Nat) (h : hpErr x = 0) : 2 * (hpOut x).length + 128 ≤ x.length := by
  obtain ⟨h1, l, h2, -, h4⟩ := hpErr_zero h
  have hb := (sizeOk_iff _).1 h1
  rw [h4]
  exact (blocks_chain (by omega) _ _ h2 (by omega) (by omega) (by omega)).1
theorem filter_lt2 {α : Type} {p q : α → Bool} : ∀ {l : List α}, (∀ b ∈ l, q b = true → p b = true) → ∀ {b1 b2 : α}, b1 ∈ l → b2 ∈ l → b1 ≠ b2 → p b1 = true → q b1 = false → p b2 = true → q b2 = false → (l.filter q).length + 2 ≤ (l.filter p).length := by
  intro l
  induction l with
  | nil => intro _ b1 b2 h; exact absurd h (by simp)
  | cons c l ih =>
    intro h b1 b2 m1 m2 hne p1 q1 p2 q2
    have hl := fun x hx => h x (List.mem_cons_of_mem _ hx)
    rw [List.filter_cons, List.filter_cons]
    rcases List.mem_cons.1 m1 with rfl | n1
    · rw [p1, q1]
      have m2' : b2 ∈ l := by
        rcases List.mem_cons.1 m2 with e | n2
        · exact absurd e.symm hne
        · exact n2
      have := (filter_lt hl).2 ⟨b2, m2', p2, q2⟩
      simp only [if_true, if_false, Bool.false_eq_true, List.length_cons]; omega
    · rcases List.mem_cons.1 m2 with rfl | n2
      · rw [p2, q2]
        have := (filter_lt hl).2 ⟨b1, n1, p1, q1⟩
        simp only [if_true, if_false, Bool.false_eq_true, List.length_cons]; omega
      · have := ih hl n1 n2 hne p1 q1 p2 q2
        have hc := h c (by simp)
        cases hq : q c with
        | true => rw [hc hq]; simp only [if_true, List.length_cons]; omega
        | false => cases hp : p c <;> simp only [if_true, if_false, Bool.false_eq_true, List.length_cons] <;> omega
theorem inc_uniqR {l : List Bk} (h : l.Pairwise (fun a b => a.at_ < b.at_)) {a b : Bk} (ha : a ∈ l) (hb : b ∈ l) (e : a.at_ = b.at_) : a = b := by
  obtain ⟨i, hi, rfl⟩ := List.getElem_of_mem ha
  obtain ⟨j, hj, rfl⟩ := List.getElem_of_mem hb
  rw [List.pairwise_iff_getElem] at h
  rcases Nat.lt_trichotomy i j with h1 | h1 | h1
  · have := h i j hi hj h1; omega
  · subst h1; rfl
  · have := h j i hj hi h1; omega
/-- The wanted marks that are left behind a change of 31: two fewer at least. -/
theorem mark_dec2 {ws : List Nat} (h : rcErr ws = 0) (h32 : 32 ≤ (wtOut ws).length) : (wtOut (putE ws ((wtOut ws).take 31))).length + 2 ≤ (wtOut ws).length := by
  have hsub : ((wtOut ws).take 31).Sublist (wtOut ws) := List.take_sublist _ _
  have hinc : ((wtOut ws).take 31).Pairwise (fun a b => a.a < b.a) := (wtOut_inc h).sublist hsub
  obtain ⟨g1, g2, g3, g4, g5⟩ := (puts_rm_sub h hsub).same h
  rw [wtOut_eq g1, g3, g5, List.length_map, wtOut_eq h, List.length_map]
  rw [← wtOut_eq h]
  obtain ⟨x, hx⟩ : ∃ x, putE ws ((wtOut ws).take 31) = x := ⟨_, rfl⟩
  rw [hx]
  unfold wntL
  rw [List.filter_map, List.length_map]
  have hrow := hp_row (rcErr_zero h).1
  have hmk : ∀ b ∈ hpOut ws, (∀ e ∈ (wtOut ws).take 31, e.a ≠ b.at_) → (mkB x b).mark = b.mark := by
    intro b hb hno
    obtain ⟨a, rfl, a1, a2, a3, a4⟩ := hrow.1 b hb
    show mkAt x (bkAt ws a).at_.toNat = _
    rw [bkAt_at, Int.toNat_natCast]
    unfold mkAt
    rw [← hx, putE_wd _ _ _ (fun e he => by have := hno e he; rwa [bkAt_at] at this)]
    rfl
  have hone : ∀ i, i < 31 → ∃ b ∈ hpOut ws, b.at_ = ((wtOut ws)[i]?.map En.a).getD 0 ∧ (!keepB (seenL ws) b) = true ∧ (!(keepB (seenL ws) (mkB x b))) = false := by
    intro i hi
    have hpos : i < ((wtOut ws).take 31).length := by rw [List.length_take]; omega
    have he := List.getElem_mem hpos
    have hge : (wtOut ws)[i]? = some ((wtOut ws).take 31)[i] := by
      rw [List.getElem_take, List.getElem?_eq_getElem (by omega)]
    obtain ⟨a, hm, b1, b2, b3, g1', g2', e1, hk'⟩ := wtOut_mem h (hsub.subset he)
    refine ⟨bkAt ws a, hm, by rw [hge, e1, bkAt_at]; rfl, by rw [hk']; rfl, ?_⟩
    have hit := putE_hit _ ws hinc _ he (by rw [e1]; dsimp only; omega) (by rw [e1]; dsimp only; omega)
    rw [e1] at hit
    dsimp only at hit
    rw [Int.toNat_natCast, hx] at hit
    unfold keepB
    show (!((mkB x (bkAt ws a)).mark == ((seenL ws)[(bkAt ws a).at_.toNat]?.getD false))) = false
    have hm2 : (mkB x (bkAt ws a)).mark = seenAt ws (bkAt ws a) := by
      show mkAt x (bkAt ws a).at_.toNat = _
      rw [bkAt_at, Int.toNat_natCast]
      unfold mkAt
      rw [hit, (mk_word g1' g2' _).2.1]
    rw [hm2]
    unfold seenAt
    simp
  obtain ⟨c0, m0, e0, p0, q0⟩ := hone 0 (by omega)
  obtain ⟨c1, m1, e1, p1, q1⟩ := hone 1 (by omega)
  have hne : c0 ≠ c1 := by
    rintro rfl
    have h2 := wtOut_inc h
    rw [List.pairwise_iff_getElem] at h2
    have := h2 0 1 (by omega) (by omega) (by omega)
    rw [List.getElem?_eq_getElem (by omega)] at e0 e1
    simp only [Option.map_some, Option.getD_some] at e0 e1
    omega
  refine filter_lt2 (p := fun b => !keepB (seenL ws) b) (q := (fun b => !keepB (seenL ws) b) ∘ mkB x) (fun b hb hq => ?_) m0 m1 hne p0 q0 p1 q1
  dsimp only [Function.comp_apply] at hq ⊢
  cases hk : keepB (seenL ws) b with
  | false => rfl
  | true =>
    exfalso
    have hm := hmk b hb (fun e he h2 => by
      obtain ⟨a, hm, b1, b2, b3, g1', g2', rfl, hk'⟩ := wtOut_mem h (hsub.subset he)
      dsimp only at h2
      have : bkAt ws a = b := inc_uniqR hrow.2 hm hb (by rw [bkAt_at]; exact h2)
      rw [this, hk] at hk'; cases hk')
    unfold keepB at hk hq
    rw [hm] at hq
    change (!(b.mark == ((seenL ws)[b.at_.toNat]?.getD false))) = true at hq
    rw [hk] at hq
    exact absurd hq (by decide)
/-- The same for next-words: as many fewer as have their value. -/
theorem wantE_cnt {xs : List Nat} : ∀ {l : List Bk} {s : Int}, l.Pairwise (fun a b => a.at_ < b.at_) → (∀ b ∈ l, 0 ≤ b.at_) → (∀ b ∈ l, b.kind = 1 → wd xs (b.at_.toNat + 1) = b.next ∨ ∃ e ∈ wantE l s, e.a = b.at_ + 1 ∧ wd xs (b.at_.toNat + 1) = e.v) →
    (wantE (l.map (nxB xs)) s).length + ((wantE l s).filter (fun e => wd xs e.a.toNat == e.v)).length ≤ (wantE l s).length := by
  intro l
  induction l with
  | nil => intro s _ _ _; exact Nat.le_refl _
  | cons b l ih =>
    intro s hp h0 hq
    rw [List.pairwise_cons] at hp
    have htail : ∀ c ∈ l, c.kind = 1 → wd xs (c.at_.toNat + 1) = c.next ∨ ∃ e ∈ wantE l (nextS b s), e.a = c.at_ + 1 ∧ wd xs (c.at_.toNat + 1) = e.v := by
      intro c hc hk
      rcases hq c (by simp [hc]) hk with h1 | ⟨e, he, h2, h3⟩
      · exact .inl h1
      · simp only [wantE, List.mem_append] at he
        rcases he with he | he
        · split at he
          · rw [List.mem_singleton] at he
            subst he
            dsimp only at h2
            have := hp.1 c hc
            omega
          · simp at he
        · exact .inr ⟨e, he, h2, h3⟩
    have i1 := ih (s := nextS b s) hp.2 (fun c hc => h0 c (by simp [hc])) htail
    have hb0 := h0 b (by simp)
    rw [List.map_cons]
    simp only [wantE]
    have e1 : nextS (nxB xs b) s = nextS b s := rfl
    have e2 : wantN (nxB xs b) s = wantN b s := rfl
    rw [e1, e2, List.filter_append, List.length_append, List.length_append, List.length_append]
    have hnx : (nxB xs b).next = wd xs (b.at_.toNat + 1) := rfl
    have hkk : (nxB xs b).kind = b.kind := rfl
    have hat : (nxB xs b).at_ = b.at_ := rfl
    have hhead : b.kind = 1 → wd xs (b.at_.toNat + 1) = b.next ∨ wd xs (b.at_.toNat + 1) = wantN b s := by
      intro hk
      rcases hq b (by simp) hk with h1 | ⟨e, he, h2, h3⟩
      · exact .inl h1
      · simp only [wantE, List.mem_append] at he
        rcases he with he | he
        · split at he
          · rw [List.mem_singleton] at he
            subst he
            exact .inr h3
          · simp at he
        · obtain ⟨c, hc, -, h4⟩ := wantE_memD he
          have := hp.1 c hc
          omega
    have hn : (b.at_ + 1).toNat = b.at_.toNat + 1 := by omega
    have hle : (if (nxB xs b).kind = 1 ∧ (nxB xs b).next ≠ wantN b s then [(⟨(nxB xs b).at_ + 1, wantN b s⟩ : En)] else []).length + ((if b.kind = 1 ∧ b.next ≠ wantN b s then [(⟨b.at_ + 1, wantN b s⟩ : En)] else []).filter (fun e => wd xs e.a.toNat == e.v)).length ≤ (if b.kind = 1 ∧ b.next ≠ wantN b s then [(⟨b.at_ + 1, wantN b s⟩ : En)] else []).length := by
      rw [hnx, hkk, hat]
      by_cases hk : b.kind = 1
      · by_cases hw : b.next = wantN b s
        · have hx : wd xs (b.at_.toNat + 1) = wantN b s := by
            rcases hhead hk with h1 | h1
            · rw [h1]; exact hw
            · exact h1
          rw [if_neg (show ¬ (b.kind = 1 ∧ b.next ≠ wantN b s) from fun h => h.2 hw), if_neg (show ¬ (b.kind = 1 ∧ wd xs (b.at_.toNat + 1) ≠ wantN b s) from fun h => h.2 hx)]; exact Nat.le_refl _
        · rw [if_pos (show b.kind = 1 ∧ b.next ≠ wantN b s from ⟨hk, hw⟩)]
          by_cases hv : wd xs (b.at_.toNat + 1) = wantN b s
          · rw [if_neg (fun h => h.2 hv)]
            simp [hn, hv]
          · rw [if_pos ⟨hk, hv⟩]
            have : (wd xs (b.at_ + 1).toNat == wantN b s) = false := by rw [hn, beq_eq_false_iff_ne]; exact hv
            simp [this]
      · rw [if_neg (fun h => hk h.1), if_neg (fun h => hk h.1)]; exact Nat.le_refl _
    omega
theorem fwd_dec2 {ws : List Nat} (h : hpErr ws = 0) (h32 : 32 ≤ (wnOut ws).length) : (wnOut (putE ws ((wnOut ws).take 31))).length + 2 ≤ (wnOut ws).length := by
  obtain ⟨i1, i2, i3⟩ := fw_ent h
  have hw : wnOut ws = wantE (hpOut ws) 128 := wn_eq h
  have hrow := hp_row h
  have hsub : ((wnOut ws).take 31).Sublist (wnOut ws) := List.take_sublist _ _
  have hinc : ((wnOut ws).take 31).Pairwise (fun a b => a.a < b.a) := i1.sublist hsub
  have hodd : ∀ e ∈ wnOut ws, ∃ a : Nat, e.a = ((a + 1 : Nat) : Int) ∧ a % 2 = 0 ∧ 128 ≤ a := by
    intro e he
    rw [hw] at he
    obtain ⟨b, hb, -, e2⟩ := wantE_memD he
    obtain ⟨a, rfl, a1, a2, -⟩ := hrow.1 b hb
    exact ⟨a, by rw [e2, bkAt_at]; rfl, a2, a1⟩
  have hev : Ev ws (putE ws ((wnOut ws).take 31)) := by
    refine ⟨putE_len _ _, fun i hi => putE_wd _ _ _ fun e he h2 => ?_⟩
    obtain ⟨a, e1, a1, a2⟩ := hodd e (hsub.subset he)
    omega
  obtain ⟨g1, g2⟩ := hev.heap h
  have hw2 : wnOut (putE ws ((wnOut ws).take 31)) = wantE ((hpOut ws).map (nxB (putE ws ((wnOut ws).take 31)))) 128 := by rw [wn_eq g1, g2]
  rw [hw2]
  have hit : ∀ e ∈ (wnOut ws).take 31, wd (putE ws ((wnOut ws).take 31)) e.a.toNat = e.v := fun e he => by
    have hin := i2 _ (hsub.subset he)
    exact putE_hit _ ws hinc _ he (by omega) (by omega)
  have key := wantE_cnt (xs := putE ws ((wnOut ws).take 31)) (l := hpOut ws) (s := 128) hrow.2 (fun b hb => by obtain ⟨a, rfl, -⟩ := hrow.1 b hb; rw [bkAt_at]; omega) (fun b hb hk => by
    obtain ⟨a, rfl, a1, a2, a3, a4⟩ := hrow.1 b hb
    have hsz := stands_sz a4
    rw [bkAt_at, Int.toNat_natCast]
    by_cases hx : ∃ e ∈ (wnOut ws).take 31, e.a = ((a + 1 : Nat) : Int)
    · obtain ⟨e, he, e1⟩ := hx
      refine .inr ⟨e, by rw [← hw]; exact hsub.subset he, by rw [e1]; omega, ?_⟩
      have := hit e he
      rw [e1, Int.toNat_natCast] at this
      exact this
    · exact .inl (by rw [putE_wd _ _ _ (fun e he h2 => hx ⟨e, he, h2⟩)]; rfl))
  rw [← hw] at key
  have hfl : 31 ≤ ((wnOut ws).filter (fun e => wd (putE ws ((wnOut ws).take 31)) e.a.toNat == e.v)).length := by
    have h1 : (wnOut ws).take 31 = ((wnOut ws).take 31).filter (fun e => wd (putE ws ((wnOut ws).take 31)) e.a.toNat == e.v) := by
      symm
      rw [List.filter_eq_self]
      intro e he
      rw [beq_iff_eq]
      exact hit e he
    have h2 := (hsub.filter (fun e => wd (putE ws ((wnOut ws).take 31)) e.a.toNat == e.v)).length_le
    rw [← h1, List.length_take] at h2
    omega
  omega
end Go.Proofs.Ytpfbppjjegialaa
