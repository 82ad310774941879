/- Each change is small, and leaves less: plain facts. -/
import Derived.Test.YtpfbppjjegialaaStgQ
namespace Go.Proofs.Ytpfbppjjegialaa
open Go.RowKit

theorem filter_lt {α : Type} {p q : α → Bool} : ∀ {l : List α}, (∀ b ∈ l, q b = true → p b = true) → (l.filter q).length ≤ (l.filter p).length ∧ ((∃ b ∈ l, p b = true ∧ q b = false) → (l.filter q).length < (l.filter p).length) := by
  intro l
  induction l with
  | nil => intro _; exact ⟨Nat.le_refl _, fun ⟨b, hb, _⟩ => by simp at hb⟩
  | cons b l ih =>
    intro h
    obtain ⟨i1, i2⟩ := ih (fun c hc => h c (by simp [hc]))
    have hb := h b (by simp)
    rw [List.filter_cons, List.filter_cons]
    refine ⟨?_, fun ⟨c, hc, h1, h2⟩ => ?_⟩
    · cases hq : q b with
      | true => rw [hb hq]; simp; omega
      | false => cases hp : p b <;> simp <;> omega
    · rcases List.mem_cons.1 hc with rfl | hc
      · rw [h1, h2]; simp; omega
      · have := i2 ⟨c, hc, h1, h2⟩
        cases hq : q b with
        | true => rw [hb hq]; simp; omega
        | false => cases hp : p b <;> simp <;> omega
/-- Some of the entries for marks, in their places. -/
theorem puts_rm_sub {ws : List Nat} (h : rcErr ws = 0) {E : List En} (hs : E.Sublist (wtOut ws)) : Rm ws (putE ws E) := by
  have hi : E.Pairwise (fun a b => a.a < b.a) := (wtOut_inc h).sublist hs
  refine ⟨putE_len _ _, fun i => ?_⟩
  by_cases hx : ∃ e ∈ E, e.a = (i : Int)
  · obtain ⟨e, he, hei⟩ := hx
    obtain ⟨a, -, a1, a2, a3, g1, g2, rfl, -⟩ := wtOut_mem h (hs.subset he)
    have hai : a = i := by dsimp only at hei; omega
    subst hai
    refine .inr ⟨a1, a2, g1, g2, seenAt ws (bkAt ws a), ?_⟩
    have := putE_hit E ws hi _ he (by dsimp only; omega) (by dsimp only; omega)
    dsimp only at this
    rw [Int.toNat_natCast] at this
    exact this
  · exact .inl (putE_wd _ _ _ (fun e he h2 => hx ⟨e, he, h2⟩))
theorem mark_dec {ws : List Nat} (h : rcErr ws = 0) (h32 : 32 ≤ (wtOut ws).length) : rcErr (putE ws ((wtOut ws).take 31)) = 0 ∧ (wtOut (putE ws ((wtOut ws).take 31))).length < (wtOut ws).length := by
  have hsub : ((wtOut ws).take 31).Sublist (wtOut ws) := List.take_sublist _ _
  have hinc : ((wtOut ws).take 31).Pairwise (fun a b => a.a < b.a) := (wtOut_inc h).sublist hsub
  obtain ⟨g1, g2, g3, g4, g5⟩ := (puts_rm_sub h hsub).same h
  refine ⟨g1, ?_⟩
  rw [wtOut_eq g1, g3, g5, List.length_map, wtOut_eq h, List.length_map]
  rw [← wtOut_eq h]
  obtain ⟨x, hx⟩ : ∃ x, putE ws ((wtOut ws).take 31) = x := ⟨_, rfl⟩
  rw [hx]
  unfold wntL
  rw [List.filter_map, List.length_map]
  have hrow := hp_row (rcErr_zero h).1
  have hmk : ∀ b ∈ hpOut ws, (∀ e ∈ (wtOut ws).take 31, e.a ≠ b.at_) → (mkB x b).mark = b.mark := by
    intro b hb hno
    obtain ⟨a, rfl, a1, a2, a3, a4⟩ := hrow.1 b hb
    show mkAt x (bkAt ws a).at_.toNat = _
    rw [bkAt_at, Int.toNat_natCast]
    unfold mkAt
    rw [← hx, putE_wd _ _ _ (fun e he => by have := hno e he; rwa [bkAt_at] at this)]
    rfl
  refine (filter_lt (fun b hb hq => ?_)).2 ?_
  · dsimp only [Function.comp_apply] at hq ⊢
    cases hk : keepB (seenL ws) b with
    | false => rfl
    | true =>
      exfalso
      have hm := hmk b hb (fun e he h2 => by
        obtain ⟨a, hm, b1, b2, b3, g1', g2', rfl, hk'⟩ := wtOut_mem h (hsub.subset he)
        dsimp only at h2
        have : bkAt ws a = b := by
          have hp := hrow.2
          rw [List.pairwise_iff_getElem] at hp
          obtain ⟨i, hi, e1⟩ := List.getElem_of_mem hm
          obtain ⟨j, hj, e2⟩ := List.getElem_of_mem hb
          have h3 : (hpOut ws)[i].at_ = (hpOut ws)[j].at_ := by rw [e1, e2, bkAt_at]; exact h2
          rcases Nat.lt_trichotomy i j with h4 | h4 | h4
          · have := hp i j hi hj h4; omega
          · subst h4; rw [← e1, ← e2]
          · have := hp j i hj hi h4; omega
        rw [this, hk] at hk'; cases hk')
      unfold keepB at hk hq
      rw [hm] at hq
      change (!(b.mark == ((seenL ws)[b.at_.toNat]?.getD false))) = true at hq
      rw [hk] at hq
      exact absurd hq (by decide)
  · have hpos : 0 < ((wtOut ws).take 31).length := by rw [List.length_take]; omega
    have he := List.getElem_mem hpos
    obtain ⟨a, hm, b1, b2, b3, g1', g2', e1, hk'⟩ := wtOut_mem h (hsub.subset he)
    refine ⟨bkAt ws a, hm, by rw [hk']; rfl, ?_⟩
    dsimp only [Function.comp_apply]
    have hit := putE_hit _ ws hinc _ he (by rw [e1]; dsimp only; omega) (by rw [e1]; dsimp only; omega)
    rw [e1] at hit
    dsimp only at hit
    rw [Int.toNat_natCast, hx] at hit
    unfold keepB
    show (!((mkB x (bkAt ws a)).mark == ((seenL ws)[(bkAt ws a).at_.toNat]?.getD false))) = false
    have hm2 : (mkB x (bkAt ws a)).mark = seenAt ws (bkAt ws a) := by
      show mkAt x (bkAt ws a).at_.toNat = _
      rw [bkAt_at, Int.toNat_natCast]
      unfold mkAt
      rw [hit, (mk_word g1' g2' _).2.1]
    rw [hm2]
    unfold seenAt
    simp

/-! Words of which other even ones, and those below the heap, are as they were -/
structure Ev (ws xs : List Nat) : Prop where
  len : xs.length = ws.length
  at_ : ∀ i, (i % 2 = 0 ∧ 96 ≤ i ∨ 96 ≤ i ∧ i < 128) → wd xs i = wd ws i
/-- A block with the second word that the other words have. -/
def nxB (xs : List Nat) (b : Bk) : Bk := { b with next := wd xs (b.at_.toNat + 1) }
section
variable {ws xs : List Nat}
theorem Ev.stands (h : Ev ws xs) {i : Nat} (hi : i % 2 = 0) (h96 : 96 ≤ i) : stands xs i = stands ws i := by
  unfold Proofs.Ytpfbppjjegialaa.stands
  rw [h.at_ i (.inl ⟨hi, h96⟩), h.len]
theorem Ev.bkAt (h : Ev ws xs) {i : Nat} (hi : i % 2 = 0) (h96 : 96 ≤ i) : bkAt xs i = nxB xs (bkAt ws i) := by
  unfold nxB
  have h1 : (Proofs.Ytpfbppjjegialaa.bkAt ws i).at_.toNat = i := by rw [bkAt_at, Int.toNat_natCast]
  rw [h1]
  unfold Proofs.Ytpfbppjjegialaa.bkAt
  rw [h.at_ i (.inl ⟨hi, h96⟩)]
theorem Ev.blocks (h : Ev ws xs) : ∀ i l, blocks ws i = some l → i % 2 = 0 → 96 ≤ i → blocks xs i = some (l.map (nxB xs)) := by
  refine blocks_ind (fun i l => i % 2 = 0 → 96 ≤ i → Proofs.Ytpfbppjjegialaa.blocks xs i = some (l.map (nxB xs))) (fun i hi _ _ => ?_) (fun i l hi hs hb ih h2 h3 => ?_)
  · exact blocks_end (by rw [h.len]; exact hi)
  · have hsz := stands_sz hs
    have ih := ih (by omega) (by omega)
    have hz : szAt xs i = szAt ws i := by unfold szAt; rw [h.at_ i (.inl ⟨h2, h3⟩)]
    rw [blocks_step (by rw [h.len]; exact hi) (by rw [h.stands h2 h3]; exact hs), hz, ih, h.bkAt h2 h3]
    rfl
theorem fitB_nx (h : Ev ws xs) {b : Bk} (hb : b.kind = 1 → tyA b + 1 < 128) : fitB xs (nxB xs b) = fitB ws b := by
  by_cases hk : b.kind = 1
  · have h2 := hb hk
    have h3 : 96 ≤ tyA b := by unfold tyA; omega
    unfold fitB typedB
    show (b.kind != 1 || (typOk (wd xs (tyA b)) (wd xs (tyA b + 1)) && b.size == ((objSz (wd xs (tyA b) % 256) : Nat) : Int))) = _
    rw [h.at_ _ (.inr ⟨h3, by omega⟩), h.at_ _ (.inr ⟨by omega, h2⟩)]
  · rw [fit_other hk, fit_other (b := nxB xs b) hk]
theorem Ev.heap (h : Ev ws xs) (h0 : hpErr ws = 0) : hpErr xs = 0 ∧ hpOut xs = (hpOut ws).map (nxB xs) := by
  obtain ⟨h1, l, h2, h3, h4⟩ := hpErr_zero h0
  have hb := h.blocks 128 l h2 (by omega) (by omega)
  rw [h4]
  refine hpErr_ok (by rw [h.len]; exact h1) hb ?_
  rw [List.all_map, List.all_eq_true]
  rw [List.all_eq_true] at h3
  intro b hb2
  show fitB xs (nxB xs b) = true
  rw [fitB_nx h (blocks_ty h2 (by omega) b hb2)]
  exact h3 b hb2
end
theorem wantE_memD : ∀ {l : List Bk} {s : Int} {e : En}, e ∈ wantE l s → ∃ b ∈ l, b.kind = 1 ∧ e.a = b.at_ + 1 := by
  intro l
  induction l with
  | nil => intro s e h; simp [wantE] at h
  | cons x l ih =>
    intro s e h
    simp only [wantE, List.mem_append] at h
    rcases h with h | h
    · split at h
      · rename_i hx
        rw [List.mem_singleton] at h
        subst h
        exact ⟨x, by simp, hx.1, rfl⟩
      · simp at h
    · obtain ⟨b, h1, h2⟩ := ih h
      exact ⟨b, by simp [h1], h2⟩
theorem wantE_nx {xs : List Nat} : ∀ {l : List Bk} {s : Int}, l.Pairwise (fun a b => a.at_ < b.at_) → (∀ b ∈ l, 0 ≤ b.at_) → (∀ b ∈ l, b.kind = 1 → wd xs (b.at_.toNat + 1) = b.next ∨ ∃ e ∈ wantE l s, e.a = b.at_ + 1 ∧ wd xs (b.at_.toNat + 1) = e.v) →
    (wantE (l.map (nxB xs)) s).length ≤ (wantE l s).length ∧ ((∃ e ∈ wantE l s, wd xs e.a.toNat = e.v) → (wantE (l.map (nxB xs)) s).length < (wantE l s).length) := by
  intro l
  induction l with
  | nil => intro s _ _ _; exact ⟨Nat.le_refl _, fun ⟨e, he, _⟩ => by simp [wantE] at he⟩
  | cons b l ih =>
    intro s hp h0 hq
    rw [List.pairwise_cons] at hp
    have htail : ∀ c ∈ l, c.kind = 1 → wd xs (c.at_.toNat + 1) = c.next ∨ ∃ e ∈ wantE l (nextS b s), e.a = c.at_ + 1 ∧ wd xs (c.at_.toNat + 1) = e.v := by
      intro c hc hk
      rcases hq c (by simp [hc]) hk with h1 | ⟨e, he, h2, h3⟩
      · exact .inl h1
      · simp only [wantE, List.mem_append] at he
        rcases he with he | he
        · split at he
          · rw [List.mem_singleton] at he
            subst he
            dsimp only at h2
            have := hp.1 c hc
            omega
          · simp at he
        · exact .inr ⟨e, he, h2, h3⟩
    obtain ⟨i1, i2⟩ := ih (s := nextS b s) hp.2 (fun c hc => h0 c (by simp [hc])) htail
    have hb0 := h0 b (by simp)
    rw [List.map_cons]
    simp only [wantE]
    have e1 : nextS (nxB xs b) s = nextS b s := rfl
    have e2 : wantN (nxB xs b) s = wantN b s := rfl
    rw [e1, e2, List.length_append, List.length_append]
    have hnx : (nxB xs b).next = wd xs (b.at_.toNat + 1) := rfl
    have hkk : (nxB xs b).kind = b.kind := rfl
    have hat : (nxB xs b).at_ = b.at_ := rfl
    -- the head's own part
    have hhead : b.kind = 1 → wd xs (b.at_.toNat + 1) = b.next ∨ wd xs (b.at_.toNat + 1) = wantN b s := by
      intro hk
      rcases hq b (by simp) hk with h1 | ⟨e, he, h2, h3⟩
      · exact .inl h1
      · simp only [wantE, List.mem_append] at he
        rcases he with he | he
        · split at he
          · rw [List.mem_singleton] at he
            subst he
            exact .inr h3
          · simp at he
        · obtain ⟨c, hc, -, h4⟩ := wantE_memD he
          have := hp.1 c hc
          omega
    have hle : (if (nxB xs b).kind = 1 ∧ (nxB xs b).next ≠ wantN b s then [(⟨(nxB xs b).at_ + 1, wantN b s⟩ : En)] else []).length ≤ (if b.kind = 1 ∧ b.next ≠ wantN b s then [(⟨b.at_ + 1, wantN b s⟩ : En)] else []).length := by
      rw [hnx, hkk, hat]
      by_cases hk : b.kind = 1
      · rcases hhead hk with h1 | h1
        · rw [h1]; exact Nat.le_refl _
        · rw [if_neg (fun h => h.2 h1)]; exact Nat.zero_le _
      · rw [if_neg (fun h => hk h.1)]; exact Nat.zero_le _
    refine ⟨by omega, fun ⟨e, he, hev⟩ => ?_⟩
    rcases List.mem_append.1 he with he | he
    · split at he
      · rename_i hc
        rw [List.mem_singleton] at he
        subst he
        dsimp only at hev
        have hn : (b.at_ + 1).toNat = b.at_.toNat + 1 := by omega
        rw [hn] at hev
        rw [hnx, hkk, hat, if_neg (fun h => h.2 hev), if_pos hc]
        simp only [List.length_nil, List.length_cons]
        omega
      · simp at he
    · have := i2 ⟨e, he, hev⟩
      omega
end Go.Proofs.Ytpfbppjjegialaa
