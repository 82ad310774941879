/- The plain halves of the laws of layer 25. -/
import Derived.Test.YtpfbppjjegialaaRmkP
import Derived.Test.YtpfbppjjegialaaKMove
namespace Go.Proofs.Ytpfbppjjegialaa
open Go.RowKit

theorem inc_ext : ∀ {a b : List Int}, a.Pairwise (· < ·) → b.Pairwise (· < ·) → (∀ x, x ∈ a ↔ x ∈ b) → a = b := by
  intro a
  induction a with
  | nil =>
    intro b _ _ h
    cases b with
    | nil => rfl
    | cons y b => exact absurd ((h y).2 (by simp)) (by simp)
  | cons x a ih =>
    intro b ha hb h
    cases b with
    | nil => exact absurd ((h x).1 (by simp)) (by simp)
    | cons y b =>
      rw [List.pairwise_cons] at ha hb
      have hxy : x = y := by
        have h1 := (h x).1 (by simp)
        have h2 := (h y).2 (by simp)
        rw [List.mem_cons] at h1 h2
        rcases h1 with h1 | h1
        · exact h1
        · rcases h2 with h2 | h2
          · exact h2.symm
          · have := hb.1 _ h1; have := ha.1 _ h2; omega
      subst hxy
      rw [ih ha.2 hb.2 (fun z => ?_)]
      have hz := h z
      rw [List.mem_cons, List.mem_cons] at hz
      constructor
      · intro h1
        have := ha.1 _ h1
        rcases hz.1 (.inr h1) with h2 | h2
        · omega
        · exact h2
      · intro h1
        have := hb.1 _ h1
        rcases hz.2 (.inr h1) with h2 | h2
        · omega
        · exact h2
theorem putE_hit (l : List En) : ∀ ws : List Nat, l.Pairwise (fun a b => a.a < b.a) → ∀ e ∈ l, 0 ≤ e.a → e.a < (ws.length : Int) → wd (putE ws l) e.a.toNat = e.v := by
  induction l with
  | nil => intro ws _ e he; simp at he
  | cons x l ih =>
    intro ws hp e he h0 h1
    rw [List.pairwise_cons] at hp
    simp only [putE]
    rcases List.mem_cons.1 he with rfl | he
    · rw [putE_wd l _ _ (fun y hy => by have := hp.1 y hy; omega), if_pos ⟨h0, h1⟩]
      unfold wd
      rw [List.getElem?_set_self (by omega)]
      rfl
    · refine ih _ hp.2 e he h0 ?_
      split
      · rw [List.length_set]; exact h1
      · exact h1
theorem blocks_inc {ws : List Nat} : ∀ i l, blocks ws i = some l → (∀ b ∈ l, (i : Int) ≤ b.at_) ∧ l.Pairwise (fun a b => a.at_ < b.at_) := by
  refine blocks_ind _ (fun i _ => ⟨fun b h => by simp at h, List.Pairwise.nil⟩) (fun i l hi hs hb ih => ?_)
  have hsz := stands_sz hs
  refine ⟨fun b h => ?_, List.Pairwise.cons (fun b h => ?_) ih.2⟩
  · rcases List.mem_cons.1 h with rfl | h
    · rw [bkAt_at]; omega
    · have := ih.1 b h; omega
  · have := ih.1 b h
    rw [bkAt_at]; omega
theorem hp_row {ws : List Nat} (h : hpErr ws = 0) : (∀ b ∈ hpOut ws, ∃ a : Nat, b = bkAt ws a ∧ 128 ≤ a ∧ a % 2 = 0 ∧ a < ws.length ∧ stands ws a = true) ∧ (hpOut ws).Pairwise (fun a b => a.at_ < b.at_) := by
  obtain ⟨h1, l, h2, h3, h4⟩ := hpErr_zero h
  rw [h4]
  refine ⟨fun b hb => ?_, (blocks_inc _ _ h2).2⟩
  obtain ⟨k, hk, rfl⟩ := List.getElem_of_mem hb
  obtain ⟨a, e1, e2, e3, e4, e5, -⟩ := blocks_at _ _ h2 (by omega) k hk
  exact ⟨a, e1, by omega, e2, e4, e5⟩
/-- An object that is reached is one of the heap's. -/
theorem rch_mem {ws : List Nat} (h : rcErr ws = 0) {a : Nat} (ha : Rch ws a) : ∃ b ∈ hpOut ws, b = bkAt ws a ∧ b.kind = 1 ∧ isObj ws a := by
  obtain ⟨h1, h2, h3⟩ := rcErr_zero h
  obtain ⟨ho, -⟩ := tb_obj h1 (h3 a ha)
  obtain ⟨k, hk, e, -⟩ := ho.2.2.2.2.2.2
  exact ⟨_, List.getElem_mem hk, e, by rw [e]; exact ho.2.2.2.2.1, ho⟩
noncomputable def seenAt (ws : List Nat) (b : Bk) : Bool := (seenL ws)[b.at_.toNat]?.getD false
theorem seenAt_iff {ws : List Nat} {a : Nat} (h : a < ws.length) : seenAt ws (bkAt ws a) = true ↔ Rch ws a := by
  unfold seenAt
  rw [bkAt_at, Int.toNat_natCast]
  exact seenL_get h
theorem seen_kind {ws : List Nat} (h : rcErr ws = 0) {b : Bk} (hb : b ∈ hpOut ws) (hk : keepB (seenL ws) b = false) : b.kind = 1 := by
  obtain ⟨h1, -, -⟩ := rcErr_zero h
  obtain ⟨a, rfl, a1, a2, a3, a4⟩ := (hp_row h1).1 b hb
  cases hm : (bkAt ws a).mark with
  | true =>
    obtain ⟨_, l, g2, -, g4⟩ := hpErr_zero h1
    rw [g4] at hb
    exact blocks_mk g2 (by omega) _ hb hm
  | false =>
    have hs : seenAt ws (bkAt ws a) = true := by
      unfold keepB at hk
      rw [hm] at hk
      unfold seenAt
      cases hq : (seenL ws)[(bkAt ws a).at_.toNat]?.getD false with
      | true => rfl
      | false => rw [hq] at hk; exact absurd hk (by decide)
    obtain ⟨b', -, e, hk', -⟩ := rch_mem h ((seenAt_iff a3).1 hs)
    rw [e] at hk'
    exact hk'
theorem wtOut_eq {ws : List Nat} (h : rcErr ws = 0) : wtOut ws = (wntL (seenL ws) (hpOut ws)).map (wntE ws (seenL ws)) := by
  unfold wtOut
  rw [if_pos h]
theorem wtOut_mem {ws : List Nat} (h : rcErr ws = 0) {e : En} (he : e ∈ wtOut ws) : ∃ a : Nat, bkAt ws a ∈ hpOut ws ∧ 128 ≤ a ∧ a % 2 = 0 ∧ a < ws.length ∧ splitOk (wd ws a) = true ∧ (rawBk (wd ws a)).kind = 1 ∧ e = ⟨(a : Int), mkVal (wd ws a) (seenAt ws (bkAt ws a))⟩ ∧ keepB (seenL ws) (bkAt ws a) = false := by
  obtain ⟨h1, -, -⟩ := rcErr_zero h
  rw [wtOut_eq h, List.mem_map] at he
  obtain ⟨b, hb, rfl⟩ := he
  have hm := wntL_mem hb
  have hk : keepB (seenL ws) b = false := by
    unfold wntL at hb
    have := (List.mem_filter.1 hb).2
    simpa using this
  have hkind := seen_kind h hm hk
  obtain ⟨a, rfl, a1, a2, a3, a4⟩ := (hp_row h1).1 b hm
  refine ⟨a, hm, a1, a2, a3, ?_, hkind, rfl, hk⟩
  unfold stands at a4
  simp only [Bool.and_eq_true] at a4
  exact a4.1
theorem wtOut_inc {ws : List Nat} (h : rcErr ws = 0) : (wtOut ws).Pairwise (fun a b => a.a < b.a) := by
  obtain ⟨h1, -, -⟩ := rcErr_zero h
  rw [wtOut_eq h, List.pairwise_map]
  exact List.Pairwise.filter _ (hp_row h1).2
theorem wtOut_v {ws : List Nat} (h : rcErr ws = 0) : ∀ e ∈ wtOut ws, e.v < 18446744073709551616 := by
  intro e he
  obtain ⟨a, -, -, -, -, g1, g2, rfl, -⟩ := wtOut_mem h he
  exact (mk_word g1 g2 _).2.2.2
theorem puts_rm {ws : List Nat} (h : rcErr ws = 0) : Rm ws (putE ws (wtOut ws)) := by
  refine ⟨putE_len _ _, fun i => ?_⟩
  by_cases hi : ∃ e ∈ wtOut ws, e.a = (i : Int)
  · obtain ⟨e, he, hei⟩ := hi
    obtain ⟨a, -, a1, a2, a3, g1, g2, rfl, -⟩ := wtOut_mem h he
    have hai : a = i := by dsimp only at hei; omega
    subst hai
    refine .inr ⟨a1, a2, g1, g2, seenAt ws (bkAt ws a), ?_⟩
    have := putE_hit (wtOut ws) ws (wtOut_inc h) _ he (by dsimp only; omega) (by dsimp only; omega)
    dsimp only at this
    rw [Int.toNat_natCast] at this
    exact this
  · exact .inl (putE_wd _ _ _ (fun e he h2 => hi ⟨e, he, h2⟩))
theorem puts_mark {ws : List Nat} (h : rcErr ws = 0) {b : Bk} (hb : b ∈ hpOut ws) : (mkB (putE ws (wtOut ws)) b).mark = seenAt ws b := by
  obtain ⟨h1, -, -⟩ := rcErr_zero h
  obtain ⟨a, rfl, a1, a2, a3, a4⟩ := (hp_row h1).1 b hb
  show mkAt _ (bkAt ws a).at_.toNat = _
  rw [bkAt_at, Int.toNat_natCast]
  cases hk : keepB (seenL ws) (bkAt ws a) with
  | false =>
    have he : wntE ws (seenL ws) (bkAt ws a) ∈ wtOut ws := by
      rw [wtOut_eq h, List.mem_map]
      refine ⟨_, ?_, rfl⟩
      unfold wntL
      rw [List.mem_filter]
      exact ⟨hb, by rw [hk]; rfl⟩
    obtain ⟨a', -, b1, b2, b3, g1, g2, e, -⟩ := wtOut_mem h he
    have e1 := congrArg En.a e
    have : a' = a := by
      have : ((bkAt ws a).at_ : Int) = (a' : Int) := e1
      rw [bkAt_at] at this; omega
    subst this
    have := putE_hit (wtOut ws) ws (wtOut_inc h) _ he (by rw [e]; dsimp only; omega) (by rw [e]; dsimp only; omega)
    rw [e] at this
    dsimp only at this
    rw [Int.toNat_natCast] at this
    unfold mkAt
    rw [this, (mk_word g1 g2 _).2.1]
  | true =>
    have hw : wd (putE ws (wtOut ws)) a = wd ws a := putE_wd _ _ _ (fun e he h2 => by
      obtain ⟨a', hm, b1, b2, b3, g1, g2, rfl, hk'⟩ := wtOut_mem h he
      have : a' = a := by dsimp only at h2; omega
      subst this
      rw [hk] at hk'; cases hk')
    unfold mkAt
    rw [hw]
    unfold keepB at hk
    exact beq_iff_eq.1 hk
theorem mkdL_sub {l : List Bk} (h : l.Pairwise (fun a b => a.at_ < b.at_)) : (mkdL l).Pairwise (· < ·) := by
  unfold mkdL
  rw [List.pairwise_map]
  exact List.Pairwise.filter _ h
theorem map_inc {l : List Bk} {xs : List Nat} (h : l.Pairwise (fun a b => a.at_ < b.at_)) : (l.map (mkB xs)).Pairwise (fun a b => a.at_ < b.at_) := by
  rw [List.pairwise_map]
  exact h
theorem rcOut_mem {ws : List Nat} (h : rcErr ws = 0) (x : Int) : x ∈ rcOut ws ↔ ∃ a : Nat, x = (a : Int) ∧ a < ws.length ∧ Rch ws a := by
  rw [rcOut_seen h]
  unfold seenTo
  rw [List.mem_map]
  constructor
  · rintro ⟨a, ha, rfl⟩
    rw [List.mem_filter, List.mem_range] at ha
    exact ⟨a, rfl, ha.1, (seenL_get ha.1).1 ha.2⟩
  · rintro ⟨a, rfl, h1, h2⟩
    exact ⟨a, List.mem_filter.2 ⟨List.mem_range.2 h1, (seenL_get h1).2 h2⟩, rfl⟩
theorem rcOut_inc {ws : List Nat} (h : rcErr ws = 0) : (rcOut ws).Pairwise (· < ·) := by
  rw [rcOut_seen h]
  unfold seenTo
  rw [List.pairwise_map]
  refine List.Pairwise.filter _ ?_
  refine List.Pairwise.imp (R := (· < ·)) (fun {a b} hab => ?_) List.pairwise_lt_range
  omega
theorem puts_mkd {ws : List Nat} (h : rcErr ws = 0) : mkdL ((hpOut ws).map (mkB (putE ws (wtOut ws)))) = rcOut ws := by
  obtain ⟨h1, -, h3⟩ := rcErr_zero h
  have hrow := hp_row h1
  refine inc_ext (mkdL_sub (map_inc hrow.2)) (rcOut_inc h) fun x => ?_
  rw [rcOut_mem h]
  unfold mkdL
  rw [List.mem_map]
  constructor
  · rintro ⟨c, hc, rfl⟩
    rw [List.mem_filter, List.mem_map] at hc
    obtain ⟨⟨b, hb, rfl⟩, hm⟩ := hc
    rw [puts_mark h hb] at hm
    obtain ⟨a, rfl, a1, a2, a3, a4⟩ := hrow.1 b hb
    exact ⟨a, bkAt_at ws a, a3, (seenAt_iff a3).1 hm⟩
  · rintro ⟨a, rfl, ha, hr⟩
    obtain ⟨b, hb, rfl, -, -⟩ := rch_mem h hr
    refine ⟨mkB (putE ws (wtOut ws)) (bkAt ws a), ?_, bkAt_at ws a⟩
    rw [List.mem_filter]
    refine ⟨List.mem_map_of_mem hb, ?_⟩
    rw [puts_mark h hb]
    exact (seenAt_iff ha).2 hr
/-- MarkPuts. -/
theorem puts_plain {ws : List Nat} (h : rcErr ws = 0) : rcErr (putE ws (wtOut ws)) = 0 ∧ rcOut (putE ws (wtOut ws)) = rcOut ws ∧ hpErr (putE ws (wtOut ws)) = 0 ∧ mkdL (hpOut (putE ws (wtOut ws))) = rcOut ws ∧ wtOut (putE ws (wtOut ws)) = [] := by
  obtain ⟨g1, g2, g3, g4, g5⟩ := (puts_rm h).same h
  refine ⟨g1, g2, g4, by rw [g5]; exact puts_mkd h, ?_⟩
  rw [wtOut_eq g1, g3, g5]
  rw [show wntL (seenL ws) ((hpOut ws).map (mkB (putE ws (wtOut ws)))) = [] from ?_]
  · rfl
  unfold wntL
  rw [List.filter_eq_nil_iff]
  intro c hc
  obtain ⟨b, hb, rfl⟩ := List.mem_map.1 hc
  have hm := puts_mark h hb
  unfold keepB
  rw [hm]
  show ¬ (!(seenAt ws b == seenAt ws b)) = true
  simp
theorem wt_rows {ws : List Nat} (h : rcErr ws = 0) : (∀ (i : Nat) (x : En), (wtOut ws)[i]? = some x → 128 ≤ x.a ∧ x.a < (ws.length : Int)) ∧ ∀ (i : Nat) (x y : En), (wtOut ws)[i]? = some x → (wtOut ws)[i + 1]? = some y → x.a < y.a := by
  refine ⟨fun i x hx => ?_, fun i x y hx hy => ?_⟩
  · obtain ⟨a, -, a1, -, a3, -, -, rfl, -⟩ := wtOut_mem h (List.mem_of_getElem? hx)
    dsimp only; omega
  · have h2 := wtOut_inc h
    rw [List.pairwise_iff_getElem] at h2
    obtain ⟨h3, e3⟩ := List.getElem?_eq_some_iff.1 hx
    obtain ⟨h4, e4⟩ := List.getElem?_eq_some_iff.1 hy
    rw [← e3, ← e4]
    exact h2 i (i + 1) h3 h4 (by omega)

/-! Another mark at one address -/
theorem mkd_near : ∀ {l : List Bk} {xs : List Nat} {A : Nat}, l.Pairwise (fun a b => a.at_ < b.at_) → (∀ b ∈ l, 0 ≤ b.at_) → (∀ b ∈ l, b.at_ ≠ (A : Int) → mkAt xs b.at_.toNat = b.mark) → (mkdL (l.map (mkB xs))).length ≤ (mkdL l).length + 1 ∧ (mkdL l).length ≤ (mkdL (l.map (mkB xs))).length + 1 ∧ ((∀ b ∈ l, b.at_ ≠ (A : Int)) → (mkdL (l.map (mkB xs))).length = (mkdL l).length) := by
  intro l
  induction l with
  | nil => intro xs A _ _ _; exact ⟨by simp [mkdL], by simp [mkdL], fun _ => rfl⟩
  | cons b l ih =>
    intro xs A hp h0 hm
    rw [List.pairwise_cons] at hp
    obtain ⟨i1, i2, i3⟩ := ih hp.2 (fun c hc => h0 c (by simp [hc])) (fun c hc => hm c (by simp [hc]))
    have hl : ∀ (c : Bk) (m : List Bk), (mkdL (c :: m)).length = (if c.mark = true then 1 else 0) + (mkdL m).length := by
      intro c m
      unfold mkdL
      cases hc : c.mark <;> simp [hc]; omega
    rw [List.map_cons, hl, hl]
    by_cases hb : b.at_ = (A : Int)
    · have i4 := i3 (fun c hc => by have := hp.1 c hc; omega)
      rw [i4]
      refine ⟨?_, ?_, fun h => absurd hb (h b (by simp))⟩
      · split <;> split <;> omega
      · split <;> split <;> omega
    · have e : (mkB xs b).mark = b.mark := hm b (by simp) hb
      rw [e]
      exact ⟨by omega, by omega, fun h => by rw [i3 (fun c hc => h c (by simp [hc]))]⟩
theorem marks_rm {ws : List Nat} {a : Nat} (h1 : 128 ≤ a) (h2 : a % 2 = 0) (h3 : a < ws.length) (h4 : splitOk (wd ws a) = true) (h5 : (rawBk (wd ws a)).kind = 1) (m : Bool) : Rm ws (ws.set a (mkVal (wd ws a) m)) := by
  refine ⟨List.length_set, fun i => ?_⟩
  by_cases hi : i = a
  · subst hi
    refine .inr ⟨h1, h2, h4, h5, m, ?_⟩
    unfold wd
    rw [List.getElem?_set_self h3]
    rfl
  · refine .inl ?_
    unfold wd
    rw [List.getElem?_set_ne (by omega)]
/-- MarkMarks. -/
theorem marks_plain {ws : List Nat} (h : rcErr ws = 0) {a : Nat} (h1 : 128 ≤ a) (h2 : a % 2 = 0) (h3 : a < ws.length) (h4 : splitOk (wd ws a) = true) (h5 : (rawBk (wd ws a)).kind = 1) (m : Bool) :
    rcErr (ws.set a (mkVal (wd ws a) m)) = 0 ∧ rcOut (ws.set a (mkVal (wd ws a) m)) = rcOut ws ∧ hpErr (ws.set a (mkVal (wd ws a) m)) = 0 ∧
      (mkdL (hpOut (ws.set a (mkVal (wd ws a) m)))).length ≤ (mkdL (hpOut ws)).length + 1 ∧ (mkdL (hpOut ws)).length ≤ (mkdL (hpOut (ws.set a (mkVal (wd ws a) m)))).length + 1 := by
  have hrm := marks_rm h1 h2 h3 h4 h5 m
  obtain ⟨g1, g2, g3, g4, g5⟩ := hrm.same h
  obtain ⟨k1, -, -⟩ := rcErr_zero h
  have hrow := hp_row k1
  have := mkd_near (l := hpOut ws) (xs := ws.set a (mkVal (wd ws a) m)) (A := a) hrow.2 (fun b hb => by
    obtain ⟨i, rfl, -⟩ := hrow.1 b hb
    rw [bkAt_at]; omega) (fun b hb hne => by
    obtain ⟨i, rfl, -⟩ := hrow.1 b hb
    rw [bkAt_at] at hne ⊢
    rw [Int.toNat_natCast]
    unfold mkAt wd
    rw [List.getElem?_set_ne (by omega)]
    rfl)
  refine ⟨g1, g2, g4, ?_, ?_⟩
  · rw [g5]; exact this.1
  · rw [g5]; exact this.2.1
end Go.Proofs.Ytpfbppjjegialaa
