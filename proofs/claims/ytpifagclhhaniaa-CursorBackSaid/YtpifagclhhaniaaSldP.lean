/- Moving an object: plain functions, and the plain halves of the laws SlideWords and SlideBehind. -/
import Derived.Test.YtpifagclhhaniaaFwdR
namespace Go.Proofs.Ytpifagclhhaniaa

/-- Putting words one behind the other from an address on. -/
def putSeq : List Nat → Nat → List Nat → List Nat
  | ws, _, [] => ws
  | ws, t, v :: l => putSeq (ws.set t v) (t + 1) l
theorem putSeq_len (l : List Nat) : ∀ (ws : List Nat) (t : Nat), (putSeq ws t l).length = ws.length := by
  induction l with
  | nil => intro ws t; rfl
  | cons v l ih => intro ws t; simp only [putSeq, ih, List.length_set]
theorem putSeq_wd (l : List Nat) : ∀ (ws : List Nat) (t i : Nat), t + l.length ≤ ws.length → wd (putSeq ws t l) i = if t ≤ i ∧ i < t + l.length then l[i - t]?.getD 0 else wd ws i := by
  induction l with
  | nil => intro ws t i _; simp only [putSeq, List.length_nil]; rw [if_neg (by omega)]
  | cons v l ih =>
    intro ws t i hn
    rw [List.length_cons] at hn
    simp only [putSeq, List.length_cons]
    rw [ih (ws.set t v) (t + 1) i (by rw [List.length_set]; omega), wd_set]
    by_cases h1 : t = i
    · subst h1
      rw [if_neg (by omega), if_pos ⟨rfl, by omega⟩, if_pos (by omega)]
      simp
    · by_cases h2 : t + 1 ≤ i ∧ i < t + 1 + l.length
      · rw [if_pos h2, if_pos (by omega)]
        obtain ⟨m, rfl⟩ : ∃ m, i = t + 1 + m := ⟨i - (t + 1), by omega⟩
        rw [show t + 1 + m - (t + 1) = m by omega, show t + 1 + m - t = m + 1 by omega]
        simp
      · rw [if_neg h2, if_neg (fun h => h1 h.1), if_neg (by omega)]
/-- The blocks from an address on depend on the words from there on alone. -/
theorem blocks_agree {ws xs : List Nat} (hn : xs.length = ws.length) : ∀ i, (∀ j, i ≤ j → wd xs j = wd ws j) → blocks xs i = blocks ws i := by
  have key : ∀ n i, ws.length - i ≤ n → (∀ j, i ≤ j → wd xs j = wd ws j) → blocks xs i = blocks ws i := by
    intro n
    induction n with
    | zero => intro i h _; rw [blocks_end (by omega), blocks_end (by omega)]
    | succ n ih =>
      intro i h hw
      by_cases hi : ws.length ≤ i
      · rw [blocks_end (by omega), blocks_end (by omega)]
      · have e1 : stands xs i = stands ws i := by unfold stands; rw [hw i (Nat.le_refl _), hn]
        have e2 : szAt xs i = szAt ws i := by unfold szAt; rw [hw i (Nat.le_refl _)]
        have e3 : bkAt xs i = bkAt ws i := by unfold bkAt; rw [hw i (Nat.le_refl _), hw (i + 1) (by omega)]
        cases hs : stands ws i with
        | false => rw [blocks_bad (by omega) (by rw [e1, hs]), blocks_bad (by omega) hs]
        | true =>
          have hsz := stands_sz hs
          rw [blocks_step (by omega) (by rw [e1, hs]), blocks_step (by omega) hs, e2, e3, ih _ (by omega) (fun j hj => hw j (by omega))]
  exact fun i => key _ i (Nat.le_refl _)
/-- A block's own fit depends on the words of types alone. -/
theorem allMv_agree {ws xs : List Nat} (hw : ∀ j, j < 128 → wd xs j = wd ws j) : ∀ {l : List Bk}, (∀ b ∈ l, b.kind = 1 → tyA b + 1 < 128) → ∀ s, allMv xs l s = allMv ws l s := by
  intro l
  induction l with
  | nil => intro _ s; rfl
  | cons b l ih =>
    intro h s
    have e : fitB xs b = fitB ws b := by
      unfold fitB
      by_cases hk : b.kind = 1
      · have h2 := h b (by simp) hk
        unfold typedB
        rw [hw _ (by omega), hw _ (by omega)]
      · have : (b.kind != 1) = true := by rw [bne_iff_ne]; exact hk
        rw [this, Bool.true_or, Bool.true_or]
    simp only [allMv, e]
    rw [ih (fun b hb => h b (by simp [hb])), ih (fun b hb => h b (by simp [hb]))]
theorem blocks_ty {ws : List Nat} {i : Nat} {l : List Bk} (h : blocks ws i = some l) (h2 : i % 2 = 0) : ∀ b ∈ l, b.kind = 1 → tyA b + 1 < 128 := by
  intro b hb hk
  obtain ⟨m, hm, rfl⟩ := List.getElem_of_mem hb
  obtain ⟨a, e, -, -, -, b4, -⟩ := blocks_at _ _ h h2 m hm
  rw [e] at hk ⊢
  exact typ_lt (bkAt_hd b4) rfl rfl hk

/-- The error of moving. -/
def mvErr (ws : List Nat) (f t : Int) : Int := if rdErr ws f t = 0 then (match blocks ws f.toNat with | some (b :: _) => if b.mark then 0 else 6 | _ => 6) else rdErr ws f t
/-- The words of the object at its new place. -/
def mvWords (ws : List Nat) (f : Nat) : List Nat := (List.range (szAt ws f)).map fun i => if i = 0 then headW { rawBk (wd ws f) with mark := false } else if i = 1 then 0 else wd ws (f + i)
theorem mvErr_zero {ws : List Nat} {f t : Int} (h : mvErr ws f t = 0) : rdErr ws f t = 0 ∧ ∃ a : Nat, f = (a : Int) ∧ a % 2 = 0 ∧ 128 ≤ a ∧ a < ws.length ∧ stands ws a = true ∧ liveB (bkAt ws a) = true ∧ ∃ l, blocks ws a = some (bkAt ws a :: l) ∧ blocks ws (a + szAt ws a) = some l := by
  unfold mvErr at h
  split at h
  · rename_i h0
    refine ⟨h0, ?_⟩
    obtain ⟨h1, h2, l, h3, h4, h5⟩ := rdErr_zero h0
    obtain ⟨a1, a2, a3, a4, a5⟩ := rdArg_no h2
    rw [h3] at h
    cases l with
    | nil => simp at h
    | cons b l =>
      dsimp only at h
      split at h
      · rename_i hm
        refine ⟨f.toNat, by omega, by omega, by omega, ?_, ?_⟩
        · rcases Nat.lt_or_ge f.toNat ws.length with h6 | h6
          · exact h6
          · rw [blocks_end h6] at h3; simp at h3
        · have hlt : f.toNat < ws.length := by
            rcases Nat.lt_or_ge f.toNat ws.length with h6 | h6
            · exact h6
            · rw [blocks_end h6] at h3; simp at h3
          obtain ⟨_, e2, e3, e4⟩ := blocks_first h3 hlt
          have e2 : b = bkAt ws f.toNat := e2
          subst e2
          refine ⟨e3, ?_, l, h3, by simpa using e4⟩
          have h7 := (hdOk_iff _).1 (bkAt_hd e3)
          have hm2 : (rawBk (wd ws f.toNat)).mark = true := hm
          have hk : (bkAt ws f.toNat).kind = 1 := by
            rcases h7.2 with h8 | h8
            · exact h8.1
            · rw [hm2] at h8; exact absurd h8.2.2.1 (by simp)
          simp [liveB, hk]; exact hm
      · simp at h
  · rename_i h0
    exact absurd h h0
theorem mvWords_len (ws : List Nat) (f : Nat) : (mvWords ws f).length = szAt ws f := by simp [mvWords]
theorem mvWords_get (ws : List Nat) (f i : Nat) (h : i < szAt ws f) : (mvWords ws f)[i]? = some (if i = 0 then headW { rawBk (wd ws f) with mark := false } else if i = 1 then 0 else wd ws (f + i)) := by simp [mvWords, h]
theorem unmark_ok {w : Nat} (h : hdOk (rawBk w) = true) (hk : (rawBk w).kind = 1) : hdOk { rawBk w with mark := false } = true := by
  have := (hdOk_iff _).1 h
  rw [hdOk_iff]
  show _ ∧ ((rawBk w).kind = 1 ∧ _ ∨ _)
  rcases this.2 with h1 | h1
  · exact ⟨this.1, .inl h1⟩
  · rw [hk] at h1; exact absurd h1.1 (by omega)
/-- SlideWords and SlideBehind: the words behind a move. -/
theorem slide_plain {ws : List Nat} {f t : Int} (h : mvErr ws f t = 0) : ∃ a u n : Nat, f = (a : Int) ∧ t = (u : Int) ∧ n = szAt ws a ∧ 2 ≤ n ∧ n ≤ 10 ∧ 128 ≤ u ∧ u ≤ a ∧ a + n ≤ ws.length ∧ stands ws a = true ∧ liveB (bkAt ws a) = true ∧
    (∃ l, blocks ws a = some (bkAt ws a :: l) ∧ blocks ws (a + n) = some l ∧ blocks (putSeq ws u (mvWords ws a)) (a + n) = some l ∧ rdErr (putSeq ws u (mvWords ws a)) ((a + n : Nat) : Int) ((u + n : Nat) : Int) = 0 ∧
      rdMv ws f t = ((a : Int), (u : Int)) :: rdMv (putSeq ws u (mvWords ws a)) ((a + n : Nat) : Int) ((u + n : Nat) : Int)) ∧
    wd (putSeq ws u (mvWords ws a)) u = headW { rawBk (wd ws a) with mark := false } ∧ hdOk { rawBk (wd ws a) with mark := false } = true := by
  obtain ⟨h0, a, rfl, c1, c2, c3, c4, c5, l, c6, c7⟩ := mvErr_zero h
  obtain ⟨h1, h2, l', h3, h4, h5⟩ := rdErr_zero h0
  obtain ⟨a1, a2, a3, a4, a5⟩ := rdArg_no h2
  have hb := isImg_bd h1
  rw [Int.toNat_natCast, c6] at h3
  cases h3
  obtain ⟨u, rfl⟩ := Int.eq_ofNat_of_zero_le (show 0 ≤ t by omega)
  have hsz := stands_sz c4
  have hk : (bkAt ws a).kind = 1 := by simp [liveB] at c5; exact c5.1
  have hhd := (hdOk_iff _).1 (bkAt_hd c4)
  have hn10 : szAt ws a ≤ 10 := by
    have e1 : (rawBk (wd ws a)).size = ((szAt ws a : Nat) : Int) := rfl
    have hk2 : (rawBk (wd ws a)).kind = 1 := hk
    rcases hhd.2 with h8 | h8
    · omega
    · rw [hk2] at h8; exact absurd h8.1 (by omega)
  have hun := unmark_ok (bkAt_hd c4) hk
  have hlen := mvWords_len ws a
  have hwd : ∀ i, wd (putSeq ws u (mvWords ws a)) i = if u ≤ i ∧ i < u + szAt ws a then (mvWords ws a)[i - u]?.getD 0 else wd ws i := by
    intro i
    rw [putSeq_wd _ _ _ _ (by rw [hlen]; omega), hlen]
  have hagree : ∀ j, a + szAt ws a ≤ j → wd (putSeq ws u (mvWords ws a)) j = wd ws j := fun j hj => by rw [hwd, if_neg (by omega)]
  have hbx : blocks (putSeq ws u (mvWords ws a)) (a + szAt ws a) = some l := by rw [blocks_agree (putSeq_len _ _ _) _ hagree, c7]
  have hty : ∀ j, j < 128 → wd (putSeq ws u (mvWords ws a)) j = wd ws j := fun j hj => by rw [hwd, if_neg (by omega)]
  have h6 : allMv ws l ((u : Int) + (szAt ws a : Nat)) = true := by
    simp only [allMv, c5, if_true, Bool.and_eq_true] at h4
    exact h4.2.2
  have h7 : allMv (putSeq ws u (mvWords ws a)) l ((u + szAt ws a : Nat) : Int) = true := by
    rw [allMv_agree hty (fun b hb => blocks_ty c6 c1 b (by simp [hb]))]
    simpa using h6
  have hrd : rdErr (putSeq ws u (mvWords ws a)) ((a + szAt ws a : Nat) : Int) ((u + szAt ws a : Nat) : Int) = 0 := by
    rw [rdErr_of (by rw [putSeq_len]; exact h1) ?_ (by rw [Int.toNat_natCast]; exact hbx), if_pos h7]
    rw [putSeq_len]
    cases hq : rdArg ws.length ((a + szAt ws a : Nat) : Int) ((u + szAt ws a : Nat) : Int) with
    | false => rfl
    | true => exact absurd (by omega) ((rdArg_iff _ _ _).1 hq)
  refine ⟨a, u, szAt ws a, rfl, rfl, rfl, hsz.1, hn10, by omega, by omega, hsz.2.2, c4, c5, ⟨l, c6, c7, hbx, hrd, ?_⟩, ?_, hun⟩
  · rw [h5]
    have e : rdMv (putSeq ws u (mvWords ws a)) ((a + szAt ws a : Nat) : Int) ((u + szAt ws a : Nat) : Int) = moves l ((u + szAt ws a : Nat) : Int) := by
      unfold rdMv; rw [if_pos hrd, Int.toNat_natCast, hbx]
    rw [e]
    simp only [moves, c5, if_true, bkAt_at, bkAt_size]
    simp
  · rw [hwd, if_pos (by omega), Nat.sub_self, mvWords_get _ _ _ (by omega), Option.getD_some, if_pos rfl]
end Go.Proofs.Ytpifagclhhaniaa
