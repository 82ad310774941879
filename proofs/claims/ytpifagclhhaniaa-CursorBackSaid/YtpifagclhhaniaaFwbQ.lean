/- The plain half of the law ForwardBack. -/
import Derived.Test.YtpifagclhhaniaaFwbP
import Derived.Test.YtpifagclhhaniaaImg
namespace Go.Proofs.Ytpifagclhhaniaa

theorem isImg_size (n : Nat) : isImg n = sizeOk (n : Int) := by
  rw [Bool.eq_iff_iff, sizeOk_iff]
  simp only [isImg, Bool.and_eq_true, decide_eq_true_eq, beq_iff_eq]
  omega
/-- The error of a view whose heap is asked for. -/
def hpErr (ws : List Nat) : Int := if sizeOk (ws.length : Int) = true then (match blocks ws 128 with | none => 50 | some l => if l.all (fitB ws) = true then 0 else 50) else 8
def hpOut (ws : List Nat) : List Bk := if hpErr ws = 0 then (blocks ws 128).getD [] else []
theorem hpErr_img {ws : List Nat} (h : sizeOk (ws.length : Int) = false) : hpErr ws = 8 := by simp [hpErr, h]
theorem hpErr_none {ws : List Nat} (h : sizeOk (ws.length : Int) = true) (h2 : blocks ws 128 = none) : hpErr ws = 50 := by simp [hpErr, h, h2]
theorem hpErr_bad {ws : List Nat} (h : sizeOk (ws.length : Int) = true) {l : List Bk} (h2 : blocks ws 128 = some l) (h3 : l.all (fitB ws) = false) : hpErr ws = 50 := by
  simp only [hpErr, h, h2, h3, if_true, Bool.false_eq_true, if_false]
theorem hpErr_ok {ws : List Nat} (h : sizeOk (ws.length : Int) = true) {l : List Bk} (h2 : blocks ws 128 = some l) (h3 : l.all (fitB ws) = true) : hpErr ws = 0 ∧ hpOut ws = l := by
  have : hpErr ws = 0 := by simp only [hpErr, h, h2, h3, if_true]
  exact ⟨this, by simp [hpOut, this, h2]⟩
theorem hpErr_zero {ws : List Nat} (h : hpErr ws = 0) : sizeOk (ws.length : Int) = true ∧ ∃ l, blocks ws 128 = some l ∧ l.all (fitB ws) = true ∧ hpOut ws = l := by
  have h0 := h
  unfold hpErr at h
  split at h
  · rename_i h1
    refine ⟨h1, ?_⟩
    cases hb : blocks ws 128 with
    | none => rw [hb] at h; cases h
    | some l =>
      rw [hb] at h
      dsimp only at h
      split at h
      · rename_i h2
        exact ⟨l, rfl, h2, by simp [hpOut, h0, hb]⟩
      · cases h
  · cases h
theorem hpErr_val (ws : List Nat) : hpErr ws = 0 ∨ hpErr ws = 8 ∨ hpErr ws = 50 := by
  unfold hpErr
  split
  · cases blocks ws 128 with
    | none => simp
    | some l => dsimp only; split <;> simp
  · simp

/-! Moves of a row -/
def mvTo : List (Int × Int) → Int → Option Int
  | [], _ => none
  | m :: l, a => if m.1 = a then some m.2 else mvTo l a
theorem mvTo_at {l : List (Int × Int)} {p : Nat} (hp : p < l.length) (h : ∀ q (hq : q < p), (l[q]'(by omega)).1 ≠ l[p].1) : mvTo l l[p].1 = some l[p].2 := by
  induction l generalizing p with
  | nil => simp at hp
  | cons m l ih =>
    cases p with
    | zero => simp [mvTo]
    | succ p =>
      simp only [mvTo, List.getElem_cons_succ]
      rw [if_neg (by simpa using h 0 (by omega))]
      exact ih (by simpa using hp) (fun q hq => by simpa using h (q + 1) (by omega))
theorem endOf_mono {l : List Bk} (h : rowErr l = 0) (s : Int) {m n : Nat} (hmn : m ≤ n) (hn : n ≤ l.length) : endOf (l.take m) s ≤ endOf (l.take n) s := by
  obtain ⟨_, h2⟩ := rowErr_zero h
  induction n with
  | zero => have : m = 0 := by omega
            subst this; exact Int.le_refl _
  | succ n ih =>
    rcases Nat.lt_or_ge n m with h3 | h3
    · have : m = n + 1 := by omega
      subst this; exact Int.le_refl _
    · have h4 := ih h3 (by omega)
      have h5 := (bkOk_iff _).1 (rowPre_at h2 (show n < l.length by omega)).1
      rw [gk_get l n (by omega)] at h5
      rw [endOf_take (by omega)]
      split <;> omega
theorem moves_none {l : List Bk} : ∀ {s : Int}, moves l s = [] → endOf l s = s := by
  induction l with
  | nil => intro s _; rfl
  | cons b l ih =>
    intro s h
    simp only [moves, endOf] at h ⊢
    split at h
    · simp at h
    · rename_i hb
      rw [if_neg hb]; exact ih h
theorem moves_len_mono {l : List Bk} (s : Int) {m n : Nat} (hmn : m ≤ n) : (moves (l.take m) s).length ≤ (moves (l.take n) s).length := by
  have : l.take n = l.take m ++ (l.take n).drop m := by
    conv => lhs; rw [← List.take_append_drop m (l.take n), List.take_take, Nat.min_eq_left hmn]
  rw [this, moves_append, List.length_append]
  omega
/-- What the moves of a right row are like. -/
theorem moves_like {l : List Bk} (h : rowErr l = 0) {s : Int} (hs : s ≤ most l) : (∀ p (hp : p < (moves l s).length), ((moves l s)[p]).2 ≤ ((moves l s)[p]).1 ∧ mvTo (moves l s) ((moves l s)[p]).1 = some ((moves l s)[p]).2) ∧
    (∀ p q (hq : q < (moves l s).length) (hpq : p < q), ((moves l s)[p]'(by omega)).2 < ((moves l s)[q]).2 ∧ ((moves l s)[p]'(by omega)).1 < ((moves l s)[q]).1) ∧ (∀ (hp : 0 < (moves l s).length), ((moves l s)[0]).2 = s) := by
  obtain ⟨_, h2⟩ := rowErr_zero h
  have two : ∀ p q (hq : q < (moves l s).length) (hpq : p < q), ((moves l s)[p]'(by omega)).2 < ((moves l s)[q]).2 ∧ ((moves l s)[p]'(by omega)).1 < ((moves l s)[q]).1 := by
    intro p q hq hpq
    obtain ⟨k, hk, a1, a2, a3⟩ := moves_get (show p < (moves l s).length by omega)
    obtain ⟨m, hm, b1, b2, b3⟩ := moves_get hq
    rw [List.getElem?_eq_getElem (by omega)] at a2 b2
    have a2 := Option.some.inj a2
    have b2 := Option.some.inj b2
    have hkm : k < m := by
      rcases Nat.lt_or_ge k m with h3 | h3
      · exact h3
      · have := moves_len_mono (l := l) s h3
        omega
    have h4 := endOf_mono h s (show k + 1 ≤ m by omega) (by omega)
    have h5 := (bkOk_iff _).1 (rowPre_at h2 hk).1
    rw [gk_get l k hk] at h5
    rw [endOf_take hk, if_pos a1] at h4
    have h6 := chain_mono h hm hkm
    rw [gk_get l k hk, gk_get l m hm] at h6
    rw [a2, b2]
    exact ⟨by dsimp only; omega, h6⟩
  refine ⟨fun p hp => ?_, two, fun hp => ?_⟩
  · refine ⟨?_, mvTo_at hp (fun q hq => by have := (two q p hp hq).2; omega)⟩
    obtain ⟨k, hk, a1, a2, a3⟩ := moves_get hp
    rw [List.getElem?_eq_getElem hp] at a2
    rw [Option.some.inj a2]
    have := rowNext_end h hs hk
    rw [gk_get l k hk] at this
    exact this
  · obtain ⟨k, hk, a1, a2, a3⟩ := moves_get hp
    rw [List.getElem?_eq_getElem hp] at a2
    rw [Option.some.inj a2]
    exact moves_none (List.eq_nil_of_length_eq_zero a3)
/-- The addresses of marked blocks. -/
def mkdL (l : List Bk) : List Int := (l.filter (·.mark)).map Bk.at_
theorem mkdL_moves : ∀ {l : List Bk}, (∀ b ∈ l, b.mark = true → b.kind = 1) → ∀ s, mkdL l = (moves l s).map Prod.fst := by
  intro l
  induction l with
  | nil => intro _ s; rfl
  | cons b l ih =>
    intro h s
    have ih := ih (fun c hc => h c (by simp [hc]))
    cases hm : b.mark with
    | true =>
      have hl : liveB b = true := by simp [liveB, hm, h b (by simp) hm]
      simp only [mkdL, List.filter_cons, hm, if_true, List.map_cons, moves, hl]
      congr 1
      exact ih (s + b.size)
    | false =>
      have hl : liveB b = false := by simp [liveB, hm]
      simp only [mkdL, List.filter_cons, hm, Bool.false_eq_true, if_false, moves, hl]
      exact ih s
theorem blocks_mk {ws : List Nat} {i : Nat} {l : List Bk} (h : blocks ws i = some l) (h2 : i % 2 = 0) : ∀ b ∈ l, b.mark = true → b.kind = 1 := by
  intro b hb hm
  obtain ⟨m, hm', rfl⟩ := List.getElem_of_mem hb
  obtain ⟨a, e, -, -, -, b4, -⟩ := blocks_at _ _ h h2 m hm'
  have h7 := (hdOk_iff _).1 (bkAt_hd b4)
  rw [e] at hm ⊢
  have hm2 : (rawBk (wd ws a)).mark = true := hm
  show (rawBk (wd ws a)).kind = 1
  rcases h7.2 with h8 | h8
  · exact h8.1
  · rw [hm2] at h8; exact absurd h8.2.2.1 (by simp)
theorem wantN_congr {a b : Bk} (h : liveB a = liveB b) (s : Int) : wantN a s = wantN b s := by unfold wantN; rw [h]
theorem nextS_congr {a b : Bk} (h : liveB a = liveB b) (h2 : a.size = b.size) (s : Int) : nextS a s = nextS b s := by unfold nextS; rw [h, h2]
theorem wantE_again : ∀ {l : List Bk} {s : Int}, wantE (fwB l s) s = [] := by
  intro l
  induction l with
  | nil => intro s; rfl
  | cons b l ih =>
    intro s
    simp only [fwB, wantE]
    have hl : liveB (if b.kind = 1 then { b with next := wantN b s } else b) = liveB b := by split <;> rfl
    have h1 : (if b.kind = 1 then { b with next := wantN b s } else b).size = b.size := by split <;> rfl
    have e1 : nextS (if b.kind = 1 then { b with next := wantN b s } else b) s = nextS b s := nextS_congr hl h1 s
    have e2 : wantN (if b.kind = 1 then { b with next := wantN b s } else b) s = wantN b s := wantN_congr hl s
    rw [e1, ih, e2]
    by_cases hk : b.kind = 1
    · rw [if_pos hk, if_neg (fun h => h.2 rfl)]; rfl
    · rw [if_neg hk, if_neg (fun h => hk h.1)]; rfl
theorem fitB_fw {ws xs : List Nat} (hw : ∀ j, j < 128 → wd xs j = wd ws j) {b : Bk} (hb : b.kind = 1 → tyA b + 1 < 128) (s : Int) : fitB xs (if b.kind = 1 then { b with next := wantN b s } else b) = fitB ws b := by
  by_cases hk : b.kind = 1
  · rw [if_pos hk]
    have h2 := hb hk
    unfold fitB typedB
    show (b.kind != 1 || (typOk (wd xs (tyA b)) (wd xs (tyA b + 1)) && b.size == ((objSz (wd xs (tyA b) % 256) : Nat) : Int))) = _
    rw [hw _ (by omega), hw _ (by omega)]
  · rw [if_neg hk]
    have : (b.kind != 1) = true := by rw [bne_iff_ne]; exact hk
    simp [fitB, this]
theorem allMv_fw {ws xs : List Nat} (hw : ∀ j, j < 128 → wd xs j = wd ws j) : ∀ {l : List Bk} {s : Int}, (∀ b ∈ l, b.kind = 1 → tyA b + 1 < 128) → (∀ b ∈ l, 0 ≤ b.size) → l.all (fitB ws) = true → 0 ≤ s → allMv xs (fwB l s) s = true ∧ (fwB l s).all (fitB xs) = true := by
  intro l
  induction l with
  | nil => intro s _ _ _ _; exact ⟨rfl, rfl⟩
  | cons b l ih =>
    intro s h1 h2 h3 hs
    simp only [List.all_cons, Bool.and_eq_true] at h3
    have e := fitB_fw hw (h1 b (by simp)) s
    have hl : liveB (if b.kind = 1 then { b with next := wantN b s } else b) = liveB b := by split <;> rfl
    have hz : (if b.kind = 1 then { b with next := wantN b s } else b).size = b.size := by split <;> rfl
    obtain ⟨g1, g2⟩ := ih (s := nextS b s) (fun c hc => h1 c (by simp [hc])) (fun c hc => h2 c (by simp [hc])) h3.2 (by have := h2 b (by simp); unfold nextS; split <;> omega)
    refine ⟨?_, by simp only [fwB, List.all_cons, e, h3.1, g2, Bool.true_and]⟩
    simp only [fwB, allMv, e, h3.1, Bool.true_and, hl, hz]
    unfold nextS at g1 ⊢
    cases hb : liveB b with
    | true =>
      have hk : b.kind = 1 := by simp [liveB] at hb; exact hb.1
      simp only [hb, if_true] at g1 ⊢
      rw [g1, Bool.and_true, if_pos hk]
      simp only [wantN, hb, if_true, beq_iff_eq]
      omega
    | false =>
      simp only [hb, Bool.false_eq_true, if_false] at g1 ⊢
      exact g1
/-- ForwardBack: written and read is the same. -/
theorem back_plain {ws : List Nat} (h : hpErr ws = 0) : ∃ l, blocks ws 128 = some l ∧ hpOut ws = l ∧ stErr l 128 = 0 ∧ rdErr (putE ws (wantE l 128)) 128 128 = 0 ∧ rdMv (putE ws (wantE l 128)) 128 128 = moves l 128 ∧
    hpErr (putE ws (wantE l 128)) = 0 ∧ hpOut (putE ws (wantE l 128)) = fwB l 128 ∧ wantE (fwB l 128) 128 = [] ∧ mkdL l = (moves l 128).map Prod.fst := by
  obtain ⟨h1, l, h2, h3, h4⟩ := hpErr_zero h
  have hb := (sizeOk_iff _).1 h1
  have hst := blocks_st (i := 128) (by omega) h2 (by omega) (by omega) (by omega) (s := 128) (by omega) (by omega) (by omega)
  obtain ⟨hre, -⟩ := stErr_zero hst
  obtain ⟨g1, g2⟩ := want_blocks _ ws 128 l (Nat.le_refl _) h2 128
  have hlen : (putE ws (wantE l 128)).length = ws.length := putE_len _ _
  obtain ⟨f1, f2⟩ := allMv_fw (xs := putE ws (wantE l 128)) (fun j hj => g2 j (by omega)) (l := l) (s := 128) (blocks_ty h2 (by omega)) (fun b hb => by
    obtain ⟨m, hm, rfl⟩ := List.getElem_of_mem hb
    obtain ⟨a, e, -⟩ := blocks_at _ _ h2 (by omega) m hm
    rw [e, bkAt_size]; omega) h3 (by omega)
  have hrd : rdErr (putE ws (wantE l 128)) 128 128 = 0 := by
    rw [rdErr_of (l := fwB l 128) (by rw [hlen, isImg_size]; exact h1) ?_ g1, if_pos f1]
    rw [hlen]
    cases hq : rdArg ws.length 128 128 with
    | false => rfl
    | true => exact absurd (by omega) ((rdArg_iff _ _ _).1 hq)
  obtain ⟨o1, o2⟩ := hpErr_ok (by rw [hlen]; exact h1) g1 f2
  refine ⟨l, h2, h4, hst, hrd, ?_, o1, o2, wantE_again, mkdL_moves (blocks_mk h2 (by omega)) 128⟩
  unfold rdMv
  rw [if_pos hrd]
  show (match blocks (putE ws (wantE l 128)) 128 with | none => [] | some l => moves l 128) = _
  rw [g1]
  exact fwB_live.2.1
theorem wantE_inc {ws : List Nat} : ∀ i l, blocks ws i = some l → ∀ s, (wantE l s).Pairwise (fun a b => a.a < b.a) := by
  refine blocks_ind _ (fun i _ s => List.Pairwise.nil) (fun i l hi hs hb ih s => ?_)
  have hsz := stands_sz hs
  simp only [wantE]
  split
  · refine List.Pairwise.cons (fun e he => ?_) (ih _)
    have := wantE_at _ _ hb _ e he
    show (bkAt ws i).at_ + 1 < e.a
    rw [bkAt_at]; omega
  · exact ih _
end Go.Proofs.Ytpifagclhhaniaa
