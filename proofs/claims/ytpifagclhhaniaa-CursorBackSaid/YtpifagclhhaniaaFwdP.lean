/- Forwarding words: which moves a heap tells, as plain functions, and their laws. -/
import Derived.Test.YtpifagclhhaniaaKindP
import Derived.Test.YtpifagclhhaniaaBrkX
namespace Go.Proofs.Ytpifagclhhaniaa

/-- Where the words of a type lie. -/
def tyA (b : Bk) : Nat := 96 + 2 * b.typ.toNat
/-- Whether an object has a type that there is, and its size. -/
def typedB (ws : List Nat) (b : Bk) : Bool := typOk (wd ws (tyA b)) (wd ws (tyA b + 1)) && b.size == ((objSz (wd ws (tyA b) % 256) : Nat) : Int)
def fitB (ws : List Nat) (b : Bk) : Bool := b.kind != 1 || typedB ws b
/-- Whether all forwarding words are right, from a start on. -/
def allMv (ws : List Nat) : List Bk → Int → Bool
  | [], _ => true
  | b :: l, s => fitB ws b && (if liveB b then ((b.next : Int) == s) && allMv ws l (s + b.size) else allMv ws l s)
def moves : List Bk → Int → List (Int × Int)
  | [], _ => []
  | b :: l, s => if liveB b then (b.at_, s) :: moves l (s + b.size) else moves l s
theorem allMv_append (ws : List Nat) (a b : List Bk) (s : Int) : allMv ws (a ++ b) s = (allMv ws a s && allMv ws b (endOf a s)) := by
  induction a generalizing s with
  | nil => simp [allMv, endOf]
  | cons x a ih =>
    simp only [List.cons_append, allMv, endOf]
    split
    · rw [ih]; simp only [Bool.and_assoc]
    · rw [ih]; simp only [Bool.and_assoc]
theorem moves_append (a b : List Bk) (s : Int) : moves (a ++ b) s = moves a s ++ moves b (endOf a s) := by
  induction a generalizing s with
  | nil => rfl
  | cons x a ih => simp only [List.cons_append, moves, endOf]; split <;> simp [ih]
theorem allMv_take {ws : List Nat} {l : List Bk} {k : Nat} (h : k < l.length) (s : Int) : allMv ws (l.take (k + 1)) s = (allMv ws (l.take k) s && (fitB ws l[k] && (!liveB l[k] || (l[k].next : Int) == endOf (l.take k) s))) := by
  rw [List.take_succ_eq_append_getElem h, allMv_append]
  simp only [allMv]
  cases liveB l[k] <;> simp
theorem moves_take {l : List Bk} {k : Nat} (h : k < l.length) (s : Int) : moves (l.take (k + 1)) s = moves (l.take k) s ++ (if liveB l[k] then [(l[k].at_, endOf (l.take k) s)] else []) := by
  rw [List.take_succ_eq_append_getElem h, moves_append]
  simp only [moves]
theorem allMv_mono {ws : List Nat} {l : List Bk} {s : Int} (h : allMv ws l s = true) (k : Nat) : allMv ws (l.take k) s = true := by
  rw [← List.take_append_drop k l, allMv_append, Bool.and_eq_true] at h
  exact h.1
theorem allMv_bad {ws : List Nat} {l : List Bk} {s : Int} {k : Nat} (h : allMv ws (l.take k) s = false) : allMv ws l s = false := by
  cases hq : allMv ws l s with
  | false => rfl
  | true => rw [allMv_mono hq k] at h; cases h
theorem allMv_at {ws : List Nat} {l : List Bk} {s : Int} (h : allMv ws l s = true) {k : Nat} (hk : k < l.length) : fitB ws l[k] = true ∧ (liveB l[k] = true → (l[k].next : Int) = endOf (l.take k) s) := by
  have h1 := allMv_mono h (k + 1)
  rw [allMv_take hk] at h1
  simp only [Bool.and_eq_true, Bool.or_eq_true, Bool.not_eq_true', beq_iff_eq] at h1
  exact ⟨h1.2.1, fun hl => by
    rcases h1.2.2 with h2 | h2
    · rw [hl] at h2; cases h2
    · exact h2⟩

/-! The blocks of a heap: each one behind the other. -/
theorem blocks_ind {ws : List Nat} (P : Nat → List Bk → Prop) (h0 : ∀ i, ws.length ≤ i → P i []) (h1 : ∀ i l, i < ws.length → stands ws i = true → blocks ws (i + szAt ws i) = some l → P (i + szAt ws i) l → P i (bkAt ws i :: l)) :
    ∀ i l, blocks ws i = some l → P i l := by
  have key : ∀ n i l, ws.length - i ≤ n → blocks ws i = some l → P i l := by
    intro n
    induction n with
    | zero =>
      intro i l hn h
      rw [blocks_end (by omega)] at h
      cases h
      exact h0 i (by omega)
    | succ n ih =>
      intro i l hn h
      by_cases hi : ws.length ≤ i
      · rw [blocks_end hi] at h; cases h; exact h0 i hi
      · cases hs : stands ws i with
        | false => rw [blocks_bad (by omega) hs] at h; cases h
        | true =>
          have hsz := stands_sz hs
          rw [blocks_step (by omega) hs] at h
          cases hb : blocks ws (i + szAt ws i) with
          | none => rw [hb] at h; cases h
          | some l' =>
            rw [hb] at h
            simp only [Option.map_some, Option.some.injEq] at h
            subst h
            exact h1 i l' (by omega) hs hb (ih _ _ (by omega) hb)
  exact fun i l h => key _ i l (Nat.le_refl _) h
theorem bkAt_at (ws : List Nat) (i : Nat) : (bkAt ws i).at_ = (i : Int) := rfl
theorem bkAt_size (ws : List Nat) (i : Nat) : (bkAt ws i).size = ((szAt ws i : Nat) : Int) := rfl
theorem bkAt_next (ws : List Nat) (i : Nat) : (bkAt ws i).next = wd ws (i + 1) := rfl
theorem bkAt_hd {ws : List Nat} {i : Nat} (h : stands ws i = true) : hdOk (rawBk (wd ws i)) = true := by
  unfold stands splitOk at h
  simp only [Bool.and_eq_true] at h
  exact h.1.1
theorem gk_cons (b : Bk) (l : List Bk) (k : Nat) : gk (b :: l) (k + 1) = gk l k := by simp [gk]
theorem gk_zero (b : Bk) (l : List Bk) : gk (b :: l) 0 = b := rfl
theorem stands_bk {ws : List Nat} {i : Nat} (hn : ws.length ≤ 2048) (h : stands ws i = true) (h1 : 128 ≤ i) (h2 : i % 2 = 0) : bkOk (bkAt ws i) = true := by
  have h3 := (hdOk_iff _).1 (bkAt_hd h)
  have h4 := stands_sz h
  rw [bkOk_iff]
  have e1 : (bkAt ws i).kind = (rawBk (wd ws i)).kind := rfl
  have e2 : (rawBk (wd ws i)).size = ((szAt ws i : Nat) : Int) := rfl
  rw [bkAt_at, bkAt_size, e1]
  omega
/-- A row of blocks from an even address of the heap on: each one is right, and stands behind the other. -/
theorem blocks_chain {ws : List Nat} (hn : ws.length ≤ 2048) : ∀ i l, blocks ws i = some l → 128 ≤ i → i % 2 = 0 → i ≤ ws.length →
    2 * l.length + i ≤ ws.length ∧ ∀ k, k < l.length → bkOk (gk l k) = true ∧ (k = 0 → (gk l k).at_ = (i : Int)) ∧ (0 < k → (gk l k).at_ = (gk l (k - 1)).at_ + (gk l (k - 1)).size) := by
  refine blocks_ind _ (fun i _ _ _ _ => ⟨by simp; omega, fun k hk => by simp at hk⟩) (fun i l hi hs hb ih h1 h2 _ => ?_)
  have hsz := stands_sz hs
  obtain ⟨h3, h4⟩ := ih (by omega) (by omega) hsz.2.2
  refine ⟨by rw [List.length_cons]; omega, fun k hk => ?_⟩
  cases k with
  | zero => exact ⟨stands_bk hn hs h1 h2, fun _ => rfl, fun h => absurd h (by omega)⟩
  | succ k =>
    rw [List.length_cons] at hk
    obtain ⟨g1, g2, g3⟩ := h4 k (by omega)
    rw [gk_cons]
    refine ⟨g1, fun h => absurd h (by omega), fun _ => ?_⟩
    rw [Nat.add_sub_cancel]
    cases k with
    | zero => rw [gk_zero, g2 rfl, bkAt_at, bkAt_size]; omega
    | succ k => rw [gk_cons]; exact g3 (by omega)
theorem blocks_row {ws : List Nat} (hn : ws.length ≤ 2048) {i : Nat} {l : List Bk} (h : blocks ws i = some l) (h1 : 128 ≤ i) (h2 : i % 2 = 0) (h3 : i ≤ ws.length) : rowErr l = 0 := by
  obtain ⟨h4, h5⟩ := blocks_chain hn i l h h1 h2 h3
  refine rowErr_ok (by omega) ?_
  have key : ∀ k, k ≤ l.length → rowPre l k = true := by
    intro k
    induction k with
    | zero => intro _; rfl
    | succ k ih =>
      intro hk
      obtain ⟨g1, g2, g3⟩ := h5 k (by omega)
      refine rowPre_yes (ih (by omega)) g1 ?_
      rcases Nat.eq_zero_or_pos k with h0 | h0
      · exact .inl h0
      · right
        obtain ⟨m, rfl⟩ : ∃ m, k = m + 1 := ⟨k - 1, by omega⟩
        exact g3 h0
  exact key _ (Nat.le_refl _)
theorem blocks_first {ws : List Nat} {i : Nat} {l : List Bk} (h : blocks ws i = some l) (hi : i < ws.length) : 0 < l.length ∧ gk l 0 = bkAt ws i ∧ stands ws i = true ∧ blocks ws (i + szAt ws i) = some (l.drop 1) := by
  cases hs : stands ws i with
  | false => rw [blocks_bad hi hs] at h; cases h
  | true =>
    rw [blocks_step hi hs] at h
    cases hb : blocks ws (i + szAt ws i) with
    | none => rw [hb] at h; cases h
    | some l' =>
      rw [hb] at h
      simp only [Option.map_some, Option.some.injEq] at h
      subst h
      exact ⟨by simp, rfl, rfl, by simp⟩
/-- With a start that is no greater than the first address, the row and the start are right. -/
theorem blocks_st {ws : List Nat} (hn : ws.length ≤ 2048) {i : Nat} {l : List Bk} (h : blocks ws i = some l) (h1 : 128 ≤ i) (h2 : i % 2 = 0) (h3 : i ≤ ws.length) {s : Int} (hs : 128 ≤ s) (hs2 : s % 2 = 0) (hs3 : s ≤ (i : Int)) : stErr l s = 0 := by
  refine stErr_0 (blocks_row hn h h1 h2 h3) ⟨hs, ?_, hs2⟩
  unfold most
  split
  · omega
  · rename_i hl
    have := (blocks_chain hn i l h h1 h2 h3).2 0 (by omega)
    rw [this.2.1 rfl]; exact hs3
end Go.Proofs.Ytpifagclhhaniaa
