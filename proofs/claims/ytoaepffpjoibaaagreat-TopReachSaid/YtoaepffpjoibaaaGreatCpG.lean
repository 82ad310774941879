/- The heap behind a compaction: its blocks. Plain. -/
import Derived.Test.YtoaepffpjoibaaaGreatCpE
namespace Go.Proofs.YtoaepffpjoibaaaGreat
open Go.RowKit

/-- The moved objects, one behind the other. -/
def mvB : List Bk → Int → List Bk
  | [], _ => []
  | b :: l, s => if liveB b then { b with at_ := s, mark := false, next := 0 } :: mvB l (s + b.size) else mvB l s
/-- What is free behind them. -/
def frB (n T : Nat) : List Bk := if T = n then [] else [{ freeBk (n - T) with at_ := (T : Int) }]
theorem z_free {w z : List Nat} {M : List (Int × Int)} {T : Nat} (D : CpD w z M T) (hs : sizeOk (w.length : Int) = true) : blocks z T = some (frB w.length T) := by
  have hb := (sizeOk_iff _).1 hs
  obtain ⟨t1, t2, t3⟩ := D.to
  unfold frB
  by_cases hne : T = w.length
  · rw [if_pos hne, blocks_end (by rw [D.len]; omega)]
  · rw [if_neg hne]
    obtain ⟨e0, e1⟩ := D.free (by omega)
    have hfr : hdOk (freeBk (w.length - T)) = true := free_ok (by omega) (by omega) (by omega)
    have hraw := raw_head hfr
    have hsz : szAt z T = w.length - T := by
      have e2 : (rawBk (wd z T)).size = ((szAt z T : Nat) : Int) := rfl
      rw [e0, hraw] at e2
      have e3 : (freeBk (w.length - T)).size = ((w.length - T : Nat) : Int) := rfl
      dsimp only at e2
      omega
    have hst : stands z T = true := by
      unfold stands
      rw [e0, split_head hfr, Bool.true_and, decide_eq_true_eq, hraw, D.len]
      show ((w.length - T : Nat) : Int) ≤ _
      omega
    rw [blocks_step (by rw [D.len]; omega) hst, hsz, blocks_end (by rw [D.len]; omega)]
    have hbk : bkAt z T = { freeBk (w.length - T) with at_ := (T : Int) } := by
      unfold bkAt
      rw [e0, hraw, e1]; rfl
    rw [hbk]; rfl
/-- The header of a moved object. -/
theorem z_head {w z : List Nat} {m t : Nat} (ho : isObj w m) (e : wd z t = headW { rawBk (wd w m) with mark := false }) : rawBk (wd z t) = { rawBk (wd w m) with mark := false } ∧ szAt z t = szAt w m ∧ splitOk (wd z t) = true := by
  have hhd := unmark_ok (bkAt_hd ho.2.2.2.1) ho.2.2.2.2.1
  have hraw : rawBk (wd z t) = { rawBk (wd w m) with mark := false } := by rw [e, raw_head hhd]; rfl
  refine ⟨hraw, ?_, by rw [e]; exact split_head hhd⟩
  have := congrArg Bk.size hraw
  have e1 : (rawBk (wd z t)).size = ((szAt z t : Nat) : Int) := rfl
  have e3 : ({ rawBk (wd w m) with mark := false } : Bk).size = ((szAt w m : Nat) : Int) := rfl
  rw [e1, e3] at this
  omega
theorem z_blocks {w z : List Nat} {M : List (Int × Int)} {T : Nat} (D : CpD w z M T) (h0 : hpErr w = 0) (hrc : rcErr w = 0) : ∀ (l : List Bk) (s : Nat), (∀ p ∈ moves l s, p ∈ M) → (∀ b ∈ l, ∃ b0 ∈ hpOut w, b = mkS w b0) → endOf l s = (T : Int) → blocks z s = some (mvB l s ++ frB w.length T) := by
  intro l
  induction l with
  | nil =>
    intro s _ _ he
    have he : (s : Int) = (T : Int) := he
    obtain rfl : s = T := by omega
    exact z_free D (hpErr_zero h0).1
  | cons b l ih =>
    intro s hp hb he
    obtain ⟨b0, hb0, e0⟩ := hb b (by simp)
    obtain ⟨m, em, m1, m2, m3, m4⟩ := (hp_row h0).1 b0 hb0
    simp only [moves] at hp
    simp only [endOf] at he
    simp only [mvB]
    by_cases hlv : liveB b = true
    · rw [if_pos hlv] at hp he ⊢
      have hbat : b.at_ = (m : Int) := by rw [e0, em]; exact bkAt_at w m
      have hbsz : b.size = ((szAt w m : Nat) : Int) := by rw [e0, em]; exact bkAt_size w m
      have hmem := hp (b.at_, (s : Int)) (by simp)
      obtain ⟨m', t', e1, q1, q2, q3, q4, q5, q6, -⟩ := D.obj _ hmem
      rw [hbat] at e1
      injection e1 with e1 e2
      obtain rfl : m = m' := by omega
      obtain rfl : s = t' := by omega
      have ho := rch_obj hrc q1
      obtain ⟨h1, h2, h3⟩ := z_head ho q5
      have hT := D.to.2.1
      have hst : stands z s = true := by
        unfold stands
        rw [h3, Bool.true_and, decide_eq_true_eq, D.len]
        have : (rawBk (wd z s)).size = ((szAt z s : Nat) : Int) := rfl
        rw [this, h2]
        omega
      rw [hbsz] at hp he ⊢
      have ih2 := ih (s + szAt w m) (fun p hp2 => hp p (List.mem_cons_of_mem _ (by rw [show ((s : Int) + ((szAt w m : Nat) : Int)) = ((s + szAt w m : Nat) : Int) by omega]; exact hp2))) (fun c hc => hb c (List.mem_cons_of_mem _ hc)) (by rw [← he]; congr 1)
      rw [blocks_step (by rw [D.len]; omega) hst, h2, ih2]
      have hbk : bkAt z s = { b with at_ := (s : Int), mark := false, next := 0 } := by
        unfold bkAt
        rw [h1, q6, e0, em]
        rfl
      rw [hbk, hbsz, show ((s + szAt w m : Nat) : Int) = (s : Int) + ((szAt w m : Nat) : Int) by omega]
      rfl
    · have hlf : liveB b = false := by simpa using hlv
      rw [hlf] at hp he
      simp only [Bool.false_eq_true, if_false] at hp he
      rw [if_neg hlv]
      exact ih s hp (fun c hc => hb c (List.mem_cons_of_mem _ hc)) he
theorem mvB_mem : ∀ {l : List Bk} {s : Int} {b : Bk}, b ∈ mvB l s → ∃ b0 ∈ l, liveB b0 = true ∧ ∃ t, b = { b0 with at_ := t, mark := false, next := 0 } ∧ (b0.at_, t) ∈ moves l s := by
  intro l
  induction l with
  | nil => intro s b h; simp [mvB] at h
  | cons x l ih =>
    intro s b h
    simp only [mvB] at h
    simp only [moves]
    by_cases hx : liveB x = true
    · rw [if_pos hx] at h ⊢
      rcases List.mem_cons.1 h with rfl | h
      · exact ⟨x, by simp, hx, s, rfl, by simp⟩
      · obtain ⟨b0, h1, h2, t, h3, h4⟩ := ih h
        exact ⟨b0, List.mem_cons_of_mem _ h1, h2, t, h3, List.mem_cons_of_mem _ h4⟩
    · rw [if_neg hx] at h ⊢
      obtain ⟨b0, h1, h2, t, h3, h4⟩ := ih h
      exact ⟨b0, List.mem_cons_of_mem _ h1, h2, t, h3, h4⟩
theorem mvB_has : ∀ {l : List Bk} {s : Int} {p : Int × Int}, p ∈ moves l s → ∃ b ∈ mvB l s, b.at_ = p.2 ∧ b.kind = 1 := by
  intro l
  induction l with
  | nil => intro s p h; simp [moves] at h
  | cons x l ih =>
    intro s p h
    simp only [moves] at h
    simp only [mvB]
    by_cases hx : liveB x = true
    · rw [if_pos hx] at h ⊢
      rcases List.mem_cons.1 h with rfl | h
      · exact ⟨_, List.mem_cons_self .., rfl, by unfold liveB at hx; simp at hx; exact hx.1⟩
      · obtain ⟨b, h1, h2⟩ := ih h
        exact ⟨b, List.mem_cons_of_mem _ h1, h2⟩
    · rw [if_neg hx] at h ⊢
      exact ih h
theorem moves_snd : ∀ {l : List Bk} {s : Int}, (∀ b ∈ l, 0 < b.size) → (∀ p ∈ moves l s, s ≤ p.2) ∧ (moves l s).Pairwise (fun p q => p.2 < q.2) := by
  intro l
  induction l with
  | nil => intro s _; exact ⟨fun p h => by simp [moves] at h, List.Pairwise.nil⟩
  | cons x l ih =>
    intro s h
    have hx := h x (by simp)
    simp only [moves]
    by_cases hl : liveB x = true
    · rw [if_pos hl]
      obtain ⟨i1, i2⟩ := ih (s := s + x.size) (fun b hb => h b (by simp [hb]))
      refine ⟨fun p hp => ?_, List.Pairwise.cons (fun p hp => ?_) i2⟩
      · rcases List.mem_cons.1 hp with rfl | hp
        · exact Int.le_refl _
        · have := i1 p hp; omega
      · have := i1 p hp
        dsimp only; omega
    · rw [if_neg hl]
      exact ih (fun b hb => h b (by simp [hb]))
/-- Every object goes to where it is, or further down. -/
theorem moves_down : ∀ {l : List Bk} {s : Int}, (∀ b ∈ l, 0 < b.size) → l.Pairwise (fun a b => a.at_ + a.size ≤ b.at_) → (∀ b ∈ l, s ≤ b.at_) → ∀ p ∈ moves l s, p.2 ≤ p.1 := by
  intro l
  induction l with
  | nil => intro s _ _ _ p h; simp [moves] at h
  | cons x l ih =>
    intro s h hp hs p hm
    rw [List.pairwise_cons] at hp
    simp only [moves] at hm
    have hx := h x (by simp)
    have hsx := hs x (by simp)
    by_cases hl : liveB x = true
    · rw [if_pos hl] at hm
      rcases List.mem_cons.1 hm with rfl | hm
      · exact hsx
      · exact ih (fun b hb => h b (by simp [hb])) hp.2 (fun b hb => by have := hp.1 b hb; omega) p hm
    · rw [if_neg hl] at hm
      exact ih (fun b hb => h b (by simp [hb])) hp.2 (fun b hb => hs b (by simp [hb])) p hm
theorem mvTo_iff : ∀ {M : List (Int × Int)} {a t : Int}, M.Pairwise (fun p q => p.1 < q.1) → (mvTo M a = some t ↔ (a, t) ∈ M) := by
  intro M
  induction M with
  | nil => intro a t _; simp [mvTo]
  | cons p M ih =>
    intro a t h
    rw [List.pairwise_cons] at h
    simp only [mvTo]
    by_cases e : p.1 = a
    · rw [if_pos e]
      constructor
      · intro h2
        injection h2 with h2
        rw [← e, ← h2]; simp
      · intro h2
        rcases List.mem_cons.1 h2 with h3 | h3
        · rw [← h3]
        · have := h.1 _ h3
          dsimp only at this
          omega
    · rw [if_neg e, ih h.2]
      constructor
      · exact fun h => List.mem_cons_of_mem _ h
      · intro h2
        rcases List.mem_cons.1 h2 with h3 | h3
        · rw [← h3] at e; exact absurd rfl e
        · exact h3
/-- Blocks lie one behind the other. -/
theorem blk_seq {ws : List Nat} : ∀ i l, blocks ws i = some l → (∀ b ∈ l, (i : Int) ≤ b.at_ ∧ 0 < b.size) ∧ l.Pairwise (fun a b => a.at_ + a.size ≤ b.at_) := by
  refine blocks_ind _ (fun i _ => ⟨fun b h => by simp at h, List.Pairwise.nil⟩) (fun i l hi hs hb ih => ?_)
  have hsz := stands_sz hs
  refine ⟨fun b h => ?_, List.Pairwise.cons (fun b h => ?_) ih.2⟩
  · rcases List.mem_cons.1 h with rfl | h
    · rw [bkAt_at, bkAt_size]; omega
    · have := ih.1 b h; omega
  · have := (ih.1 b h).1
    rw [bkAt_at, bkAt_size]; omega
section
variable {w z : List Nat} {t : Nat}
theorem cpL_mem {b : Bk} (h : b ∈ cpL w) : ∃ b0 ∈ hpOut w, b = mkS w b0 := by
  unfold cpL at h
  obtain ⟨b0, h1, rfl⟩ := List.mem_map.1 h
  exact ⟨b0, h1, rfl⟩
theorem cpL_seq (h0 : hpErr w = 0) : (∀ b ∈ cpL w, 128 ≤ b.at_ ∧ 0 < b.size) ∧ (cpL w).Pairwise (fun a b => a.at_ + a.size ≤ b.at_) := by
  obtain ⟨h1, h2⟩ := blk_seq _ _ (hp_fr h0).2.2.2
  refine ⟨fun b hb => ?_, ?_⟩
  · obtain ⟨b0, hb0, rfl⟩ := cpL_mem hb
    exact h1 b0 hb0
  · unfold cpL
    rw [List.pairwise_map]
    exact h2
/-- The moves: the reached objects, in order, to places in order. -/
structure CpMv (w : List Nat) : Prop where
  fst : (cpM w).map Prod.fst = rcOut w
  inc : (cpM w).Pairwise (fun p q => p.1 < q.1)
  snd : (cpM w).Pairwise (fun p q => p.2 < q.2)
  dn : ∀ p ∈ cpM w, 128 ≤ p.2 ∧ p.2 ≤ p.1
theorem cpMv (h0 : hpErr w = 0) (hf : (cpM w).map Prod.fst = rcOut w) (hrc : rcErr w = 0) : CpMv w := by
  obtain ⟨h1, h2⟩ := cpL_seq h0
  have hs := moves_snd (l := cpL w) (s := 128) (fun b hb => (h1 b hb).2)
  have hd := moves_down (l := cpL w) (s := 128) (fun b hb => (h1 b hb).2) h2 (fun b hb => (h1 b hb).1)
  refine ⟨hf, ?_, hs.2, fun p hp => ⟨hs.1 p hp, hd p hp⟩⟩
  have := rcOut_inc hrc
  rw [← hf, List.pairwise_map] at this
  exact this
theorem Lay.mvs (h : Lay w t) (ho : ∀ v ∈ w, v < 18446744073709551616) : CpMv w := by
  have hf := cp_fst h.first.2.2.1 (h.run ho)
  rw [(x1_cp h.hp).2, h.first.2.2.2] at hf
  exact cpMv h.hp hf h.rc
/-- Where a reached object goes. -/
theorem CpMv.to (V : CpMv w) (hrc : rcErr w = 0) {m : Nat} (h : Rch w m) : ∃ a : Nat, mvTo (cpM w) (m : Int) = some (a : Int) ∧ 128 ≤ a ∧ a ≤ m := by
  obtain ⟨t, ht⟩ := mvTo_fst (M := cpM w) (a := (m : Int)) (by rw [V.fst, rcOut_mem hrc]; exact ⟨m, rfl, tb_lt ((rcErr_zero hrc).2.2 m h), h⟩)
  have hm := (mvTo_iff V.inc).1 ht
  have := V.dn _ hm
  dsimp only at this
  obtain ⟨a, rfl⟩ := Int.eq_ofNat_of_zero_le (show 0 ≤ t by omega)
  exact ⟨a, ht, by omega, by omega⟩
theorem CpMv.rch (V : CpMv w) (hrc : rcErr w = 0) {m a : Int} (h : mvTo (cpM w) m = some a) : ∃ m' : Nat, m = (m' : Int) ∧ Rch w m' := by
  have hm := (mvTo_iff V.inc).1 h
  have : m ∈ (cpM w).map Prod.fst := List.mem_map.2 ⟨_, hm, rfl⟩
  rw [V.fst, rcOut_mem hrc] at this
  obtain ⟨m', e, -, h⟩ := this
  exact ⟨m', e, h⟩
theorem CpMv.inj (V : CpMv w) {m m' a : Int} (h : mvTo (cpM w) m = some a) (h' : mvTo (cpM w) m' = some a) : m = m' := by
  have h1 := (mvTo_iff V.inc).1 h
  have h2 := (mvTo_iff V.inc).1 h'
  obtain ⟨i, hi, e1⟩ := List.getElem_of_mem h1
  obtain ⟨j, hj, e2⟩ := List.getElem_of_mem h2
  have hs := V.snd
  rw [List.pairwise_iff_getElem] at hs
  rcases Nat.lt_trichotomy i j with h3 | h3 | h3
  · have := hs i j hi hj h3
    rw [e1, e2] at this
    dsimp only at this
    omega
  · subst h3
    rw [e1] at e2
    injection e2
  · have := hs j i hj hi h3
    rw [e1, e2] at this
    dsimp only at this
    omega
end
end Go.Proofs.YtoaepffpjoibaaaGreat
