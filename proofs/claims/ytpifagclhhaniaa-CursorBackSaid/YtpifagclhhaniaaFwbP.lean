/- The forwarding words that are wanted: plain functions, and the plain half of the law ForwardBack. -/
import Derived.Test.YtpifagclhhaniaaSldP
namespace Go.Proofs.Ytpifagclhhaniaa

/-- The forwarding word that a block should have. -/
def wantN (b : Bk) (s : Int) : Nat := if liveB b then s.toNat else 0
def nextS (b : Bk) (s : Int) : Int := if liveB b then s + b.size else s
/-- The entries for forwarding words that differ. -/
def wantE : List Bk → Int → List En
  | [], _ => []
  | b :: l, s => (if b.kind = 1 ∧ b.next ≠ wantN b s then [⟨b.at_ + 1, wantN b s⟩] else []) ++ wantE l (nextS b s)
/-- The blocks with their right forwarding words. -/
def fwB : List Bk → Int → List Bk
  | [], _ => []
  | b :: l, s => (if b.kind = 1 then { b with next := wantN b s } else b) :: fwB l (nextS b s)
/-- Putting entries. -/
def putE : List Nat → List En → List Nat
  | ws, [] => ws
  | ws, e :: l => putE (if 0 ≤ e.a ∧ e.a < (ws.length : Int) then ws.set e.a.toNat e.v else ws) l
theorem putE_len (l : List En) : ∀ ws : List Nat, (putE ws l).length = ws.length := by
  induction l with
  | nil => intro ws; rfl
  | cons e l ih => intro ws; simp only [putE, ih]; split <;> simp
theorem putE_append (a b : List En) : ∀ ws : List Nat, putE ws (a ++ b) = putE (putE ws a) b := by
  induction a with
  | nil => intro ws; rfl
  | cons e a ih => intro ws; simp only [List.cons_append, putE, ih]
theorem putE_wd (l : List En) : ∀ (ws : List Nat) (i : Nat), (∀ e ∈ l, e.a ≠ (i : Int)) → wd (putE ws l) i = wd ws i := by
  induction l with
  | nil => intro ws i _; rfl
  | cons e l ih =>
    intro ws i h
    simp only [putE]
    rw [ih _ i (fun x hx => h x (by simp [hx]))]
    split
    · rename_i hb
      exact wd_set_ne ws _ (by have := h e (by simp); omega)
    · rfl
theorem wantE_append (a b : List Bk) : ∀ s, wantE (a ++ b) s = wantE a s ++ wantE b (endOf a s) := by
  induction a with
  | nil => intro s; rfl
  | cons x a ih =>
    intro s
    simp only [List.cons_append, wantE, ih, endOf, nextS, List.append_assoc]
    cases liveB x <;> simp
theorem wantE_at {ws : List Nat} : ∀ i l, blocks ws i = some l → ∀ s, ∀ e ∈ wantE l s, (i : Int) + 1 ≤ e.a ∧ e.a < (ws.length : Int) := by
  refine blocks_ind _ (fun i _ s e h => by simp [wantE] at h) (fun i l hi hs hb ih s e h => ?_)
  have hsz := stands_sz hs
  simp only [wantE, List.mem_append] at h
  rcases h with h | h
  · split at h
    · simp only [List.mem_cons, List.not_mem_nil, or_false] at h
      subst h
      show (i : Int) + 1 ≤ (bkAt ws i).at_ + 1 ∧ (bkAt ws i).at_ + 1 < _
      rw [bkAt_at]; omega
    · simp at h
  · have := ih _ e h
    omega
theorem bkAt_next_set {ws : List Nat} {i v : Nat} (h : i + 1 < ws.length) : bkAt (ws.set (i + 1) v) i = { bkAt ws i with next := v } := by
  rw [bkAt_set (by omega) h]
  unfold nextAt
  rw [if_pos (by rw [bkAt_at]; omega)]
theorem bk_same {b : Bk} {v : Nat} (h : b.next = v) : { b with next := v } = b := by subst h; rfl
/-- With the entries in their places the blocks have their right forwarding words. -/
theorem want_blocks : ∀ n (ws : List Nat) (i : Nat) (l : List Bk), ws.length - i ≤ n → blocks ws i = some l → ∀ s, blocks (putE ws (wantE l s)) i = some (fwB l s) ∧ ∀ j, j ≤ i → wd (putE ws (wantE l s)) j = wd ws j := by
  intro n
  induction n with
  | zero =>
    intro ws i l hn h s
    rw [blocks_end (by omega)] at h
    cases h
    exact ⟨by simp only [wantE, putE, fwB]; exact blocks_end (by omega), fun j _ => rfl⟩
  | succ n ih =>
    intro ws i l hn h s
    by_cases hi : ws.length ≤ i
    · rw [blocks_end hi] at h
      cases h
      exact ⟨by simp only [wantE, putE, fwB]; exact blocks_end hi, fun j _ => rfl⟩
    · have hi : i < ws.length := by omega
      cases hs : stands ws i with
      | false => rw [blocks_bad hi hs] at h; cases h
      | true =>
        have hsz := stands_sz hs
        rw [blocks_step hi hs] at h
        cases hb : blocks ws (i + szAt ws i) with
        | none => rw [hb] at h; cases h
        | some l' =>
          rw [hb] at h
          simp only [Option.map_some, Option.some.injEq] at h
          subst h
          -- the words behind this block's own entry
          obtain ⟨w1, hw1, hlen, hbk, hst, hsz1, hag⟩ : ∃ w1, putE ws (wantE (bkAt ws i :: l') s) = putE w1 (wantE l' (nextS (bkAt ws i) s)) ∧ w1.length = ws.length ∧ bkAt w1 i = (if (bkAt ws i).kind = 1 then { bkAt ws i with next := wantN (bkAt ws i) s } else bkAt ws i) ∧ stands w1 i = stands ws i ∧ szAt w1 i = szAt ws i ∧ ∀ j, j ≠ i + 1 → wd w1 j = wd ws j := by
            by_cases hc : (bkAt ws i).kind = 1 ∧ (bkAt ws i).next ≠ wantN (bkAt ws i) s
            · refine ⟨ws.set (i + 1) (wantN (bkAt ws i) s), ?_, by simp, ?_, (stands_set _ (by omega)).1, (stands_set _ (by omega)).2, fun j hj => wd_set_ne ws _ (by omega)⟩
              · simp only [wantE]
                rw [if_pos hc, putE_append]
                simp only [putE]
                rw [if_pos (by rw [bkAt_at]; omega), bkAt_at, show ((i : Int) + 1).toNat = i + 1 by omega]
              · rw [bkAt_next_set (by omega), if_pos hc.1]
            · refine ⟨ws, ?_, rfl, ?_, rfl, rfl, fun j _ => rfl⟩
              · simp only [wantE]
                rw [if_neg hc, List.nil_append]
              · split
                · rename_i hk
                  have : (bkAt ws i).next = wantN (bkAt ws i) s := by
                    rcases Nat.decEq (bkAt ws i).next (wantN (bkAt ws i) s) with h1 | h1
                    · exact absurd ⟨hk, h1⟩ hc
                    · exact h1
                  exact (bk_same this).symm
                · rfl
          have hb1 : blocks w1 (i + szAt ws i) = some l' := by rw [blocks_agree hlen _ (fun j hj => hag j (by omega)), hb]
          obtain ⟨g1, g2⟩ := ih w1 (i + szAt ws i) l' (by omega) hb1 (nextS (bkAt ws i) s)
          rw [hw1]
          obtain ⟨E, hE⟩ : ∃ E, wantE l' (nextS (bkAt ws i) s) = E := ⟨_, rfl⟩
          rw [hE] at g1 g2 ⊢
          have e0 : wd (putE w1 E) i = wd w1 i := g2 i (by omega)
          have e1 : wd (putE w1 E) (i + 1) = wd w1 (i + 1) := g2 (i + 1) (by omega)
          have f1 : stands (putE w1 E) i = stands w1 i := by unfold stands; rw [e0, putE_len]
          have f2 : szAt (putE w1 E) i = szAt w1 i := by unfold szAt; rw [e0]
          have f3 : bkAt (putE w1 E) i = bkAt w1 i := by unfold bkAt; rw [e0, e1]
          refine ⟨?_, fun j hj => by rw [g2 j (by omega)]; exact hag j (by omega)⟩
          rw [blocks_step (by rw [putE_len, hlen]; exact hi) (by rw [f1, hst, hs]), f2, f3, hsz1, g1, hbk]
          rfl
theorem fwB_live {l : List Bk} : ∀ {s : Int}, endOf (fwB l s) s = endOf l s ∧ moves (fwB l s) s = moves l s ∧ (fwB l s).map (fun b => (b.at_, b.size, b.kind, b.mark)) = l.map (fun b => (b.at_, b.size, b.kind, b.mark)) := by
  induction l with
  | nil => intro s; exact ⟨rfl, rfl, rfl⟩
  | cons b l ih =>
    intro s
    have hl : liveB (if b.kind = 1 then { b with next := wantN b s } else b) = liveB b := by split <;> rfl
    have h1 : (if b.kind = 1 then { b with next := wantN b s } else b).size = b.size := by split <;> rfl
    have h2 : (if b.kind = 1 then { b with next := wantN b s } else b).at_ = b.at_ := by split <;> rfl
    have h3 : (if b.kind = 1 then { b with next := wantN b s } else b).kind = b.kind := by split <;> rfl
    have h4 : (if b.kind = 1 then { b with next := wantN b s } else b).mark = b.mark := by split <;> rfl
    simp only [fwB, endOf, moves, List.map_cons, hl, h1, h2, h3, h4]
    unfold nextS
    split
    · obtain ⟨a1, a2, a3⟩ := ih (s := s + b.size)
      rw [a1, a2, a3]; exact ⟨rfl, rfl, rfl⟩
    · obtain ⟨a1, a2, a3⟩ := ih (s := s)
      rw [a1, a2, a3]; exact ⟨rfl, rfl, rfl⟩
end Go.Proofs.Ytpifagclhhaniaa
