/- A region that draws its order, walked once in one order that is checked by run: what may come up alone is carried out; what only yields a value is taken first. -/
import Derived.RowKit
import Derived.OrdersHeld
import Derived.Deep.RegionHeld
import Derived.BigQuiet
namespace Go.Proofs.YtoaepffpjoibaaaGreat
open Go.RowKit

/-- Operations that yield a value and do nothing else. -/
def plainOp : Op → Bool
  | .move _ | .assign _ | .pick _ _ _ | .load _ _ | .build _ _ | .binOp _ _ _ _ _ | .unOp _ _ _ | .convert _ _ _ | .slice _ _ _ _ _ | .fieldAddr _ _ _ | .field _ _ _ | .indexAddr _ _ _ | .index _ _ _ | .extract _ _ => true
  | _ => false
/-- The worlds that meet a condition, as a class. -/
structure SW (S : World → Prop) where
  w : World
  ok : S w
theorem cls_of {S : World → Prop} {w : World} (h : S w) : ∃ g : SW S, w = g.w := ⟨⟨w, h⟩, rfl⟩

theorem value_leaf {P : Program} {α : Type} (f : α → Value) (s : Sem α) : ∀ w, (∃ u w', (s.bind fun x => Sem.pure (Next.value (f x))).run P w = .ok (.value u) w') ∨ ∃ h w', (s.bind fun x => Sem.pure (Next.value (f x))).run P w = .halt h w' := by
  induction s with
  | pure a => intro w; exact .inl ⟨f a, w, rfl⟩
  | load m a k ih =>
    intro w
    simp only [Sem.bind, Sem.run]
    split
    · exact ih _ w
    · split
      · exact ih _ w
      · exact .inr ⟨_, _, rfl⟩
  | store m a v k ih =>
    intro w
    cases v <;> simp only [Sem.bind, Sem.run] <;> first
      | exact .inr ⟨_, _, rfl⟩
      | (split
         · split
           · exact .inr ⟨_, _, rfl⟩
           · exact ih _
         · split
           · exact ih _
           · exact .inr ⟨_, _, rfl⟩)
  | new o k ih => intro w; exact ih _ _
  | shape r k ih => intro w; exact ih _ _
  | freeze a n k ih => intro w; exact ih _
  | frozen a k ih => intro w; exact ih _ _
  | getObj r k ih =>
    intro w
    simp only [Sem.bind, Sem.run]
    split
    · exact .inr ⟨_, _, rfl⟩
    · exact ih _ w
    · exact .inr ⟨_, _, rfl⟩
  | setObj r o k ih =>
    intro w
    simp only [Sem.bind, Sem.run]
    split
    · exact .inr ⟨_, _, rfl⟩
    · exact ih _
    · exact .inr ⟨_, _, rfl⟩
  | choose q k ih =>
    intro w
    simp only [Sem.bind, Sem.run]
    split
    · exact ih _ _
    · exact ih _ _
  | sys c k ih => intro w; exact ih _ _
  | program k ih => intro w; exact ih _ _
  | mark m k ih => intro w; exact ih _
  | halt h => intro w; exact .inr ⟨h, w, rfl⟩
theorem plain_leaf {P : Program} {ρ : Operand → Value} {o : Oper} (h : plainOp o.op = true) (w : World) : (∃ u w', (execOp ρ o).run P w = .ok (.value u) w') ∨ ∃ h w', (execOp ρ o).run P w = .halt h w' := by
  unfold execOp
  unfold plainOp at h
  split at h
  · rename_i x e; rw [e]; exact .inl ⟨_, w, rfl⟩
  · rename_i x e; rw [e]; exact .inl ⟨_, w, rfl⟩
  · rename_i c a b e; rw [e]; exact value_leaf _ _ w
  · rename_i e; rw [e]; exact value_leaf id _ w
  · rename_i e; rw [e]; exact value_leaf id _ w
  · rename_i e; rw [e]; exact value_leaf id _ w
  · rename_i e; rw [e]; exact value_leaf id _ w
  · rename_i e; rw [e]; exact value_leaf id _ w
  · rename_i e; rw [e]; exact value_leaf id _ w
  · rename_i e; rw [e]; exact value_leaf id _ w
  · rename_i e; rw [e]; exact value_leaf id _ w
  · rename_i e; rw [e]; exact value_leaf id _ w
  · rename_i e; rw [e]; exact value_leaf id _ w
  · rename_i e; rw [e]; exact value_leaf id _ w
  · cases h
theorem plain_quiet {P : Program} {C : World → Prop} {a : Act} {o : Oper} {v : Value} {w : World} (h : plainOp o.op = true) (hq : o.quietAt P a C w v) : (execOp a.eval o).run P w = .ok (.value v) w := by
  unfold Oper.quietAt at hq
  rcases plain_leaf (P := P) (ρ := a.eval) h w with ⟨u, w', e⟩ | ⟨h', w', e⟩
  · rw [e] at hq ⊢
    obtain ⟨rfl, rfl⟩ := hq
    rfl
  · rw [e] at hq
    exact False.elim hq

/-- An operation, whether it is taken first, and its guard by the slot that holds it; or two that may come up in either order. -/
inductive It where
  | one (o : Oper) (tk : Bool) (gd : Option (Option Tmp × Bool))
  | two (o1 o2 : Oper) (gd : Option (Option Tmp × Bool))
def gOk (gd : Option (Option Tmp × Bool)) (tmps : Array Value) : Bool := match gd with
  | none => true
  | some (d, b) => (match d.bind (tmps[·]?) with
    | some (.bool x) => some x
    | _ => none) == some b
def gdOf (ops : Array Oper) (o : Oper) : Option (Option Tmp × Bool) := match o.guard with
  | none => none
  | some (g, b) => some ((ops.toList[g]?).bind (·.dst), b)
theorem gOk_wanted (ops : Array Oper) (o : Oper) (tmps : Array Value) : Region.wanted o (yielded ops tmps) = gOk (gdOf ops o) tmps := by
  unfold Region.wanted gdOf gOk
  split
  · rename_i h; rw [h]
  · rename_i j b h; rw [h]; simp only [Array.getElem?_toList]; rfl
/-- 0: take number i first; 1: carry number i out; 2: i and j, in either order. -/
def prep (ops : Array Oper) : List (Nat × Nat × Nat) → List It
  | [] => []
  | (k, i, j) :: r => match ops.toList[i]? with
    | none => []
    | some o => match k with
      | 0 => .one o true (gdOf ops o) :: prep ops r
      | 2 => (match ops.toList[j]? with
        | none => []
        | some o2 => .two o o2 (gdOf ops o) :: prep ops r)
      | _ => .one o false (gdOf ops o) :: prep ops r
def ordLen : List (Nat × Nat × Nat) → Nat
  | [] => 0
  | (k, _, _) :: r => (if k = 2 then 2 else 1) + ordLen r
def seqOk (md : Region.Mode) (ops : Array Oper) : List (Nat × Nat × Nat) → Array Bool → Bool
  | [], listed => (Region.ready md ops listed).isEmpty
  | (k, i, j) :: r, listed => if k = 2 then
      (match ops[i]?, ops[j]? with
        | some o1, some o2 => gdOf ops o1 == gdOf ops o2
        | _, _ => false) && (Region.ready md ops listed == [i, j] && (Region.ready md ops (listed.setIfInBounds i true) == [j] && (Region.ready md ops (listed.setIfInBounds j true) == [i] && (i != j && seqOk md ops r ((listed.setIfInBounds i true).setIfInBounds j true)))))
    else (ops[i]?).any (fun o => if k = 0 then plainOp o.op && (Region.free md ops listed i && (Region.ready md ops listed).contains i) else Region.ready md ops listed == [i]) && seqOk md ops r (listed.setIfInBounds i true)
/-- A part of that check, and what has come up behind it. -/
def seqPart (md : Region.Mode) (ops : Array Oper) : List (Nat × Nat × Nat) → Array Bool → Bool
  | [], _ => true
  | (k, i, j) :: r, listed => if k = 2 then
      (match ops[i]?, ops[j]? with
        | some o1, some o2 => gdOf ops o1 == gdOf ops o2
        | _, _ => false) && (Region.ready md ops listed == [i, j] && (Region.ready md ops (listed.setIfInBounds i true) == [j] && (Region.ready md ops (listed.setIfInBounds j true) == [i] && (i != j && seqPart md ops r ((listed.setIfInBounds i true).setIfInBounds j true)))))
    else (ops[i]?).any (fun o => if k = 0 then plainOp o.op && (Region.free md ops listed i && (Region.ready md ops listed).contains i) else Region.ready md ops listed == [i]) && seqPart md ops r (listed.setIfInBounds i true)
def seqBehind : List (Nat × Nat × Nat) → Array Bool → Array Bool
  | [], listed => listed
  | (k, i, j) :: r, listed => seqBehind r (if k = 2 then (listed.setIfInBounds i true).setIfInBounds j true else listed.setIfInBounds i true)
theorem seqOk_app {md : Region.Mode} {ops : Array Oper} {l2 : List (Nat × Nat × Nat)} : ∀ (l1 : List (Nat × Nat × Nat)) {listed : Array Bool}, seqPart md ops l1 listed = true → seqOk md ops l2 (seqBehind l1 listed) = true → seqOk md ops (l1 ++ l2) listed = true := by
  intro l1
  induction l1 with
  | nil => intro listed _ h; exact h
  | cons x l1 ih =>
    intro listed h1 h2
    obtain ⟨k, i, j⟩ := x
    by_cases hk : k = 2
    · subst hk
      simp only [seqPart, if_true, Bool.and_eq_true] at h1
      simp only [seqBehind, if_true] at h2
      obtain ⟨a1, a2, a3, a4, a5, a6⟩ := h1
      rw [List.cons_append]
      simp only [seqOk, if_true, Bool.and_eq_true]
      exact ⟨a1, a2, a3, a4, a5, ih a6 h2⟩
    · simp only [seqPart, hk, if_false, Bool.and_eq_true] at h1
      simp only [seqBehind, hk, if_false] at h2
      rw [List.cons_append]
      simp only [seqOk, hk, if_false, Bool.and_eq_true]
      exact ⟨h1.1, ih h1.2 h2⟩
/-- The walk in that one order. -/
def wpSeq (P : Program) (Q : Exit → Act → World → Prop) (S : World → Prop) : List It → Act → World → Prop
  | [], a, w => Q .normal a w
  | .one o t g :: r, a, w => if gOk g a.tmps = true then (if t = true then o.quiet P a (fun X => ∃ g : SW S, X = g.w) (fun a' => wpSeq P Q S r a' w) else o.wp P a w (fun a' w' => S w' ∧ wpSeq P Q S r a' w') Q) else wpSeq P Q S r (a.put o.dst undef) w
  | .two o1 o2 g :: r, a, w => if gOk g a.tmps = true then
      (o1.wp P a w (fun a1 w1 => S w1 ∧ gOk g a1.tmps = true ∧ o2.wp P a1 w1 (fun a2 w2 => S w2 ∧ wpSeq P Q S r a2 w2) Q) Q ∧
       o2.wp P a w (fun a1 w1 => S w1 ∧ gOk g a1.tmps = true ∧ o1.wp P a1 w1 (fun a2 w2 => S w2 ∧ wpSeq P Q S r a2 w2) Q) Q) else False
section
variable {P : Program} {Q : Exit → Act → World → Prop} {S : World → Prop} {r : List It} {a : Act} {w : World} {o o1 o2 : Oper} {g : Option (Option Tmp × Bool)}
theorem seq_nil (h : Q .normal a w) : wpSeq P Q S [] a w := h
theorem seq_take (hg : gOk g a.tmps = true) (h : ∀ K : Act → Prop, (∀ a', wpSeq P Q S r a' w → K a') → o.quiet P a (fun X => ∃ g : SW S, X = g.w) K) : wpSeq P Q S (.one o true g :: r) a w := by
  unfold wpSeq
  rw [if_pos hg, if_pos rfl]
  exact h _ fun _ h => h
theorem seq_do (hg : gOk g a.tmps = true) (h : ∀ K : Act → World → Prop, (∀ a' w', S w' → wpSeq P Q S r a' w' → K a' w') → o.wp P a w K Q) : wpSeq P Q S (.one o false g :: r) a w := by
  unfold wpSeq
  rw [if_pos hg, if_neg (by decide)]
  exact h _ fun _ _ h1 h2 => ⟨h1, h2⟩
theorem seq_skip {t : Bool} (hg : gOk g a.tmps = false) (h : wpSeq P Q S r (a.put o.dst undef) w) : wpSeq P Q S (.one o t g :: r) a w := by
  unfold wpSeq
  rw [if_neg (by rw [hg]; decide)]
  exact h
/-- Two operations in either order, of which what follows knows no more than Φ. -/
theorem seq_two (A1 A2 : Value → World → Prop) (Φ : Value → Value → World → Prop) (hg : gOk g a.tmps = true)
    (hg2 : ∀ v, gOk g (a.put o1.dst v).tmps = true ∧ gOk g (a.put o2.dst v).tmps = true) (hc : ∀ v1 v2, (a.put o2.dst v2).put o1.dst v1 = (a.put o1.dst v1).put o2.dst v2)
    (h1 : ∀ K : Act → World → Prop, (∀ v w1, S w1 → A1 v w1 → K (a.put o1.dst v) w1) → o1.wp P a w K Q)
    (h12 : ∀ v1 w1, S w1 → A1 v1 w1 → ∀ K : Act → World → Prop, (∀ v2 w2, S w2 → Φ v1 v2 w2 → K ((a.put o1.dst v1).put o2.dst v2) w2) → o2.wp P (a.put o1.dst v1) w1 K Q)
    (h2 : ∀ K : Act → World → Prop, (∀ v w1, S w1 → A2 v w1 → K (a.put o2.dst v) w1) → o2.wp P a w K Q)
    (h21 : ∀ v2 w1, S w1 → A2 v2 w1 → ∀ K : Act → World → Prop, (∀ v1 w2, S w2 → Φ v1 v2 w2 → K ((a.put o2.dst v2).put o1.dst v1) w2) → o1.wp P (a.put o2.dst v2) w1 K Q)
    (hr : ∀ v1 v2 w2, S w2 → Φ v1 v2 w2 → wpSeq P Q S r ((a.put o1.dst v1).put o2.dst v2) w2) : wpSeq P Q S (.two o1 o2 g :: r) a w := by
  unfold wpSeq
  rw [if_pos hg]
  refine ⟨h1 _ fun v w1 hS hA => ⟨hS, (hg2 v).1, h12 v w1 hS hA _ fun v2 w2 hS2 hP => ⟨hS2, hr v v2 w2 hS2 hP⟩⟩, h2 _ fun v w1 hS hA => ⟨hS, (hg2 v).2, h21 v w1 hS hA _ fun v1 w2 hS2 hP => ⟨hS2, ?_⟩⟩⟩
  rw [hc]
  exact hr v1 v w2 hS2 hP
theorem seq_sound {ops : Array Oper} (hs : Region.noSelect ops = true) (hQ : ∀ c a d v w, Q (.panic c) (a.put d v) w → Q (.panic c) a w) : ∀ (l : List (Nat × Nat × Nat)) (fuel : Nat) (listed : Array Bool) (a : Act) (w : World), ordLen l ≤ fuel → seqOk .any ops l listed = true → S w → wpSeq P Q S (prep ops l) a w → wpAnyH P .any ops Q S fuel listed a w := by
  intro l
  induction l with
  | nil =>
    intro fuel listed a w _ hok _ h
    exact wpAnyH_done (List.isEmpty_iff.1 hok) h fuel
  | cons x l ih =>
    intro fuel listed a w hf hok hS h
    obtain ⟨k, i, j⟩ := x
    by_cases hk : k = 2
    · subst hk
      simp only [ordLen, if_true] at hf
      obtain ⟨fuel, rfl⟩ : ∃ f, fuel = f + 1 + 1 := ⟨fuel - 2, by omega⟩
      have hl : ordLen l ≤ fuel := by omega
      simp only [seqOk, if_true, Bool.and_eq_true] at hok
      obtain ⟨h1, h2, h3, h4, h5, h6⟩ := hok
      cases ho1 : ops[i]? with
      | none => rw [ho1] at h1; cases h1
      | some o1 =>
        cases ho2 : ops[j]? with
        | none => rw [ho1, ho2] at h1; cases h1
        | some o2 =>
          rw [ho1, ho2] at h1
          have hge : gdOf ops o1 = gdOf ops o2 := by simpa using h1
          simp only [prep, Array.getElem?_toList, ho1, ho2] at h
          unfold wpSeq at h
          cases hg : gOk (gdOf ops o1) a.tmps with
          | false => rw [if_neg (by rw [hg]; decide)] at h; exact h.elim
          | true =>
            rw [if_pos hg] at h
            refine wpAnyH_all (rs := [i, j]) (by simpa using h2) (by simp) fun q hq => ?_
            have hne : i ≠ j := by simpa using h5
            rcases List.mem_cons.1 hq with rfl | hq
            · unfold wpOp
              simp only [ho1]
              rw [gOk_wanted, hg, if_pos rfl]
              refine .inl (Oper.wp_mono (fun a1 w1 hh => ⟨hh.1, ?_⟩) h.1)
              refine wpAnyH_all (rs := [j]) (by simpa using h3) (by simp) fun q2 hq2 => ?_
              rw [List.mem_singleton] at hq2
              subst hq2
              unfold wpOp
              simp only [ho2]
              rw [gOk_wanted, ← hge, hh.2.1, if_pos rfl]
              exact .inl (Oper.wp_mono (fun a2 w2 h9 => ⟨h9.1, ih fuel _ _ _ hl h6 h9.1 h9.2⟩) hh.2.2)
            · rw [List.mem_singleton] at hq
              subst hq
              unfold wpOp
              simp only [ho2]
              rw [gOk_wanted, ← hge, hg, if_pos rfl]
              refine .inl (Oper.wp_mono (fun a1 w1 hh => ⟨hh.1, ?_⟩) h.2)
              refine wpAnyH_all (rs := [i]) (by simpa using h4) (by simp) fun q2 hq2 => ?_
              rw [List.mem_singleton] at hq2
              subst hq2
              unfold wpOp
              simp only [ho1]
              rw [gOk_wanted, hh.2.1, if_pos rfl]
              refine .inl (Oper.wp_mono (fun a2 w2 h9 => ⟨h9.1, ?_⟩) hh.2.2)
              rw [Array.setIfInBounds_comm _ _ (Ne.symm hne)]
              exact ih fuel _ _ _ hl h6 h9.1 h9.2
    · simp only [ordLen, hk, if_false] at hf
      obtain ⟨fuel, rfl⟩ : ∃ f, fuel = f + 1 := ⟨fuel - 1, by omega⟩
      have hl : ordLen l ≤ fuel := by omega
      simp only [seqOk, hk, if_false, Bool.and_eq_true] at hok
      obtain ⟨h1, h2⟩ := hok
      cases ho : ops[i]? with
      | none => rw [ho] at h1; simp at h1
      | some o =>
        rw [ho] at h1
        simp only [Option.any_some] at h1
        simp only [prep, Array.getElem?_toList, ho] at h
        by_cases h0 : k = 0
        · subst h0
          unfold wpSeq at h
          simp only [if_true] at h1 h
          simp only [Bool.and_eq_true] at h1
          obtain ⟨g1, g2, g3⟩ := h1
          cases hg : gOk (gdOf ops o) a.tmps with
          | true =>
            rw [if_pos hg] at h
            obtain ⟨v, q1, q2⟩ := h
            exact wpAnyH_take ho hs g2 g3 (fun c a w => hQ c a _ v w) (.inl ⟨by rw [gOk_wanted]; exact hg, fun X hX => plain_quiet g1 (q1 X (cls_of hX))⟩) hS (ih fuel _ _ _ hl h2 hS q2)
          | false =>
            rw [if_neg (by rw [hg]; decide)] at h
            exact wpAnyH_take ho hs g2 g3 (fun c a w => hQ c a _ undef w) (.inr ⟨by rw [gOk_wanted]; exact hg, rfl⟩) hS (ih fuel _ _ _ hl h2 hS h)
        · have hkb : (k == 0) = false := by rw [beq_eq_false_iff_ne]; exact h0
          simp only [h0, if_false] at h1
          have h : wpSeq P Q S (.one o false (gdOf ops o) :: prep ops l) a w := by
            match k, hk, h0, h with
            | 1, _, _, h => exact h
            | k + 3, _, _, h => exact h
          unfold wpSeq at h
          refine wpAnyH_all (rs := [i]) (by simpa using h1) (by simp) fun j hj => ?_
          rw [List.mem_singleton] at hj
          subst hj
          unfold wpOp
          simp only [ho]
          cases hg : gOk (gdOf ops o) a.tmps with
          | true =>
            rw [if_pos hg, if_neg (by decide)] at h
            rw [gOk_wanted, hg, if_pos rfl]
            exact .inl (Oper.wp_mono (fun a' w' h => ⟨h.1, ih fuel _ _ _ hl h2 h.1 h.2⟩) h)
          | false =>
            rw [if_neg (by rw [hg]; decide)] at h
            rw [gOk_wanted, hg, if_neg (by decide)]
            exact ⟨hS, ih fuel _ _ _ hl h2 hS h⟩
/-- The beginning. -/
theorem wp_region_seq {id : Nat} {ops : Array Oper} (l : List (Nat × Nat × Nat)) (L : List It) (hm : P.follows .mixedOrders = true) (hs : Region.noSelect ops = true) (hl : ordLen l ≤ ops.size) (hok : seqOk .any ops l (Array.replicate ops.size false) = true) (hL : prep ops l = L)
    (hQ : ∀ c a d v w, Q (.panic c) (a.put d v) w → Q (.panic c) a w) (hS : S w.drew) (h : wpSeq P Q S L a w.drew) : (Code.region id ops true).wp P Q a w := by
  subst hL
  exact wp_region_held hm (seq_sound hs hQ l ops.size _ a w.drew hl hok hS h)
/-- The same, closed: nothing looks into it. -/
structure SqG (P : Program) (Q : Exit → Act → World → Prop) (S : World → Prop) (l : List It) (a : Act) (w : World) : Prop where
  out : wpSeq P Q S l a w
theorem sq_nil (h : Q .normal a w) : SqG P Q S [] a w := ⟨h⟩
theorem sq_take (hg : gOk g a.tmps = true) (h : ∀ K : Act → Prop, (∀ a', SqG P Q S r a' w → K a') → o.quiet P a (fun X => ∃ g : SW S, X = g.w) K) : SqG P Q S (.one o true g :: r) a w := ⟨seq_take hg fun K hK => h K fun a' h' => hK a' h'.out⟩
theorem sq_do (hg : gOk g a.tmps = true) (h : ∀ K : Act → World → Prop, (∀ a' w', S w' → SqG P Q S r a' w' → K a' w') → o.wp P a w K Q) : SqG P Q S (.one o false g :: r) a w := ⟨seq_do hg fun K hK => h K fun a' w' hS h' => hK a' w' hS h'.out⟩
theorem sq_skip {t : Bool} (hg : gOk g a.tmps = false) (h : SqG P Q S r (a.put o.dst undef) w) : SqG P Q S (.one o t g :: r) a w := ⟨seq_skip hg h.out⟩
theorem sq_region {id : Nat} {ops : Array Oper} (l : List (Nat × Nat × Nat)) (L : List It) (hm : P.follows .mixedOrders = true) (hs : Region.noSelect ops = true) (hl : ordLen l ≤ ops.size) (hok : seqOk .any ops l (Array.replicate ops.size false) = true) (hL : prep ops l = L)
    (hQ : ∀ c a d v w, Q (.panic c) (a.put d v) w → Q (.panic c) a w) (hS : S w.drew) (h : SqG P Q S L a w.drew) : (Code.region id ops true).wp P Q a w := wp_region_seq l L hm hs hl hok hL hQ hS h.out
end
end Go.Proofs.YtoaepffpjoibaaaGreat
