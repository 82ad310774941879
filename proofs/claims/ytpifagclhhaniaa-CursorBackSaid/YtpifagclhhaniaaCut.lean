/- Parts of slices of elements of several cells. -/
import Derived.Test.YtpifagclhhaniaaApp
namespace Go.Proofs.Ytpifagclhhaniaa

theorem flat_take {α : Type} (f : α → List Value) (sz : Nat) (hf : ∀ x, (f x).length = sz) (l : List α) (n : Nat) : (l.take n).flatMap f = (l.flatMap f).take (n * sz) := by
  induction l generalizing n with
  | nil => simp
  | cons x l ih =>
    cases n with
    | zero => simp
    | succ n =>
      rw [List.take_succ_cons, List.flatMap_cons, List.flatMap_cons, ih, List.take_append, hf]
      rw [List.take_of_length_le (l := f x) (by rw [hf, Nat.add_mul]; omega)]
      congr 2
      rw [Nat.add_mul]; omega
theorem flat_drop {α : Type} (f : α → List Value) (sz : Nat) (hf : ∀ x, (f x).length = sz) (l : List α) (n : Nat) : (l.drop n).flatMap f = (l.flatMap f).drop (n * sz) := by
  induction l generalizing n with
  | nil => simp
  | cons x l ih =>
    cases n with
    | zero => simp
    | succ n =>
      rw [List.drop_succ_cons, List.flatMap_cons, ih, List.drop_append, hf]
      rw [List.drop_of_length_le (l := f x) (by rw [hf, Nat.add_mul]; omega), List.nil_append]
      congr 1
      rw [Nat.add_mul]; omega
theorem RdB.take_ {w : World} {B : Nat} {A : Option Addr} {l : List Bk} (h : RdB w B A l) (k : Nat) : RdB w B A (l.take k) := by
  unfold RdB
  rw [flat_take Bk.cells 6 Bk.len]
  exact Rd.take_ h _
theorem Rd.from_ {w : World} {B g off : Nat} {xs : List Value} (h : Rd w B (some ⟨g, off, none⟩) xs) (k : Nat) : Rd w B (some ⟨g, off + k, none⟩) (xs.drop k) := fun hn => by
  have hlt : k < xs.length := by
    rcases Nat.lt_or_ge k xs.length with h1 | h1
    · exact h1
    · exact absurd (List.drop_eq_nil_of_le h1) hn
  obtain ⟨b, o2, e, hb, hc⟩ := h (by intro e; subst e; simp at hlt)
  cases e
  refine ⟨g, off + k, rfl, hb, fun j hj => ?_⟩
  have hj' : k + j < xs.length := by simp at hj; omega
  rw [List.getElem_drop, Nat.add_assoc]
  exact hc _ hj'
theorem RdB.from_ {w : World} {B g off : Nat} {l : List Bk} (h : RdB w B (some ⟨g, off, none⟩) l) (k : Nat) : RdB w B (some ⟨g, off + k * 6, none⟩) (l.drop k) := by
  unfold RdB
  rw [flat_drop Bk.cells 6 Bk.len]
  exact Rd.from_ h _
theorem RdB.cut {w : World} {B : Nat} {A : Option Addr} {l : List Bk} (h : RdB w B A l) (k c : Nat) (hc : l.length ≤ c) : RdB w B (if c = k then A else A.map (·.add (k * 6))) (l.drop k) := by
  unfold RdB
  rw [flat_drop Bk.cells 6 Bk.len]
  by_cases e : c = k
  · rw [if_pos e]
    intro hn
    exact absurd (List.drop_eq_nil_of_le (by rw [flat_len Bk.cells 6 Bk.len]; exact Nat.mul_le_mul_right _ (by omega))) hn
  · rw [if_neg e]
    exact Rd.drop_ h _

theorem run_append_nil {P : Program} (w : World) (base : Nat) (t ty e : TypeId) (i : TypeInfo) (size : Nat) (ht : P.underlying t = some (.slice e)) (hi : P.info? e = some i)
    (v : Value) (n : Nat) (xs : List Value) (hown : w.ownsRow base e size v n xs) (c : Nat) : (Builtin.append_ #[t, t] ty #[v, .slice none 0 c]).run P w = .ok v w := by
  rcases hown.2 with ⟨rfl, rfl⟩ | ⟨g, cap, cur, rfl, _, _, hnc, _⟩
  · simp [Builtin.append_, run_underlying ht, sizeOf, typeInfo, hi, Builtin.lenOf, Builtin.firstCells]
  · simp [Builtin.append_, run_underlying ht, sizeOf, typeInfo, hi, Builtin.lenOf, Builtin.firstCells, hnc, storeCells]

/-- append(v, s...): the source reads as news, nil let in; whatever its capacity, and whatever its guard. -/
theorem wp_append_rd {P : Program} (w : World) {o : Oper} {a : Act} {K : Act → World → Prop} {Q : Exit → Act → World → Prop} (s x : Operand) (t : TypeId)
    (ho : o.op = .call { callee := .builtin .append, args := #[s, x], argTypes := #[t, t] })
    (base : Nat) (e : TypeId) (i : TypeInfo) (z : Value) (size bytes : Nat) (ht : P.underlying t = some (.slice e)) (hi : P.info? e = some i) (hz : i.zero = some z)
    (hsize : i.size = size) (hby : i.bytes = bytes) (hzs : z.cells.size = size) (hsz : 0 < size)
    (v : Value) (n : Nat) (xs : List Value) (hs : a.eval s = v) (hown : w.ownsRow base e size v n xs)
    (B : Nat) (A : Option Addr) (m c : Nat) (news : List Value) (hx : a.eval x = .slice A m c) (hl : news.length = m * size) (hr : Rd w B A news) (h1 : ∀ u ∈ news, u.oneCell' = true)
    (h63 : n + m ≤ maxLen) (hbytes : (n + m) * bytes ≤ 140737488355328) (hbase : base ≤ w.heap.size)
    (h : ∀ v' w', w'.ownsRow base e size v' (n + m) (xs ++ news) → w.grownBy w' v.ownBlock → K (a.put o.dst v') w') : o.wp P a w K Q := by
  cases A with
  | none =>
    have hn : news = [] := by
      cases news with
      | nil => rfl
      | cons u us =>
        obtain ⟨b, off, h1, _⟩ := hr (by simp)
        cases h1
    subst hn
    have hm : m = 0 := by
      rcases Nat.eq_zero_or_pos m with h0 | h0
      · exact h0
      · have := Nat.mul_pos h0 hsz
        simp at hl; omega
    subst hm
    have h := h v w (by simpa using hown) (World.grownBy.refl w _)
    have hrun := run_append_nil (P := P) w base t o.type e i size ht hi v n xs hown c
    unfold Oper.wp
    simp [execOp, ho, resolve, invoke, builtin, hs, hx, hrun, Result.andThen]
    exact h
  | some ad =>
    refine wp_append_own w s x t ho base e i z size bytes ht hi hz hsize hby hzs hsz v n xs hs hown ad m c news hx hl ?_ h1 h63 hbytes hbase (fun v' w' h2 h3 _ => h v' w' h2 h3)
    intro j u hu
    have hne : news ≠ [] := by intro e; subst e; simp at hu
    obtain ⟨b, off, e, _, hc⟩ := hr hne
    cases e
    obtain ⟨hj, hv⟩ := List.getElem?_eq_some_iff.1 hu
    have := hc j hj
    rw [hv] at this
    rw [← this]
    congr 1
    unfold Addr.add
    split
    · simp_all
    · rfl
theorem wpList_append_rd' {P : Program} (w : World) {ops : Array Oper} {rest : List Oper} {o : Oper} {a : Act} {Q : Exit → Act → World → Prop} (hgd : Region.wanted o (yielded ops a.tmps) = true) (s x : Operand) (t : TypeId)
    (ho : o.op = .call { callee := .builtin .append, args := #[s, x], argTypes := #[t, t] })
    (base : Nat) (e : TypeId) (i : TypeInfo) (z : Value) (size bytes : Nat) (ht : P.underlying t = some (.slice e)) (hi : P.info? e = some i) (hz : i.zero = some z)
    (hsize : i.size = size) (hby : i.bytes = bytes) (hzs : z.cells.size = size) (hsz : 0 < size)
    (v : Value) (n : Nat) (xs : List Value) (hs : a.eval s = v) (hown : w.ownsRow base e size v n xs)
    (B : Nat) (A : Option Addr) (m c : Nat) (news : List Value) (hx : a.eval x = .slice A m c) (hl : news.length = m * size) (hr : Rd w B A news) (h1 : ∀ u ∈ news, u.oneCell' = true)
    (h63 : n + m ≤ maxLen) (hbytes : (n + m) * bytes ≤ 140737488355328) (hbase : base ≤ w.heap.size)
    (h : ∀ v' w', w'.ownsRow base e size v' (n + m) (xs ++ news) → w.grownBy w' v.ownBlock → wpList P ops Q rest (a.put o.dst v') w') : wpList P ops Q (o :: rest) a w :=
  wpList_step fun _ hK => by
    rw [if_pos hgd]
    exact wp_append_rd w s x t ho base e i z size bytes ht hi hz hsize hby hzs hsz v n xs hs hown B A m c news hx hl hr h1 h63 hbytes hbase fun v' w' h2 h3 => hK _ _ (h v' w' h2 h3)
end Go.Proofs.Ytpifagclhhaniaa
