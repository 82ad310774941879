/- append of a slice that came in (nil, empty or not) onto a row of the call's own; a row that is made empty; a store into the midst of a row. -/
import Derived.Test.YtpifagclhhaniaaBase
import Derived.Laws.AppendOwnNone
namespace Go.Proofs.Ytpifagclhhaniaa

/-- append(v, s...): the source reads as news, nil let in. -/
theorem wpList_append_rd {P : Program} (w : World) {ops : Array Oper} {rest : List Oper} {o : Oper} {a : Act} {Q : Exit → Act → World → Prop} (hgd : o.guard = none) (s x : Operand) (t : TypeId)
    (ho : o.op = .call { callee := .builtin .append, args := #[s, x], argTypes := #[t, t] })
    (base : Nat) (e : TypeId) (i : TypeInfo) (z : Value) (size bytes : Nat) (ht : P.underlying t = some (.slice e)) (hi : P.info? e = some i) (hz : i.zero = some z)
    (hsize : i.size = size) (hby : i.bytes = bytes) (hzs : z.cells.size = size) (hsz : 0 < size)
    (v : Value) (n : Nat) (xs : List Value) (hs : a.eval s = v) (hown : w.ownsRow base e size v n xs)
    (B : Nat) (A : Option Addr) (m c : Nat) (news : List Value) (hx : a.eval x = .slice A m c) (hc0 : A = none → c = 0) (hl : news.length = m * size) (hr : Rd w B A news) (h1 : ∀ u ∈ news, u.oneCell' = true)
    (h63 : n + m ≤ maxLen) (hbytes : (n + m) * bytes ≤ 140737488355328) (hbase : base ≤ w.heap.size)
    (h : ∀ v' w', w'.ownsRow base e size v' (n + m) (xs ++ news) → w.grownBy w' v.ownBlock → wpList P ops Q rest (a.put o.dst v') w') : wpList P ops Q (o :: rest) a w := by
  cases A with
  | none =>
    have hn : news = [] := by
      cases news with
      | nil => rfl
      | cons u us =>
        obtain ⟨b, off, h1, _⟩ := hr (by simp)
        cases h1
    subst hn
    have hm : m = 0 := by
      rcases Nat.eq_zero_or_pos m with h0 | h0
      · exact h0
      · have := Nat.mul_pos h0 hsz
        simp at hl; omega
    subst hm
    rw [hc0 rfl] at hx
    exact wpList_append_own_none hgd s x t ho base e i size ht hi v n xs hs hown hx (h v w (by simpa using hown) (World.grownBy.refl w _))
  | some ad =>
    refine wpList_append_own w hgd s x t ho base e i z size bytes ht hi hz hsize hby hzs hsz v n xs hs hown ad m c news hx hl ?_ h1 h63 hbytes hbase (fun v' w' h2 h3 _ => h v' w' h2 h3)
    intro j u hu
    have hne : news ≠ [] := by intro e; subst e; simp at hu
    obtain ⟨b, off, e, _, hc⟩ := hr hne
    cases e
    obtain ⟨hj, hv⟩ := List.getElem?_eq_some_iff.1 hu
    have := hc j hj
    rw [hv] at this
    rw [← this]
    congr 1
    unfold Addr.add
    split
    · simp_all
    · rfl

/-- A row that is made with no element. -/
theorem own_empty (w : World) (base : Nat) (e : TypeId) (size : Nat) (hb : base ≤ w.heap.size) : (w.alloc (.cells #[] e)).ownsRow base e size (.slice (some ⟨w.heap.size, 0, none⟩) 0 0) 0 [] := by
  refine ⟨by simp, .inr ⟨w.heap.size, 0, #[], rfl, hb, heap_alloc_new w _, Nat.le_refl _, by simp [maxLen], by simp, by simp⟩⟩
theorem cells_one {α : Type} {f : α → List Value} (h : ∀ x, ∀ u ∈ f x, u.oneCell' = true) (l : List α) : ∀ u ∈ l.flatMap f, u.oneCell' = true := by
  intro u hu
  obtain ⟨x, _, hx⟩ := List.mem_flatMap.1 hu
  exact h x u hx
theorem Bk.one (b : Bk) : ∀ u ∈ b.cells, u.oneCell' = true := by intro u hu; simp only [Bk.cells, List.mem_cons, List.not_mem_nil, or_false] at hu; rcases hu with rfl | rfl | rfl | rfl | rfl | rfl <;> rfl
theorem En.one (b : En) : ∀ u ∈ b.cells, u.oneCell' = true := by intro u hu; simp only [En.cells, List.mem_cons, List.not_mem_nil, or_false] at hu; rcases hu with rfl | rfl <;> rfl
theorem int_one (b : Int) : ∀ u ∈ intCells b, u.oneCell' = true := by intro u hu; simp only [intCells, List.mem_cons, List.not_mem_nil, or_false] at hu; subst hu; rfl
theorem word_one (b : Nat) : ∀ u ∈ wordCells b, u.oneCell' = true := by intro u hu; simp only [wordCells, List.mem_cons, List.not_mem_nil, or_false] at hu; subst hu; rfl

/-- A slice reads as before but for one cell that was stored. -/
theorem Rd.setAt {w : World} {B g off : Nat} {xs : List Value} (h : Rd w B (some ⟨g, off, none⟩) xs) {j : Nat} {u0 : Value} (hj : j < xs.length) (h0 : w.cell? ⟨g, off + j, none⟩ = some u0) (u : Value) :
    Rd (w.setCell ⟨g, off + j, none⟩ u) B (some ⟨g, off, none⟩) (xs.set j u) := fun _ => by
  obtain ⟨b, off', e, hb, hc⟩ := h (by intro e; subst e; simp at hj)
  cases e
  refine ⟨g, off, rfl, hb, fun i hi => ?_⟩
  rw [List.length_set] at hi
  by_cases e : j = i
  · subst e
    rw [List.getElem_set_self]
    exact World.cell?_setCell_same w _ u h0
  · rw [List.getElem_set_ne e, ← hc i hi]
    exact World.cell?_setCell_other w _ _ u (fun e2 => e (by injection e2 with _ e3 _; omega))
theorem flat_set {α : Type} (f : α → List Value) (sz : Nat) (hf : ∀ x, (f x).length = sz) (l : List α) (k j : Nat) (hj : j < sz) (x : α) (u : Value) (hk : ∀ y, l[k]? = some y → f x = (f y).set j u) :
    (l.set k x).flatMap f = (l.flatMap f).set (k * sz + j) u := by
  induction l generalizing k with
  | nil => simp
  | cons y l ih =>
    cases k with
    | zero =>
      have := hk y rfl
      simp only [List.set_cons_zero, List.flatMap_cons, this, Nat.zero_mul, Nat.zero_add]
      rw [List.set_append_left _ _ (by rw [hf]; exact hj)]
    | succ k =>
      simp only [List.set_cons_succ, List.flatMap_cons]
      rw [ih k (fun z hz => hk z (by simpa using hz)), List.set_append_right _ _ (by rw [hf, Nat.add_mul]; omega), hf]
      congr 2
      rw [Nat.add_mul]; omega
end Go.Proofs.Ytpifagclhhaniaa
