/- Texts laid together: Arr Agg App Cut Img SumW FwbQ HdrW HdrX HdrY Walk From NxtP. -/
import Derived.Test.YtoaepffpjoibaaaGreatKPlain
import Derived.Deep.MidRow
import Derived.Laws.Rows
import Derived.Laws.AppendOwnNone
import Derived.Laws.BitsAllLaws
import Derived.Laws.Shifts
import Derived.PlainAid
import Derived.Deep.RegionHeld3
import Derived.Deep.DrawnRows
namespace Go.Proofs.YtoaepffpjoibaaaGreat
open Go.RowKit

theorem setCell_self {w : World} {g i : Nat} {t : TypeId} {cs : Array Value} {v : Value} (h : Bx w g t cs) (hv : cs[i]? = some v) : w.setCell ⟨g, i, none⟩ v = w := by
  have hh : w.heap.modify g (fun | .cells c elem frozen => .cells (if (none : Option Nat).isSome then c else c.setIfInBounds i v) elem frozen | o => o) = w.heap := by
    apply Array.ext_getElem?
    intro j
    rw [Array.getElem?_modify]
    split
    · rename_i e
      subst e
      rw [show w.heap[g]? = _ from h]
      simp only [Option.map_some, Option.isSome_none, Bool.false_eq_true, if_false]
      congr 2
      apply Array.ext_getElem?
      intro k
      rw [Array.getElem?_setIfInBounds]
      split
      · rename_i e; subst e
        split
        · exact hv.symm
        · rename_i hk; rw [Array.getElem?_eq_none (by omega)]
      · rfl
    · rfl
  have e : w.setCell ⟨g, i, none⟩ v = { w with heap := w.heap.modify g (fun | .cells c elem frozen => .cells (if (none : Option Nat).isSome then c else c.setIfInBounds i v) elem frozen | o => o) } := rfl
  rw [e, hh]
theorem setCells_self {w : World} {g : Nat} {t : TypeId} {cs : Array Value} (h : Bx w g t cs) : w.setCells g 0 cs.toList = w := by
  have key : ∀ (vs : List Value) (o : Nat), (∀ j v, vs[j]? = some v → cs[o + j]? = some v) → w.setCells g o vs = w := by
    intro vs
    induction vs with
    | nil => intro o _; rfl
    | cons v vs ih =>
      intro o hv
      simp only [World.setCells]
      rw [setCell_self h (by have := hv 0 v rfl; simpa using this)]
      exact ih (o + 1) (fun j u hu => by have := hv (j + 1) u (by simpa using hu); rwa [show o + 1 + j = o + (j + 1) by omega])
  exact key cs.toList 0 (fun j v hv => by simpa using hv)
theorem setCells_all {w : World} {g : Nat} {t : TypeId} {cs0 : Array Value} (h : Bx w g t cs0) {cs : Array Value} (hs : cs.size = cs0.size) : Bx (w.setCells g 0 cs.toList) g t cs := by
  have key : ∀ (vs : List Value) (o : Nat) (w : World) (cs0 : Array Value), Bx w g t cs0 → o + vs.length = cs0.size →
      ∃ cs1, Bx (w.setCells g o vs) g t cs1 ∧ cs1.size = cs0.size ∧ (∀ j, j < o → cs1[j]? = cs0[j]?) ∧ ∀ j, j < vs.length → cs1[o + j]? = vs[j]? := by
    intro vs
    induction vs with
    | nil => intro o w cs0 hb _; exact ⟨cs0, hb, rfl, fun _ _ => rfl, fun j hj => by simp at hj⟩
    | cons v vs ih =>
      intro o w cs0 hb hl
      rw [List.length_cons] at hl
      obtain ⟨cs1, h1, h2, h3, h4⟩ := ih (o + 1) _ _ (hb.set_ o v) (by rw [Array.size_setIfInBounds]; omega)
      rw [Array.size_setIfInBounds] at h2
      refine ⟨cs1, h1, h2, fun j hj => ?_, fun j hj => ?_⟩
      · rw [h3 j (by omega), Array.getElem?_setIfInBounds, if_neg (by omega)]
      · cases j with
        | zero => rw [Nat.add_zero, h3 o (by omega), Array.getElem?_setIfInBounds, if_pos rfl, if_pos (by omega)]; rfl
        | succ j => rw [show o + (j + 1) = o + 1 + j by omega, h4 j (by simpa using hj)]; simp
  obtain ⟨cs1, h1, h2, _, h4⟩ := key cs.toList 0 w cs0 h (by simpa using hs)
  have e : cs1 = cs := by
    apply Array.ext_getElem?
    intro i
    by_cases hi : i < cs.size
    · have := h4 i (by simpa using hi)
      rw [Nat.zero_add] at this
      rw [this]; simp
    · rw [Array.getElem?_eq_none (by omega), Array.getElem?_eq_none (by omega)]
  rwa [e] at h1
theorem below_setCells {B g : Nat} (hg : B ≤ g) (vs : List Value) : ∀ {w w1 : World} {o : Nat}, Below B w w1 → Below B w (w1.setCells g o vs) := by
  induction vs with
  | nil => intro w w1 o h; exact h
  | cons v vs ih => intro w w1 o h; exact ih (h.setCell (p := ⟨g, o, none⟩) hg v)
theorem there_bx {w : World} {g : Nat} {t : TypeId} {cs : Array Value} (h : Bx w g t cs) : w.there g 0 cs.size := fun j hj => by
  rw [Nat.zero_add]
  exact ⟨by rw [h.cell j]; simp [hj], h.frozen j⟩
/-- An element of an array of one-cell elements. -/
theorem run_index_agg {P : Program} {t e : TypeId} {n : Nat} {i : TypeInfo} (ht : P.underlying t = some (.array n e)) (he : P.info? e = some i) (hs : i.size = 1) (hag : ∀ w, (isAgg e).run P w = .ok false w) {cs : Array Value} {k : Nat} {v : Value} (hk : k < n) (hv : cs[k]? = some v) (w : World) :
    (Instr.index t (.agg cs) (.int .i64 (k : Int))).run P w = .ok v w := by
  have h0 : (0 : Int) ≤ (k : Int) ∧ (k : Int) < (n : Int) := by omega
  simp [Instr.index, asIntOf, run_underlying ht, h0, sizeOf, typeInfo, he, hs, part, Sem.run_bind, hag, hv, Result.andThen]
  omega
end Go.Proofs.YtoaepffpjoibaaaGreat

namespace Go.Proofs.YtoaepffpjoibaaaGreat
open Go.RowKit

theorem setCells_other {g g' : Nat} (hne : g' ≠ g) (vs : List Value) : ∀ (w : World) (o : Nat), (w.setCells g o vs).heap[g']? = w.heap[g']? := by
  induction vs with
  | nil => intro w o; rfl
  | cons v vs ih => intro w o; simp only [World.setCells]; rw [ih]; exact Below.heap_setCell w ⟨g, o, none⟩ v g' hne
theorem setCells_size {g : Nat} (vs : List Value) : ∀ (w : World) (o : Nat), (w.setCells g o vs).heap.size = w.heap.size := by
  induction vs with
  | nil => intro w o; rfl
  | cons v vs ih => intro w o; simp only [World.setCells]; rw [ih, World.size_setCell]
/-- Block g alone is another one. -/
def Aside1 (w w' : World) (g : Nat) : Prop := w'.heap.size = w.heap.size ∧ (∀ g', g' ≠ g → w'.heap[g']? = w.heap[g']?) ∧ ∀ B, B ≤ g → Below B w w'
theorem Aside1.bx {w w' : World} {g g' : Nat} {t : TypeId} {cs : Array Value} (h : Aside1 w w' g) (hb : Bx w g' t cs) (hne : g' ≠ g) : Bx w' g' t cs := (h.2.1 g' hne).trans hb
theorem Aside1.below {w0 w w' : World} {g B : Nat} (h : Aside1 w w' g) (hb : Below B w0 w) (hB : B ≤ g) : Below B w0 w' := hb.trans (h.2.2 B hB)
theorem wpList_store_agg {P : Program} {ops : Array Oper} {rest : List Oper} {op : Oper} {a : Act} {w : World} {Q : Exit → Act → World → Prop} (hgd : op.guard = none) (ty : TypeId) (x y : Operand) (ho : op.op = .store ty x y)
    (g : Nat) (t : TypeId) (cs0 cs : Array Value) (hx : a.eval x = .pointer (some ⟨g, 0, none⟩)) (hy : a.eval y = .agg cs) (hb : Bx w g t cs0) (hs : cs.size = cs0.size) (hi : (P.info? ty).map (·.size) = some cs.size) (h1 : cs.all (·.oneCell') = true)
    (h : ∀ W', Bx W' g t cs → Aside1 w W' g → wpList P ops Q rest (a.put op.dst undef) W') : wpList P ops Q (op :: rest) a w := by
  have hth : w.there g 0 cs.size := by rw [hs]; exact there_bx hb
  refine wpList_store_mid hgd ty x y ho g 0 cs hx hy hth hi h1 (h _ (setCells_all hb hs) ⟨setCells_size _ _ _, fun g' hg' => setCells_other hg' _ _ _, fun B hB => below_setCells hB _ (Below.refl _ _)⟩)
/-- The operation that stands next is this store, or this load: for arms of a walk, to be tried with_reducible. -/
theorem at_store {P : Program} {ops : Array Oper} {rest : List Oper} {a : Act} {w : World} {Q : Exit → Act → World → Prop} {dst : Option Tmp} {type : TypeId} {pos : String} {after : Array Edge} {guard : Option (Nat × Bool)} (ty : TypeId) (x y : Operand)
    (h : wpList P ops Q ({ dst := dst, op := .store ty x y, type := type, pos := pos, after := after, guard := guard } :: rest) a w) : wpList P ops Q ({ dst := dst, op := .store ty x y, type := type, pos := pos, after := after, guard := guard } :: rest) a w := h
theorem at_load {P : Program} {ops : Array Oper} {rest : List Oper} {a : Act} {w : World} {Q : Exit → Act → World → Prop} {dst : Option Tmp} {type : TypeId} {pos : String} {after : Array Edge} {guard : Option (Nat × Bool)} (ty : TypeId) (x : Operand)
    (h : wpList P ops Q ({ dst := dst, op := .load ty x, type := type, pos := pos, after := after, guard := guard } :: rest) a w) : wpList P ops Q ({ dst := dst, op := .load ty x, type := type, pos := pos, after := after, guard := guard } :: rest) a w := h
theorem at_binop {P : Program} {ops : Array Oper} {rest : List Oper} {a : Act} {w : World} {Q : Exit → Act → World → Prop} {dst : Option Tmp} {type : TypeId} {pos : String} {after : Array Edge} {guard : Option (Nat × Bool)} (b : BinOp) (ty : TypeId) (x y : Operand) (tz : TypeId)
    (h : wpList P ops Q ({ dst := dst, op := .binOp b ty x y tz, type := type, pos := pos, after := after, guard := guard } :: rest) a w) : wpList P ops Q ({ dst := dst, op := .binOp b ty x y tz, type := type, pos := pos, after := after, guard := guard } :: rest) a w := h
/-- An operation whose value is known. -/
theorem wpList_yield {P : Program} {ops : Array Oper} {rest : List Oper} {op : Oper} {a : Act} {w : World} {Q : Exit → Act → World → Prop} (hgd : op.guard = none) (v : Value) (hv : (execOp a.eval op).run P w = .ok (.value v) w)
    (h : wpList P ops Q rest (a.put op.dst v) w) : wpList P ops Q (op :: rest) a w :=
  wpList_plain hgd fun _ hK => by
    unfold Oper.wp
    rw [hv]
    exact hK _ _ h
theorem six_one (x0 x1 x2 x3 : Int) (m : Bool) (n : Int) : (#[.int .i64 x0, .int .i64 x1, .int .i64 x2, .int .i64 x3, .bool m, .int .u64 n] : Array Value).all (·.oneCell') = true := by simp [Value.oneCell']
theorem infoBlkS : (Tryz.prog.info? 48).map (·.size) = some 6 := by kernel_rfl
end Go.Proofs.YtoaepffpjoibaaaGreat

namespace Go.Proofs.YtoaepffpjoibaaaGreat

/-- append(v, s...): the source reads as news, nil let in. -/
theorem wpList_append_rd {P : Program} (w : World) {ops : Array Oper} {rest : List Oper} {o : Oper} {a : Act} {Q : Exit → Act → World → Prop} (hgd : o.guard = none) (s x : Operand) (t : TypeId)
    (ho : o.op = .call { callee := .builtin .append, args := #[s, x], argTypes := #[t, t] })
    (base : Nat) (e : TypeId) (i : TypeInfo) (z : Value) (size bytes : Nat) (ht : P.underlying t = some (.slice e)) (hi : P.info? e = some i) (hz : i.zero = some z)
    (hsize : i.size = size) (hby : i.bytes = bytes) (hzs : z.cells.size = size) (hsz : 0 < size)
    (v : Value) (n : Nat) (xs : List Value) (hs : a.eval s = v) (hown : w.ownsRow base e size v n xs)
    (B : Nat) (A : Option Addr) (m c : Nat) (news : List Value) (hx : a.eval x = .slice A m c) (hc0 : A = none → c = 0) (hl : news.length = m * size) (hr : Rd w B A news) (h1 : ∀ u ∈ news, u.oneCell' = true)
    (h63 : n + m ≤ maxLen) (hbytes : (n + m) * bytes ≤ 140737488355328) (hbase : base ≤ w.heap.size)
    (h : ∀ v' w', w'.ownsRow base e size v' (n + m) (xs ++ news) → w.grownBy w' v.ownBlock → wpList P ops Q rest (a.put o.dst v') w') : wpList P ops Q (o :: rest) a w := by
  cases A with
  | none =>
    have hn : news = [] := by
      cases news with
      | nil => rfl
      | cons u us =>
        obtain ⟨b, off, h1, _⟩ := hr (by simp)
        cases h1
    subst hn
    have hm : m = 0 := by
      rcases Nat.eq_zero_or_pos m with h0 | h0
      · exact h0
      · have := Nat.mul_pos h0 hsz
        simp at hl; omega
    subst hm
    rw [hc0 rfl] at hx
    exact wpList_append_own_none hgd s x t ho base e i size ht hi v n xs hs hown hx (h v w (by simpa using hown) (World.grownBy.refl w _))
  | some ad =>
    refine wpList_append_own w hgd s x t ho base e i z size bytes ht hi hz hsize hby hzs hsz v n xs hs hown ad m c news hx hl ?_ h1 h63 hbytes hbase (fun v' w' h2 h3 _ => h v' w' h2 h3)
    intro j u hu
    have hne : news ≠ [] := by intro e; subst e; simp at hu
    obtain ⟨b, off, e, _, hc⟩ := hr hne
    cases e
    obtain ⟨hj, hv⟩ := List.getElem?_eq_some_iff.1 hu
    have := hc j hj
    rw [hv] at this
    rw [← this]
    congr 1
    unfold Addr.add
    split
    · simp_all
    · rfl

/-- A row that is made with no element. -/
theorem own_empty (w : World) (base : Nat) (e : TypeId) (size : Nat) (hb : base ≤ w.heap.size) : (w.alloc (.cells #[] e)).ownsRow base e size (.slice (some ⟨w.heap.size, 0, none⟩) 0 0) 0 [] := by
  refine ⟨by simp, .inr ⟨w.heap.size, 0, #[], rfl, hb, heap_alloc_new w _, Nat.le_refl _, by simp [maxLen], by simp, by simp⟩⟩
theorem cells_one {α : Type} {f : α → List Value} (h : ∀ x, ∀ u ∈ f x, u.oneCell' = true) (l : List α) : ∀ u ∈ l.flatMap f, u.oneCell' = true := by
  intro u hu
  obtain ⟨x, _, hx⟩ := List.mem_flatMap.1 hu
  exact h x u hx
theorem Bk.one (b : Bk) : ∀ u ∈ b.cells, u.oneCell' = true := by intro u hu; simp only [Bk.cells, List.mem_cons, List.not_mem_nil, or_false] at hu; rcases hu with rfl | rfl | rfl | rfl | rfl | rfl <;> rfl
theorem En.one (b : En) : ∀ u ∈ b.cells, u.oneCell' = true := by intro u hu; simp only [En.cells, List.mem_cons, List.not_mem_nil, or_false] at hu; rcases hu with rfl | rfl <;> rfl
theorem int_one (b : Int) : ∀ u ∈ intCells b, u.oneCell' = true := by intro u hu; simp only [intCells, List.mem_cons, List.not_mem_nil, or_false] at hu; subst hu; rfl
theorem word_one (b : Nat) : ∀ u ∈ wordCells b, u.oneCell' = true := by intro u hu; simp only [wordCells, List.mem_cons, List.not_mem_nil, or_false] at hu; subst hu; rfl

/-- A slice reads as before but for one cell that was stored. -/
theorem Rd.setAt {w : World} {B g off : Nat} {xs : List Value} (h : Rd w B (some ⟨g, off, none⟩) xs) {j : Nat} {u0 : Value} (hj : j < xs.length) (h0 : w.cell? ⟨g, off + j, none⟩ = some u0) (u : Value) :
    Rd (w.setCell ⟨g, off + j, none⟩ u) B (some ⟨g, off, none⟩) (xs.set j u) := fun _ => by
  obtain ⟨b, off', e, hb, hc⟩ := h (by intro e; subst e; simp at hj)
  cases e
  refine ⟨g, off, rfl, hb, fun i hi => ?_⟩
  rw [List.length_set] at hi
  by_cases e : j = i
  · subst e
    rw [List.getElem_set_self]
    exact World.cell?_setCell_same w _ u h0
  · rw [List.getElem_set_ne e, ← hc i hi]
    exact World.cell?_setCell_other w _ _ u (fun e2 => e (by injection e2 with _ e3 _; omega))
theorem flat_set {α : Type} (f : α → List Value) (sz : Nat) (hf : ∀ x, (f x).length = sz) (l : List α) (k j : Nat) (hj : j < sz) (x : α) (u : Value) (hk : ∀ y, l[k]? = some y → f x = (f y).set j u) :
    (l.set k x).flatMap f = (l.flatMap f).set (k * sz + j) u := by
  induction l generalizing k with
  | nil => simp
  | cons y l ih =>
    cases k with
    | zero =>
      have := hk y rfl
      simp only [List.set_cons_zero, List.flatMap_cons, this, Nat.zero_mul, Nat.zero_add]
      rw [List.set_append_left _ _ (by rw [hf]; exact hj)]
    | succ k =>
      simp only [List.set_cons_succ, List.flatMap_cons]
      rw [ih k (fun z hz => hk z (by simpa using hz)), List.set_append_right _ _ (by rw [hf, Nat.add_mul]; omega), hf]
      congr 2
      rw [Nat.add_mul]; omega
end Go.Proofs.YtoaepffpjoibaaaGreat

namespace Go.Proofs.YtoaepffpjoibaaaGreat

theorem flat_take {α : Type} (f : α → List Value) (sz : Nat) (hf : ∀ x, (f x).length = sz) (l : List α) (n : Nat) : (l.take n).flatMap f = (l.flatMap f).take (n * sz) := by
  induction l generalizing n with
  | nil => simp
  | cons x l ih =>
    cases n with
    | zero => simp
    | succ n =>
      rw [List.take_succ_cons, List.flatMap_cons, List.flatMap_cons, ih, List.take_append, hf]
      rw [List.take_of_length_le (l := f x) (by rw [hf, Nat.add_mul]; omega)]
      congr 2
      rw [Nat.add_mul]; omega
theorem flat_drop {α : Type} (f : α → List Value) (sz : Nat) (hf : ∀ x, (f x).length = sz) (l : List α) (n : Nat) : (l.drop n).flatMap f = (l.flatMap f).drop (n * sz) := by
  induction l generalizing n with
  | nil => simp
  | cons x l ih =>
    cases n with
    | zero => simp
    | succ n =>
      rw [List.drop_succ_cons, List.flatMap_cons, ih, List.drop_append, hf]
      rw [List.drop_of_length_le (l := f x) (by rw [hf, Nat.add_mul]; omega), List.nil_append]
      congr 1
      rw [Nat.add_mul]; omega
theorem RdB.take_ {w : World} {B : Nat} {A : Option Addr} {l : List Bk} (h : RdB w B A l) (k : Nat) : RdB w B A (l.take k) := by
  unfold RdB
  rw [flat_take Bk.cells 6 Bk.len]
  exact Rd.take_ h _
theorem Rd.from_ {w : World} {B g off : Nat} {xs : List Value} (h : Rd w B (some ⟨g, off, none⟩) xs) (k : Nat) : Rd w B (some ⟨g, off + k, none⟩) (xs.drop k) := fun hn => by
  have hlt : k < xs.length := by
    rcases Nat.lt_or_ge k xs.length with h1 | h1
    · exact h1
    · exact absurd (List.drop_eq_nil_of_le h1) hn
  obtain ⟨b, o2, e, hb, hc⟩ := h (by intro e; subst e; simp at hlt)
  cases e
  refine ⟨g, off + k, rfl, hb, fun j hj => ?_⟩
  have hj' : k + j < xs.length := by simp at hj; omega
  rw [List.getElem_drop, Nat.add_assoc]
  exact hc _ hj'
theorem RdB.from_ {w : World} {B g off : Nat} {l : List Bk} (h : RdB w B (some ⟨g, off, none⟩) l) (k : Nat) : RdB w B (some ⟨g, off + k * 6, none⟩) (l.drop k) := by
  unfold RdB
  rw [flat_drop Bk.cells 6 Bk.len]
  exact Rd.from_ h _
theorem RdB.cut {w : World} {B : Nat} {A : Option Addr} {l : List Bk} (h : RdB w B A l) (k c : Nat) (hc : l.length ≤ c) : RdB w B (if c = k then A else A.map (·.add (k * 6))) (l.drop k) := by
  unfold RdB
  rw [flat_drop Bk.cells 6 Bk.len]
  by_cases e : c = k
  · rw [if_pos e]
    intro hn
    exact absurd (List.drop_eq_nil_of_le (by rw [flat_len Bk.cells 6 Bk.len]; exact Nat.mul_le_mul_right _ (by omega))) hn
  · rw [if_neg e]
    exact Rd.drop_ h _

theorem run_append_nil {P : Program} (w : World) (base : Nat) (t ty e : TypeId) (i : TypeInfo) (size : Nat) (ht : P.underlying t = some (.slice e)) (hi : P.info? e = some i)
    (v : Value) (n : Nat) (xs : List Value) (hown : w.ownsRow base e size v n xs) (c : Nat) : (Builtin.append_ #[t, t] ty #[v, .slice none 0 c]).run P w = .ok v w := by
  rcases hown.2 with ⟨rfl, rfl⟩ | ⟨g, cap, cur, rfl, _, _, hnc, _⟩
  · simp [Builtin.append_, run_underlying ht, sizeOf, typeInfo, hi, Builtin.lenOf, Builtin.firstCells]
  · simp [Builtin.append_, run_underlying ht, sizeOf, typeInfo, hi, Builtin.lenOf, Builtin.firstCells, hnc, storeCells]

/-- append(v, s...): the source reads as news, nil let in; whatever its capacity, and whatever its guard. -/
theorem wp_append_rd {P : Program} (w : World) {o : Oper} {a : Act} {K : Act → World → Prop} {Q : Exit → Act → World → Prop} (s x : Operand) (t : TypeId)
    (ho : o.op = .call { callee := .builtin .append, args := #[s, x], argTypes := #[t, t] })
    (base : Nat) (e : TypeId) (i : TypeInfo) (z : Value) (size bytes : Nat) (ht : P.underlying t = some (.slice e)) (hi : P.info? e = some i) (hz : i.zero = some z)
    (hsize : i.size = size) (hby : i.bytes = bytes) (hzs : z.cells.size = size) (hsz : 0 < size)
    (v : Value) (n : Nat) (xs : List Value) (hs : a.eval s = v) (hown : w.ownsRow base e size v n xs)
    (B : Nat) (A : Option Addr) (m c : Nat) (news : List Value) (hx : a.eval x = .slice A m c) (hl : news.length = m * size) (hr : Rd w B A news) (h1 : ∀ u ∈ news, u.oneCell' = true)
    (h63 : n + m ≤ maxLen) (hbytes : (n + m) * bytes ≤ 140737488355328) (hbase : base ≤ w.heap.size)
    (h : ∀ v' w', w'.ownsRow base e size v' (n + m) (xs ++ news) → w.grownBy w' v.ownBlock → K (a.put o.dst v') w') : o.wp P a w K Q := by
  cases A with
  | none =>
    have hn : news = [] := by
      cases news with
      | nil => rfl
      | cons u us =>
        obtain ⟨b, off, h1, _⟩ := hr (by simp)
        cases h1
    subst hn
    have hm : m = 0 := by
      rcases Nat.eq_zero_or_pos m with h0 | h0
      · exact h0
      · have := Nat.mul_pos h0 hsz
        simp at hl; omega
    subst hm
    have h := h v w (by simpa using hown) (World.grownBy.refl w _)
    have hrun := run_append_nil (P := P) w base t o.type e i size ht hi v n xs hown c
    unfold Oper.wp
    simp [execOp, ho, resolve, invoke, builtin, hs, hx, hrun, Result.andThen]
    exact h
  | some ad =>
    refine wp_append_own w s x t ho base e i z size bytes ht hi hz hsize hby hzs hsz v n xs hs hown ad m c news hx hl ?_ h1 h63 hbytes hbase (fun v' w' h2 h3 _ => h v' w' h2 h3)
    intro j u hu
    have hne : news ≠ [] := by intro e; subst e; simp at hu
    obtain ⟨b, off, e, _, hc⟩ := hr hne
    cases e
    obtain ⟨hj, hv⟩ := List.getElem?_eq_some_iff.1 hu
    have := hc j hj
    rw [hv] at this
    rw [← this]
    congr 1
    unfold Addr.add
    split
    · simp_all
    · rfl
theorem wpList_append_rd' {P : Program} (w : World) {ops : Array Oper} {rest : List Oper} {o : Oper} {a : Act} {Q : Exit → Act → World → Prop} (hgd : Region.wanted o (yielded ops a.tmps) = true) (s x : Operand) (t : TypeId)
    (ho : o.op = .call { callee := .builtin .append, args := #[s, x], argTypes := #[t, t] })
    (base : Nat) (e : TypeId) (i : TypeInfo) (z : Value) (size bytes : Nat) (ht : P.underlying t = some (.slice e)) (hi : P.info? e = some i) (hz : i.zero = some z)
    (hsize : i.size = size) (hby : i.bytes = bytes) (hzs : z.cells.size = size) (hsz : 0 < size)
    (v : Value) (n : Nat) (xs : List Value) (hs : a.eval s = v) (hown : w.ownsRow base e size v n xs)
    (B : Nat) (A : Option Addr) (m c : Nat) (news : List Value) (hx : a.eval x = .slice A m c) (hl : news.length = m * size) (hr : Rd w B A news) (h1 : ∀ u ∈ news, u.oneCell' = true)
    (h63 : n + m ≤ maxLen) (hbytes : (n + m) * bytes ≤ 140737488355328) (hbase : base ≤ w.heap.size)
    (h : ∀ v' w', w'.ownsRow base e size v' (n + m) (xs ++ news) → w.grownBy w' v.ownBlock → wpList P ops Q rest (a.put o.dst v') w') : wpList P ops Q (o :: rest) a w :=
  wpList_step fun _ hK => by
    rw [if_pos hgd]
    exact wp_append_rd w s x t ho base e i z size bytes ht hi hz hsize hby hzs hsz v n xs hs hown B A m c news hx hl hr h1 h63 hbytes hbase fun v' w' h2 h3 => hK _ _ (h v' w' h2 h3)
end Go.Proofs.YtoaepffpjoibaaaGreat

namespace Go.Proofs.YtoaepffpjoibaaaGreat
open Go.RowKit

theorem ret_bool' {a b : Bool} (h : a = b) : Ending.returned (.bool a) = .returned (.bool b) := by rw [h]
theorem ret_int' {a b : Int} (h : a = b) : Ending.returned (.int .i64 a) = .returned (.int .i64 b) := by rw [h]
theorem ret_u64' {a b : Int} (h : a = b) : Ending.returned (.int .u64 a) = .returned (.int .u64 b) := by rw [h]
def sizeOk (w : Int) : Bool := decide (256 ≤ w) && (decide (w ≤ 2048) && w % 8 == 0)
theorem sizeOk_iff (w : Int) : sizeOk w = true ↔ 256 ≤ w ∧ w ≤ 2048 ∧ w % 8 = 0 := by simp [sizeOk]
/-- The error of an image of n words. -/
def imgErr (n : Nat) : Int := if sizeOk (n : Int) = true then 0 else 8
theorem imgErr_ok {n : Nat} (h : sizeOk (n : Int) = true) : imgErr n = 0 := by simp [imgErr, h]
theorem imgErr_no {n : Nat} (h : sizeOk (n : Int) = false) : imgErr n = 8 := by simp [imgErr, h]
theorem imgErr_zero {n : Nat} (h : imgErr n = 0) : 256 ≤ n ∧ n ≤ 2048 ∧ n % 8 = 0 := by
  cases hs : sizeOk (n : Int) with
  | false => rw [imgErr_no hs] at h; cases h
  | true => have := (sizeOk_iff _).1 hs; omega
theorem imgErr_val (n : Nat) : imgErr n = 0 ∨ imgErr n = 8 := by unfold imgErr; split <;> simp

set_option maxHeartbeats 400000 in
theorem imSize_c (n : Nat) (w : World) (hn : n ≤ 9223372036854775807) : Calls Tryz.prog 48 #[.int .i64 (n : Int)] w fun e w' => e = .returned (.bool (sizeOk (n : Int))) ∧ w = w' := by
  have H : Hid (∀ b : Bool, (b = true ↔ 256 ≤ n ∧ n ≤ 2048 ∧ n % 8 = 0) → b = sizeOk (n : Int)) := Lib.hid fun b h => by rw [Bool.eq_iff_iff, sizeOk_iff, h]; omega
  go_enter Tryz.func48, Tryz.ntmps48
  go_wp2_with fail
  all_goals
    go_ret
    exact ⟨ret_bool' (H.out _ (by simp; omega)), rfl⟩
set_option maxHeartbeats 400000 in
theorem imCheck_c (A : Option Addr) (n c : Nat) (w : World) (hn : n ≤ 9223372036854775807) : Calls Tryz.prog 28 #[.slice A n c] w fun e w' => e = .returned (.int .i64 (imgErr n)) ∧ w = w' := by
  cases hs : sizeOk (n : Int)
  all_goals
    first
      | have HE := Lib.hid (imgErr_ok hs)
      | have HE := Lib.hid (imgErr_no hs)
    have HS := Lib.hid hs
    clear hs
    go_enter Tryz.func28, Tryz.ntmps28
    go_wp2_with fail
    refine (imSize_c n w hn).mono ?_
    rintro e w1 ⟨rfl, rfl⟩
    rw [HS.out]
    go_wp2_with fail
    go_ret
    exact ⟨by rw [HE.out]; rfl, rfl⟩

/-- Whether an image of so many words is great. -/
def greatW (n : Nat) : Bool := (decide (400 < n) && decide (n < 2040)) || decide (2060 < n)
theorem greatW_no {n : Nat} (h : greatW n = false) : n ≤ 400 ∨ 2040 ≤ n ∧ n ≤ 2060 := by
  simp only [greatW, Bool.or_eq_false_iff, Bool.and_eq_false_iff, decide_eq_false_iff_not] at h
  omega
set_option maxHeartbeats 400000 in
theorem great25_c (A : Option Addr) (n c : Nat) (w : World) (hm : n ≤ 9223372036854775807) :
    Calls Tryz.prog 5 #[.slice A n c] w fun e w' => e = .returned (.bool (greatW n)) ∧ w = w' := by
  have H : Hid (∀ b : Bool, (b = true ↔ (400 < n ∧ n < 2040) ∨ 2060 < n) → b = greatW n) := Lib.hid fun b h => by rw [Bool.eq_iff_iff, h]; simp [greatW]
  go_enter Tryz.func5, Tryz.ntmps5
  go_wp2_with fail
  all_goals
    go_ret
    exact ⟨ret_bool' (H.out _ (by simp; omega)), rfl⟩
end Go.Proofs.YtoaepffpjoibaaaGreat

namespace Go.Proofs.YtoaepffpjoibaaaGreat
open Go.RowKit

/-- The bytes of a word, the first k of them. -/
def bytesTo (w k : Nat) : Array Value := ((List.range 8).map fun i => Value.int .u8 (if i < k then ((byteOf w i : Nat) : Int) else 0)).toArray
theorem bytesTo_size (w k : Nat) : (bytesTo w k).size = 8 := by simp [bytesTo]
theorem bytesTo_get (w k i : Nat) (h : i < 8) : (bytesTo w k)[i]? = some (.int .u8 (if i < k then ((byteOf w i : Nat) : Int) else 0)) := by simp [bytesTo, h]
theorem bytesTo_set (w k : Nat) (hk : k < 8) : (bytesTo w k).setIfInBounds k (.int .u8 (byteOf w k : Nat)) = bytesTo w (k + 1) := by
  apply Array.ext_getElem?
  intro i
  rw [Array.getElem?_setIfInBounds]
  by_cases h : i < 8
  · rw [bytesTo_get _ _ _ h, bytesTo_get _ _ _ h]
    by_cases e : k = i
    · subst e; rw [if_pos rfl, if_pos (by rw [bytesTo_size]; exact h), if_pos (by omega)]
    · rw [if_neg e]
      by_cases h2 : i < k
      · rw [if_pos h2, if_pos (by omega)]
      · rw [if_neg h2, if_neg (by omega)]
  · rw [if_neg (by omega), Array.getElem?_eq_none (by rw [bytesTo_size]; omega), Array.getElem?_eq_none (by rw [bytesTo_size]; omega)]
def zero8 : Array Value := Array.replicate 8 (.int .u8 0)
theorem zero8_eq (w : Nat) : zero8 = bytesTo w 0 := by simp [zero8, bytesTo]; rfl
theorem byte_shift (w k : Nat) : (w : Int) / 2 ^ (8 * k) % 256 = ((byteOf w k : Nat) : Int) := by
  rw [byteOf, show (256 : Nat) ^ k = 2 ^ (8 * k) by rw [Nat.pow_mul]]
  rfl
theorem info8 : (Tryz.prog.info? 174).map (·.size) = some 8 := by kernel_rfl
theorem infoByte : (Tryz.prog.info? 5).map (fun i => (i.zero, i.size, i.bytes)) = some (some (.int .u8 0), 1, 1) := by kernel_rfl
theorem aggByte (w : World) : (isAgg 5).run Tryz.prog w = .ok false w := by kernel_rfl
theorem bytesTo_one (x k : Nat) : (bytesTo x k).all (·.oneCell') = true := by
  rw [Array.all_eq_true]
  intro i hi
  rw [bytesTo_size] at hi
  have h := bytesTo_get x k i hi
  rw [Array.getElem?_eq_getElem (by rw [bytesTo_size]; exact hi)] at h
  injection h with h
  rw [h]; rfl
theorem zero8v (w : World) : (zeroValue 174).run Tryz.prog w = .ok (.agg zero8) w := by kernel_rfl

set_option maxRecDepth 100000 in
set_option maxHeartbeats 1000000 in
theorem bytes_c (x : Nat) (w : World) (hx : x < 18446744073709551616) :
    Calls Tryz.prog 115 #[.int .u64 (x : Int)] w fun e w' => e = .returned (.agg (bytesTo x 8)) ∧ Below w.heap.size w w' := by
  have hzv := zero8v
  have hx0 : (0 : Int) ≤ (x : Int) := by omega
  clear hx
  go_enter Tryz.func115, Tryz.ntmps115
  go_wp2_with fail
  go_loopw [4, 5] (fun i' i wr => ∃ k : Nat, k ≤ 8 ∧ i = .int .i64 k ∧ Bx wr w.heap.size 174 zero8 ∧ Bx wr (w.heap.size + 1) 174 (bytesTo x k) ∧ Below w.heap.size w wr) (fun _ i _ => 8 - (intOf i).toNat)
  case atStart =>
    refine ⟨0, Nat.zero_le _, rfl, (Bx.new w _ _).alloc _, ?_, ((Below.refl _ _).alloc (Nat.le_refl _) _).alloc (by simp) _⟩
    have := Bx.new (w.alloc (.cells zero8 174)) 174 zero8
    rw [World.size_alloc] at this
    rw [← zero8_eq]; exact this
  case round =>
    obtain ⟨k, hk, rfl, b0, b1, hB⟩ := hrel
    have hz := hB.size
    by_cases hlt : k < 8
    · have hc := b1.cell k
      rw [bytesTo_get _ _ _ hlt] at hc
      have hf := b1.frozen k
      have HB1 := Lib.hid b1
      have HB0 := Lib.hid b0
      have ik0 : (0 : Int) ≤ (k : Int) := by omega
      have ik1 : (k : Int) < 8 := by omega
      clear b0 b1
      go_wp2_with fail
      rw [byte_shift]
      refine ⟨⟨k + 1, by omega, by go_num, HB0.out.far (p := ⟨w.heap.size + 1, k, none⟩) (by dsimp only; omega) _, ?_, hB.setCell (p := ⟨w.heap.size + 1, k, none⟩) (by dsimp only; omega) _⟩, by simp [intOf]; omega⟩
      rw [← bytesTo_set x k hlt]
      exact HB1.out.set_ k _
    · obtain rfl : k = 8 := by omega
      have hi : (Tryz.prog.info? 174).map (·.size) = some (bytesTo x 8).size := by rw [bytesTo_size]; exact info8
      have h1c := bytesTo_one x 8
      have hth := there_bx b0
      rw [show zero8.size = (bytesTo x 8).size by rw [bytesTo_size]; simp [zero8]] at hth
      have HB2 := Lib.hid (setCells_all b0 (cs := bytesTo x 8) (by rw [bytesTo_size]; simp [zero8]))
      have HB1 := Lib.hid b1
      have HBL := Lib.hid (below_setCells (Nat.le_refl _) (bytesTo x 8).toList (o := 0) hB)
      clear b0 b1
      obtain ⟨cs, hcs⟩ : ∃ cs, bytesTo x 8 = cs := ⟨_, rfl⟩
      have HCS := Lib.hid hcs
      rw [hcs] at hi h1c hth HB2 HB1 HBL
      clear hcs
      go_wp2_with (first
        | (refine wpList_load_row rfl _ _ rfl (w.heap.size + 1) (by rfl) 174 cs (0, 0) _ HB1.out Tryz.underlying174 (by rfl) hi ?_)
        | (refine wpList_store_mid rfl _ _ _ rfl w.heap.size 0 cs (by rfl) (by rfl) hth hi h1c ?_))
      exact bodyPost_ret (v := .agg cs) (results_cell_row rfl _ _ w.heap.size _ cs (0, 0) _ (by rfl) HB2.out Tryz.underlying174 (by rfl) hi) rfl ⟨by rw [HCS.out], HBL.out⟩

/-- What Next gives. -/
def nxErr (l : List Nat) : Int := if 2048 < l.length then 4 else 0
def nxVal (s : Nat) (l : List Nat) : Nat := if 2048 < l.length then 0 else sumFrom s l
theorem wrap_u64_mod (n : Nat) : IntKind.u64.wrap (n : Int) = ((n % 18446744073709551616 : Nat) : Int) := by simp [IntKind.wrap, IntKind.bits, IntKind.signed]

set_option maxRecDepth 100000 in
set_option maxHeartbeats 1600000 in
theorem sumNext_c (s : Nat) (A : Option Addr) (l : List Nat) (c n : Nat) (w : World) (hn : l.length = n) (hm : n ≤ 2048) (hs : s < 18446744073709551616) (hr : RdW w w.heap.size A l) (ho : ∀ x ∈ l, x < 18446744073709551616) :
    Calls Tryz.prog 105 #[.int .u64 (s : Int), .slice A n c] w fun e w' => e = .returned (.tuple #[.int .u64 (sumFrom s l : Nat), .int .i64 0]) ∧ Below w.heap.size w w' := by
  subst hn
  have HR := Lib.hid hr
  have HO := Lib.hid ho
  have HS := Lib.hid hs
  clear hr ho hs
  obtain ⟨i0, hi, hz0, hz1, hz2⟩ := info_parts infoByte
  have HI := Lib.hid hi
  have HZ0 := Lib.hid hz0
  have HZ1 := Lib.hid hz1
  have HZ2 := Lib.hid hz2
  clear hi hz0 hz1 hz2
  go_enter Tryz.func105, Tryz.ntmps105
  go_wp2_with fail
  go_loopw [0, 15] (fun st i wr => ∃ k : Nat, k ≤ l.length ∧ i = .int .i64 k ∧ st = .int .u64 (sumFrom s (l.take k) : Nat) ∧ Below w.heap.size w wr) (fun _ i _ => l.length - (intOf i).toNat)
  case atStart => exact ⟨0, Nat.zero_le _, rfl, rfl, Below.refl _ _⟩
  case round =>
    obtain ⟨k, hk, rfl, rfl, hB⟩ := hrel
    have hz := hB.size
    by_cases hlt : k < l.length
    · obtain ⟨b, off, rfl, hb, h0⟩ := RdW.at_ HR.out hlt
      replace h0 := (hB.cell (p := ⟨b, off + k, none⟩) hb).trans h0
      have HX := Lib.hid (HO.out l[k] (List.getElem_mem hlt))
      have HT := Lib.hid (sumFrom_take hlt s)
      obtain ⟨x, hx⟩ : ∃ x, l[k] = x := ⟨_, rfl⟩
      rw [hx] at h0 HX HT
      have HQ := Lib.hid (sumFrom_lt HS.out (l.take k))
      obtain ⟨q, hq⟩ : ∃ q, sumFrom s (l.take k) = q := ⟨_, rfl⟩
      rw [hq] at HT HQ ⊢
      clear hx hq
      have ik1 : (0 : Int) ≤ (k : Int) := by omega
      have ik2 : (k : Int) < (l.length : Int) := by omega
      go_wp2_with fail
      refine (bytes_c x _ HX.out).mono ?_
      rintro e w1 ⟨rfl, hB1⟩
      have hb1 := hB.trans (hB1.mono hz)
      go_wp2_with fail
      go_loopw [0, 21] (fun st i wr => ∃ j : Nat, j ≤ 8 ∧ i = .int .i64 j ∧ st = .int .u64 (fnvN q x j : Nat) ∧ Below w.heap.size w wr) (fun _ i _ => 8 - (intOf i).toNat)
      case atStart => exact ⟨0, Nat.zero_le _, rfl, rfl, hb1⟩
      case round =>
        obtain ⟨j, hj, rfl, rfl, hB2⟩ := hrel
        by_cases hlj : j < 8
        · have hget := bytesTo_get x 8 j hlj
          rw [if_pos hlj] at hget
          have hrun := run_index_agg (P := Tryz.prog) Tryz.underlying174 HI.out HZ1.out aggByte hlj hget
          have hbt := byteOf_lt x j
          have HFN := Lib.hid (fnvN_lt HQ.out x j)
          have HNX : Hid (fnvN q x (j + 1) = fnvB (fnvN q x j) (byteOf x j)) := Lib.hid rfl
          obtain ⟨p, hp⟩ : ∃ p, fnvN q x j = p := ⟨_, rfl⟩
          obtain ⟨y, hy⟩ : ∃ y, byteOf x j = y := ⟨_, rfl⟩
          rw [hp] at HFN HNX ⊢
          rw [hy] at hbt hrun HNX
          clear hp hy hget
          have HXOR := Lib.hid (u64_xor_nat p y HFN.out (by omega))
          have hxor := HXOR.out
          go_wp2_with fail
          refine ⟨⟨j + 1, by omega, by go_num, ?_, hB2⟩, by simp [intOf]; omega⟩
          rw [HNX.out]
          unfold fnvB
          rw [← wrap_u64_mod, Int.natCast_mul]
          rfl
        · obtain rfl : j = 8 := by omega
          go_wp2_with fail
          go_roundw
          case rel => exact ⟨k + 1, by omega, by go_num, by rw [HT.out]; rfl, hB2⟩
          case measure => simp [intOf]; omega
    · obtain rfl : k = l.length := by omega
      rw [List.take_length]
      go_wp2_with fail
      go_ret2
      exact ⟨rfl, hB⟩

set_option maxHeartbeats 800000 in
theorem sumOf_c (A : Option Addr) (l : List Nat) (c n : Nat) (w : World) (hn : l.length = n) (hm : n ≤ 2048) (hr : RdW w w.heap.size A l) (ho : ∀ x ∈ l, x < 18446744073709551616) :
    Calls Tryz.prog 93 #[.slice A n c] w fun e w' => e = .returned (.tuple #[.int .u64 (sumFrom 14695981039346656037 l : Nat), .int .i64 0]) ∧ Below w.heap.size w w' := by
  have HR := Lib.hid hr
  have HO := Lib.hid ho
  have HN := Lib.hid hn
  clear hr ho hn
  go_enter Tryz.func93, Tryz.ntmps93
  go_wp2_with fail
  refine (sumNext_c 14695981039346656037 A l c n w HN.out hm (by omega) HR.out HO.out).mono ?_
  rintro e w1 ⟨rfl, hB1⟩
  obtain ⟨q, hq⟩ : ∃ q, sumFrom 14695981039346656037 l = q := ⟨_, rfl⟩
  have HQE := Lib.hid hq
  rw [hq]
  clear hq
  go_wp2_with fail
  go_ret2
  exact ⟨by rw [HQE.out]; rfl, hB1⟩

theorem and_mask32 (s : Nat) : s &&& 4294967295 = s % 4294967296 := by
  rw [show (4294967295 : Nat) = 2 ^ 32 - 1 from rfl, Nat.and_two_pow_sub_one_eq_mod]
set_option maxRecDepth 100000 in
set_option maxHeartbeats 800000 in
theorem mask32_c (w : World) : Calls Tryz.prog 114 #[.int .i64 0, .int .i64 32] w fun e w' => e = .returned (.int .u64 4294967295) ∧ w = w' := by
  go_enter Tryz.func114, Tryz.ntmps114
  go_wp2_with fail
  go_ret
  exact ⟨rfl, rfl⟩
set_option maxRecDepth 100000 in
set_option maxHeartbeats 800000 in
theorem get32_c (s : Nat) (w : World) (hs : s < 18446744073709551616) : Calls Tryz.prog 104 #[.int .u64 (s : Int), .int .i64 0, .int .i64 32] w fun e w' => e = .returned (.tuple #[.int .u64 ((s % 4294967296 : Nat) : Int), .int .i64 0]) ∧ w = w' := by
  have HA := Lib.hid (u64_and_nat s 4294967295 hs (by omega))
  clear hs
  go_enter Tryz.func104, Tryz.ntmps104
  go_wp2_with fail
  refine (mask32_c w).mono ?_
  rintro e w1 ⟨rfl, rfl⟩
  have hand := HA.out
  rw [and_mask32] at hand
  go_wp2_with fail
  go_ret2
  exact ⟨by rw [← hand]; rfl, rfl⟩

set_option maxRecDepth 100000 in
set_option maxHeartbeats 800000 in
theorem sumLow32_c (A : Option Addr) (l : List Nat) (c n : Nat) (w : World) (hn : l.length = n) (hm : n ≤ 2048) (hr : RdW w w.heap.size A l) (ho : ∀ x ∈ l, x < 18446744073709551616) :
    Calls Tryz.prog 92 #[.slice A n c, .int .i64 32] w fun e w' => e = .returned (.tuple #[.int .u64 ((sumFrom 14695981039346656037 l % 4294967296 : Nat) : Int), .int .i64 0]) ∧ Below w.heap.size w w' := by
  have HR := Lib.hid hr
  have HO := Lib.hid ho
  have HN := Lib.hid hn
  clear hr ho hn
  have HQ := Lib.hid (sumFrom_lt (s := 14695981039346656037) (by omega) l)
  go_enter Tryz.func92, Tryz.ntmps92
  go_wp2_with fail
  refine (sumOf_c A l c n w HN.out hm HR.out HO.out).mono ?_
  rintro e w1 ⟨rfl, hB1⟩
  obtain ⟨q, hq⟩ : ∃ q, sumFrom 14695981039346656037 l = q := ⟨_, rfl⟩
  have HQE := Lib.hid hq
  rw [hq] at HQ ⊢
  clear hq
  go_wp2_with fail
  refine (get32_c q _ HQ.out).mono ?_
  rintro e w2 ⟨rfl, rfl⟩
  obtain ⟨r, hr⟩ : ∃ r, q % 4294967296 = r := ⟨_, rfl⟩
  have HRE := Lib.hid hr
  rw [hr]
  clear hr
  go_wp2_with fail
  go_ret2
  exact ⟨by rw [HQE.out, HRE.out]; rfl, hB1⟩
end Go.Proofs.YtoaepffpjoibaaaGreat

namespace Go.Proofs.YtoaepffpjoibaaaGreat

theorem isImg_size (n : Nat) : isImg n = sizeOk (n : Int) := by
  rw [Bool.eq_iff_iff, sizeOk_iff]
  simp only [isImg, Bool.and_eq_true, decide_eq_true_eq, beq_iff_eq]
  omega
/-- The error of a view whose heap is asked for. -/
def hpErr (ws : List Nat) : Int := if sizeOk (ws.length : Int) = true then (match blocks ws 128 with | none => 50 | some l => if l.all (fitB ws) = true then 0 else 50) else 8
def hpOut (ws : List Nat) : List Bk := if hpErr ws = 0 then (blocks ws 128).getD [] else []
theorem hpErr_img {ws : List Nat} (h : sizeOk (ws.length : Int) = false) : hpErr ws = 8 := by simp [hpErr, h]
theorem hpErr_none {ws : List Nat} (h : sizeOk (ws.length : Int) = true) (h2 : blocks ws 128 = none) : hpErr ws = 50 := by simp [hpErr, h, h2]
theorem hpErr_bad {ws : List Nat} (h : sizeOk (ws.length : Int) = true) {l : List Bk} (h2 : blocks ws 128 = some l) (h3 : l.all (fitB ws) = false) : hpErr ws = 50 := by
  simp only [hpErr, h, h2, h3, if_true, Bool.false_eq_true, if_false]
theorem hpErr_ok {ws : List Nat} (h : sizeOk (ws.length : Int) = true) {l : List Bk} (h2 : blocks ws 128 = some l) (h3 : l.all (fitB ws) = true) : hpErr ws = 0 ∧ hpOut ws = l := by
  have : hpErr ws = 0 := by simp only [hpErr, h, h2, h3, if_true]
  exact ⟨this, by simp [hpOut, this, h2]⟩
theorem hpErr_zero {ws : List Nat} (h : hpErr ws = 0) : sizeOk (ws.length : Int) = true ∧ ∃ l, blocks ws 128 = some l ∧ l.all (fitB ws) = true ∧ hpOut ws = l := by
  have h0 := h
  unfold hpErr at h
  split at h
  · rename_i h1
    refine ⟨h1, ?_⟩
    cases hb : blocks ws 128 with
    | none => rw [hb] at h; cases h
    | some l =>
      rw [hb] at h
      dsimp only at h
      split at h
      · rename_i h2
        exact ⟨l, rfl, h2, by simp [hpOut, h0, hb]⟩
      · cases h
  · cases h
theorem hpErr_val (ws : List Nat) : hpErr ws = 0 ∨ hpErr ws = 8 ∨ hpErr ws = 50 := by
  unfold hpErr
  split
  · cases blocks ws 128 with
    | none => simp
    | some l => dsimp only; split <;> simp
  · simp

/-! Moves of a row -/
def mvTo : List (Int × Int) → Int → Option Int
  | [], _ => none
  | m :: l, a => if m.1 = a then some m.2 else mvTo l a
theorem mvTo_at {l : List (Int × Int)} {p : Nat} (hp : p < l.length) (h : ∀ q (hq : q < p), (l[q]'(by omega)).1 ≠ l[p].1) : mvTo l l[p].1 = some l[p].2 := by
  induction l generalizing p with
  | nil => simp at hp
  | cons m l ih =>
    cases p with
    | zero => simp [mvTo]
    | succ p =>
      simp only [mvTo, List.getElem_cons_succ]
      rw [if_neg (by simpa using h 0 (by omega))]
      exact ih (by simpa using hp) (fun q hq => by simpa using h (q + 1) (by omega))
theorem endOf_mono {l : List Bk} (h : rowErr l = 0) (s : Int) {m n : Nat} (hmn : m ≤ n) (hn : n ≤ l.length) : endOf (l.take m) s ≤ endOf (l.take n) s := by
  obtain ⟨_, h2⟩ := rowErr_zero h
  induction n with
  | zero => have : m = 0 := by omega
            subst this; exact Int.le_refl _
  | succ n ih =>
    rcases Nat.lt_or_ge n m with h3 | h3
    · have : m = n + 1 := by omega
      subst this; exact Int.le_refl _
    · have h4 := ih h3 (by omega)
      have h5 := (bkOk_iff _).1 (rowPre_at h2 (show n < l.length by omega)).1
      rw [gk_get l n (by omega)] at h5
      rw [endOf_take (by omega)]
      split <;> omega
theorem moves_none {l : List Bk} : ∀ {s : Int}, moves l s = [] → endOf l s = s := by
  induction l with
  | nil => intro s _; rfl
  | cons b l ih =>
    intro s h
    simp only [moves, endOf] at h ⊢
    split at h
    · simp at h
    · rename_i hb
      rw [if_neg hb]; exact ih h
theorem moves_len_mono {l : List Bk} (s : Int) {m n : Nat} (hmn : m ≤ n) : (moves (l.take m) s).length ≤ (moves (l.take n) s).length := by
  have : l.take n = l.take m ++ (l.take n).drop m := by
    conv => lhs; rw [← List.take_append_drop m (l.take n), List.take_take, Nat.min_eq_left hmn]
  rw [this, moves_append, List.length_append]
  omega
/-- What the moves of a right row are like. -/
theorem moves_like {l : List Bk} (h : rowErr l = 0) {s : Int} (hs : s ≤ most l) : (∀ p (hp : p < (moves l s).length), ((moves l s)[p]).2 ≤ ((moves l s)[p]).1 ∧ mvTo (moves l s) ((moves l s)[p]).1 = some ((moves l s)[p]).2) ∧
    (∀ p q (hq : q < (moves l s).length) (hpq : p < q), ((moves l s)[p]'(by omega)).2 < ((moves l s)[q]).2 ∧ ((moves l s)[p]'(by omega)).1 < ((moves l s)[q]).1) ∧ (∀ (hp : 0 < (moves l s).length), ((moves l s)[0]).2 = s) := by
  obtain ⟨_, h2⟩ := rowErr_zero h
  have two : ∀ p q (hq : q < (moves l s).length) (hpq : p < q), ((moves l s)[p]'(by omega)).2 < ((moves l s)[q]).2 ∧ ((moves l s)[p]'(by omega)).1 < ((moves l s)[q]).1 := by
    intro p q hq hpq
    obtain ⟨k, hk, a1, a2, a3⟩ := moves_get (show p < (moves l s).length by omega)
    obtain ⟨m, hm, b1, b2, b3⟩ := moves_get hq
    rw [List.getElem?_eq_getElem (by omega)] at a2 b2
    have a2 := Option.some.inj a2
    have b2 := Option.some.inj b2
    have hkm : k < m := by
      rcases Nat.lt_or_ge k m with h3 | h3
      · exact h3
      · have := moves_len_mono (l := l) s h3
        omega
    have h4 := endOf_mono h s (show k + 1 ≤ m by omega) (by omega)
    have h5 := (bkOk_iff _).1 (rowPre_at h2 hk).1
    rw [gk_get l k hk] at h5
    rw [endOf_take hk, if_pos a1] at h4
    have h6 := chain_mono h hm hkm
    rw [gk_get l k hk, gk_get l m hm] at h6
    rw [a2, b2]
    exact ⟨by dsimp only; omega, h6⟩
  refine ⟨fun p hp => ?_, two, fun hp => ?_⟩
  · refine ⟨?_, mvTo_at hp (fun q hq => by have := (two q p hp hq).2; omega)⟩
    obtain ⟨k, hk, a1, a2, a3⟩ := moves_get hp
    rw [List.getElem?_eq_getElem hp] at a2
    rw [Option.some.inj a2]
    have := rowNext_end h hs hk
    rw [gk_get l k hk] at this
    exact this
  · obtain ⟨k, hk, a1, a2, a3⟩ := moves_get hp
    rw [List.getElem?_eq_getElem hp] at a2
    rw [Option.some.inj a2]
    exact moves_none (List.eq_nil_of_length_eq_zero a3)
/-- The addresses of marked blocks. -/
def mkdL (l : List Bk) : List Int := (l.filter (·.mark)).map Bk.at_
theorem mkdL_moves : ∀ {l : List Bk}, (∀ b ∈ l, b.mark = true → b.kind = 1) → ∀ s, mkdL l = (moves l s).map Prod.fst := by
  intro l
  induction l with
  | nil => intro _ s; rfl
  | cons b l ih =>
    intro h s
    have ih := ih (fun c hc => h c (by simp [hc]))
    cases hm : b.mark with
    | true =>
      have hl : liveB b = true := by simp [liveB, hm, h b (by simp) hm]
      simp only [mkdL, List.filter_cons, hm, if_true, List.map_cons, moves, hl]
      congr 1
      exact ih (s + b.size)
    | false =>
      have hl : liveB b = false := by simp [liveB, hm]
      simp only [mkdL, List.filter_cons, hm, Bool.false_eq_true, if_false, moves, hl]
      exact ih s
theorem blocks_mk {ws : List Nat} {i : Nat} {l : List Bk} (h : blocks ws i = some l) (h2 : i % 2 = 0) : ∀ b ∈ l, b.mark = true → b.kind = 1 := by
  intro b hb hm
  obtain ⟨m, hm', rfl⟩ := List.getElem_of_mem hb
  obtain ⟨a, e, -, -, -, b4, -⟩ := blocks_at _ _ h h2 m hm'
  have h7 := (hdOk_iff _).1 (bkAt_hd b4)
  rw [e] at hm ⊢
  have hm2 : (rawBk (wd ws a)).mark = true := hm
  show (rawBk (wd ws a)).kind = 1
  rcases h7.2 with h8 | h8
  · exact h8.1
  · rw [hm2] at h8; exact absurd h8.2.2.1 (by simp)
theorem wantN_congr {a b : Bk} (h : liveB a = liveB b) (s : Int) : wantN a s = wantN b s := by unfold wantN; rw [h]
theorem nextS_congr {a b : Bk} (h : liveB a = liveB b) (h2 : a.size = b.size) (s : Int) : nextS a s = nextS b s := by unfold nextS; rw [h, h2]
theorem wantE_again : ∀ {l : List Bk} {s : Int}, wantE (fwB l s) s = [] := by
  intro l
  induction l with
  | nil => intro s; rfl
  | cons b l ih =>
    intro s
    simp only [fwB, wantE]
    have hl : liveB (if b.kind = 1 then { b with next := wantN b s } else b) = liveB b := by split <;> rfl
    have h1 : (if b.kind = 1 then { b with next := wantN b s } else b).size = b.size := by split <;> rfl
    have e1 : nextS (if b.kind = 1 then { b with next := wantN b s } else b) s = nextS b s := nextS_congr hl h1 s
    have e2 : wantN (if b.kind = 1 then { b with next := wantN b s } else b) s = wantN b s := wantN_congr hl s
    rw [e1, ih, e2]
    by_cases hk : b.kind = 1
    · rw [if_pos hk, if_neg (fun h => h.2 rfl)]; rfl
    · rw [if_neg hk, if_neg (fun h => hk h.1)]; rfl
theorem fitB_fw {ws xs : List Nat} (hw : ∀ j, j < 128 → wd xs j = wd ws j) {b : Bk} (hb : b.kind = 1 → tyA b + 1 < 128) (s : Int) : fitB xs (if b.kind = 1 then { b with next := wantN b s } else b) = fitB ws b := by
  by_cases hk : b.kind = 1
  · rw [if_pos hk]
    have h2 := hb hk
    unfold fitB typedB
    show (b.kind != 1 || (typOk (wd xs (tyA b)) (wd xs (tyA b + 1)) && b.size == ((objSz (wd xs (tyA b) % 256) : Nat) : Int))) = _
    rw [hw _ (by omega), hw _ (by omega)]
  · rw [if_neg hk]
    have : (b.kind != 1) = true := by rw [bne_iff_ne]; exact hk
    simp [fitB, this]
theorem allMv_fw {ws xs : List Nat} (hw : ∀ j, j < 128 → wd xs j = wd ws j) : ∀ {l : List Bk} {s : Int}, (∀ b ∈ l, b.kind = 1 → tyA b + 1 < 128) → (∀ b ∈ l, 0 ≤ b.size) → l.all (fitB ws) = true → 0 ≤ s → allMv xs (fwB l s) s = true ∧ (fwB l s).all (fitB xs) = true := by
  intro l
  induction l with
  | nil => intro s _ _ _ _; exact ⟨rfl, rfl⟩
  | cons b l ih =>
    intro s h1 h2 h3 hs
    simp only [List.all_cons, Bool.and_eq_true] at h3
    have e := fitB_fw hw (h1 b (by simp)) s
    have hl : liveB (if b.kind = 1 then { b with next := wantN b s } else b) = liveB b := by split <;> rfl
    have hz : (if b.kind = 1 then { b with next := wantN b s } else b).size = b.size := by split <;> rfl
    obtain ⟨g1, g2⟩ := ih (s := nextS b s) (fun c hc => h1 c (by simp [hc])) (fun c hc => h2 c (by simp [hc])) h3.2 (by have := h2 b (by simp); unfold nextS; split <;> omega)
    refine ⟨?_, by simp only [fwB, List.all_cons, e, h3.1, g2, Bool.true_and]⟩
    simp only [fwB, allMv, e, h3.1, Bool.true_and, hl, hz]
    unfold nextS at g1 ⊢
    cases hb : liveB b with
    | true =>
      have hk : b.kind = 1 := by simp [liveB] at hb; exact hb.1
      simp only [hb, if_true] at g1 ⊢
      rw [g1, Bool.and_true, if_pos hk]
      simp only [wantN, hb, if_true, beq_iff_eq]
      omega
    | false =>
      simp only [hb, Bool.false_eq_true, if_false] at g1 ⊢
      exact g1
/-- ForwardBack: written and read is the same. -/
theorem back_plain {ws : List Nat} (h : hpErr ws = 0) : ∃ l, blocks ws 128 = some l ∧ hpOut ws = l ∧ stErr l 128 = 0 ∧ rdErr (putE ws (wantE l 128)) 128 128 = 0 ∧ rdMv (putE ws (wantE l 128)) 128 128 = moves l 128 ∧
    hpErr (putE ws (wantE l 128)) = 0 ∧ hpOut (putE ws (wantE l 128)) = fwB l 128 ∧ wantE (fwB l 128) 128 = [] ∧ mkdL l = (moves l 128).map Prod.fst := by
  obtain ⟨h1, l, h2, h3, h4⟩ := hpErr_zero h
  have hb := (sizeOk_iff _).1 h1
  have hst := blocks_st (i := 128) (by omega) h2 (by omega) (by omega) (by omega) (s := 128) (by omega) (by omega) (by omega)
  obtain ⟨hre, -⟩ := stErr_zero hst
  obtain ⟨g1, g2⟩ := want_blocks _ ws 128 l (Nat.le_refl _) h2 128
  have hlen : (putE ws (wantE l 128)).length = ws.length := putE_len _ _
  obtain ⟨f1, f2⟩ := allMv_fw (xs := putE ws (wantE l 128)) (fun j hj => g2 j (by omega)) (l := l) (s := 128) (blocks_ty h2 (by omega)) (fun b hb => by
    obtain ⟨m, hm, rfl⟩ := List.getElem_of_mem hb
    obtain ⟨a, e, -⟩ := blocks_at _ _ h2 (by omega) m hm
    rw [e, bkAt_size]; omega) h3 (by omega)
  have hrd : rdErr (putE ws (wantE l 128)) 128 128 = 0 := by
    rw [rdErr_of (l := fwB l 128) (by rw [hlen, isImg_size]; exact h1) ?_ g1, if_pos f1]
    rw [hlen]
    cases hq : rdArg ws.length 128 128 with
    | false => rfl
    | true => exact absurd (by omega) ((rdArg_iff _ _ _).1 hq)
  obtain ⟨o1, o2⟩ := hpErr_ok (by rw [hlen]; exact h1) g1 f2
  refine ⟨l, h2, h4, hst, hrd, ?_, o1, o2, wantE_again, mkdL_moves (blocks_mk h2 (by omega)) 128⟩
  unfold rdMv
  rw [if_pos hrd]
  show (match blocks (putE ws (wantE l 128)) 128 with | none => [] | some l => moves l 128) = _
  rw [g1]
  exact fwB_live.2.1
theorem wantE_inc {ws : List Nat} : ∀ i l, blocks ws i = some l → ∀ s, (wantE l s).Pairwise (fun a b => a.a < b.a) := by
  refine blocks_ind _ (fun i _ s => List.Pairwise.nil) (fun i l hi hs hb ih s => ?_)
  have hsz := stands_sz hs
  simp only [wantE]
  split
  · refine List.Pairwise.cons (fun e he => ?_) (ih _)
    have := wantE_at _ _ hb _ e he
    show (bkAt ws i).at_ + 1 < e.a
    rw [bkAt_at]; omega
  · exact ih _
end Go.Proofs.YtoaepffpjoibaaaGreat

namespace Go.Proofs.YtoaepffpjoibaaaGreat
open Go.RowKit

def hdErr (b : Bk) : Int := if hdOk b = true then 0 else 8
theorem hdErr_ok {b : Bk} (h : hdOk b = true) : hdErr b = 0 := by simp [hdErr, h]
theorem hdErr_no {b : Bk} (h : hdOk b = false) : hdErr b = 8 := by simp [hdErr, h]

theorem hdErr_0 {xa xs xk xt : Int} {xm : Bool} {xn : Nat} (h : (2 ≤ xs ∧ xs % 2 = 0) ∧ (xk = 1 ∧ 0 ≤ xt ∧ xt < 8 ∧ xs ≤ 10 ∨ xk = 2 ∧ xt = 0 ∧ xm = false ∧ xs ≤ 1920)) : (0 : Int) = hdErr ⟨xa, xs, xk, xt, xm, xn⟩ := (hdErr_ok ((hdOk_iff _).2 h)).symm
theorem hdErr_8 {xa xs xk xt : Int} {xm : Bool} {xn : Nat} (h : ¬ ((2 ≤ xs ∧ xs % 2 = 0) ∧ (xk = 1 ∧ 0 ≤ xt ∧ xt < 8 ∧ xs ≤ 10 ∨ xk = 2 ∧ xt = 0 ∧ xm = false ∧ xs ≤ 1920))) : (8 : Int) = hdErr ⟨xa, xs, xk, xt, xm, xn⟩ :=
  (hdErr_no (by
    cases hq : hdOk ⟨xa, xs, xk, xt, xm, xn⟩ with
    | false => rfl
    | true => exact absurd ((hdOk_iff _).1 hq) h)).symm

set_option maxRecDepth 100000 in
set_option maxHeartbeats 2000000 in
theorem hdCheck_c (b : Bk) (w : World) : Calls Tryz.prog 71 #[b.val] w fun e w' => e = .returned (.int .i64 (hdErr b)) ∧ Below w.heap.size w w' := by
  obtain ⟨xa, xs, xk, xt, xm, xn⟩ := b
  unfold Bk.val
  cases xm
  all_goals
    go_enter Tryz.func71, Tryz.ntmps71
    go_wp2_with fail
    all_goals
      go_ret
      refine ⟨?_, (Below.refl _ _).alloc (Nat.le_refl _) _⟩
      (try simp only [bne_iff_ne, ne_eq, bne_eq_false_iff_eq, Bool.not_eq_true', Bool.not_eq_false', decide_eq_false_iff_not, decide_eq_true_eq] at *)
      first
        | (exfalso; omega)
        | exact ret_int' (hdErr_0 (by simp only [reduceCtorEq, and_false, false_and, or_false, true_and]; omega))
        | exact ret_int' (hdErr_8 (by simp only [reduceCtorEq, and_false, false_and, or_false, true_and]; omega))
end Go.Proofs.YtoaepffpjoibaaaGreat

namespace Go.Proofs.YtoaepffpjoibaaaGreat
open Go.RowKit

def OfRes (b : Bk) (e : Ending) : Prop := ∃ a1 a2 a3 a4, e = .returned (.agg #[.int .u64 (lowOf b : Nat), a1, a2, a3, a4])
theorem or_join {a x i : Nat} (ha : a < 2 ^ i) : a ||| x * 2 ^ i = a + x * 2 ^ i := by
  rw [Nat.or_comm, nat_join i _ a (by simp) ha, Nat.add_comm]
theorem bits_low {K M T S : Nat} {m : Int} (hK : K < 256) (hM : M ≤ 1) (hT : T < 128) (hS : S < 65536) (hm : m = ((M * 256 : Nat) : Int)) :
    bits BinOp.or .u64 (bits BinOp.or .u64 (bits BinOp.or .u64 (K : Int) m) ((T : Int) * 512)) ((S : Int) * 65536) = ((K + M * 256 + T * 512 + S * 65536 : Nat) : Int) := by
  subst hm
  have e1 := u64_or_nat K (M * 256) (by omega) (by omega)
  have j1 : K ||| M * 256 = K + M * 256 := by rw [show M * 256 = M * 2 ^ 8 from rfl, or_join hK]
  rw [j1] at e1
  rw [e1]
  have e2 := u64_or_nat (K + M * 256) (T * 512) (by omega) (by omega)
  have j2 : K + M * 256 ||| T * 512 = K + M * 256 + T * 512 := by rw [show T * 512 = T * 2 ^ 9 from rfl, or_join (by omega)]
  rw [j2] at e2
  rw [show ((T : Int) * 512) = ((T * 512 : Nat) : Int) by simp, e2]
  have e3 := u64_or_nat (K + M * 256 + T * 512) (S * 65536) (by omega) (by omega)
  have j3 : K + M * 256 + T * 512 ||| S * 65536 = K + M * 256 + T * 512 + S * 65536 := by rw [show S * 65536 = S * 2 ^ 16 from rfl, or_join (by omega)]
  rw [j3] at e3
  rw [show ((S : Int) * 65536) = ((S * 65536 : Nat) : Int) by simp, e3]
theorem rd_new1 (w : World) (cs : List Value) (t : TypeId) : Rd (w.alloc (.cells cs.toArray t)) (w.heap.size + 1) (some ⟨w.heap.size, 0, none⟩) cs := fun _ =>
  ⟨w.heap.size, 0, rfl, by omega, fun j hj => by
    have := (Bx.new w t cs.toArray).cell j
    rw [Nat.zero_add, this]
    simp [hj]⟩

set_option maxRecDepth 100000 in
set_option maxHeartbeats 1600000 in
theorem hdOf_c (b : Bk) (w : World) (hb : hdOk b = true) : Calls Tryz.prog 72 #[b.val] w fun e w' => OfRes b e ∧ Below w.heap.size w w' := by
  obtain ⟨h1, h2, h3, h4, h5, h6, h7⟩ := hdOk_bd hb
  clear hb
  obtain ⟨xa, xs, xk, xt, xm, xn⟩ := b
  dsimp only at *
  obtain ⟨K, rfl⟩ := Int.eq_ofNat_of_zero_le h4
  obtain ⟨T, rfl⟩ := Int.eq_ofNat_of_zero_le h5
  obtain ⟨S, rfl⟩ := Int.eq_ofNat_of_zero_le h6
  simp only [Int.toNat_natCast] at h1 h2 h3
  unfold Bk.val
  cases xm
  all_goals
    go_enter Tryz.func72, Tryz.ntmps72
    go_wp2_with fail
  · refine bodyPost_ret (v := .agg #[.int .u64 (bits BinOp.or .u64 (bits BinOp.or .u64 (bits BinOp.or .u64 (K : Int) 0) ((T : Int) * 512)) ((S : Int) * 65536)), .int .u64 (K : Int), .int .u64 (T : Int), .int .u64 (S : Int), .int .u64 0]) (by simp [results, Tryz.results72, go_sem]) rfl ⟨?_, ?_⟩
    · refine ⟨.int .u64 (K : Int), .int .u64 (T : Int), .int .u64 (S : Int), .int .u64 0, ?_⟩
      rw [bits_low (M := 0) h1 (by omega) h2 h3 (by simp)]
      rfl
    · exact (((Below.refl _ _).alloc (Nat.le_refl _) _).alloc (by simp) _).alloc (by simp; omega) _
  · refine bodyPost_ret (v := .agg #[.int .u64 (bits BinOp.or .u64 (bits BinOp.or .u64 (bits BinOp.or .u64 (K : Int) 256) ((T : Int) * 512)) ((S : Int) * 65536)), .int .u64 (K : Int), .int .u64 (T : Int), .int .u64 (S : Int), .int .u64 1]) (by simp [results, Tryz.results72, go_sem]) rfl ⟨?_, ?_⟩
    · refine ⟨.int .u64 (K : Int), .int .u64 (T : Int), .int .u64 (S : Int), .int .u64 1, ?_⟩
      rw [bits_low (M := 1) h1 (by omega) h2 h3 (by simp)]
      rfl
    · exact (((Below.refl _ _).alloc (Nat.le_refl _) _).alloc (by simp) _).alloc (by simp; omega) _

theorem or32 {x t : Nat} (hx : x < 4294967296) (ht : t < 4294967296) : bits BinOp.or .u64 (x : Int) ((t : Int) * 4294967296) = ((x + t * 4294967296 : Nat) : Int) := by
  have h := u64_or_nat x (t * 4294967296) (by omega) (by omega)
  rw [show t * 4294967296 = t * 2 ^ 32 from rfl, or_join (i := 32) (by omega)] at h
  rw [← h]
  simp
set_option maxRecDepth 100000 in
set_option maxHeartbeats 1600000 in
theorem sealed_c (x : Nat) (w : World) (hx : x < 4294967296) : Calls Tryz.prog 73 #[.int .u64 (x : Int)] w fun e w' => e = .returned (.tuple #[.int .u64 ((x + sum1 x % 4294967296 * 4294967296 : Nat) : Int), .int .i64 0]) ∧ Below w.heap.size w w' := by
  have hsb : sum1 x % 4294967296 < 4294967296 := Nat.mod_lt _ (by omega)
  have HOR := Lib.hid (or32 hx hsb)
  have HX := Lib.hid hx
  have hx0 : (0 : Int) ≤ (x : Int) := by omega
  have HE : Hid (sumFrom 14695981039346656037 [x] = sum1 x) := Lib.hid rfl
  clear hx
  go_enter Tryz.func73, Tryz.ntmps73
  go_wp2_with fail
  have hrd := rd_new1 w [.int .u64 (x : Int)] 46
  refine (sumLow32_c _ [x] _ 1 _ rfl (by omega) (by rw [World.size_alloc]; exact hrd) (by intro y hy; simp at hy; subst hy; have := HX.out; omega)).mono ?_
  rintro e w1 ⟨rfl, hB1⟩
  rw [World.size_alloc] at hB1
  have hb1 := below_call hB1
  rw [HE.out]
  obtain ⟨t, ht⟩ : ∃ t, sum1 x % 4294967296 = t := ⟨_, rfl⟩
  have HT := Lib.hid ht
  rw [ht] at hsb HOR ⊢
  clear ht hB1 hrd
  go_wp2_with fail
  go_ret2
  exact ⟨by rw [HT.out, ← HOR.out]; rfl, hb1⟩

/-- What Word gives: the header, or the error. -/
def hwVal (b : Bk) : Nat := if hdOk b = true then headW b else 0
set_option maxRecDepth 100000 in
set_option maxHeartbeats 1600000 in
theorem hdWord_c (b : Bk) (w : World) : Calls Tryz.prog 47 #[b.val] w fun e w' => e = .returned (.tuple #[.int .u64 (hwVal b : Nat), .int .i64 (hdErr b)]) ∧ Below w.heap.size w w' := by
  cases hb : hdOk b
  · have HV := Lib.hid (show hwVal b = 0 by simp [hwVal, hb])
    have HE := Lib.hid (hdErr_no hb)
    have HC := Lib.hid (fun W => hdCheck_c b W)
    clear hb
    obtain ⟨xa, xs, xk, xt, xm, xn⟩ := b
    unfold Bk.val at HC ⊢
    dsimp only at HC ⊢
    go_enter Tryz.func47, Tryz.ntmps47
    go_wp2_with fail
    refine (HC.out _).mono ?_
    rintro e w1 ⟨rfl, hB1⟩
    rw [World.size_alloc] at hB1
    rw [HE.out]
    go_wp2_with fail
    go_ret2
    exact ⟨by rw [HV.out, HE.out]; rfl, below_call hB1⟩
  · have HV := Lib.hid (show hwVal b = lowOf b + sum1 (lowOf b) % 4294967296 * 4294967296 by simp [hwVal, hb, headW])
    have HE := Lib.hid (hdErr_ok hb)
    have HC := Lib.hid (fun W => hdCheck_c b W)
    have HO := Lib.hid (fun W => hdOf_c b W hb)
    have HL := Lib.hid (lowOf_lt hb)
    clear hb
    obtain ⟨q, hq⟩ : ∃ q, lowOf b = q := ⟨_, rfl⟩
    have HQ := Lib.hid hq
    rw [hq] at HV HL
    clear hq
    obtain ⟨xa, xs, xk, xt, xm, xn⟩ := b
    unfold Bk.val at HC HO ⊢
    dsimp only at HC HO ⊢
    go_enter Tryz.func47, Tryz.ntmps47
    go_wp2_with fail
    refine (HC.out _).mono ?_
    rintro e w1 ⟨rfl, hB1⟩
    rw [World.size_alloc] at hB1
    have hb1 := below_call hB1
    have bx := Bx.of_new hB1
    obtain ⟨c0, c1, c2, c3, c4, c5, -, hz⟩ := bx.c6
    rw [HE.out]
    clear bx hB1
    go_wp2_with fail
    refine (HO.out _).mono ?_
    rintro e w2 ⟨⟨a1, a2, a3, a4, rfl⟩, hB2⟩
    have hb2 := hb1.trans (hB2.mono hb1.size)
    rw [HQ.out]
    have hfld : ∀ W, (Instr.field 135 (.agg #[.int .u64 (q : Int), a1, a2, a3, a4]) 0).run Tryz.prog W = .ok (.int .u64 (q : Int)) W := fun _ => by kernel_rfl
    go_wp2_with fail
    refine (sealed_c q _ HL.out).mono ?_
    rintro e w3 ⟨rfl, hB3⟩
    have hb3 := hb2.trans (hB3.mono hb2.size)
    rw [← HV.out]
    go_wp2_with fail
    go_ret2
    exact ⟨by rw [HE.out]; rfl, hb3⟩
end Go.Proofs.YtoaepffpjoibaaaGreat

namespace Go.Proofs.YtoaepffpjoibaaaGreat
open Go.RowKit

def noBk : Bk := ⟨0, 0, 0, 0, false, 0⟩
/-- What Split gives. -/
def splB (w : Nat) : Bk := if splitOk w = true then rawBk w else noBk
def splErr (w : Nat) : Int := if splitOk w = true then 0 else 50
theorem spl_ok {w : Nat} (h : splitOk w = true) : splB w = rawBk w ∧ splErr w = 0 := by simp [splB, splErr, h]
theorem spl_no {w : Nat} (h : splitOk w = false) : splB w = noBk ∧ splErr w = 50 := by simp [splB, splErr, h]
theorem and_m {x k m : Nat} (hx : x < 18446744073709551616) (hm : m = 2 ^ k - 1) (hk : m < 18446744073709551616) : bits BinOp.and .u64 (x : Int) (m : Int) = ((x % 2 ^ k : Nat) : Int) := by
  rw [u64_and_nat x m hx hk, hm, Nat.and_two_pow_sub_one_eq_mod]
theorem spl_and (w : Nat) (hw : w < 18446744073709551616) : bits BinOp.and .u64 (w : Int) 255 = ((w % 256 : Nat) : Int) ∧ bits BinOp.and .u64 ((w : Int) / 256) 1 = ((w / 256 % 2 : Nat) : Int) ∧ bits BinOp.and .u64 ((w : Int) / 512) 127 = ((w / 512 % 128 : Nat) : Int) ∧ bits BinOp.and .u64 ((w : Int) / 65536) 65535 = ((w / 65536 % 65536 : Nat) : Int) :=
  ⟨and_m (k := 8) (m := 255) hw (by decide) (by omega), and_m (x := w / 256) (k := 1) (m := 1) (by omega) (by decide) (by omega), and_m (x := w / 512) (k := 7) (m := 127) (by omega) (by decide) (by omega), and_m (x := w / 65536) (k := 16) (m := 65535) (by omega) (by decide) (by omega)⟩

theorem results_blk {fn : Func} {p q : Tmp} (h : fn.results = #[.cell p 48, .tmp q]) (tmps : Array Value) {W : World} {g : Nat} {t : TypeId} {v0 v1 v2 v3 v4 v5 u : Value} (hb : Bx W g t #[v0, v1, v2, v3, v4, v5]) (hp : tmps.getD p undef = .pointer (some ⟨g, 0, none⟩)) (hq : tmps.getD q undef = u) :
    (results fn tmps).run Tryz.prog W = .ok (.tuple #[.agg #[v0, v1, v2, v3, v4, v5], u]) W := by
  obtain ⟨c0, c1, c2, c3, c4, c5, -, -⟩ := hb.c6
  rw [Array.getD_eq_getD_getElem?] at hp hq
  simp [results, h, hp, hq, go_sem, c0, c1, c2, c3, c4, c5]

set_option maxRecDepth 100000 in
set_option maxHeartbeats 1600000 in
theorem hdSplit_c (x : Nat) (w : World) (hx : x < 18446744073709551616) : Calls Tryz.prog 46 #[.int .u64 (x : Int)] w fun e w' => e = .returned (.tuple #[(splB x).val, .int .i64 (splErr x)]) ∧ Below w.heap.size w w' := by
  obtain ⟨e1, e2, e3, e4⟩ := spl_and x hx
  have HW := Lib.hid (fun W => hdWord_c (rawBk x) W)
  have HE0 : Hid (hdErr (rawBk x) = 0 → hwVal (rawBk x) = x → splB x = rawBk x ∧ splErr x = 0) := Lib.hid fun h1 h2 => spl_ok (by
    have hb : hdOk (rawBk x) = true := by
      cases hq : hdOk (rawBk x) with
      | true => rfl
      | false => rw [hdErr_no hq] at h1; cases h1
    simp only [hwVal, hb, if_true] at h2
    simp [splitOk, hb, h2])
  have HE1 : Hid (hdErr (rawBk x) ≠ 0 ∨ hwVal (rawBk x) ≠ x → splB x = noBk ∧ splErr x = 50) := Lib.hid fun h => spl_no (by
    cases hq : hdOk (rawBk x) with
    | false => simp [splitOk, hq]
    | true =>
      rcases h with h | h
      · exact absurd (hdErr_ok hq) h
      · simp only [hwVal, hq, if_true] at h
        simp [splitOk, hq, h])
  have hx0 : (0 : Int) ≤ (x : Int) := by omega
  have hraw : (rawBk x).val = .agg #[.int .i64 0, .int .i64 ((x / 65536 % 65536 : Nat) : Int), .int .i64 ((x % 256 : Nat) : Int), .int .i64 ((x / 512 % 128 : Nat) : Int), .bool (x / 256 % 2 == 1), .int .u64 0] := rfl
  have m1 : x % 256 < 256 := Nat.mod_lt _ (by omega)
  have m2 : x / 256 % 2 < 2 := Nat.mod_lt _ (by omega)
  have m3 : x / 512 % 128 < 128 := Nat.mod_lt _ (by omega)
  have m4 : x / 65536 % 65536 < 65536 := Nat.mod_lt _ (by omega)
  rw [hraw] at HW
  have HRAW := Lib.hid hraw
  have hbit : ((((x / 256 % 2 : Nat) : Int)) == 1) = (x / 256 % 2 == 1) := by
    rw [Bool.eq_iff_iff, beq_iff_eq, beq_iff_eq]; omega
  obtain ⟨K, hK⟩ : ∃ K, x % 256 = K := ⟨_, rfl⟩
  obtain ⟨M, hM⟩ : ∃ M, x / 256 % 2 = M := ⟨_, rfl⟩
  obtain ⟨T, hT⟩ : ∃ T, x / 512 % 128 = T := ⟨_, rfl⟩
  obtain ⟨S, hS⟩ : ∃ S, x / 65536 % 65536 = S := ⟨_, rfl⟩
  rw [hK] at e1 m1 HW HRAW
  rw [hM] at e2 m2 hbit HW HRAW
  rw [hT] at e3 m3 HW HRAW
  rw [hS] at e4 m4 HW HRAW
  obtain ⟨bm, hbm⟩ : ∃ b, (M == 1) = b := ⟨_, rfl⟩
  rw [hbm] at hbit HW HRAW
  obtain ⟨V, hV⟩ : ∃ V, hwVal (rawBk x) = V := ⟨_, rfl⟩
  obtain ⟨R, hR⟩ : ∃ R, hdErr (rawBk x) = R := ⟨_, rfl⟩
  rw [hV, hR] at HE0 HE1 HW
  clear hx hraw hK hM hT hS hbm hV hR
  go_enter Tryz.func46, Tryz.ntmps46
  go_wp2_with fail
  have q0 := (Bx.new w 48 #[.int .i64 0, .int .i64 0, .int .i64 0, .int .i64 0, .bool false, .int .u64 0]).alloc (.cells #[.int .i64 0, .int .i64 (S : Int), .int .i64 (K : Int), .int .i64 (T : Int), .bool bm, .int .u64 0] 48)
  have q1 := Bx.new (w.alloc (.cells #[.int .i64 0, .int .i64 0, .int .i64 0, .int .i64 0, .bool false, .int .u64 0] 48)) 48 #[.int .i64 0, .int .i64 (S : Int), .int .i64 (K : Int), .int .i64 (T : Int), .bool bm, .int .u64 0]
  have hb0 : Below w.heap.size w ((w.alloc (.cells #[.int .i64 0, .int .i64 0, .int .i64 0, .int .i64 0, .bool false, .int .u64 0] 48)).alloc (.cells #[.int .i64 0, .int .i64 (S : Int), .int .i64 (K : Int), .int .i64 (T : Int), .bool bm, .int .u64 0] 48)) := ((Below.refl _ _).alloc (Nat.le_refl _) _).alloc (by simp) _
  have hsz : ((w.alloc (.cells #[.int .i64 0, .int .i64 0, .int .i64 0, .int .i64 0, .bool false, .int .u64 0] 48)).alloc (.cells #[.int .i64 0, .int .i64 (S : Int), .int .i64 (K : Int), .int .i64 (T : Int), .bool bm, .int .u64 0] 48)).heap.size = w.heap.size + 2 := by simp
  rw [World.size_alloc] at q1
  obtain ⟨W0, hW0⟩ : ∃ W0, (w.alloc (.cells #[.int .i64 0, .int .i64 0, .int .i64 0, .int .i64 0, .bool false, .int .u64 0] 48)).alloc (.cells #[.int .i64 0, .int .i64 (S : Int), .int .i64 (K : Int), .int .i64 (T : Int), .bool bm, .int .u64 0] 48) = W0 := ⟨_, rfl⟩
  rw [hW0] at q0 q1 hb0 hsz ⊢
  clear hW0
  refine (HW.out W0).mono ?_
  rintro e w1 ⟨rfl, hB1⟩
  have hb1 := hb0.trans (hB1.mono hb0.size)
  obtain ⟨c0, c1, c2, c3, c4, c5, cf, cz⟩ := (q0.up hB1 (by omega)).c6
  obtain ⟨d0, d1, d2, d3, d4, d5, df, dz⟩ := (q1.up hB1 (by omega)).c6
  have cf0 := cf 0
  have cf1 := cf 1
  have cf2 := cf 2
  have cf3 := cf 3
  have cf4 := cf 4
  have cf5 := cf 5
  have Q0 := Lib.hid (q0.up hB1 (by omega))
  clear q0 q1 hB1 hb0 hsz cf df e1 e2 e3 e4 hbit m1 m2 m3 m4
  by_cases hR : R = 0
  · by_cases hV : V = x
    · obtain ⟨g1, g2⟩ := HE0.out hR hV
      have G1 := Lib.hid g1
      have G2 := Lib.hid g2
      have hr1 : (R != 0) = false := by rw [bne_eq_false_iff_eq]; exact hR
      have hv1 : ((V : Int) != (x : Int)) = false := by rw [bne_eq_false_iff_eq]; omega
      clear hR hV g1 g2
      go_wp2_with fail
      refine bodyPost_ret (v := .tuple #[.agg #[.int .i64 0, .int .i64 (S : Int), .int .i64 (K : Int), .int .i64 (T : Int), .bool bm, .int .u64 0], .int .i64 0]) (results_blk Tryz.results46 _ ((((((Q0.out.set_ 0 _).set_ 1 _).set_ 2 _).set_ 3 _).set_ 4 _).set_ 5 _) rfl rfl) rfl ⟨by rw [G1.out, G2.out, HRAW.out], ?_⟩
      exact (Below.setCell (p := ⟨w.heap.size, 5, none⟩) (Below.setCell (p := ⟨w.heap.size, 4, none⟩) (Below.setCell (p := ⟨w.heap.size, 3, none⟩) (Below.setCell (p := ⟨w.heap.size, 2, none⟩) (Below.setCell (p := ⟨w.heap.size, 1, none⟩) (Below.setCell (p := ⟨w.heap.size, 0, none⟩) hb1 (Nat.le_refl _) _) (Nat.le_refl _) _) (Nat.le_refl _) _) (Nat.le_refl _) _) (Nat.le_refl _) _) (Nat.le_refl _) _)
    · obtain ⟨g1, g2⟩ := HE1.out (.inr hV)
      have G1 := Lib.hid g1
      have G2 := Lib.hid g2
      have hr1 : (R != 0) = false := by rw [bne_eq_false_iff_eq]; exact hR
      have hv1 : ((V : Int) != (x : Int)) = true := by rw [bne_iff_ne]; omega
      clear hR hV g1 g2
      go_wp2_with fail
      refine bodyPost_ret (v := .tuple #[.agg #[.int .i64 0, .int .i64 0, .int .i64 0, .int .i64 0, .bool false, .int .u64 0], .int .i64 50]) (results_blk Tryz.results46 _ ((((((Q0.out.set_ 0 _).set_ 1 _).set_ 2 _).set_ 3 _).set_ 4 _).set_ 5 _) rfl rfl) rfl ⟨by rw [G1.out, G2.out]; rfl, ?_⟩
      exact (Below.setCell (p := ⟨w.heap.size, 5, none⟩) (Below.setCell (p := ⟨w.heap.size, 4, none⟩) (Below.setCell (p := ⟨w.heap.size, 3, none⟩) (Below.setCell (p := ⟨w.heap.size, 2, none⟩) (Below.setCell (p := ⟨w.heap.size, 1, none⟩) (Below.setCell (p := ⟨w.heap.size, 0, none⟩) hb1 (Nat.le_refl _) _) (Nat.le_refl _) _) (Nat.le_refl _) _) (Nat.le_refl _) _) (Nat.le_refl _) _) (Nat.le_refl _) _)
  · obtain ⟨g1, g2⟩ := HE1.out (.inl hR)
    have G1 := Lib.hid g1
    have G2 := Lib.hid g2
    have hr1 : (R != 0) = true := by rw [bne_iff_ne]; exact hR
    clear hR g1 g2
    go_wp2_with fail
    refine bodyPost_ret (v := .tuple #[.agg #[.int .i64 0, .int .i64 0, .int .i64 0, .int .i64 0, .bool false, .int .u64 0], .int .i64 50]) (results_blk Tryz.results46 _ ((((((Q0.out.set_ 0 _).set_ 1 _).set_ 2 _).set_ 3 _).set_ 4 _).set_ 5 _) rfl rfl) rfl ⟨by rw [G1.out, G2.out]; rfl, ?_⟩
    exact (Below.setCell (p := ⟨w.heap.size, 5, none⟩) (Below.setCell (p := ⟨w.heap.size, 4, none⟩) (Below.setCell (p := ⟨w.heap.size, 3, none⟩) (Below.setCell (p := ⟨w.heap.size, 2, none⟩) (Below.setCell (p := ⟨w.heap.size, 1, none⟩) (Below.setCell (p := ⟨w.heap.size, 0, none⟩) hb1 (Nat.le_refl _) _) (Nat.le_refl _) _) (Nat.le_refl _) _) (Nat.le_refl _) _) (Nat.le_refl _) _) (Nat.le_refl _) _)
end Go.Proofs.YtoaepffpjoibaaaGreat

namespace Go.Proofs.YtoaepffpjoibaaaGreat
open Go.RowKit

def stB (ws : List Nat) (a : Nat) : Bk := if stands ws a = true then bkAt ws a else noBk
def sdErr (ws : List Nat) (a : Nat) : Int := if stands ws a = true then 0 else 50
theorem st_ok {ws : List Nat} {a : Nat} (h : stands ws a = true) : stB ws a = bkAt ws a ∧ sdErr ws a = 0 := by simp [stB, sdErr, h]
theorem st_no {ws : List Nat} {a : Nat} (h : stands ws a = false) : stB ws a = noBk ∧ sdErr ws a = 50 := by simp [stB, sdErr, h]
theorem wd_get {ws : List Nat} {i : Nat} (h : i < ws.length) : wd ws i = ws[i] := by simp [wd, h]
theorem wd_lt {ws : List Nat} (ho : ∀ x ∈ ws, x < 18446744073709551616) (i : Nat) : wd ws i < 18446744073709551616 := by
  by_cases h : i < ws.length
  · rw [wd_get h]; exact ho _ (List.getElem_mem h)
  · simp [wd, h]

theorem six_bx {w : World} {g : Nat} {t : TypeId} {x0 x1 x2 x3 x4 x5 : Value} (h : Bx w g t #[x0, x1, x2, x3, x4, x5]) (u0 u1 u2 u3 u4 u5 : Value) :
    Bx ((((((w.setCell ⟨g, 0, none⟩ u0).setCell ⟨g, 1, none⟩ u1).setCell ⟨g, 2, none⟩ u2).setCell ⟨g, 3, none⟩ u3).setCell ⟨g, 4, none⟩ u4).setCell ⟨g, 5, none⟩ u5) g t #[u0, u1, u2, u3, u4, u5] :=
  (((((h.set_ 0 u0).set_ 1 u1).set_ 2 u2).set_ 3 u3).set_ 4 u4).set_ 5 u5
theorem six_below {B : Nat} {w0 w : World} {g : Nat} (h : Below B w0 w) (hg : B ≤ g) (u0 u1 u2 u3 u4 u5 : Value) :
    Below B w0 ((((((w.setCell ⟨g, 0, none⟩ u0).setCell ⟨g, 1, none⟩ u1).setCell ⟨g, 2, none⟩ u2).setCell ⟨g, 3, none⟩ u3).setCell ⟨g, 4, none⟩ u4).setCell ⟨g, 5, none⟩ u5) :=
  (((((h.setCell (p := ⟨g, 0, none⟩) hg u0).setCell (p := ⟨g, 1, none⟩) hg u1).setCell (p := ⟨g, 2, none⟩) hg u2).setCell (p := ⟨g, 3, none⟩) hg u3).setCell (p := ⟨g, 4, none⟩) hg u4).setCell (p := ⟨g, 5, none⟩) hg u5

set_option maxRecDepth 100000 in
set_option maxHeartbeats 1600000 in
theorem stands_c (A : Option Addr) (ws : List Nat) (c n a : Nat) (w : World) (hn : ws.length = n) (hm : n ≤ 1000000) (ha : a + 1 < n) (hr : RdW w w.heap.size A ws) (ho : ∀ x ∈ ws, x < 18446744073709551616) :
    Calls Tryz.prog 30 #[.slice A n c, .int .i64 (a : Int)] w fun e w' => e = .returned (.tuple #[(stB ws a).val, .int .i64 (sdErr ws a)]) ∧ Below w.heap.size w w' := by
  subst hn
  have HR := Lib.hid hr
  have hx := wd_lt ho a
  have HSP := Lib.hid (fun W => hdSplit_c (wd ws a) W hx)
  obtain ⟨b, off, rfl, hb, h0⟩ := RdW.at_ hr (show a < ws.length by omega)
  obtain ⟨b', off', e', -, h1⟩ := RdW.at_ hr ha
  cases e'
  rw [← wd_get] at h0 h1
  have ik0 : (0 : Int) ≤ (a : Int) := by omega
  have ik1 : (a : Int) < (ws.length : Int) := by omega
  have ik2 : (a : Int) + 1 < (ws.length : Int) := by omega
  have ik3 : (0 : Int) ≤ (a : Int) + 1 := by omega
  have htn : ((a : Int) + 1).toNat = a + 1 := by omega
  have hraw : (rawBk (wd ws a)).val = .agg #[.int .i64 0, .int .i64 ((szAt ws a : Nat) : Int), .int .i64 ((wd ws a % 256 : Nat) : Int), .int .i64 ((wd ws a / 512 % 128 : Nat) : Int), .bool (wd ws a / 256 % 2 == 1), .int .u64 0] := rfl
  have hbk : (bkAt ws a).val = .agg #[.int .i64 (a : Int), .int .i64 ((szAt ws a : Nat) : Int), .int .i64 ((wd ws a % 256 : Nat) : Int), .int .i64 ((wd ws a / 512 % 128 : Nat) : Int), .bool (wd ws a / 256 % 2 == 1), .int .u64 ((wd ws (a + 1) : Nat) : Int)] := rfl
  have hsb : szAt ws a < 65536 := Nat.mod_lt _ (by omega)
  have HST : Hid (stands ws a = (splitOk (wd ws a) && decide ((szAt ws a : Int) ≤ (ws.length : Int) - a))) := Lib.hid rfl
  have HNO : Hid (stands ws a = false → stB ws a = noBk ∧ sdErr ws a = 50) := Lib.hid st_no
  have HOK : Hid (stands ws a = true → stB ws a = bkAt ws a ∧ sdErr ws a = 0) := Lib.hid st_ok
  cases hs : splitOk (wd ws a)
  · obtain ⟨g1, g2⟩ := HNO.out (by rw [HST.out, hs]; rfl)
    obtain ⟨s1, s2⟩ := spl_no hs
    rw [s1, s2] at HSP
    have G1 := Lib.hid g1
    have G2 := Lib.hid g2
    clear hr hraw hbk hs g1 g2 s1 s2 hx
    unfold Bk.val noBk at HSP
    dsimp only at HSP
    obtain ⟨x, hx⟩ : ∃ x, wd ws a = x := ⟨_, rfl⟩
    rw [hx] at h0 HSP
    clear hx
    go_enter Tryz.func30, Tryz.ntmps30
    go_wp2_with fail
    refine (HSP.out _).mono ?_
    rintro e w1 ⟨rfl, hB1⟩
    rw [World.size_alloc] at hB1
    have bx := Bx.of_new hB1
    have hb1 := below_call hB1
    have Q0 := Lib.hid bx
    obtain ⟨c0, c1, c2, c3, c4, c5, cf, cz⟩ := bx.c6
    have cf0 := cf 0
    have cf1 := cf 1
    have cf2 := cf 2
    have cf3 := cf 3
    have cf4 := cf 4
    have cf5 := cf 5
    clear bx cf hB1
    go_wp2_with fail
    refine bodyPost_ret (v := .tuple #[.agg #[.int .i64 0, .int .i64 0, .int .i64 0, .int .i64 0, .bool false, .int .u64 0], .int .i64 50]) (results_blk Tryz.results30 _ ((six_bx Q0.out _ _ _ _ _ _).alloc _) rfl rfl) rfl ⟨by rw [G1.out, G2.out]; rfl, (six_below hb1 (Nat.le_refl _) _ _ _ _ _ _).alloc (by simp; have := hb1.size; omega) _⟩
  · obtain ⟨s1, s2⟩ := spl_ok hs
    rw [s1, s2, hraw] at HSP
    have HBK := Lib.hid hbk
    obtain ⟨S, hS⟩ : ∃ S, szAt ws a = S := ⟨_, rfl⟩
    obtain ⟨K, hK⟩ : ∃ K, wd ws a % 256 = K := ⟨_, rfl⟩
    obtain ⟨T, hT⟩ : ∃ T, wd ws a / 512 % 128 = T := ⟨_, rfl⟩
    obtain ⟨M, hM⟩ : ∃ M, (wd ws a / 256 % 2 == 1) = M := ⟨_, rfl⟩
    rw [hS, hK, hT, hM] at HSP HBK
    rw [hS] at hsb HST
    rw [hs, Bool.true_and] at HST
    obtain ⟨x, hx2⟩ : ∃ x, wd ws a = x := ⟨_, rfl⟩
    obtain ⟨y, hy2⟩ : ∃ y, wd ws (a + 1) = y := ⟨_, rfl⟩
    rw [hx2] at h0 HSP
    rw [hy2] at h1 HBK
    clear hr hraw hbk hs s1 s2 hx hS hK hT hM hx2 hy2
    by_cases hbig : (ws.length : Int) - a < S
    · obtain ⟨g1, g2⟩ := HNO.out (by rw [HST.out, decide_eq_false_iff_not]; omega)
      have G1 := Lib.hid g1
      have G2 := Lib.hid g2
      clear g1 g2
      go_enter Tryz.func30, Tryz.ntmps30
      go_wp2_with fail
      refine (HSP.out _).mono ?_
      rintro e w1 ⟨rfl, hB1⟩
      rw [World.size_alloc] at hB1
      have bx := Bx.of_new hB1
      have hb1 := below_call hB1
      have Q0 := Lib.hid bx
      obtain ⟨c0, c1, c2, c3, c4, c5, cf, cz⟩ := bx.c6
      have cf0 := cf 0
      have cf1 := cf 1
      have cf2 := cf 2
      have cf3 := cf 3
      have cf4 := cf 4
      have cf5 := cf 5
      clear bx cf hB1

      go_wp2_with fail
      refine bodyPost_ret (v := .tuple #[.agg #[.int .i64 0, .int .i64 0, .int .i64 0, .int .i64 0, .bool false, .int .u64 0], .int .i64 50]) (results_blk Tryz.results30 _ ((six_bx Q0.out _ _ _ _ _ _).alloc _) rfl rfl) rfl ⟨by rw [G1.out, G2.out]; rfl, (six_below hb1 (Nat.le_refl _) _ _ _ _ _ _).alloc (by simp; have := hb1.size; omega) _⟩
    · obtain ⟨g1, g2⟩ := HOK.out (by rw [HST.out, decide_eq_true_iff]; omega)
      have G1 := Lib.hid g1
      have G2 := Lib.hid g2
      have hle : (S : Int) ≤ (ws.length : Int) - a := by omega
      clear g1 g2 hbig
      go_enter Tryz.func30, Tryz.ntmps30
      go_wp2_with fail
      refine (HSP.out _).mono ?_
      rintro e w1 ⟨rfl, hB1⟩
      rw [World.size_alloc] at hB1
      have bx := Bx.of_new hB1
      have hb1 := below_call hB1
      have Q0 := Lib.hid bx
      obtain ⟨c0, c1, c2, c3, c4, c5, cf, cz⟩ := bx.c6
      have cf0 := cf 0
      have cf1 := cf 1
      have cf2 := cf 2
      have cf3 := cf 3
      have cf4 := cf 4
      have cf5 := cf 5
      clear bx cf hB1

      have hbw : b < w1.heap.size := by have := hb1.size; omega
      have h1' := (hb1.cell (p := ⟨b, off + (a + 1), none⟩) hb).trans h1
      have hwr : IntKind.i64.wrap ((a : Int) + 1) = (a : Int) + 1 := IntWalk.i64_in _ (by omega)
      go_wp2_with fail
      have hne := World.new_ne w1 ⟨b, off + (a + 1), none⟩ h1'
      go_region_held3 (fun X : World => X.cell? ⟨b, off + (a + 1), none⟩ = some (.int .u64 (y : Int))) (go_keep) (fail)
      all_goals
        go_wp2_with fail
        refine bodyPost_ret (v := .tuple #[.agg #[.int .i64 (a : Int), .int .i64 (S : Int), .int .i64 (K : Int), .int .i64 (T : Int), .bool M, .int .u64 (y : Int)], .int .i64 0]) (results_blk Tryz.results30 _ (show Bx (World.drew _) _ _ _ from (six_bx Q0.out _ _ _ _ _ _).alloc _) rfl rfl) rfl ⟨by rw [G1.out, G2.out, HBK.out], ((six_below hb1 (Nat.le_refl _) _ _ _ _ _ _).alloc (by simp; have := hb1.size; omega) _).drew⟩
end Go.Proofs.YtoaepffpjoibaaaGreat

namespace Go.Proofs.YtoaepffpjoibaaaGreat
open Go.RowKit

def frArg (n : Nat) (a : Int) : Bool := decide (a < 128) || (decide ((n : Int) < a) || a % 2 != 0)
/-- The error of walking from an address on. -/
def frErr (ws : List Nat) (a : Int) : Int := if sizeOk (ws.length : Int) = true then (if frArg ws.length a = true then 2 else (match blocks ws a.toNat with | none => 50 | some _ => 0)) else 8
def frOut (ws : List Nat) (a : Int) : List Bk := if frErr ws a = 0 then (blocks ws a.toNat).getD [] else []
def FrRes (ws : List Nat) (a : Int) (e : Ending) (w' : World) : Prop := ∃ A c, e = .returned (.tuple #[.slice A (frOut ws a).length c, .int .i64 (frErr ws a)]) ∧ RdB w' w'.heap.size A (frOut ws a) ∧ (frOut ws a).length ≤ c
theorem frErr_img {ws : List Nat} {a : Int} (h : sizeOk (ws.length : Int) = false) : frErr ws a = 8 := by simp [frErr, h]
theorem frErr_arg {ws : List Nat} {a : Int} (h : sizeOk (ws.length : Int) = true) (h2 : frArg ws.length a = true) : frErr ws a = 2 := by simp [frErr, h, h2]
theorem frErr_none {ws : List Nat} {a : Int} (h : sizeOk (ws.length : Int) = true) (h2 : frArg ws.length a = false) (h3 : blocks ws a.toNat = none) : frErr ws a = 50 := by simp [frErr, h, h2, h3]
theorem frErr_some {ws : List Nat} {a : Int} (h : sizeOk (ws.length : Int) = true) (h2 : frArg ws.length a = false) {l : List Bk} (h3 : blocks ws a.toNat = some l) : frErr ws a = 0 ∧ frOut ws a = l := by
  have : frErr ws a = 0 := by simp [frErr, h, h2, h3]
  exact ⟨this, by simp [frOut, this, h3]⟩
theorem frArg_no {n : Nat} {a : Int} (h : frArg n a = false) : 128 ≤ a ∧ a ≤ (n : Int) ∧ a % 2 = 0 := by
  simp only [frArg, Bool.or_eq_false_iff, decide_eq_false_iff_not, bne_eq_false_iff_eq] at h
  omega
theorem frArg_yes {n : Nat} {a : Int} (h : ¬ (128 ≤ a ∧ a ≤ (n : Int) ∧ a % 2 = 0)) : frArg n a = true := by
  cases hq : frArg n a with
  | true => rfl
  | false => exact absurd (frArg_no hq) h
theorem frRes_no {ws : List Nat} {a r : Int} {w' : World} (hr : frErr ws a = r) (h0 : r ≠ 0) : FrRes ws a (.returned (.tuple #[.slice none 0 0, .int .i64 r])) w' := by
  subst hr
  have : frOut ws a = [] := by simp [frOut, h0]
  exact ⟨none, 0, by rw [this]; rfl, by rw [this]; exact Rd.nil_, by rw [this]; simp⟩
theorem frRes_own {H : Nat} {ws : List Nat} {a : Int} {v : Value} {w' : World} {l : List Bk} (h0 : frErr ws a = 0) (hl : frOut ws a = l) (h : w'.ownsRow H 48 6 v l.length (l.flatMap Bk.cells)) : FrRes ws a (.returned (.tuple #[v, .int .i64 0])) w' := by
  have hc : ∃ A c, v = .slice A l.length c ∧ l.length ≤ c := by
    rcases h.2 with ⟨rfl, hnil⟩ | ⟨g, cap, cur, rfl, _, _, hle, _⟩
    · exact ⟨none, 0, by rw [hnil], by omega⟩
    · exact ⟨_, _, rfl, hle⟩
  obtain ⟨A, c, rfl, hle⟩ := hc
  exact ⟨A, c, by rw [hl, h0], by rw [hl]; exact Rd.of_own h, by rw [hl]; exact hle⟩
theorem infoBlkW : (Tryz.prog.info? 48).map (fun i => (i.zero, i.size, i.bytes)) = some (some (.agg #[.int .i64 0, .int .i64 0, .int .i64 0, .int .i64 0, .bool false, .int .u64 0]), 6, 48) := by kernel_rfl

theorem own_new {w : World} {H : Nat} {e : TypeId} {sz n : Nat} {v : Value} {xs : List Value} (hown : w.ownsRow H e sz v n xs) : some w.heap.size ≠ v.ownBlock := fun h => by
  have := (hown.lt _ h.symm).2; omega
theorem news_at (w : World) (cs : List Value) (t : TypeId) {H : Nat} (h : w.heap.size = H) : ∀ j u, cs[j]? = some u → (w.alloc (.cells cs.toArray t)).cell? ((⟨H, 0, none⟩ : Addr).add j) = some u := by
  subst h; exact news_new w cs t

set_option maxRecDepth 100000 in
set_option maxHeartbeats 1600000 in
theorem from_c (A : Option Addr) (ws : List Nat) (c n : Nat) (a : Int) (w : World) (hn : ws.length = n) (hm : n ≤ 9223372036854775807) (hr : RdW w w.heap.size A ws) (ho : ∀ x ∈ ws, x < 18446744073709551616) :
    Calls Tryz.prog 13 #[.slice A n c, .int .i64 a] w fun e w' => FrRes ws a e w' ∧ Below w.heap.size w w' := by
  subst hn
  have HR := Lib.hid hr
  have HO := Lib.hid ho
  clear hr ho
  cases hs : sizeOk (ws.length : Int)
  · have HI := Lib.hid (imgErr_no hs)
    have HE := Lib.hid (frErr_img (a := a) hs)
    clear hs
    go_enter Tryz.func13, Tryz.ntmps13
    go_wp2_with fail
    refine (imCheck_c A ws.length c w hm).mono ?_
    rintro e w1 ⟨rfl, rfl⟩
    rw [HI.out]
    go_wp2_with fail
    go_ret2
    exact ⟨frRes_no HE.out (by omega), Below.refl _ _⟩
  · have HI := Lib.hid (imgErr_ok hs)
    have HS := Lib.hid hs
    have hb := imgErr_zero (imgErr_ok hs)
    obtain ⟨hb1, hb2, hb3⟩ := hb
    have HB3 := Lib.hid hb3
    clear hs hm hb3
    by_cases hbad : 128 ≤ a ∧ a ≤ (ws.length : Int) ∧ a % 2 = 0
    · obtain ⟨a1, a2, a3⟩ := hbad
      have HAR : Hid (frArg ws.length a = false) := Lib.hid (by
        simp only [frArg, Bool.or_eq_false_iff, decide_eq_false_iff_not, bne_eq_false_iff_eq]; omega)
      have hev : (a % 2 != 0) = false := by rw [bne_eq_false_iff_eq]; exact a3
      have d1 : decide (a < 128) = false := by rw [decide_eq_false_iff_not]; omega
      have d2 : decide ((ws.length : Int) < a) = false := by rw [decide_eq_false_iff_not]; omega
      have HA3 := Lib.hid a3
      obtain ⟨i0, rfl⟩ := Int.eq_ofNat_of_zero_le (show 0 ≤ a by omega)
      have d2n : decide (ws.length < i0) = false := by rw [decide_eq_false_iff_not]; omega
      clear a3
      obtain ⟨i2, hi, hz0, hz1, hz2⟩ := info_parts infoBlkW
      have HJ := Lib.hid hi
      have HJ0 := Lib.hid hz0
      have HJ1 := Lib.hid hz1
      have HJ2 := Lib.hid hz2
      clear hi hz0 hz1 hz2
      go_enter Tryz.func13, Tryz.ntmps13
      go_wp2_with fail
      refine (imCheck_c A ws.length c w (by omega)).mono ?_
      rintro e w1 ⟨rfl, rfl⟩
      rw [HI.out]
      go_wp2_with fail
      go_loopw [1, 7] (fun p v wr => ∃ (i : Nat) (acc : List Bk), p = .int .i64 i ∧ i0 ≤ i ∧ i ≤ ws.length ∧ i % 2 = 0 ∧ blocks ws i0 = (blocks ws i).map (acc ++ ·) ∧ acc.length ≤ i ∧ wr.ownsRow w.heap.size 48 6 v acc.length (acc.flatMap Bk.cells) ∧ Below w.heap.size w wr) (fun p _ _ => ws.length - (intOf p).toNat)
      case atStart => exact ⟨i0, [], rfl, Nat.le_refl _, by omega, by have := HA3.out; omega, by simp, by simp, World.ownsRow_nil _ _ _ _, Below.refl _ _⟩
      case round =>
        obtain ⟨i, acc, rfl, q1, q2, q3, q4, q5, hown, hB⟩ := hrel
        have hz := hB.size
        have HQ3 := Lib.hid q3
        have HQ4 := Lib.hid q4
        clear q4
        by_cases hlt : i < ws.length
        · have hlt1 : i + 1 < ws.length := by have := HB3.out; omega
          clear q3
          have ik1 : (i : Int) < (ws.length : Int) := by omega
          cases hst : stands ws i
          · have HN := Lib.hid (frErr_none HS.out HAR.out (by rw [Int.toNat_natCast, HQ4.out, blocks_bad hlt hst]; rfl))
            obtain ⟨g1, g2⟩ := st_no hst
            have HC := Lib.hid (stands_c A ws c ws.length i wr rfl (by omega) hlt1 (HR.out.up hB hz) HO.out)
            rw [g1, g2] at HC
            unfold noBk Bk.val at HC
            dsimp only at HC
            clear hst g1 g2 hown
            go_wp2_with fail
            refine HC.out.mono ?_
            rintro e w1 ⟨rfl, hB1⟩
            have hb1 := hB.trans (hB1.mono hz)
            go_wp2_with fail
            go_ret2
            exact ⟨frRes_no HN.out (by omega), hb1.alloc hb1.size _⟩
          · have hsz := stands_sz hst
            obtain ⟨g1, g2⟩ := st_ok hst
            have HC := Lib.hid (stands_c A ws c ws.length i wr rfl (by omega) hlt1 (HR.out.up hB hz) HO.out)
            rw [g1, g2] at HC
            have HNX := Lib.hid (show blocks ws i0 = (blocks ws (i + szAt ws i)).map ((acc ++ [bkAt ws i]) ++ ·) by
              rw [HQ4.out, blocks_step hlt hst]
              cases blocks ws (i + szAt ws i) <;> simp)
            have HFL := Lib.hid (flat_snoc Bk.cells acc (bkAt ws i))
            have hss := bkAt_size ws i
            obtain ⟨x, hx⟩ : ∃ x, bkAt ws i = x := ⟨_, rfl⟩
            obtain ⟨z, hzz⟩ : ∃ z, szAt ws i = z := ⟨_, rfl⟩
            rw [hx] at HC HNX HFL hss
            rw [hzz] at HNX hsz hss
            have HX := Lib.hid hx
            obtain ⟨xa, xs, xk, xt, xm, xn⟩ := x
            dsimp only at hss
            subst hss
            unfold Bk.val at HC
            dsimp only at HC
            obtain ⟨z1, z2, z3⟩ := hsz
            have HZ2 := Lib.hid z2
            clear hst g1 g2 hx hzz z2
            go_wp2_with fail
            refine HC.out.mono ?_
            rintro e w1 ⟨rfl, hB1⟩
            have hb1 := hB.trans (hB1.mono hz)
            have hownw := own_below hown hB1 (Nat.le_refl _)
            have hz1 := hb1.size
            go_wp2_with (at_builtin; refine wpList_append_own _ rfl _ _ 37 rfl w.heap.size 48 i2 _ 6 48 Tryz.underlying37 HJ.out HJ0.out HJ1.out HJ2.out rfl (by decide) _ _ _ rfl ((hownw.alloc _).alloc _) ⟨_, 0, none⟩ 1 1 [.int .i64 xa, .int .i64 (z : Int), .int .i64 xk, .int .i64 xt, .bool xm, .int .u64 (xn : Int)] rfl rfl (news_at _ _ _ (World.size_alloc _ _)) (by simp [Value.oneCell']) (by unfold maxLen; omega) (by omega) (by simp; omega) ?_; intro v1 w2 hown1 hg1 _; have hbx : Bx w2 w1.heap.size 48 #[.int .i64 xa, .int .i64 (z : Int), .int .i64 xk, .int .i64 xt, .bool xm, .int .u64 (xn : Int)] := ((Bx.new w1 48 _).alloc _).grown hg1 (own_new hownw); have hB2 := below_append (hb1.alloc hz1 (.cells #[.int .i64 xa, .int .i64 (z : Int), .int .i64 xk, .int .i64 xt, .bool xm, .int .u64 (xn : Int)] 48)) (by simp; omega) (hownw.alloc _) hg1; have hc1 : w2.cell? ⟨w1.heap.size, 1, none⟩ = some (.int .i64 (z : Int)) := hbx.cell 1; have hf1 := hbx.frozen 1; have hl1 := hbx.lt; clear hg1 hbx)
            go_roundw
            case rel => exact ⟨i + z, acc ++ [⟨xa, (z : Int), xk, xt, xm, xn⟩], by rw [Int.natCast_add], by omega, by omega, by have := HQ3.out; have := HZ2.out; omega, HNX.out, by simp; omega, by rw [HFL.out, List.length_append]; exact hown1, hB2⟩
            case measure => simp [intOf]; omega
        · have hi : i = ws.length := by omega
          have HD := Lib.hid (frErr_some HS.out HAR.out (l := acc) (by rw [Int.toNat_natCast, HQ4.out, blocks_end (by omega)]; simp))
          clear hi q3
          go_wp2_with fail
          go_ret2
          exact ⟨frRes_own HD.out.1 HD.out.2 hown, hB⟩
    · have HE := Lib.hid (frErr_arg HS.out (frArg_yes hbad))
      go_enter Tryz.func13, Tryz.ntmps13
      go_wp2_with fail
      refine (imCheck_c A ws.length c w (by omega)).mono ?_
      rintro e w1 ⟨rfl, rfl⟩
      rw [HI.out]
      by_cases h1 : a < 128
      · clear hbad
        go_wp2_with fail
        go_ret2
        exact ⟨frRes_no HE.out (by omega), Below.refl _ _⟩
      · by_cases h2 : (ws.length : Int) < a
        · clear hbad
          go_wp2_with fail
          go_ret2
          exact ⟨frRes_no HE.out (by omega), Below.refl _ _⟩
        · have hev : (a % 2 != 0) = true := by rw [bne_iff_ne]; omega
          have d1 : decide (a < 128) = false := by rw [decide_eq_false_iff_not]; omega
          have d2 : decide ((ws.length : Int) < a) = false := by rw [decide_eq_false_iff_not]; omega
          have a0 : 0 ≤ a := by omega
          clear hbad
          go_wp2_with fail
          go_ret2
          exact ⟨frRes_no HE.out (by omega), Below.refl _ _⟩
end Go.Proofs.YtoaepffpjoibaaaGreat

namespace Go.Proofs.YtoaepffpjoibaaaGreat

def nxOf : List Bk → Option Bk
  | [] => none
  | b :: l => if b.mark = true then some b else nxOf l
def noMark (l : List Bk) (k : Nat) : Prop := ∀ j, j < k → (gk l j).mark = false
theorem noMark_zero (l : List Bk) : noMark l 0 := fun j h => absurd h (by omega)
theorem noMark_succ {l : List Bk} {k : Nat} (h : noMark l k) (h2 : (gk l k).mark = false) : noMark l (k + 1) := fun j hj => by
  rcases Nat.lt_or_ge j k with h3 | h3
  · exact h j h3
  · have : j = k := by omega
    subst this; exact h2
theorem nxOf_none : ∀ {l : List Bk}, noMark l l.length → nxOf l = none := by
  intro l
  induction l with
  | nil => intro _; rfl
  | cons b l ih =>
    intro h
    have h0 : b.mark = false := h 0 (by simp)
    simp only [nxOf, h0, Bool.false_eq_true, if_false]
    exact ih fun j hj => by have := h (j + 1) (by simpa using hj); rwa [gk_cons] at this
theorem nxOf_at : ∀ {l : List Bk} {k : Nat}, k < l.length → noMark l k → (gk l k).mark = true → nxOf l = some (gk l k) := by
  intro l
  induction l with
  | nil => intro k h; simp at h
  | cons b l ih =>
    intro k hk h hm
    cases k with
    | zero =>
      rw [gk_zero] at hm ⊢
      simp [nxOf, hm]
    | succ k =>
      have h0 : b.mark = false := h 0 (by omega)
      simp only [nxOf, h0, Bool.false_eq_true, if_false]
      rw [gk_cons] at hm ⊢
      exact ih (by simpa using hk) (fun j hj => by have := h (j + 1) (by omega); rwa [gk_cons] at this) hm
def nxtErr (ws : List Nat) (a : Int) : Int := if frErr ws a = 0 then (match nxOf (frOut ws a) with | none => 6 | some _ => 0) else frErr ws a
def nxtB (ws : List Nat) (a : Int) : Bk := if frErr ws a = 0 then (nxOf (frOut ws a)).getD noBk else noBk
theorem nx_err {ws : List Nat} {a r : Int} (h : frErr ws a = r) (h0 : r ≠ 0) : nxtB ws a = noBk ∧ nxtErr ws a = r := by
  subst h
  simp [nxtB, nxtErr, h0]
theorem nx_none {ws : List Nat} {a : Int} (h : frErr ws a = 0) {l : List Bk} (hl : frOut ws a = l) (hn : noMark l l.length) : nxtB ws a = noBk ∧ nxtErr ws a = 6 := by
  subst hl
  simp [nxtB, nxtErr, h, nxOf_none hn]
theorem nx_some {ws : List Nat} {a : Int} (h : frErr ws a = 0) {l : List Bk} (hl : frOut ws a = l) {k : Nat} (hk : k < l.length) (hn : noMark l k) (hm : (gk l k).mark = true) : nxtB ws a = gk l k ∧ nxtErr ws a = 0 := by
  subst hl
  simp [nxtB, nxtErr, h, nxOf_at hk hn hm]
theorem frErr_val (ws : List Nat) (a : Int) : frErr ws a = 0 ∨ frErr ws a = 2 ∨ frErr ws a = 8 ∨ frErr ws a = 50 := by
  unfold frErr
  split
  · split
    · simp
    · cases blocks ws a.toNat <;> simp
  · simp
/-- In a heap a mark is an object's. -/
theorem fr_live {ws : List Nat} {a : Int} (h : frErr ws a = 0) {k : Nat} (hk : k < (frOut ws a).length) : (gk (frOut ws a) k).kind == 1 || !(gk (frOut ws a) k).mark := by
  unfold frOut at hk ⊢
  rw [if_pos h] at hk ⊢
  unfold frErr at h
  split at h
  · split at h
    · simp at h
    · rename_i h2
      have h3 := frArg_no (by simpa using h2)
      cases hb : blocks ws a.toNat with
      | none => rw [hb] at h; simp at h
      | some l =>
        rw [hb] at hk
        simp only [Option.getD_some] at hk ⊢
        obtain ⟨i, e, -, -, -, b4, -⟩ := blocks_at _ _ hb (by omega) k hk
        have h7 := (hdOk_iff _).1 (bkAt_hd b4)
        rw [gk_get l k hk, e]
        show ((rawBk (wd ws i)).kind == 1 || !(rawBk (wd ws i)).mark) = true
        rcases h7.2 with h8 | h8
        · simp [h8.1]
        · simp [h8.2.2.1]
  · simp at h
/-- Go's remainder by 2 is zero just if Lean's is. -/
theorem tmod_two (a : Int) : (a.tmod 2 != 0) = (a % 2 != 0) := by
  have h1 : a.tmod 2 = 0 ↔ a % 2 = 0 := by
    constructor
    · intro h
      have := Int.dvd_of_tmod_eq_zero h
      omega
    · intro h
      exact Int.tmod_eq_zero_of_dvd (Int.dvd_of_emod_eq_zero h)
  rw [Bool.eq_iff_iff, bne_iff_ne, bne_iff_ne, ne_eq, ne_eq, h1]
/-- The ways in which an address may be wrong. -/
theorem arg_ways {n : Nat} {a : Int} (hbad : ¬ (128 ≤ a ∧ a ≤ (n : Int) ∧ a % 2 = 0)) : (a % 2 != 0) = true ∧ (a.tmod 2 != 0) = true ∨ ((a % 2 != 0) = false ∧ (a.tmod 2 != 0) = false) ∧ a < 128 ∨ (a % 2 != 0) = false ∧ 128 ≤ a ∧ (n : Int) < a := by
  rw [tmod_two]
  by_cases h : a % 2 = 0
  · have : (a % 2 != 0) = false := by rw [bne_eq_false_iff_eq]; exact h
    rw [this]
    by_cases h2 : a < 128
    · exact .inr (.inl ⟨⟨rfl, rfl⟩, h2⟩)
    · exact .inr (.inr ⟨rfl, by omega, by omega⟩)
  · have : (a % 2 != 0) = true := by rw [bne_iff_ne]; exact h
    rw [this]; exact .inl ⟨rfl, rfl⟩
theorem frOut_len (ws : List Nat) (a : Int) : (frOut ws a).length ≤ 4611686018427387904 := by
  unfold frOut
  split
  · rename_i h
    unfold frErr at h
    split at h
    · rename_i h1
      have hb := (sizeOk_iff _).1 h1
      split at h
      · simp at h
      · rename_i h2
        have h3 := frArg_no (by simpa using h2)
        cases hbl : blocks ws a.toNat with
        | none => simp
        | some l =>
          have := (blocks_chain (by omega) _ _ hbl (by omega) (by omega) (by omega)).1
          simp only [Option.getD_some]; omega
    · simp at h
  · simp
end Go.Proofs.YtoaepffpjoibaaaGreat
