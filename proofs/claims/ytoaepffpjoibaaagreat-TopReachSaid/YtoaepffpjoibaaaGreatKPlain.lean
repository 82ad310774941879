/- Texts laid together: Base BrkP BrkQ BrkX HeapP KindP FwdP FwdQ FwdR SldP FwbP. -/
import Derived.Test.YtoaepffpjoibaaaGreatRows
import Derived.WalkKit
import Derived.WalkSpells
import Derived.WalkLawsBesides
import Derived.Deep.QuietTactic
import Derived.BigQuiet
import Derived.Lib.Hide
import Derived.Deep.AppendLies
import Derived.Deep.OwnRows
import Derived.Deep.Cut
import Derived.Deep.Draws
import Derived.Deep.LoopGhost
import Derived.Deep.RegionWith
import Derived.WalkSmall
namespace Go.Proofs.YtoaepffpjoibaaaGreat
open Go.RowKit

/-- The slice part A reads as the cells xs, all of them below block B. -/
def Rd (w : World) (B : Nat) (A : Option Addr) (xs : List Value) : Prop :=
  xs ≠ [] → ∃ b off, A = some ⟨b, off, none⟩ ∧ b < B ∧ ∀ j (h : j < xs.length), w.cell? ⟨b, off + j, none⟩ = some xs[j]

section
variable {w w' : World} {B B' : Nat} {A : Option Addr} {xs : List Value}
theorem Rd.nil_ : Rd w B A [] := fun h => absurd rfl h
theorem Rd.keep (h : Rd w B A xs) (hk : ∀ p : Addr, p.block < B → w'.cell? p = w.cell? p) : Rd w' B A xs := fun hn => by
  obtain ⟨b, off, e, hb, hc⟩ := h hn
  exact ⟨b, off, e, hb, fun j hj => (hk ⟨b, off + j, none⟩ hb).trans (hc j hj)⟩
theorem Rd.more (h : Rd w B A xs) (hB : B ≤ B') : Rd w B' A xs := fun hn => by
  obtain ⟨b, off, e, hb, hc⟩ := h hn
  exact ⟨b, off, e, by omega, hc⟩
theorem Rd.below (h : Rd w B A xs) (hb : Below B w w') : Rd w' B A xs := h.keep fun _ hp => hb.cell hp
theorem Rd.up (h : Rd w B A xs) (hb : Below B w w') (hB : B ≤ B') : Rd w' B' A xs := (h.below hb).more hB
theorem Rd.drewN (h : Rd w B A xs) (n : Nat) : Rd (w.drewN n) B A xs := h
theorem Rd.alloc (h : Rd w B A xs) (hB : B ≤ w.heap.size) (o : Obj) : Rd (w.alloc o) B A xs := h.keep fun p hp => World.cell?_alloc_lt w o p (by omega)
theorem Rd.set_ (h : Rd w B A xs) {p : Addr} (hB : B ≤ p.block) (u : Value) : Rd (w.setCell p u) B A xs :=
  h.keep fun q hq => World.cell?_setCell_other w p q u (fun e => by subst e; omega)
theorem Rd.drop_ (h : Rd w B A xs) (k : Nat) : Rd w B (A.map (·.add k)) (xs.drop k) := fun hn => by
  have hlt : k < xs.length := by
    rcases Nat.lt_or_ge k xs.length with h1 | h1
    · exact h1
    · exact absurd (List.drop_eq_nil_of_le h1) hn
  obtain ⟨b, off, rfl, hb, hc⟩ := h (by intro e; subst e; simp at hlt)
  refine ⟨b, off + k, ?_, hb, fun j hj => ?_⟩
  · simp only [Option.map_some, Addr.add]; split <;> simp_all
  · have hj' : k + j < xs.length := by simp at hj; omega
    rw [List.getElem_drop, Nat.add_assoc]
    exact hc _ hj'
theorem Rd.take_ (h : Rd w B A xs) (k : Nat) : Rd w B A (xs.take k) := fun hn => by
  obtain ⟨b, off, rfl, hb, hc⟩ := h (by intro e; subst e; simp at hn)
  exact ⟨b, off, rfl, hb, fun j hj => by rw [List.getElem_take]; exact hc j (by simp at hj; omega)⟩
theorem Rd.of_own {base size n : Nat} {e : TypeId} {c : Nat} (h : w.ownsRow base e size (.slice A n c) n xs) : Rd w w.heap.size A xs := fun hn => by
  have h0 : 0 < n := by
    rcases Nat.eq_zero_or_pos n with h1 | h1
    · have := h.1; subst h1; simp at this; exact absurd this hn
    · exact h1
  obtain ⟨g, cap, hv, _, hlt⟩ := h.form h0
  have hA : A = some ⟨g, 0, none⟩ := by injection hv
  subst hA
  refine ⟨g, 0, rfl, hlt, fun j hj => ?_⟩
  have := h.cells (g := g) rfl j xs[j] (List.getElem?_eq_getElem hj)
  have e : (⟨g, 0, none⟩ : Addr).add j = ⟨g, 0 + j, none⟩ := by unfold Addr.add; split <;> simp_all
  rwa [e] at this
end

/-! Elements of several cells -/
theorem flat_len {α : Type} (f : α → List Value) (sz : Nat) (hf : ∀ x, (f x).length = sz) (l : List α) : (l.flatMap f).length = l.length * sz := by
  induction l with
  | nil => simp
  | cons x l ih => rw [List.flatMap_cons, List.length_append, hf, ih, List.length_cons, Nat.add_mul]; omega
theorem flat_get {α : Type} (f : α → List Value) (sz : Nat) (hf : ∀ x, (f x).length = sz) (l : List α) (k j : Nat) (hk : k < l.length) (hj : j < sz) :
    (l.flatMap f)[k * sz + j]? = (f l[k])[j]? := by
  induction l generalizing k with
  | nil => simp at hk
  | cons x l ih =>
    rw [List.flatMap_cons]
    cases k with
    | zero => rw [List.getElem?_append_left (by rw [hf]; omega)]; simp
    | succ k =>
      rw [List.getElem?_append_right (by rw [hf, Nat.add_mul]; omega), hf]
      have : (k + 1) * sz + j - sz = k * sz + j := by rw [Nat.add_mul]; omega
      rw [this, ih k (by simpa using hk)]
      simp
theorem Rd.at_flat {α : Type} {f : α → List Value} {sz : Nat} {w : World} {B : Nat} {A : Option Addr} {l : List α} (hf : ∀ x, (f x).length = sz) (h : Rd w B A (l.flatMap f)) (hsz : 0 < sz) {k : Nat} (hk : k < l.length) :
    ∃ b off, A = some ⟨b, off, none⟩ ∧ b < B ∧ ∀ j, j < sz → w.cell? ⟨b, off + k * sz + j, none⟩ = (f l[k])[j]? := by
  have hl := flat_len f sz hf l
  have hpos : 0 < (l.flatMap f).length := by rw [hl]; exact Nat.mul_pos (by omega) hsz
  obtain ⟨b, off, rfl, hb, hc⟩ := h (by intro e; rw [e] at hpos; simp at hpos)
  refine ⟨b, off, rfl, hb, fun j hj => ?_⟩
  have hlt : k * sz + j < (l.flatMap f).length := by
    rw [hl]
    have : (k + 1) * sz ≤ l.length * sz := Nat.mul_le_mul_right _ hk
    rw [Nat.add_mul] at this; omega
  have h1 := hc _ hlt
  rw [← Nat.add_assoc] at h1
  rw [h1, ← flat_get f sz hf l k j hk hj]
  exact (List.getElem?_eq_getElem hlt).symm

/-- An entry: its address and its value. -/
structure En where
  a : Int
  v : Nat
  deriving DecidableEq, Inhabited
def En.cells (e : En) : List Value := [.int .i64 e.a, .int .u64 (e.v : Int)]
/-- A block. -/
structure Bk where
  at_ : Int
  size : Int
  kind : Int
  typ : Int
  mark : Bool
  next : Nat
  deriving DecidableEq, Inhabited
def Bk.cells (b : Bk) : List Value := [.int .i64 b.at_, .int .i64 b.size, .int .i64 b.kind, .int .i64 b.typ, .bool b.mark, .int .u64 (b.next : Int)]
def Bk.val (b : Bk) : Value := .agg #[.int .i64 b.at_, .int .i64 b.size, .int .i64 b.kind, .int .i64 b.typ, .bool b.mark, .int .u64 (b.next : Int)]
def intCells (x : Int) : List Value := [.int .i64 x]
def wordCells (x : Nat) : List Value := [.int .u64 (x : Int)]

def RdE (w : World) (B : Nat) (A : Option Addr) (l : List En) : Prop := Rd w B A (l.flatMap En.cells)
def RdB (w : World) (B : Nat) (A : Option Addr) (l : List Bk) : Prop := Rd w B A (l.flatMap Bk.cells)
def RdI (w : World) (B : Nat) (A : Option Addr) (l : List Int) : Prop := Rd w B A (l.flatMap intCells)
def RdW (w : World) (B : Nat) (A : Option Addr) (l : List Nat) : Prop := Rd w B A (l.flatMap wordCells)
theorem En.len (x : En) : x.cells.length = 2 := rfl
theorem Bk.len (x : Bk) : x.cells.length = 6 := rfl
theorem intCells_len (x : Int) : (intCells x).length = 1 := rfl
theorem wordCells_len (x : Nat) : (wordCells x).length = 1 := rfl

theorem RdE.at_ {w : World} {B : Nat} {A : Option Addr} {l : List En} (h : RdE w B A l) {k : Nat} (hk : k < l.length) :
    ∃ b off, A = some ⟨b, off, none⟩ ∧ b < B ∧ w.cell? ⟨b, off + k * 2, none⟩ = some (.int .i64 l[k].a) ∧ w.cell? ⟨b, off + k * 2 + 1, none⟩ = some (.int .u64 (l[k].v : Int)) := by
  obtain ⟨b, off, e, hb, hc⟩ := Rd.at_flat En.len h (by omega) hk
  exact ⟨b, off, e, hb, hc 0 (by omega), hc 1 (by omega)⟩
theorem RdB.at_ {w : World} {B : Nat} {A : Option Addr} {l : List Bk} (h : RdB w B A l) {k : Nat} (hk : k < l.length) :
    ∃ b off, A = some ⟨b, off, none⟩ ∧ b < B ∧ w.cell? ⟨b, off + k * 6, none⟩ = some (.int .i64 l[k].at_) ∧ w.cell? ⟨b, off + k * 6 + 1, none⟩ = some (.int .i64 l[k].size) ∧
      w.cell? ⟨b, off + k * 6 + 2, none⟩ = some (.int .i64 l[k].kind) ∧ w.cell? ⟨b, off + k * 6 + 3, none⟩ = some (.int .i64 l[k].typ) ∧
      w.cell? ⟨b, off + k * 6 + 4, none⟩ = some (.bool l[k].mark) ∧ w.cell? ⟨b, off + k * 6 + 5, none⟩ = some (.int .u64 (l[k].next : Int)) := by
  obtain ⟨b, off, e, hb, hc⟩ := Rd.at_flat Bk.len h (by omega) hk
  exact ⟨b, off, e, hb, hc 0 (by omega), hc 1 (by omega), hc 2 (by omega), hc 3 (by omega), hc 4 (by omega), hc 5 (by omega)⟩
theorem RdI.at_ {w : World} {B : Nat} {A : Option Addr} {l : List Int} (h : RdI w B A l) {k : Nat} (hk : k < l.length) :
    ∃ b off, A = some ⟨b, off, none⟩ ∧ b < B ∧ w.cell? ⟨b, off + k, none⟩ = some (.int .i64 l[k]) := by
  obtain ⟨b, off, e, hb, hc⟩ := Rd.at_flat intCells_len h (by omega) hk
  have := hc 0 (by omega)
  simp only [Nat.mul_one, Nat.add_zero] at this
  exact ⟨b, off, e, hb, this⟩
theorem RdW.at_ {w : World} {B : Nat} {A : Option Addr} {l : List Nat} (h : RdW w B A l) {k : Nat} (hk : k < l.length) :
    ∃ b off, A = some ⟨b, off, none⟩ ∧ b < B ∧ w.cell? ⟨b, off + k, none⟩ = some (.int .u64 (l[k] : Int)) := by
  obtain ⟨b, off, e, hb, hc⟩ := Rd.at_flat wordCells_len h (by omega) hk
  have := hc 0 (by omega)
  simp only [Nat.mul_one, Nat.add_zero] at this
  exact ⟨b, off, e, hb, this⟩

theorem size_drewN (w : World) (n : Nat) : (w.drewN n).heap.size = w.heap.size := rfl
theorem le_alloc_ {B : Nat} {w : World} {o : Obj} (h : B ≤ w.heap.size) : B ≤ (w.alloc o).heap.size := by rw [World.size_alloc]; omega
theorem le_set_ {B : Nat} {w : World} {p : Addr} {u : Value} (h : B ≤ w.heap.size) : B ≤ (w.setCell p u).heap.size := by rw [World.size_setCell]; exact h
theorem le_drewN_ {B n : Nat} {w : World} (h : B ≤ w.heap.size) : B ≤ (w.drewN n).heap.size := h
theorem below_drewN {B : Nat} {a w : World} (h : Below B a w) (n : Nat) : Below B a (w.drewN n) := ⟨h.os, h.tape, h.output, h.size, h.block⟩
theorem rowIs_drewN {w : World} {b : Nat} {t : TypeId} {n : Nat} {f : Nat → Value} (h : w.rowIs b t n f) (k : Nat) : (w.drewN k).rowIs b t n f := h
theorem rowIs_below {w w' : World} {B b : Nat} {t : TypeId} {n : Nat} {f : Nat → Value} (h : w.rowIs b t n f) (hb : Below B w w') (hlt : b < B) : w'.rowIs b t n f := h.of_block (hb.block b hlt)
theorem ret_int {k : IntKind} {a b : Int} (h : a = b) : Ending.returned (.int k a) = .returned (.int k b) := by rw [h]
theorem take_succ' {α : Type} (l : List α) (k : Nat) (h : k < l.length) : l.take (k + 1) = l.take k ++ [l[k]] := by
  rw [List.take_succ_eq_append_getElem h]
/-! A block that the call laid just before a call that it made: its cells behind that call -/
theorem box_of {w w1 : World} {cs : Array Value} {t : TypeId} (hB : Below (w.heap.size + 1) (w.alloc (.cells cs t)) w1) :
    (∀ i, w1.cell? ⟨w.heap.size, i, none⟩ = cs[i]?) ∧ (∀ i, w1.frozen? ⟨w.heap.size, i, none⟩ = false) ∧ Below w.heap.size w w1 ∧ w.heap.size < w1.heap.size := by
  have hb : w1.heap[w.heap.size]? = some (.cells cs t (0, 0)) := (hB.block w.heap.size (by omega)).trans (heap_alloc_new w _)
  refine ⟨fun i => cell_of_row w1 _ i cs t (0, 0) hb, fun i => by simp [World.frozen?, hb], ((Below.refl _ _).alloc (Nat.le_refl _) _).trans (hB.mono (by omega)), ?_⟩
  have := hB.size
  simp at this
  omega
theorem box3 {w w1 : World} {x y z : Value} {t : TypeId} (hB : Below (w.heap.size + 1) (w.alloc (.cells #[x, y, z] t)) w1) :
    w1.cell? ⟨w.heap.size, 0, none⟩ = some x ∧ w1.cell? ⟨w.heap.size, 1, none⟩ = some y ∧ w1.cell? ⟨w.heap.size, 2, none⟩ = some z ∧
      w1.frozen? ⟨w.heap.size, 0, none⟩ = false ∧ w1.frozen? ⟨w.heap.size, 1, none⟩ = false ∧ w1.frozen? ⟨w.heap.size, 2, none⟩ = false ∧ Below w.heap.size w w1 ∧ w.heap.size < w1.heap.size := by
  obtain ⟨hc, hf, hb, hz⟩ := box_of hB
  exact ⟨hc 0, hc 1, hc 2, hf 0, hf 1, hf 2, hb, hz⟩

/-- Block g is just the cells cs of element type t, none of them frozen. -/
def Bx (w : World) (g : Nat) (t : TypeId) (cs : Array Value) : Prop := w.heap[g]? = some (.cells cs t (0, 0))
section
variable {w w' : World} {g B : Nat} {t : TypeId} {cs : Array Value}
theorem Bx.lt (h : Bx w g t cs) : g < w.heap.size := by
  rcases Nat.lt_or_ge g w.heap.size with hlt | hge
  · exact hlt
  · unfold Bx at h; rw [Array.getElem?_eq_none hge] at h; cases h
theorem Bx.cell (h : Bx w g t cs) (i : Nat) : w.cell? ⟨g, i, none⟩ = cs[i]? := cell_of_row w g i cs t (0, 0) h
theorem Bx.frozen (h : Bx w g t cs) (i : Nat) : w.frozen? ⟨g, i, none⟩ = false := by
  unfold Bx at h
  simp [World.frozen?, h]
theorem Bx.new (w : World) (t : TypeId) (cs : Array Value) : Bx (w.alloc (.cells cs t)) w.heap.size t cs := heap_alloc_new w _
theorem Bx.drewN (h : Bx w g t cs) (n : Nat) : Bx (w.drewN n) g t cs := h
theorem Bx.alloc (h : Bx w g t cs) (o : Obj) : Bx (w.alloc o) g t cs := (Below.heap_alloc w o g h.lt).trans h
theorem Bx.far (h : Bx w g t cs) {p : Addr} (hp : g ≠ p.block) (u : Value) : Bx (w.setCell p u) g t cs := (Below.heap_setCell w p u g hp).trans h
theorem Bx.up (h : Bx w g t cs) (hb : Below B w w') (hg : g < B) : Bx w' g t cs := (hb.block g hg).trans h
theorem Bx.set_ (h : Bx w g t cs) (i : Nat) (u : Value) : Bx (w.setCell ⟨g, i, none⟩ u) g t (cs.setIfInBounds i u) := by
  unfold Bx at h ⊢
  simp [World.setCell, Array.getElem?_modify, h]
theorem Bx.of_new (hB : Below (w.heap.size + 1) (w.alloc (.cells cs t)) w') : Bx w' w.heap.size t cs := (Bx.new w t cs).up hB (by omega)
theorem Bx.c1 {x : Value} (h : Bx w g t #[x]) : w.cell? ⟨g, 0, none⟩ = some x ∧ w.frozen? ⟨g, 0, none⟩ = false ∧ g < w.heap.size := ⟨h.cell 0, h.frozen 0, h.lt⟩
theorem Bx.c2 {x y : Value} (h : Bx w g t #[x, y]) : w.cell? ⟨g, 0, none⟩ = some x ∧ w.cell? ⟨g, 1, none⟩ = some y ∧ w.frozen? ⟨g, 0, none⟩ = false ∧ w.frozen? ⟨g, 1, none⟩ = false ∧ g < w.heap.size :=
  ⟨h.cell 0, h.cell 1, h.frozen 0, h.frozen 1, h.lt⟩
theorem Bx.c3 {x y z : Value} (h : Bx w g t #[x, y, z]) : w.cell? ⟨g, 0, none⟩ = some x ∧ w.cell? ⟨g, 1, none⟩ = some y ∧ w.cell? ⟨g, 2, none⟩ = some z ∧
    w.frozen? ⟨g, 0, none⟩ = false ∧ w.frozen? ⟨g, 1, none⟩ = false ∧ w.frozen? ⟨g, 2, none⟩ = false ∧ g < w.heap.size :=
  ⟨h.cell 0, h.cell 1, h.cell 2, h.frozen 0, h.frozen 1, h.frozen 2, h.lt⟩
theorem Bx.c6 {x0 x1 x2 x3 x4 x5 : Value} (h : Bx w g t #[x0, x1, x2, x3, x4, x5]) : w.cell? ⟨g, 0, none⟩ = some x0 ∧ w.cell? ⟨g, 1, none⟩ = some x1 ∧ w.cell? ⟨g, 2, none⟩ = some x2 ∧
    w.cell? ⟨g, 3, none⟩ = some x3 ∧ w.cell? ⟨g, 4, none⟩ = some x4 ∧ w.cell? ⟨g, 5, none⟩ = some x5 ∧ (∀ i, w.frozen? ⟨g, i, none⟩ = false) ∧ g < w.heap.size :=
  ⟨h.cell 0, h.cell 1, h.cell 2, h.cell 3, h.cell 4, h.cell 5, h.frozen, h.lt⟩
end
/-- What was laid just before a call, and what the call leaves: the caller's own memory is as it was. -/
theorem below_call {w w1 : World} {o : Obj} (hB : Below (w.heap.size + 1) (w.alloc o) w1) : Below w.heap.size w w1 := ((Below.refl _ _).alloc (Nat.le_refl _) _).trans (hB.mono (by omega))

/-! append of one new element onto a row of the call's own -/
theorem news_new (w : World) (cs : List Value) (t : TypeId) : ∀ j u, cs[j]? = some u → (w.alloc (.cells cs.toArray t)).cell? ((⟨w.heap.size, 0, none⟩ : Addr).add j) = some u := by
  intro j u hu
  have e : (⟨w.heap.size, 0, none⟩ : Addr).add j = ⟨w.heap.size, j, none⟩ := by unfold Addr.add; split <;> simp_all
  rw [e, (Bx.new w t cs.toArray).cell j]
  simpa using hu
theorem below_append {H : Nat} {w wr w1 : World} {e : TypeId} {sz n : Nat} {v : Value} {xs : List Value} {o : Obj} (hB : Below H w wr) (hH : H ≤ wr.heap.size) (hown : wr.ownsRow H e sz v n xs) (hg : (wr.alloc o).grownBy w1 v.ownBlock) : Below H w w1 :=
  (hB.alloc hH _).grown hg (le_alloc_ hH) (fun k hk => (hown.lt k hk).1)
theorem below_append0 {H : Nat} {w wr w1 : World} {e : TypeId} {sz n : Nat} {v : Value} {xs : List Value} (hB : Below H w wr) (hH : H ≤ wr.heap.size) (hown : wr.ownsRow H e sz v n xs) (hg : wr.grownBy w1 v.ownBlock) : Below H w w1 :=
  hB.grown hg hH (fun k hk => (hown.lt k hk).1)
/-- Another block than the row's own is as it was. -/
theorem Bx.grown {w w' : World} {g : Nat} {t : TypeId} {cs : Array Value} {row : Option Nat} (h : Bx w g t cs) (hb : w.grownBy w' row) (hg : some g ≠ row) : Bx w' g t cs := (hb.block g h.lt hg).trans h
theorem own_ne {w : World} {H g : Nat} {e : TypeId} {sz n : Nat} {v : Value} {xs : List Value} (hown : w.ownsRow H e sz v n xs) (hg : g < H) : some g ≠ v.ownBlock := fun h => by
  have := (hown.lt g h.symm).1; omega
theorem own_slice {w : World} {H : Nat} {e : TypeId} {sz n : Nat} {v : Value} {xs : List Value} (hown : w.ownsRow H e sz v n xs) : ∃ A c, v = .slice A n c := by
  rcases hown.2 with ⟨rfl, rfl⟩ | ⟨g, cap, cur, rfl, _⟩
  · exact ⟨none, 0, rfl⟩
  · exact ⟨_, _, rfl⟩
theorem own_below {w w' : World} {H B : Nat} {e : TypeId} {sz n : Nat} {v : Value} {xs : List Value} (h : w.ownsRow H e sz v n xs) (hb : Below B w w') (hB : w.heap.size ≤ B) : w'.ownsRow H e sz v n xs := by
  refine ⟨h.1, ?_⟩
  rcases h.2 with hn | ⟨g, cap, cur, hv, hb1, hgg, rest⟩
  · exact .inl hn
  · exact .inr ⟨g, cap, cur, hv, hb1, (hb.block g (by have := (Array.getElem?_eq_some_iff.1 hgg).1; omega)).trans hgg, rest⟩
theorem flat_snoc {α : Type} (f : α → List Value) (l : List α) (x : α) : (l ++ [x]).flatMap f = l.flatMap f ++ f x := by simp

def En.ok (e : En) : Prop := -9223372036854775808 ≤ e.a ∧ e.a ≤ 9223372036854775807 ∧ e.v < 18446744073709551616
def Bk.ok (b : Bk) : Prop := (-9223372036854775808 ≤ b.at_ ∧ b.at_ ≤ 9223372036854775807) ∧ (-9223372036854775808 ≤ b.size ∧ b.size ≤ 9223372036854775807) ∧
  (-9223372036854775808 ≤ b.kind ∧ b.kind ≤ 9223372036854775807) ∧ (-9223372036854775808 ≤ b.typ ∧ b.typ ≤ 9223372036854775807) ∧ b.next < 18446744073709551616

/-- A change that lies in a slice of changes: its value's parts, and its entries. -/
structure Ch where
  A : Option Addr
  c : Nat
  l : List En
  deriving Inhabited
def Ch.cells (x : Ch) : List Value := [.slice x.A x.l.length x.c]
def Ch.ok (w : World) (x : Ch) : Prop := x.l.length ≤ maxLen ∧ RdE w w.heap.size x.A x.l ∧ ∀ e ∈ x.l, e.ok
def RdC (w : World) (B : Nat) (A : Option Addr) (l : List Ch) : Prop := Rd w B A (l.flatMap Ch.cells)
theorem Ch.len (x : Ch) : x.cells.length = 1 := rfl
theorem RdC.at_ {w : World} {B : Nat} {A : Option Addr} {l : List Ch} (h : RdC w B A l) {k : Nat} (hk : k < l.length) :
    ∃ b off, A = some ⟨b, off, none⟩ ∧ b < B ∧ w.cell? ⟨b, off + k, none⟩ = some (.slice l[k].A l[k].l.length l[k].c) := by
  obtain ⟨b, off, e, hb, hc⟩ := Rd.at_flat Ch.len h (by omega) hk
  have := hc 0 (by omega)
  simp only [Nat.mul_one, Nat.add_zero] at this
  exact ⟨b, off, e, hb, this⟩
def addrs (l : List En) : List Int := l.map En.a
theorem addrs_len (l : List En) : (addrs l).length = l.length := by simp [addrs]
theorem addrs_get (l : List En) (k : Nat) (h : k < l.length) : (addrs l)[k]?.getD 0 = l[k].a := by simp [addrs, h]
theorem own_mono {w : World} {H M : Nat} {e : TypeId} {sz n : Nat} {v : Value} {xs : List Value} (h : w.ownsRow M e sz v n xs) (hH : H ≤ M) : w.ownsRow H e sz v n xs := by
  refine ⟨h.1, ?_⟩
  rcases h.2 with hn | ⟨g, cap, cur, hv, hb1, rest⟩
  · exact .inl hn
  · exact .inr ⟨g, cap, cur, hv, by omega, rest⟩
theorem own_sep {w : World} {H H' : Nat} {e e' : TypeId} {sz sz' n n' : Nat} {v v' : Value} {xs xs' : List Value} (h : w.ownsRow H e sz v n xs) (h' : w.ownsRow H' e' sz' v' n' xs') (hne : e ≠ e') : v.ownBlock = none ∨ v.ownBlock ≠ v'.ownBlock := by
  rcases h.2 with ⟨rfl, _⟩ | ⟨g, cap, cur, rfl, _, hg, _⟩
  · exact .inl rfl
  · right
    rcases h'.2 with ⟨rfl, _⟩ | ⟨g', cap', cur', rfl, _, hg', _⟩
    · simp [Value.ownBlock]
    · simp only [Value.ownBlock, ne_eq, Option.some.injEq]
      rintro rfl
      rw [hg] at hg'
      simp only [Option.some.injEq, Obj.cells.injEq] at hg'
      exact hne hg'.2.1
/-- What stands in front of a part of a list, one more. -/
theorem drop_rev {α : Type} (l : List α) (m : Nat) (h : m < l.length) : (l.drop m).reverse = (l.drop (m + 1)).reverse ++ [l[m]] := by
  rw [List.drop_eq_getElem_cons h, List.reverse_cons]
theorem flat1_take {α : Type} (f : α → List Value) (hf : ∀ x, (f x).length = 1) (l : List α) (n : Nat) : (l.take n).flatMap f = (l.flatMap f).take n := by
  induction l generalizing n with
  | nil => simp
  | cons x l ih =>
    have hx := hf x
    match hfx : f x, hx with
    | [u], _ =>
      cases n with
      | zero => simp
      | succ n => simp [List.flatMap_cons, hfx, ih]
theorem flat1_drop {α : Type} (f : α → List Value) (hf : ∀ x, (f x).length = 1) (l : List α) (n : Nat) : (l.drop n).flatMap f = (l.flatMap f).drop n := by
  induction l generalizing n with
  | nil => simp
  | cons x l ih =>
    have hx := hf x
    match hfx : f x, hx with
    | [u], _ =>
      cases n with
      | zero => simp
      | succ n => simp [List.flatMap_cons, hfx, ih]
/-- The address of a part of a slice, as the model has it. -/
theorem Rd.cut {w : World} {B : Nat} {A : Option Addr} {xs : List Value} (h : Rd w B A xs) (k c : Nat) (hc : xs.length ≤ c) : Rd w B (if c = k then A else A.map (·.add k)) (xs.drop k) := by
  by_cases e : c = k
  · rw [if_pos e]
    intro hn
    exact absurd (List.drop_eq_nil_of_le (by omega)) hn
  · rw [if_neg e]
    exact h.drop_ k
/-- Entries that a call made, and an error: the result of many functions. -/
def EnRes (H : Nat) (err : Int) (out : List En) (e : Ending) (w' : World) : Prop := ∃ A c, e = .returned (.tuple #[.slice A out.length c, .int .i64 err]) ∧ w'.ownsRow H 53 2 (.slice A out.length c) out.length (out.flatMap En.cells)
theorem enRes_no {H : Nat} {err r : Int} {out : List En} {w' : World} (h1 : err = r) (h2 : out = []) : EnRes H err out (.returned (.tuple #[.slice none 0 0, .int .i64 r])) w' := by
  subst h1 h2
  exact ⟨none, 0, rfl, World.ownsRow_nil _ _ _ _⟩
theorem EnRes.old {H : Nat} {err : Int} {out : List En} {e : Ending} {w' : World} (h : EnRes H err out e w') : ∃ A c, e = .returned (.tuple #[.slice A out.length c, .int .i64 err]) ∧ RdE w' w'.heap.size A out ∧ out.length ≤ c := by
  obtain ⟨A, c, h1, h2⟩ := h
  refine ⟨A, c, h1, Rd.of_own h2, ?_⟩
  rcases h2.2 with ⟨h3, hnil⟩ | ⟨g, cap, cur, h3, _, _, hle, _⟩
  · simp only [Value.slice.injEq] at h3
    omega
  · simp only [Value.slice.injEq] at h3
    omega
end Go.Proofs.YtoaepffpjoibaaaGreat

namespace Go.Proofs.YtoaepffpjoibaaaGreat
def gk (l : List Bk) (k : Nat) : Bk := l[k]?.getD default
theorem gk_get (l : List Bk) (k : Nat) (h : k < l.length) : gk l k = l[k] := by simp [gk, h]
def bkOk (b : Bk) : Bool := (b.kind == 1 || b.kind == 2) && ((decide (2 ≤ b.size) && (decide (b.size ≤ 2048) && b.size % 2 == 0)) && (decide (128 ≤ b.at_) && (b.at_ % 2 == 0 && decide (b.at_ ≤ 2048 - b.size))))
/-- Where the block behind the first k ones must stand. -/
def rowNext (l : List Bk) : Nat → Int
  | 0 => 128
  | k + 1 => (gk l k).at_ + (gk l k).size
/-- Whether the first k blocks are right. -/
def rowPre (l : List Bk) : Nat → Bool
  | 0 => true
  | k + 1 => rowPre l k && (bkOk (gk l k) && (decide (k = 0) || (gk l k).at_ == rowNext l k))
def rowOk (l : List Bk) : Bool := decide (l.length ≤ 1024) && rowPre l l.length
def rowErr (l : List Bk) : Int := if rowOk l then 0 else 8
theorem rowPre_mono {l : List Bk} {k n : Nat} (h : rowPre l n = true) (hk : k ≤ n) : rowPre l k = true := by
  induction n with
  | zero => have : k = 0 := by omega
            subst this; exact h
  | succ n ih =>
    rcases Nat.lt_or_ge k (n + 1) with h1 | h1
    · simp only [rowPre, Bool.and_eq_true] at h
      exact ih h.1 (by omega)
    · have : k = n + 1 := by omega
      subst this; exact h
theorem rowPre_at {l : List Bk} {k n : Nat} (h : rowPre l n = true) (hk : k < n) : bkOk (gk l k) = true ∧ (k = 0 ∨ (gk l k).at_ = rowNext l k) := by
  have := rowPre_mono h (show k + 1 ≤ n from hk)
  simp only [rowPre, Bool.and_eq_true, Bool.or_eq_true, decide_eq_true_eq, beq_iff_eq] at this
  exact this.2
theorem rowErr_many {l : List Bk} (h : 1024 < l.length) : rowErr l = 8 := by
  have : ¬ l.length ≤ 1024 := by omega
  simp [rowErr, rowOk, this]
theorem rowErr_bad {l : List Bk} {k : Nat} (h : rowPre l k = false) (hk : k ≤ l.length) : rowErr l = 8 := by
  have : rowPre l l.length = false := by
    cases hn : rowPre l l.length with
    | false => rfl
    | true => rw [rowPre_mono hn hk] at h; cases h
  simp [rowErr, rowOk, this]
theorem rowErr_ok {l : List Bk} (h : l.length ≤ 1024) (hk : rowPre l l.length = true) : rowErr l = 0 := by
  simp [rowErr, rowOk, h, hk]
theorem rowErr_zero {l : List Bk} (h : rowErr l = 0) : l.length ≤ 1024 ∧ rowPre l l.length = true := by
  unfold rowErr rowOk at h
  split at h
  · rename_i h1
    simpa using h1
  · simp at h
theorem rowErr_val (l : List Bk) : rowErr l = 0 ∨ rowErr l = 8 := by unfold rowErr; split <;> simp
theorem bkOk_iff (b : Bk) : bkOk b = true ↔ (b.kind = 1 ∨ b.kind = 2) ∧ 2 ≤ b.size ∧ b.size ≤ 2048 ∧ b.size % 2 = 0 ∧ 128 ≤ b.at_ ∧ b.at_ % 2 = 0 ∧ b.at_ ≤ 2048 - b.size := by
  simp only [bkOk, Bool.and_eq_true, Bool.or_eq_true, beq_iff_eq, decide_eq_true_eq]
  constructor
  · rintro ⟨h1, ⟨h2, h3, h4⟩, h5, h6, h7⟩; exact ⟨h1, h2, h3, h4, h5, h6, h7⟩
  · rintro ⟨h1, h2, h3, h4, h5, h6, h7⟩; exact ⟨h1, ⟨h2, h3, h4⟩, h5, h6, h7⟩
theorem rowPre_no {l : List Bk} {k : Nat} (h : bkOk (gk l k) = false) : rowPre l (k + 1) = false := by simp [rowPre, h]
theorem rowPre_gap {l : List Bk} {k : Nat} (h0 : k ≠ 0) (h : (gk l k).at_ ≠ rowNext l k) : rowPre l (k + 1) = false := by
  have : ((gk l k).at_ == rowNext l k) = false := by rw [beq_eq_false_iff_ne]; exact h
  simp [rowPre, this, h0]
theorem rowPre_yes {l : List Bk} {k : Nat} (hp : rowPre l k = true) (h : bkOk (gk l k) = true) (hn : k = 0 ∨ (gk l k).at_ = rowNext l k) : rowPre l (k + 1) = true := by
  rcases hn with h1 | h1
  · subst h1; simp [rowPre, h]
  · simp [rowPre, hp, h, h1]
theorem rowNext_bd {l : List Bk} {k : Nat} (h : rowPre l k = true) : 128 ≤ rowNext l k ∧ rowNext l k ≤ 2048 := by
  cases k with
  | zero => simp [rowNext]
  | succ k =>
    obtain ⟨h1, _⟩ := rowPre_at h (Nat.lt_succ_self k)
    have := (bkOk_iff _).1 h1
    simp only [rowNext]; omega

def liveB (b : Bk) : Bool := b.kind == 1 && b.mark
/-- The places of a row's blocks from a start on. -/
def placesOf : List Bk → Int → List Int
  | [], _ => []
  | b :: l, s => if liveB b then s :: placesOf l (s + b.size) else 0 :: placesOf l s
def endOf : List Bk → Int → Int
  | [], s => s
  | b :: l, s => if liveB b then endOf l (s + b.size) else endOf l s
def gapsOf : List Bk → Int
  | [] => 0
  | b :: l => if liveB b then gapsOf l else b.size + gapsOf l
def most (l : List Bk) : Int := if l.length = 0 then 2048 else (gk l 0).at_
/-- The error of a row and a start. -/
def stErr (l : List Bk) (s : Int) : Int := if rowErr l = 0 then (if s < 128 then 2 else if most l < s then 2 else if s % 2 = 0 then 0 else 2) else 8
theorem placesOf_len (l : List Bk) (s : Int) : (placesOf l s).length = l.length := by
  induction l generalizing s with
  | nil => rfl
  | cons b l ih => simp only [placesOf]; split <;> simp [ih]
theorem endOf_append (a b : List Bk) (s : Int) : endOf (a ++ b) s = endOf b (endOf a s) := by
  induction a generalizing s with
  | nil => rfl
  | cons x a ih => simp only [List.cons_append, endOf]; split <;> exact ih _
theorem placesOf_append (a b : List Bk) (s : Int) : placesOf (a ++ b) s = placesOf a s ++ placesOf b (endOf a s) := by
  induction a generalizing s with
  | nil => rfl
  | cons x a ih => simp only [List.cons_append, placesOf, endOf]; split <;> simp [ih]
theorem gapsOf_append (a b : List Bk) : gapsOf (a ++ b) = gapsOf a + gapsOf b := by
  induction a with
  | nil => simp [gapsOf]
  | cons x a ih => simp only [List.cons_append, gapsOf]; split <;> omega
theorem endOf_take {l : List Bk} {k : Nat} (h : k < l.length) (s : Int) : endOf (l.take (k + 1)) s = if liveB l[k] then endOf (l.take k) s + l[k].size else endOf (l.take k) s := by
  rw [List.take_succ_eq_append_getElem h, endOf_append]; rfl
theorem placesOf_take {l : List Bk} {k : Nat} (h : k < l.length) (s : Int) : placesOf (l.take (k + 1)) s = placesOf (l.take k) s ++ [if liveB l[k] then endOf (l.take k) s else 0] := by
  rw [List.take_succ_eq_append_getElem h, placesOf_append]
  simp only [placesOf]; split <;> rfl
theorem gapsOf_take {l : List Bk} {k : Nat} (h : k < l.length) : gapsOf (l.take (k + 1)) = if liveB l[k] then gapsOf (l.take k) else gapsOf (l.take k) + l[k].size := by
  rw [List.take_succ_eq_append_getElem h, gapsOf_append]
  simp only [gapsOf]; split <;> omega
/-- How many words the first k blocks have. -/
def sumSz (l : List Bk) (k : Nat) : Int := if k = 0 then 0 else rowNext l k - (gk l 0).at_
theorem rowPre_sum {l : List Bk} {k : Nat} (h : rowPre l k = true) (hk : k ≤ l.length) (s : Int) : 0 ≤ endOf (l.take k) s - s ∧ 0 ≤ gapsOf (l.take k) ∧ (endOf (l.take k) s - s) + gapsOf (l.take k) = sumSz l k ∧ sumSz l k ≤ 1920 := by
  induction k with
  | zero => simp [endOf, gapsOf, sumSz]
  | succ k ih =>
    have hlt : k < l.length := by omega
    obtain ⟨i1, i2, i3, i4⟩ := ih (rowPre_mono h (Nat.le_succ k)) (by omega)
    obtain ⟨hb, hc⟩ := rowPre_at h (Nat.lt_succ_self k)
    have hb := (bkOk_iff _).1 hb
    have hb0 := (bkOk_iff _).1 (rowPre_at h (Nat.succ_pos k)).1
    rw [endOf_take hlt, gapsOf_take hlt]
    have e : sumSz l (k + 1) = sumSz l k + (gk l k).size := by
      unfold sumSz
      rw [if_neg (Nat.succ_ne_zero k), show rowNext l (k + 1) = (gk l k).at_ + (gk l k).size from rfl]
      by_cases h0 : k = 0
      · subst h0; rw [if_pos rfl]; omega
      · rw [if_neg h0]
        rcases hc with hc | hc
        · exact absurd hc h0
        · omega
    have e2 : sumSz l (k + 1) ≤ 1920 := by
      unfold sumSz
      rw [if_neg (Nat.succ_ne_zero k), show rowNext l (k + 1) = (gk l k).at_ + (gk l k).size from rfl]
      omega
    rw [e] at e2 ⊢
    rw [← gk_get l k hlt]
    split <;> omega
theorem most_bd {l : List Bk} (h : rowErr l = 0) : most l ≤ 2048 := by
  unfold most
  split
  · omega
  · have := (bkOk_iff _).1 (rowPre_at (rowErr_zero h).2 (show 0 < l.length by omega)).1
    omega
/-- With a right row and a right start the end lies in the heap. -/
theorem endOf_bd {l : List Bk} {k : Nat} (h : rowErr l = 0) (hk : k ≤ l.length) {s : Int} (hs : 128 ≤ s) (hm : s ≤ most l) : 128 ≤ endOf (l.take k) s ∧ endOf (l.take k) s ≤ 2048 := by
  obtain ⟨h1, h2⟩ := rowErr_zero h
  have hmb := most_bd h
  obtain ⟨i1, i2, i3, i4⟩ := rowPre_sum (rowPre_mono h2 hk) hk s
  refine ⟨by omega, ?_⟩
  by_cases h0 : k = 0
  · subst h0; simp [endOf]; omega
  · have hn := (rowNext_bd (rowPre_mono h2 hk)).2
    have hl : l.length ≠ 0 := by omega
    simp only [sumSz, h0, if_false] at i3
    simp only [most, hl, if_false] at hm
    omega
theorem gapsOf_bd {l : List Bk} {k : Nat} (h : rowErr l = 0) (hk : k ≤ l.length) : 0 ≤ gapsOf (l.take k) ∧ gapsOf (l.take k) ≤ 1920 := by
  obtain ⟨i1, i2, i3, i4⟩ := rowPre_sum (rowPre_mono (rowErr_zero h).2 hk) hk 0
  omega
/-- The ways in which a block is wrong, in the order in which the functions look. -/
theorem bk_ways (b : Bk) : (b.kind ≠ 1 ∧ b.kind ≠ 2) ∨ ((b.kind = 1 ∨ b.kind = 2) ∧ (b.size < 2 ∨ (2 ≤ b.size ∧ 2048 < b.size) ∨ ((2 ≤ b.size ∧ b.size ≤ 2048) ∧ b.size % 2 = 1) ∨ ((2 ≤ b.size ∧ b.size ≤ 2048) ∧ b.size % 2 = 0 ∧
    (b.at_ < 128 ∨ (128 ≤ b.at_ ∧ 2048 < b.at_) ∨ ((128 ≤ b.at_ ∧ b.at_ ≤ 2048) ∧ b.at_ % 2 = 1) ∨ ((128 ≤ b.at_ ∧ b.at_ ≤ 2048) ∧ b.at_ % 2 = 0 ∧ (2048 - b.size < b.at_ ∨ b.at_ ≤ 2048 - b.size)))))) := by omega

theorem rowPre_of {l : List Bk} {k : Nat} {xa xs xk xt nx : Int} {xm : Bool} {xn : Nat} (hx : gk l k = ⟨xa, xs, xk, xt, xm, xn⟩) (hn : rowNext l k = nx)
    (h : ¬ ((xk = 1 ∨ xk = 2) ∧ 2 ≤ xs ∧ xs ≤ 2048 ∧ xs % 2 = 0 ∧ 128 ≤ xa ∧ xa % 2 = 0 ∧ xa ≤ 2048 - xs ∧ (k = 0 ∨ xa = nx))) : rowPre l (k + 1) = false := by
  by_cases hb : bkOk (gk l k) = true
  · have h1 := (bkOk_iff _).1 hb
    rw [hx] at h1
    dsimp only at h1
    refine rowPre_gap (by omega) ?_
    rw [hx, hn]
    dsimp only
    omega
  · exact rowPre_no (by cases hq : bkOk (gk l k) <;> simp_all)
theorem rowPre_good {l : List Bk} {k : Nat} {xa xs xk xt nx : Int} {xm : Bool} {xn : Nat} (hx : gk l k = ⟨xa, xs, xk, xt, xm, xn⟩) (hn : rowNext l k = nx) (hp : rowPre l k = true)
    (h : (xk = 1 ∨ xk = 2) ∧ 2 ≤ xs ∧ xs ≤ 2048 ∧ xs % 2 = 0 ∧ 128 ≤ xa ∧ xa % 2 = 0 ∧ xa ≤ 2048 - xs ∧ (k = 0 ∨ xa = nx)) : rowPre l (k + 1) = true := by
  refine rowPre_yes hp ((bkOk_iff _).2 ?_) ?_
  · rw [hx]; dsimp only; omega
  · rw [hx, hn]; dsimp only; omega
end Go.Proofs.YtoaepffpjoibaaaGreat

namespace Go.Proofs.YtoaepffpjoibaaaGreat
theorem stErr_8 {l : List Bk} {s : Int} (h : rowErr l ≠ 0) : stErr l s = rowErr l := by
  rcases rowErr_val l with h1 | h1
  · exact absurd h1 h
  · simp [stErr, h1]
theorem stErr_2 {l : List Bk} {s : Int} (h : rowErr l = 0) (h2 : s < 128 ∨ most l < s ∨ s % 2 ≠ 0) : stErr l s = 2 := by
  unfold stErr
  rw [if_pos h]
  by_cases a : s < 128
  · rw [if_pos a]
  · rw [if_neg a]
    by_cases b : most l < s
    · rw [if_pos b]
    · rw [if_neg b, if_neg (by omega)]
theorem stErr_0 {l : List Bk} {s : Int} (h : rowErr l = 0) (h2 : 128 ≤ s ∧ s ≤ most l ∧ s % 2 = 0) : stErr l s = 0 := by
  unfold stErr
  rw [if_pos h, if_neg (by omega), if_neg (by omega), if_pos h2.2.2]
theorem stErr_zero {l : List Bk} {s : Int} (h : stErr l s = 0) : rowErr l = 0 ∧ 128 ≤ s ∧ s ≤ most l ∧ s % 2 = 0 := by
  unfold stErr at h
  split at h
  · split at h
    · simp at h
    · split at h
      · simp at h
      · split at h
        · exact ⟨by assumption, by omega, by omega, by assumption⟩
        · simp at h
  · simp at h
end Go.Proofs.YtoaepffpjoibaaaGreat

namespace Go.Proofs.YtoaepffpjoibaaaGreat

theorem rowNext_end {l : List Bk} (h : rowErr l = 0) {s : Int} (hm : s ≤ most l) {k : Nat} (hk : k < l.length) : endOf (l.take k) s ≤ (gk l k).at_ := by
  obtain ⟨h1, h2⟩ := rowErr_zero h
  obtain ⟨i1, i2, i3, i4⟩ := rowPre_sum (rowPre_mono h2 (Nat.le_of_lt hk)) (Nat.le_of_lt hk) s
  have hl : l.length ≠ 0 := by omega
  simp only [most, hl, if_false] at hm
  by_cases h0 : k = 0
  · subst h0; simp [endOf]; exact hm
  · simp only [sumSz, h0, if_false] at i3
    rcases (rowPre_at h2 hk).2 with h3 | h3
    · exact absurd h3 h0
    · omega
theorem row_last {l : List Bk} (h : rowErr l = 0) {s : Int} (hm : s ≤ most l) (hk : 0 < l.length) :
    endOf l s ≤ (gk l (l.length - 1)).at_ + (gk l (l.length - 1)).size ∧ (s = (gk l 0).at_ → (gk l (l.length - 1)).at_ + (gk l (l.length - 1)).size - endOf l s = gapsOf l) ∧
      128 ≤ (gk l (l.length - 1)).at_ + (gk l (l.length - 1)).size ∧ (gk l (l.length - 1)).at_ + (gk l (l.length - 1)).size ≤ 2048 := by
  obtain ⟨h1, h2⟩ := rowErr_zero h
  obtain ⟨i1, i2, i3, i4⟩ := rowPre_sum h2 (Nat.le_refl _) s
  rw [List.take_length] at i1 i2 i3
  have hl : l.length ≠ 0 := by omega
  simp only [most, hl, if_false] at hm
  simp only [sumSz, hl, if_false] at i3
  have hb := rowNext_bd h2
  obtain ⟨m, hm2⟩ : ∃ m, l.length = m + 1 := ⟨l.length - 1, by omega⟩
  rw [hm2] at i3 hb ⊢
  simp only [rowNext, Nat.add_sub_cancel] at *
  refine ⟨by omega, fun he => by omega, by omega, by omega⟩
theorem placesOf_at {l : List Bk} {s : Int} {k : Nat} (hk : k < l.length) : (placesOf l s)[k]? = some (if liveB (gk l k) then endOf (l.take k) s else 0) := by
  have h1 := placesOf_take hk s
  have h2 : placesOf l s = placesOf (l.take (k + 1)) s ++ placesOf (l.drop (k + 1)) (endOf (l.take (k + 1)) s) := by rw [← placesOf_append, List.take_append_drop]
  have h3 : (placesOf (l.take k) s).length = k := by rw [placesOf_len, List.length_take]; omega
  rw [h2, h1, List.append_assoc, List.getElem?_append_right (by omega), h3, gk_get l k hk]
  simp

/-- Two blocks that do not differ for rows. -/
def bkSame (a b : Bk) : Prop := bkOk a = bkOk b ∧ a.at_ = b.at_ ∧ a.size = b.size ∧ liveB a = liveB b
theorem gk_set (l : List Bk) (i : Nat) (b : Bk) (k : Nat) : gk (l.set i b) k = if i = k ∧ i < l.length then b else gk l k := by
  unfold gk
  by_cases h : i = k
  · subst h
    by_cases h2 : i < l.length
    · simp [h2]
    · simp [h2]
  · simp [h]
theorem rowNext_set {l : List Bk} {i : Nat} {b : Bk} (h : bkSame (gk l i) b) (k : Nat) : rowNext (l.set i b) k = rowNext l k := by
  cases k with
  | zero => rfl
  | succ k =>
    simp only [rowNext, gk_set]
    split
    · rename_i h2; obtain ⟨rfl, _⟩ := h2; rw [← h.2.1, ← h.2.2.1]
    · rfl
theorem rowPre_set {l : List Bk} {i : Nat} {b : Bk} (h : bkSame (gk l i) b) (k : Nat) : rowPre (l.set i b) k = rowPre l k := by
  induction k with
  | zero => rfl
  | succ k ih =>
    simp only [rowPre, ih, rowNext_set h, gk_set]
    split
    · rename_i h2; obtain ⟨rfl, _⟩ := h2; rw [← h.1, ← h.2.1]
    · rfl
theorem rowErr_set {l : List Bk} {i : Nat} {b : Bk} (h : bkSame (gk l i) b) : rowErr (l.set i b) = rowErr l := by
  unfold rowErr rowOk
  rw [List.length_set, rowPre_set h]
theorem most_set {l : List Bk} {i : Nat} {b : Bk} (h : bkSame (gk l i) b) : most (l.set i b) = most l := by
  simp only [most, List.length_set, gk_set]
  split
  · rfl
  · split
    · rename_i h2; obtain ⟨rfl, _⟩ := h2; exact h.2.1.symm
    · rfl
theorem stErr_set {l : List Bk} {i : Nat} {b : Bk} (h : bkSame (gk l i) b) (s : Int) : stErr (l.set i b) s = stErr l s := by
  simp only [stErr, rowErr_set h, most_set h]
theorem places_set : ∀ {l : List Bk} {i : Nat} {b : Bk}, bkSame (gk l i) b → ∀ s, placesOf (l.set i b) s = placesOf l s ∧ endOf (l.set i b) s = endOf l s ∧ gapsOf (l.set i b) = gapsOf l := by
  intro l
  induction l with
  | nil => intro i b _ s; simp
  | cons x l ih =>
    intro i b h s
    cases i with
    | zero =>
      have h : bkSame x b := h
      simp only [List.set_cons_zero, placesOf, endOf, gapsOf, ← h.2.2.2, ← h.2.2.1]
      exact ⟨trivial, trivial, trivial⟩
    | succ i =>
      have h : bkSame (gk l i) b := by simpa [gk] using h
      simp only [List.set_cons_succ, placesOf, endOf, gapsOf]
      obtain ⟨a1, a2, a3⟩ := ih h s
      obtain ⟨b1, b2, b3⟩ := ih h (s + x.size)
      rw [a1, a2, a3, b1, b2]
      exact ⟨rfl, rfl, rfl⟩

theorem gk_take (l : List Bk) (n k : Nat) (h : k < n) : gk (l.take n) k = gk l k := by
  simp [gk, h]
theorem rowNext_take (l : List Bk) (n k : Nat) (h : k ≤ n) : rowNext (l.take n) k = rowNext l k := by
  cases k with
  | zero => rfl
  | succ k => simp only [rowNext, gk_take l n k h]
theorem rowPre_take (l : List Bk) (n k : Nat) (h : k ≤ n) : rowPre (l.take n) k = rowPre l k := by
  induction k with
  | zero => rfl
  | succ k ih => simp only [rowPre, ih (by omega), gk_take l n k h, rowNext_take l n k (by omega)]
theorem rowErr_take {l : List Bk} (h : rowErr l = 0) {n : Nat} (hn : n ≤ l.length) : rowErr (l.take n) = 0 := by
  obtain ⟨h1, h2⟩ := rowErr_zero h
  have e : (l.take n).length = n := by rw [List.length_take]; omega
  refine rowErr_ok (by omega) ?_
  rw [e, rowPre_take l n n (Nat.le_refl _)]
  exact rowPre_mono h2 hn
theorem gk_drop (l : List Bk) (n k : Nat) : gk (l.drop n) k = gk l (n + k) := by simp [gk]
theorem rowPre_drop {l : List Bk} (n k : Nat) (h : rowPre l (n + k) = true) : rowPre (l.drop n) k = true := by
  induction k with
  | zero => rfl
  | succ k ih =>
    have h1 := ih (rowPre_mono h (by omega))
    obtain ⟨h2, h3⟩ := rowPre_at h (show n + k < n + (k + 1) by omega)
    refine rowPre_yes h1 (by rw [gk_drop]; exact h2) ?_
    rcases Nat.eq_zero_or_pos k with h0 | h0
    · exact .inl h0
    · right
      rcases h3 with h3 | h3
      · omega
      · obtain ⟨m, rfl⟩ : ∃ m, k = m + 1 := ⟨k - 1, by omega⟩
        rw [gk_drop, h3]
        show rowNext l (n + m + 1) = _
        simp only [rowNext, gk_drop]
theorem rowErr_drop {l : List Bk} (h : rowErr l = 0) {n : Nat} (hn : n ≤ l.length) : rowErr (l.drop n) = 0 := by
  obtain ⟨h1, h2⟩ := rowErr_zero h
  refine rowErr_ok (by rw [List.length_drop]; omega) ?_
  rw [List.length_drop]
  exact rowPre_drop n _ (by rwa [show n + (l.length - n) = l.length by omega])
theorem endOf_even {l : List Bk} (h : rowErr l = 0) {s : Int} (hs : s % 2 = 0) {k : Nat} (hk : k ≤ l.length) : endOf (l.take k) s % 2 = 0 := by
  induction k with
  | zero => simpa [endOf] using hs
  | succ k ih =>
    have := ih (by omega)
    have hb := (bkOk_iff _).1 (rowPre_at (rowErr_zero h).2 (show k < l.length by omega)).1
    rw [endOf_take (by omega), ← gk_get l k (by omega)]
    split
    · omega
    · exact this
/-- The parts of a row, from a right start on. -/
theorem parts_ok {l : List Bk} {s : Int} (h : stErr l s = 0) {k : Nat} (hk : k ≤ l.length) :
    stErr (l.take k) s = 0 ∧ stErr (l.drop k) (endOf (l.take k) s) = 0 ∧ placesOf (l.take k) s ++ placesOf (l.drop k) (endOf (l.take k) s) = placesOf l s ∧ endOf (l.drop k) (endOf (l.take k) s) = endOf l s := by
  obtain ⟨h1, h2, h3, h4⟩ := stErr_zero h
  refine ⟨?_, ?_, ?_, ?_⟩
  · refine stErr_0 (rowErr_take h1 hk) ⟨h2, ?_, h4⟩
    unfold most at h3 ⊢
    split
    · have := most_bd h1
      unfold most at this
      omega
    · rename_i hn
      have : 0 < k := by
        rcases Nat.eq_zero_or_pos k with h0 | h0
        · subst h0; simp at hn
        · exact h0
      rw [gk_take l k 0 this]
      rw [if_neg (by intro e; apply hn; simp [e])] at h3
      exact h3
  · have hb := endOf_bd h1 hk h2 h3
    refine stErr_0 (rowErr_drop h1 hk) ⟨hb.1, ?_, endOf_even h1 h4 hk⟩
    unfold most
    split
    · exact hb.2
    · rename_i hn
      rw [List.length_drop] at hn
      rw [gk_drop]
      exact rowNext_end h1 h3 (by omega)
  · rw [← placesOf_append, List.take_append_drop]
  · rw [← endOf_append, List.take_append_drop]
end Go.Proofs.YtoaepffpjoibaaaGreat

namespace Go.Proofs.YtoaepffpjoibaaaGreat

/-! Sums -/
def fnvB (s b : Nat) : Nat := ((s ^^^ b) * 1099511628211) % 18446744073709551616
def byteOf (w i : Nat) : Nat := w / 256 ^ i % 256
/-- The state behind the first k bytes of a word. -/
def fnvN (s w : Nat) : Nat → Nat
  | 0 => s
  | k + 1 => fnvB (fnvN s w k) (byteOf w k)
def fnvW (s w : Nat) : Nat := fnvN s w 8
def sumFrom (s : Nat) : List Nat → Nat
  | [] => s
  | w :: l => sumFrom (fnvW s w) l
def sum1 (w : Nat) : Nat := fnvW 14695981039346656037 w
theorem byteOf_lt (w i : Nat) : byteOf w i < 256 := Nat.mod_lt _ (by omega)
theorem fnvB_lt (s b : Nat) : fnvB s b < 18446744073709551616 := Nat.mod_lt _ (by omega)
theorem fnvN_lt {s : Nat} (hs : s < 18446744073709551616) (w k : Nat) : fnvN s w k < 18446744073709551616 := by
  cases k with
  | zero => exact hs
  | succ k => exact fnvB_lt _ _
theorem fnvW_lt {s : Nat} (hs : s < 18446744073709551616) (w : Nat) : fnvW s w < 18446744073709551616 := fnvN_lt hs w 8
theorem sumFrom_lt {s : Nat} (hs : s < 18446744073709551616) (l : List Nat) : sumFrom s l < 18446744073709551616 := by
  induction l generalizing s with
  | nil => exact hs
  | cons w l ih => exact ih (fnvW_lt hs w)
theorem sumFrom_append (s : Nat) (a b : List Nat) : sumFrom s (a ++ b) = sumFrom (sumFrom s a) b := by
  induction a generalizing s with
  | nil => rfl
  | cons w a ih => exact ih _
theorem sumFrom_take {l : List Nat} {k : Nat} (h : k < l.length) (s : Nat) : sumFrom s (l.take (k + 1)) = fnvW (sumFrom s (l.take k)) l[k] := by
  rw [List.take_succ_eq_append_getElem h, sumFrom_append]; rfl
/-- The reference's step. -/
theorem xor_low (s b : Nat) (hb : b < 256) : s - s % 256 + ((s % 256) ^^^ b) = s ^^^ b := by
  have h1 : (s % 256) ^^^ b < 2 ^ 8 := Nat.xor_lt_two_pow (Nat.mod_lt _ (by omega)) hb
  have h2 : s - s % 256 = 2 ^ 8 * (s / 256) := by have := Nat.div_add_mod s 256; omega
  apply Nat.eq_of_testBit_eq
  intro j
  rw [h2, Nat.testBit_two_pow_mul_add _ h1, Nat.testBit_xor]
  split
  · rename_i hj
    rw [Nat.testBit_xor, show (256 : Nat) = 2 ^ 8 from rfl, Nat.testBit_mod_two_pow]
    simp [hj]
  · rename_i hj
    have hb2 : b.testBit j = false := Nat.testBit_lt_two_pow (Nat.lt_of_lt_of_le hb (by
      have : 2 ^ 8 ≤ 2 ^ j := Nat.pow_le_pow_right (by omega) (by omega)
      simpa using this))
    rw [Nat.testBit_xor, hb2, Bool.xor_false, show (256 : Nat) = 2 ^ 8 from rfl, ← Nat.shiftRight_eq_div_pow, Nat.testBit_shiftRight]
    congr 1; omega

/-! Headers -/
/-- Whether a block has a header. -/
def hdOk (b : Bk) : Bool := (decide (2 ≤ b.size) && b.size % 2 == 0) && ((b.kind == 1 && (decide (0 ≤ b.typ) && (decide (b.typ < 8) && decide (b.size ≤ 10)))) || (b.kind == 2 && (b.typ == 0 && (!b.mark && decide (b.size ≤ 1920)))))
theorem hdOk_iff (b : Bk) : hdOk b = true ↔ (2 ≤ b.size ∧ b.size % 2 = 0) ∧ (b.kind = 1 ∧ 0 ≤ b.typ ∧ b.typ < 8 ∧ b.size ≤ 10 ∨ b.kind = 2 ∧ b.typ = 0 ∧ b.mark = false ∧ b.size ≤ 1920) := by
  simp only [hdOk, Bool.and_eq_true, Bool.or_eq_true, beq_iff_eq, decide_eq_true_eq, Bool.not_eq_true']
def mk01 (m : Bool) : Nat := if m then 1 else 0
/-- The lower half of a header. -/
def lowOf (b : Bk) : Nat := b.kind.toNat + mk01 b.mark * 256 + b.typ.toNat * 512 + b.size.toNat * 65536
/-- The header of a block. -/
def headW (b : Bk) : Nat := lowOf b + sum1 (lowOf b) % 4294967296 * 4294967296
/-- The block that a word says, if it is a header. -/
def rawBk (w : Nat) : Bk := ⟨0, (w / 65536 % 65536 : Nat), (w % 256 : Nat), (w / 512 % 128 : Nat), w / 256 % 2 == 1, 0⟩
def splitOk (w : Nat) : Bool := hdOk (rawBk w) && headW (rawBk w) == w
theorem mk01_le (m : Bool) : mk01 m ≤ 1 := by cases m <;> simp [mk01]
theorem hdOk_bd {b : Bk} (h : hdOk b = true) : b.kind.toNat < 256 ∧ b.typ.toNat < 128 ∧ b.size.toNat < 65536 ∧ 0 ≤ b.kind ∧ 0 ≤ b.typ ∧ 0 ≤ b.size ∧ b.size ≤ 1920 := by
  have := (hdOk_iff b).1 h
  omega
theorem lowOf_lt {b : Bk} (h : hdOk b = true) : lowOf b < 4294967296 := by
  obtain ⟨h1, h2, h3, -⟩ := hdOk_bd h
  have := mk01_le b.mark
  unfold lowOf; omega
theorem headW_lt {b : Bk} (h : hdOk b = true) : headW b < 18446744073709551616 := by
  have h1 := lowOf_lt h
  have h2 : sum1 (lowOf b) % 4294967296 < 4294967296 := Nat.mod_lt _ (by omega)
  unfold headW; omega
theorem raw_head {b : Bk} (h : hdOk b = true) : rawBk (headW b) = ⟨0, b.size, b.kind, b.typ, b.mark, 0⟩ := by
  obtain ⟨h1, h2, h3, h4, h5, h6, h7⟩ := hdOk_bd h
  have hm := mk01_le b.mark
  unfold rawBk headW
  generalize sum1 (lowOf b) % 4294967296 = t
  have hl : lowOf b = b.kind.toNat + mk01 b.mark * 256 + b.typ.toNat * 512 + b.size.toNat * 65536 := rfl
  generalize lowOf b = q at *
  generalize hmm : mk01 b.mark = m at *
  have e1 : (q + t * 4294967296) / 65536 % 65536 = b.size.toNat := by omega
  have e2 : (q + t * 4294967296) % 256 = b.kind.toNat := by omega
  have e3 : (q + t * 4294967296) / 512 % 128 = b.typ.toNat := by omega
  have e4 : (q + t * 4294967296) / 256 % 2 = m := by omega
  rw [e1, e2, e3, e4]
  congr 1
  · omega
  · omega
  · omega
  · rw [← hmm]; cases b.mark <;> simp [mk01]
theorem head_congr {a b : Bk} (h1 : a.size = b.size) (h2 : a.kind = b.kind) (h3 : a.typ = b.typ) (h4 : a.mark = b.mark) : headW a = headW b ∧ hdOk a = hdOk b := by
  unfold headW lowOf hdOk
  rw [h1, h2, h3, h4]
  exact ⟨rfl, rfl⟩
theorem split_head {b : Bk} (h : hdOk b = true) : splitOk (headW b) = true := by
  unfold splitOk
  rw [raw_head h]
  have := head_congr (a := ⟨0, b.size, b.kind, b.typ, b.mark, 0⟩) (b := b) rfl rfl rfl rfl
  rw [this.1, this.2, h]; simp

/-! The blocks of a heap -/
def wd (ws : List Nat) (i : Nat) : Nat := ws[i]?.getD 0
/-- The block at an address. -/
def bkAt (ws : List Nat) (i : Nat) : Bk := { rawBk (wd ws i) with at_ := (i : Nat), next := wd ws (i + 1) }
def stands (ws : List Nat) (i : Nat) : Bool := splitOk (wd ws i) && decide ((rawBk (wd ws i)).size ≤ (ws.length : Int) - i)
def szAt (ws : List Nat) (i : Nat) : Nat := wd ws i / 65536 % 65536
/-- The blocks from an address on; none: they cannot be parsed. -/
def fromL (ws : List Nat) : Nat → Nat → Option (List Bk)
  | 0, i => if ws.length ≤ i then some [] else none
  | f + 1, i => if ws.length ≤ i then some [] else if stands ws i then (fromL ws f (i + szAt ws i)).map (bkAt ws i :: ·) else none
def blocks (ws : List Nat) (i : Nat) : Option (List Bk) := fromL ws ws.length i
theorem stands_sz {ws : List Nat} {i : Nat} (h : stands ws i = true) : 2 ≤ szAt ws i ∧ szAt ws i % 2 = 0 ∧ i + szAt ws i ≤ ws.length := by
  unfold stands splitOk at h
  simp only [Bool.and_eq_true, decide_eq_true_eq] at h
  obtain ⟨⟨h1, _⟩, h2⟩ := h
  have h3 := (hdOk_iff _).1 h1
  simp only [rawBk] at h2 h3
  unfold szAt
  omega
theorem fromL_more {ws : List Nat} {f i : Nat} (h : ws.length - i ≤ f) : ∀ {g : Nat}, ws.length - i ≤ g → fromL ws f i = fromL ws g i := by
  induction f generalizing i with
  | zero =>
    intro g _
    cases g with
    | zero => rfl
    | succ g => simp only [fromL]; rw [if_pos (by omega), if_pos (by omega)]
  | succ f ih =>
    intro g hg
    cases g with
    | zero => simp only [fromL]; rw [if_pos (by omega), if_pos (by omega)]
    | succ g =>
      simp only [fromL]
      split
      · rfl
      · split
        · rename_i hs
          have := stands_sz hs
          rw [ih (i := i + szAt ws i) (by omega) (g := g) (by omega)]
        · rfl
/-- One step. -/
theorem blocks_end {ws : List Nat} {i : Nat} (h : ws.length ≤ i) : blocks ws i = some [] := by
  unfold blocks
  cases hn : ws.length with
  | zero => simp [fromL, hn]
  | succ n => rw [fromL, if_pos (by omega)]
theorem blocks_step {ws : List Nat} {i : Nat} (h : i < ws.length) (hs : stands ws i = true) : blocks ws i = (blocks ws (i + szAt ws i)).map (bkAt ws i :: ·) := by
  have hsz := stands_sz hs
  unfold blocks
  rw [fromL_more (f := ws.length) (i := i) (by omega) (g := ws.length + 1) (by omega), fromL, if_neg (by omega), if_pos hs]
theorem blocks_bad {ws : List Nat} {i : Nat} (h : i < ws.length) (hs : stands ws i = false) : blocks ws i = none := by
  unfold blocks
  rw [fromL_more (f := ws.length) (i := i) (by omega) (g := ws.length + 1) (by omega), fromL, if_neg (by omega), if_neg (by rw [hs]; exact Bool.false_ne_true)]
end Go.Proofs.YtoaepffpjoibaaaGreat

namespace Go.Proofs.YtoaepffpjoibaaaGreat

/-- The fields that a first word tells. -/
def fldL (a : Nat) : List Nat := (List.range (a % 256)).map fun i => a / 4 ^ (i + 4) % 4
/-- The sum of kinds, each in its place, from place j on. -/
def fldW : List Nat → Nat → Nat
  | [], _ => 0
  | k :: l, j => k * 4 ^ j + fldW l (j + 1)
def typW (l : List Nat) : Nat := l.length + fldW l 4
/-- The error of the fields of a type. -/
def kndOk (l : List Nat) : Bool := l.all fun k => decide (1 ≤ k) && decide (k ≤ 3)
def kndErr (l : List Nat) : Int := if 8 < l.length then 4 else if kndOk l = true then 0 else 8
def objSz (n : Nat) : Nat := 2 + (n + 1) / 2 * 2
/-- Whether two words are those of a type. -/
def typOk (a b : Nat) : Bool := (decide (a % 256 ≤ 8) && kndOk (fldL a)) && (typW (fldL a) == a && sum1 a == b)
theorem fldL_len (a : Nat) : (fldL a).length = a % 256 := by simp [fldL]
theorem fldL_get (a i : Nat) (h : i < a % 256) : (fldL a)[i]? = some (a / 4 ^ (i + 4) % 4) := by simp [fldL, h]
theorem fldW_append (a b : List Nat) (j : Nat) : fldW (a ++ b) j = fldW a j + fldW b (j + a.length) := by
  induction a generalizing j with
  | nil => simp [fldW]
  | cons k a ih => simp only [List.cons_append, fldW, ih, List.length_cons]; rw [show j + 1 + a.length = j + (a.length + 1) by omega]; omega
theorem fldW_lt (l : List Nat) (j : Nat) (h : ∀ k ∈ l, k ≤ 3) : fldW l j + 4 ^ j ≤ 4 ^ (j + l.length) := by
  induction l generalizing j with
  | nil => simp [fldW]
  | cons k l ih =>
    have h1 := ih (j + 1) (fun k hk => h k (by simp [hk]))
    have h2 := h k (by simp)
    simp only [fldW, List.length_cons]
    rw [show j + (l.length + 1) = j + 1 + l.length by omega]
    have h3 : k * 4 ^ j ≤ 3 * 4 ^ j := Nat.mul_le_mul_right _ h2
    rw [Nat.pow_succ] at h1
    omega
theorem kndOk_iff (l : List Nat) : kndOk l = true ↔ ∀ k ∈ l, 1 ≤ k ∧ k ≤ 3 := by simp [kndOk]
theorem kndOk_take {l : List Nat} (h : kndOk l = true) (k : Nat) : kndOk (l.take k) = true := by
  rw [kndOk_iff] at h ⊢
  exact fun x hx => h x (List.mem_of_mem_take hx)
theorem kndOk_bad {l : List Nat} {k : Nat} (hk : k < l.length) (h : l[k] < 1 ∨ 3 < l[k]) : kndOk l = false := by
  cases hq : kndOk l with
  | false => rfl
  | true => have := (kndOk_iff l).1 hq l[k] (List.getElem_mem hk); omega
theorem kndErr_many {l : List Nat} (h : 8 < l.length) : kndErr l = 4 := by simp [kndErr, h]
theorem kndErr_bad {l : List Nat} (h : l.length ≤ 8) (hk : kndOk l = false) : kndErr l = 8 := by
  have : ¬ 8 < l.length := by omega
  simp [kndErr, this, hk]
theorem kndErr_ok {l : List Nat} (h : l.length ≤ 8) (hk : kndOk l = true) : kndErr l = 0 := by
  have : ¬ 8 < l.length := by omega
  simp [kndErr, this, hk]
theorem kndErr_zero {l : List Nat} (h : kndErr l = 0) : l.length ≤ 8 ∧ kndOk l = true := by
  unfold kndErr at h
  split at h
  · simp at h
  · split at h
    · exact ⟨by omega, by assumption⟩
    · simp at h
theorem typW_lt {l : List Nat} (h : l.length ≤ 8) (hk : kndOk l = true) : typW l < 16777216 := by
  have h1 := fldW_lt l 4 (fun k hk' => ((kndOk_iff l).1 hk k hk').2)
  have h2 : 4 ^ (4 + l.length) ≤ 4 ^ 12 := Nat.pow_le_pow_right (by omega) (by omega)
  have h3 : (4 : Nat) ^ 12 = 16777216 := by decide
  have h4 : (4 : Nat) ^ 4 = 256 := by decide
  unfold typW; omega
/-- The fields of a word that is one of a type. -/
theorem fldL_typW {l : List Nat} (h : l.length ≤ 8) (hk : kndOk l = true) : fldL (typW l) = l := by
  have hk3 : ∀ k ∈ l, k ≤ 3 := fun k hk' => ((kndOk_iff l).1 hk k hk').2
  have hdiv : ∀ (l : List Nat) (j : Nat), 4 ^ j ∣ fldW l j := by
    intro l
    induction l with
    | nil => intro j; simp [fldW]
    | cons k l ih =>
      intro j
      simp only [fldW]
      refine Nat.dvd_add (Nat.dvd_mul_left _ _) (Nat.dvd_trans ?_ (ih (j + 1)))
      rw [Nat.pow_succ]; exact Nat.dvd_mul_right _ _
  have hm : typW l % 256 = l.length := by
    obtain ⟨q, hq⟩ := hdiv l 4
    have h4 : (4 : Nat) ^ 4 = 256 := by decide
    rw [h4] at hq
    unfold typW; omega
  apply List.ext_getElem?
  intro i
  by_cases hi : i < l.length
  · rw [fldL_get _ _ (by omega), List.getElem?_eq_getElem hi]
    congr 1
    have hs : l = l.take i ++ (l[i] :: l.drop (i + 1)) := by rw [← List.drop_eq_getElem_cons hi, List.take_append_drop]
    have e : fldW l 4 = fldW (l.take i) 4 + (l[i] * 4 ^ (4 + i) + fldW (l.drop (i + 1)) (4 + i + 1)) := by
      conv => lhs; rw [hs]
      rw [fldW_append, List.length_take, Nat.min_eq_left (by omega)]; rfl
    have h1 := fldW_lt (l.take i) 4 (fun k hk' => hk3 k (List.mem_of_mem_take hk'))
    rw [List.length_take, Nat.min_eq_left (by omega)] at h1
    obtain ⟨q, hq⟩ := hdiv (l.drop (i + 1)) (4 + i + 1)
    have hb := hk3 l[i] (List.getElem_mem hi)
    have h4 : (4 : Nat) ^ 4 = 256 := by decide
    have hlow : l.length + fldW (l.take i) 4 < 4 ^ (4 + i) := by omega
    have : typW l = (l.length + fldW (l.take i) 4) + 4 ^ (4 + i) * (l[i] + 4 * q) := by
      unfold typW
      rw [e, hq, Nat.pow_succ, Nat.mul_add, Nat.mul_comm l[i], Nat.mul_assoc]
      omega
    rw [this, show i + 4 = 4 + i by omega, Nat.add_mul_div_left _ _ (Nat.pow_pos (by omega)), Nat.div_eq_of_lt hlow]
    omega
  · rw [List.getElem?_eq_none (by rw [fldL_len]; omega), List.getElem?_eq_none (by omega)]
end Go.Proofs.YtoaepffpjoibaaaGreat

namespace Go.Proofs.YtoaepffpjoibaaaGreat

/-- Where the words of a type lie. -/
def tyA (b : Bk) : Nat := 96 + 2 * b.typ.toNat
/-- Whether an object has a type that there is, and its size. -/
def typedB (ws : List Nat) (b : Bk) : Bool := typOk (wd ws (tyA b)) (wd ws (tyA b + 1)) && b.size == ((objSz (wd ws (tyA b) % 256) : Nat) : Int)
def fitB (ws : List Nat) (b : Bk) : Bool := b.kind != 1 || typedB ws b
/-- Whether all forwarding words are right, from a start on. -/
def allMv (ws : List Nat) : List Bk → Int → Bool
  | [], _ => true
  | b :: l, s => fitB ws b && (if liveB b then ((b.next : Int) == s) && allMv ws l (s + b.size) else allMv ws l s)
def moves : List Bk → Int → List (Int × Int)
  | [], _ => []
  | b :: l, s => if liveB b then (b.at_, s) :: moves l (s + b.size) else moves l s
theorem allMv_append (ws : List Nat) (a b : List Bk) (s : Int) : allMv ws (a ++ b) s = (allMv ws a s && allMv ws b (endOf a s)) := by
  induction a generalizing s with
  | nil => simp [allMv, endOf]
  | cons x a ih =>
    simp only [List.cons_append, allMv, endOf]
    split
    · rw [ih]; simp only [Bool.and_assoc]
    · rw [ih]; simp only [Bool.and_assoc]
theorem moves_append (a b : List Bk) (s : Int) : moves (a ++ b) s = moves a s ++ moves b (endOf a s) := by
  induction a generalizing s with
  | nil => rfl
  | cons x a ih => simp only [List.cons_append, moves, endOf]; split <;> simp [ih]
theorem allMv_take {ws : List Nat} {l : List Bk} {k : Nat} (h : k < l.length) (s : Int) : allMv ws (l.take (k + 1)) s = (allMv ws (l.take k) s && (fitB ws l[k] && (!liveB l[k] || (l[k].next : Int) == endOf (l.take k) s))) := by
  rw [List.take_succ_eq_append_getElem h, allMv_append]
  simp only [allMv]
  cases liveB l[k] <;> simp
theorem moves_take {l : List Bk} {k : Nat} (h : k < l.length) (s : Int) : moves (l.take (k + 1)) s = moves (l.take k) s ++ (if liveB l[k] then [(l[k].at_, endOf (l.take k) s)] else []) := by
  rw [List.take_succ_eq_append_getElem h, moves_append]
  simp only [moves]
theorem allMv_mono {ws : List Nat} {l : List Bk} {s : Int} (h : allMv ws l s = true) (k : Nat) : allMv ws (l.take k) s = true := by
  rw [← List.take_append_drop k l, allMv_append, Bool.and_eq_true] at h
  exact h.1
theorem allMv_bad {ws : List Nat} {l : List Bk} {s : Int} {k : Nat} (h : allMv ws (l.take k) s = false) : allMv ws l s = false := by
  cases hq : allMv ws l s with
  | false => rfl
  | true => rw [allMv_mono hq k] at h; cases h
theorem allMv_at {ws : List Nat} {l : List Bk} {s : Int} (h : allMv ws l s = true) {k : Nat} (hk : k < l.length) : fitB ws l[k] = true ∧ (liveB l[k] = true → (l[k].next : Int) = endOf (l.take k) s) := by
  have h1 := allMv_mono h (k + 1)
  rw [allMv_take hk] at h1
  simp only [Bool.and_eq_true, Bool.or_eq_true, Bool.not_eq_true', beq_iff_eq] at h1
  exact ⟨h1.2.1, fun hl => by
    rcases h1.2.2 with h2 | h2
    · rw [hl] at h2; cases h2
    · exact h2⟩

/-! The blocks of a heap: each one behind the other. -/
theorem blocks_ind {ws : List Nat} (P : Nat → List Bk → Prop) (h0 : ∀ i, ws.length ≤ i → P i []) (h1 : ∀ i l, i < ws.length → stands ws i = true → blocks ws (i + szAt ws i) = some l → P (i + szAt ws i) l → P i (bkAt ws i :: l)) :
    ∀ i l, blocks ws i = some l → P i l := by
  have key : ∀ n i l, ws.length - i ≤ n → blocks ws i = some l → P i l := by
    intro n
    induction n with
    | zero =>
      intro i l hn h
      rw [blocks_end (by omega)] at h
      cases h
      exact h0 i (by omega)
    | succ n ih =>
      intro i l hn h
      by_cases hi : ws.length ≤ i
      · rw [blocks_end hi] at h; cases h; exact h0 i hi
      · cases hs : stands ws i with
        | false => rw [blocks_bad (by omega) hs] at h; cases h
        | true =>
          have hsz := stands_sz hs
          rw [blocks_step (by omega) hs] at h
          cases hb : blocks ws (i + szAt ws i) with
          | none => rw [hb] at h; cases h
          | some l' =>
            rw [hb] at h
            simp only [Option.map_some, Option.some.injEq] at h
            subst h
            exact h1 i l' (by omega) hs hb (ih _ _ (by omega) hb)
  exact fun i l h => key _ i l (Nat.le_refl _) h
theorem bkAt_at (ws : List Nat) (i : Nat) : (bkAt ws i).at_ = (i : Int) := rfl
theorem bkAt_size (ws : List Nat) (i : Nat) : (bkAt ws i).size = ((szAt ws i : Nat) : Int) := rfl
theorem bkAt_next (ws : List Nat) (i : Nat) : (bkAt ws i).next = wd ws (i + 1) := rfl
theorem bkAt_hd {ws : List Nat} {i : Nat} (h : stands ws i = true) : hdOk (rawBk (wd ws i)) = true := by
  unfold stands splitOk at h
  simp only [Bool.and_eq_true] at h
  exact h.1.1
theorem gk_cons (b : Bk) (l : List Bk) (k : Nat) : gk (b :: l) (k + 1) = gk l k := by simp [gk]
theorem gk_zero (b : Bk) (l : List Bk) : gk (b :: l) 0 = b := rfl
theorem stands_bk {ws : List Nat} {i : Nat} (hn : ws.length ≤ 2048) (h : stands ws i = true) (h1 : 128 ≤ i) (h2 : i % 2 = 0) : bkOk (bkAt ws i) = true := by
  have h3 := (hdOk_iff _).1 (bkAt_hd h)
  have h4 := stands_sz h
  rw [bkOk_iff]
  have e1 : (bkAt ws i).kind = (rawBk (wd ws i)).kind := rfl
  have e2 : (rawBk (wd ws i)).size = ((szAt ws i : Nat) : Int) := rfl
  rw [bkAt_at, bkAt_size, e1]
  omega
/-- A row of blocks from an even address of the heap on: each one is right, and stands behind the other. -/
theorem blocks_chain {ws : List Nat} (hn : ws.length ≤ 2048) : ∀ i l, blocks ws i = some l → 128 ≤ i → i % 2 = 0 → i ≤ ws.length →
    2 * l.length + i ≤ ws.length ∧ ∀ k, k < l.length → bkOk (gk l k) = true ∧ (k = 0 → (gk l k).at_ = (i : Int)) ∧ (0 < k → (gk l k).at_ = (gk l (k - 1)).at_ + (gk l (k - 1)).size) := by
  refine blocks_ind _ (fun i _ _ _ _ => ⟨by simp; omega, fun k hk => by simp at hk⟩) (fun i l hi hs hb ih h1 h2 _ => ?_)
  have hsz := stands_sz hs
  obtain ⟨h3, h4⟩ := ih (by omega) (by omega) hsz.2.2
  refine ⟨by rw [List.length_cons]; omega, fun k hk => ?_⟩
  cases k with
  | zero => exact ⟨stands_bk hn hs h1 h2, fun _ => rfl, fun h => absurd h (by omega)⟩
  | succ k =>
    rw [List.length_cons] at hk
    obtain ⟨g1, g2, g3⟩ := h4 k (by omega)
    rw [gk_cons]
    refine ⟨g1, fun h => absurd h (by omega), fun _ => ?_⟩
    rw [Nat.add_sub_cancel]
    cases k with
    | zero => rw [gk_zero, g2 rfl, bkAt_at, bkAt_size]; omega
    | succ k => rw [gk_cons]; exact g3 (by omega)
theorem blocks_row {ws : List Nat} (hn : ws.length ≤ 2048) {i : Nat} {l : List Bk} (h : blocks ws i = some l) (h1 : 128 ≤ i) (h2 : i % 2 = 0) (h3 : i ≤ ws.length) : rowErr l = 0 := by
  obtain ⟨h4, h5⟩ := blocks_chain hn i l h h1 h2 h3
  refine rowErr_ok (by omega) ?_
  have key : ∀ k, k ≤ l.length → rowPre l k = true := by
    intro k
    induction k with
    | zero => intro _; rfl
    | succ k ih =>
      intro hk
      obtain ⟨g1, g2, g3⟩ := h5 k (by omega)
      refine rowPre_yes (ih (by omega)) g1 ?_
      rcases Nat.eq_zero_or_pos k with h0 | h0
      · exact .inl h0
      · right
        obtain ⟨m, rfl⟩ : ∃ m, k = m + 1 := ⟨k - 1, by omega⟩
        exact g3 h0
  exact key _ (Nat.le_refl _)
theorem blocks_first {ws : List Nat} {i : Nat} {l : List Bk} (h : blocks ws i = some l) (hi : i < ws.length) : 0 < l.length ∧ gk l 0 = bkAt ws i ∧ stands ws i = true ∧ blocks ws (i + szAt ws i) = some (l.drop 1) := by
  cases hs : stands ws i with
  | false => rw [blocks_bad hi hs] at h; cases h
  | true =>
    rw [blocks_step hi hs] at h
    cases hb : blocks ws (i + szAt ws i) with
    | none => rw [hb] at h; cases h
    | some l' =>
      rw [hb] at h
      simp only [Option.map_some, Option.some.injEq] at h
      subst h
      exact ⟨by simp, rfl, rfl, by simp⟩
/-- With a start that is no greater than the first address, the row and the start are right. -/
theorem blocks_st {ws : List Nat} (hn : ws.length ≤ 2048) {i : Nat} {l : List Bk} (h : blocks ws i = some l) (h1 : 128 ≤ i) (h2 : i % 2 = 0) (h3 : i ≤ ws.length) {s : Int} (hs : 128 ≤ s) (hs2 : s % 2 = 0) (hs3 : s ≤ (i : Int)) : stErr l s = 0 := by
  refine stErr_0 (blocks_row hn h h1 h2 h3) ⟨hs, ?_, hs2⟩
  unfold most
  split
  · omega
  · rename_i hl
    have := (blocks_chain hn i l h h1 h2 h3).2 0 (by omega)
    rw [this.2.1 rfl]; exact hs3
end Go.Proofs.YtoaepffpjoibaaaGreat

namespace Go.Proofs.YtoaepffpjoibaaaGreat

theorem moves_get : ∀ {l : List Bk} {s : Int} {p : Nat}, p < (moves l s).length → ∃ k, ∃ h : k < l.length, liveB l[k] = true ∧ (moves l s)[p]? = some (l[k].at_, endOf (l.take k) s) ∧ (moves (l.take k) s).length = p := by
  intro l
  induction l with
  | nil => intro s p h; simp [moves] at h
  | cons b l ih =>
    intro s p h
    cases hb : liveB b with
    | true =>
      simp only [moves, hb, if_true] at h ⊢
      cases p with
      | zero => exact ⟨0, by simp, hb, by simp [endOf], rfl⟩
      | succ p =>
        obtain ⟨k, hk, h1, h2, h3⟩ := ih (s := s + b.size) (p := p) (by simpa using h)
        refine ⟨k + 1, by simpa using hk, h1, ?_, ?_⟩
        · simp only [List.getElem?_cons_succ, h2, List.getElem_cons_succ, List.take_succ_cons, endOf, hb, if_true]
        · simp only [List.take_succ_cons, moves, hb, if_true, List.length_cons, h3]
    | false =>
      simp only [moves, hb, Bool.false_eq_true, if_false] at h ⊢
      obtain ⟨k, hk, h1, h2, h3⟩ := ih (s := s) (p := p) h
      refine ⟨k + 1, by simpa using hk, h1, ?_, ?_⟩
      · simp only [h2, List.getElem_cons_succ, List.take_succ_cons, endOf, hb, Bool.false_eq_true, if_false]
      · simp only [List.take_succ_cons, moves, hb, Bool.false_eq_true, if_false, h3]

/-! Another word at an odd address -/
theorem wd_set (ws : List Nat) (j v i : Nat) : wd (ws.set j v) i = if j = i ∧ j < ws.length then v else wd ws i := by
  unfold wd
  by_cases h : j = i
  · subst h
    by_cases h2 : j < ws.length
    · simp [h2]
    · simp [h2]
  · simp [h]
theorem wd_set_ne (ws : List Nat) {j i : Nat} (v : Nat) (h : j ≠ i) : wd (ws.set j v) i = wd ws i := by rw [wd_set, if_neg (fun h2 => h h2.1)]
def nextAt (j v : Nat) (b : Bk) : Bk := if b.at_ + 1 = (j : Int) then { b with next := v } else b
theorem stands_set {ws : List Nat} {j i : Nat} (v : Nat) (h : j ≠ i) : stands (ws.set j v) i = stands ws i ∧ szAt (ws.set j v) i = szAt ws i := by
  unfold stands szAt
  rw [wd_set_ne ws v h, List.length_set]
  exact ⟨rfl, rfl⟩
theorem bkAt_set {ws : List Nat} {j i v : Nat} (h : j ≠ i) (hj : j < ws.length) : bkAt (ws.set j v) i = nextAt j v (bkAt ws i) := by
  unfold bkAt nextAt
  rw [wd_set_ne ws v h, wd_set]
  by_cases e : j = i + 1
  · rw [if_pos ⟨e, hj⟩, if_pos (by dsimp only; omega)]
  · rw [if_neg (fun h2 => e h2.1), if_neg (by dsimp only; omega)]
theorem blocks_set {ws : List Nat} {j v : Nat} (hj : j % 2 = 1) (hl : j < ws.length) : ∀ i, i % 2 = 0 → blocks (ws.set j v) i = (blocks ws i).map (List.map (nextAt j v)) := by
  have key : ∀ n i, ws.length - i ≤ n → i % 2 = 0 → blocks (ws.set j v) i = (blocks ws i).map (List.map (nextAt j v)) := by
    intro n
    induction n with
    | zero => intro i hn _; rw [blocks_end (by rw [List.length_set]; omega), blocks_end (by omega)]; rfl
    | succ n ih =>
      intro i hn h2
      by_cases hi : ws.length ≤ i
      · rw [blocks_end (by rw [List.length_set]; omega), blocks_end (by omega)]; rfl
      · obtain ⟨e1, e2⟩ := stands_set (ws := ws) (j := j) (i := i) v (by omega)
        cases hs : stands ws i with
        | false => rw [blocks_bad (by rw [List.length_set]; omega) (by rw [e1, hs]), blocks_bad (by omega) hs]; rfl
        | true =>
          have hsz := stands_sz hs
          rw [blocks_step (by rw [List.length_set]; omega) (by rw [e1, hs]), blocks_step (by omega) hs, e2, ih _ (by omega) (by omega), bkAt_set (by omega) hl]
          cases blocks ws (i + szAt ws i) <;> rfl
  exact fun i => key _ i (Nat.le_refl _)
theorem chain_mono {l : List Bk} (h : rowErr l = 0) {m k : Nat} (hk : k < l.length) (hm : m < k) : (gk l m).at_ < (gk l k).at_ := by
  obtain ⟨_, h2⟩ := rowErr_zero h
  induction k with
  | zero => omega
  | succ k ih =>
    have h3 := rowPre_at h2 (show k + 1 < l.length from hk)
    have h4 := (bkOk_iff _).1 (rowPre_at h2 (show k < l.length by omega)).1
    have e : (gk l (k + 1)).at_ = (gk l k).at_ + (gk l k).size := by
      rcases h3.2 with h0 | h0
      · omega
      · exact h0
    rcases Nat.lt_or_ge m k with h5 | h5
    · have := ih (by omega) h5; omega
    · have : m = k := by omega
      subst this; omega
theorem map_nextAt {l : List Bk} (h : rowErr l = 0) {k j v : Nat} (hk : k < l.length) (hj : l[k].at_ + 1 = (j : Int)) : l.map (nextAt j v) = l.set k { l[k] with next := v } := by
  apply List.ext_getElem (by simp)
  intro i h1 h2
  have h1 : i < l.length := by simpa using h1
  rw [List.getElem_map, List.getElem_set]
  unfold nextAt
  by_cases e : k = i
  · subst e; rw [if_pos hj, if_pos rfl]
  · rw [if_neg e]
    rw [if_neg ?_]
    intro h3
    have e2 : (gk l i).at_ = (gk l k).at_ := by rw [gk_get l i h1, gk_get l k hk]; omega
    rcases Nat.lt_or_gt_of_ne e with h4 | h4
    · have := chain_mono h h1 h4; omega
    · have := chain_mono h hk h4; omega
/-- With another forwarding word all of them are right just if it is the right one. -/
theorem allMv_next {ws ws' : List Nat} {l : List Bk} (hf : ∀ b ∈ l, fitB ws' b = fitB ws b) (hf2 : ∀ b v, b ∈ l → fitB ws' { b with next := v } = fitB ws b) : ∀ {s : Int}, allMv ws l s = true → ∀ {k : Nat} (hk : k < l.length), liveB l[k] = true → ∀ v : Nat,
    allMv ws' (l.set k { l[k] with next := v }) s = ((v : Int) == endOf (l.take k) s) ∧ moves (l.set k { l[k] with next := v }) s = moves l s := by
  induction l with
  | nil => intro s _ k hk; simp at hk
  | cons b l ih =>
    intro s h k hk hl v
    have hfb := hf b (by simp)
    have hfb2 := hf2 b v (by simp)
    have all' : ∀ (l : List Bk), (∀ b ∈ l, fitB ws' b = fitB ws b) → ∀ s, allMv ws' l s = allMv ws l s := by
      intro l hl
      induction l with
      | nil => intro s; rfl
      | cons c l ih2 =>
        intro s
        simp only [allMv]
        rw [hl c (by simp), ih2 (fun b hb => hl b (by simp [hb])), ih2 (fun b hb => hl b (by simp [hb]))]
    cases k with
    | zero =>
      have hl : liveB b = true := hl
      have hl2 : liveB { b with next := v } = true := hl
      simp only [allMv, hl, if_true, Bool.and_eq_true] at h
      simp only [List.set_cons_zero, List.getElem_cons_zero, allMv, hl2, if_true, moves, hl, List.take_zero, endOf, hfb2, h.1, Bool.true_and]
      rw [all' l (fun b hb => hf b (by simp [hb])), h.2.2, Bool.and_true]
      exact ⟨rfl, trivial⟩
    | succ k =>
      have hk : k < l.length := by simpa using hk
      have hl : liveB l[k] = true := hl
      cases hb : liveB b with
      | true =>
        simp only [allMv, hb, if_true, Bool.and_eq_true] at h
        obtain ⟨g1, g2⟩ := ih (fun b hb => hf b (by simp [hb])) (fun b v hb => hf2 b v (by simp [hb])) h.2.2 hk hl v
        simp only [List.set_cons_succ, List.getElem_cons_succ, allMv, hb, if_true, moves, List.take_succ_cons, endOf, hfb, h.1, h.2.1, Bool.true_and, g1, g2]
        exact ⟨trivial, trivial⟩
      | false =>
        simp only [allMv, hb, Bool.false_eq_true, if_false, Bool.and_eq_true] at h
        obtain ⟨g1, g2⟩ := ih (fun b hb => hf b (by simp [hb])) (fun b v hb => hf2 b v (by simp [hb])) h.2 hk hl v
        simp only [List.set_cons_succ, List.getElem_cons_succ, allMv, hb, Bool.false_eq_true, if_false, moves, List.take_succ_cons, endOf, hfb, h.1, Bool.true_and, g1, g2]
        exact ⟨trivial, trivial⟩
end Go.Proofs.YtoaepffpjoibaaaGreat

namespace Go.Proofs.YtoaepffpjoibaaaGreat

/-- Whether the numbers of a reading are wrong. -/
def rdArg (n : Nat) (f s : Int) : Bool := (f % 2 != 0) || ((s % 2 != 0) || (decide (s < 128) || (decide (f < s) || decide ((n : Int) < f))))
def isImg (n : Nat) : Bool := decide (256 ≤ n) && (decide (n ≤ 2048) && n % 8 == 0)
theorem rdArg_no {n : Nat} {f s : Int} (h : rdArg n f s = false) : f % 2 = 0 ∧ s % 2 = 0 ∧ 128 ≤ s ∧ s ≤ f ∧ f ≤ (n : Int) := by
  simp only [rdArg, Bool.or_eq_false_iff, bne_eq_false_iff_eq, decide_eq_false_iff_not] at h
  omega
theorem rdArg_iff (n : Nat) (f s : Int) : rdArg n f s = true ↔ ¬ (f % 2 = 0 ∧ s % 2 = 0 ∧ 128 ≤ s ∧ s ≤ f ∧ f ≤ (n : Int)) := by
  constructor
  · intro h h2
    have : rdArg n f s = false := by
      simp only [rdArg, Bool.or_eq_false_iff, bne_eq_false_iff_eq, decide_eq_false_iff_not]
      omega
    rw [this] at h; cases h
  · intro h
    cases hq : rdArg n f s with
    | true => rfl
    | false => exact absurd (rdArg_no hq) h
def heapErr (ws : List Nat) (f s : Int) : Int := match blocks ws f.toNat with
  | none => 50
  | some l => if allMv ws l s = true then 0 else 50
def rdErr (ws : List Nat) (f s : Int) : Int := if isImg ws.length = true then (if rdArg ws.length f s = true then 2 else heapErr ws f s) else 8
/-- The moves that are read. -/
def rdMv (ws : List Nat) (f s : Int) : List (Int × Int) := if rdErr ws f s = 0 then (match blocks ws f.toNat with | none => [] | some l => moves l s) else []
theorem rdErr_zero {ws : List Nat} {f s : Int} (h : rdErr ws f s = 0) : isImg ws.length = true ∧ rdArg ws.length f s = false ∧ ∃ l, blocks ws f.toNat = some l ∧ allMv ws l s = true ∧ rdMv ws f s = moves l s := by
  have h0 := h
  unfold rdErr at h
  split at h
  · rename_i h1
    split at h
    · simp at h
    · rename_i h2
      unfold heapErr at h
      cases hb : blocks ws f.toNat with
      | none => rw [hb] at h; simp at h
      | some l =>
        rw [hb] at h
        refine ⟨h1, by simpa using h2, l, rfl, ?_, ?_⟩
        · dsimp only at h
          split at h
          · assumption
          · simp at h
        · unfold rdMv; rw [if_pos h0, hb]
  · simp at h
theorem rdErr_of {ws : List Nat} {f s : Int} (h1 : isImg ws.length = true) (h2 : rdArg ws.length f s = false) {l : List Bk} (h3 : blocks ws f.toNat = some l) : rdErr ws f s = if allMv ws l s = true then 0 else 50 := by
  unfold rdErr heapErr; rw [if_pos h1, h2, h3]; rfl
theorem isImg_bd {n : Nat} (h : isImg n = true) : 256 ≤ n ∧ n ≤ 2048 ∧ n % 8 = 0 := by simp [isImg] at h; omega
/-- A block of a row is one of the heap. -/
theorem blocks_at {ws : List Nat} : ∀ i l, blocks ws i = some l → i % 2 = 0 → ∀ k (h : k < l.length), ∃ a, l[k] = bkAt ws a ∧ a % 2 = 0 ∧ i ≤ a ∧ a < ws.length ∧ stands ws a = true ∧ blocks ws a = some (l.drop k) := by
  refine blocks_ind _ (fun i _ _ k h => by simp at h) (fun i l hi hs hb ih h2 k h => ?_)
  have hsz := stands_sz hs
  cases k with
  | zero => exact ⟨i, rfl, h2, Nat.le_refl _, hi, hs, by rw [blocks_step hi hs, hb]; rfl⟩
  | succ k =>
    obtain ⟨a, h3, h4, h5, h6, h7, h8⟩ := ih (by omega) k (by simpa using h)
    exact ⟨a, h3, h4, by omega, h6, h7, h8⟩
theorem typ_lt {b : Bk} {w : Nat} (h : hdOk (rawBk w) = true) (hk : b.kind = (rawBk w).kind) (ht : b.typ = (rawBk w).typ) (h1 : b.kind = 1) : tyA b + 1 < 128 := by
  have := (hdOk_iff _).1 h
  rw [← hk, ← ht] at this
  unfold tyA; omega
theorem fitB_set {ws : List Nat} {j v : Nat} (hj : 128 ≤ j) {a : Nat} (hs : stands ws a = true) (u : Nat) : fitB (ws.set j v) { bkAt ws a with next := u } = fitB ws (bkAt ws a) := by
  have h1 := bkAt_hd hs
  unfold fitB
  show ((bkAt ws a).kind != 1 || typedB (ws.set j v) { bkAt ws a with next := u }) = _
  by_cases hk : (bkAt ws a).kind = 1
  · have h2 := typ_lt (b := bkAt ws a) h1 rfl rfl hk
    have e1 : wd (ws.set j v) (tyA (bkAt ws a)) = wd ws (tyA (bkAt ws a)) := wd_set_ne ws v (by omega)
    have e2 : wd (ws.set j v) (tyA (bkAt ws a) + 1) = wd ws (tyA (bkAt ws a) + 1) := wd_set_ne ws v (by omega)
    unfold typedB
    show (_ || (typOk (wd (ws.set j v) (tyA (bkAt ws a))) (wd (ws.set j v) (tyA (bkAt ws a) + 1)) && (bkAt ws a).size == ((objSz (wd (ws.set j v) (tyA (bkAt ws a)) % 256) : Nat) : Int))) = _
    rw [e1, e2]
  · have : ((bkAt ws a).kind != 1) = true := by rw [bne_iff_ne]; exact hk
    rw [this, Bool.true_or, Bool.true_or]

/-- ForwardTold: a forwarding word that is another one is told. -/
theorem told_plain {ws : List Nat} {f s : Int} (h : rdErr ws f s = 0) {p : Nat} (hp : p < (rdMv ws f s).length) : ∃ a t : Nat, (rdMv ws f s)[p]? = some ((a : Int), (t : Int)) ∧ 128 ≤ a ∧ a + 1 < ws.length ∧ wd ws (a + 1) = t ∧ t ≤ 2048 ∧
    ∀ v, (v = t → rdErr (ws.set (a + 1) v) f s = 0) ∧ (v ≠ t → rdErr (ws.set (a + 1) v) f s = 50) := by
  obtain ⟨h1, h2, l, h3, h4, h5⟩ := rdErr_zero h
  obtain ⟨a1, a2, a3, a4, a5⟩ := rdArg_no h2
  have hb := isImg_bd h1
  rw [h5] at hp ⊢
  obtain ⟨k, hk, hl, hg, -⟩ := moves_get hp
  obtain ⟨a, e, b1, b2, b3, b4, -⟩ := blocks_at _ _ h3 (by omega) k hk
  have hst := blocks_st (i := f.toNat) hb.2.1 h3 (by omega) (by omega) (by omega) (s := s) a3 a2 (by omega)
  obtain ⟨hre, hs1, hs2, hs3⟩ := stErr_zero hst
  have hbd := endOf_bd hre (Nat.le_of_lt hk) hs1 hs2
  have hnx := (allMv_at h4 hk).2 hl
  have hsz := stands_sz b4
  have hlen : a + 1 < ws.length := by omega
  have hnext : wd ws (a + 1) = l[k].next := by rw [e]; rfl
  have hat : l[k].at_ = (a : Int) := by rw [e]; rfl
  refine ⟨a, l[k].next, by rw [hg, hat, hnx], by omega, hlen, hnext, by omega, fun v => ?_⟩
  have hbs := blocks_set (ws := ws) (j := a + 1) (v := v) (by omega) hlen f.toNat (by omega)
  rw [h3, Option.map_some, map_nextAt hre hk (by rw [hat]; omega)] at hbs
  have hfit : ∀ b ∈ l, ∀ u, fitB (ws.set (a + 1) v) { b with next := u } = fitB ws b := by
    intro b hb u
    obtain ⟨m, hm, rfl⟩ := List.getElem_of_mem hb
    obtain ⟨a', e', -, -, -, b4', -⟩ := blocks_at _ _ h3 (by omega) m hm
    rw [e']
    exact fitB_set (by omega) b4' u
  obtain ⟨g1, -⟩ := allMv_next (ws := ws) (ws' := ws.set (a + 1) v) (fun b hb => by have := hfit b hb b.next; exact this) (fun b u hb => hfit b hb u) h4 hk hl v
  rw [rdErr_of (by rw [List.length_set]; exact h1) (by rw [List.length_set]; exact h2) hbs, g1, ← hnx]
  constructor
  · intro hv; subst hv; simp
  · intro hv
    have : ((v : Int) == (l[k].next : Int)) = false := by rw [beq_eq_false_iff_ne]; omega
    rw [this]; simp
/-- ForwardOn: the moves from a later block on, with the end of the places before it, are the last ones. -/
theorem on_plain {ws : List Nat} {f s : Int} (h : rdErr ws f s = 0) {l : List Bk} (hl : blocks ws f.toNat = some l) {k : Nat} (hk : k < l.length) :
    rdErr ws l[k].at_ (endOf (l.take k) s) = 0 ∧ rdMv ws l[k].at_ (endOf (l.take k) s) = (rdMv ws f s).drop (moves (l.take k) s).length := by
  obtain ⟨h1, h2, l', h3, h4, h5⟩ := rdErr_zero h
  rw [hl] at h3
  cases h3
  obtain ⟨a1, a2, a3, a4, a5⟩ := rdArg_no h2
  have hb := isImg_bd h1
  obtain ⟨a, e, b1, b2, b3, b4, b5⟩ := blocks_at _ _ hl (by omega) k hk
  have hst := blocks_st (i := f.toNat) hb.2.1 hl (by omega) (by omega) (by omega) (s := s) a3 a2 (by omega)
  obtain ⟨hre, hs1, hs2, hs3⟩ := stErr_zero hst
  have hbd := endOf_bd hre (Nat.le_of_lt hk) hs1 hs2
  have hev := endOf_even hre hs3 (Nat.le_of_lt hk)
  have hle := rowNext_end hre hs2 hk
  have hat : l[k].at_ = (a : Int) := by rw [e]; rfl
  rw [gk_get l k hk, hat] at hle
  rw [hat]
  have hbl : blocks ws ((a : Int)).toNat = some (l.drop k) := by rw [Int.toNat_natCast]; exact b5
  have harg : rdArg ws.length (a : Int) (endOf (l.take k) s) = false := by
    cases hq : rdArg ws.length (a : Int) (endOf (l.take k) s) with
    | false => rfl
    | true => exact absurd ⟨by omega, hev, hbd.1, hle, by omega⟩ ((rdArg_iff _ _ _).1 hq)
  have hall : allMv ws (l.drop k) (endOf (l.take k) s) = true := by
    rw [← List.take_append_drop k l, allMv_append, Bool.and_eq_true] at h4
    exact h4.2
  have hz : rdErr ws (a : Int) (endOf (l.take k) s) = 0 := by rw [rdErr_of h1 harg hbl, if_pos hall]
  refine ⟨hz, ?_⟩
  rw [h5]
  unfold rdMv
  rw [if_pos hz, hbl]
  dsimp only
  have : moves l s = moves (l.take k) s ++ moves (l.drop k) (endOf (l.take k) s) := by rw [← moves_append, List.take_append_drop]
  rw [this, List.drop_left]
end Go.Proofs.YtoaepffpjoibaaaGreat

namespace Go.Proofs.YtoaepffpjoibaaaGreat

/-- Putting words one behind the other from an address on. -/
def putSeq : List Nat → Nat → List Nat → List Nat
  | ws, _, [] => ws
  | ws, t, v :: l => putSeq (ws.set t v) (t + 1) l
theorem putSeq_len (l : List Nat) : ∀ (ws : List Nat) (t : Nat), (putSeq ws t l).length = ws.length := by
  induction l with
  | nil => intro ws t; rfl
  | cons v l ih => intro ws t; simp only [putSeq, ih, List.length_set]
theorem putSeq_wd (l : List Nat) : ∀ (ws : List Nat) (t i : Nat), t + l.length ≤ ws.length → wd (putSeq ws t l) i = if t ≤ i ∧ i < t + l.length then l[i - t]?.getD 0 else wd ws i := by
  induction l with
  | nil => intro ws t i _; simp only [putSeq, List.length_nil]; rw [if_neg (by omega)]
  | cons v l ih =>
    intro ws t i hn
    rw [List.length_cons] at hn
    simp only [putSeq, List.length_cons]
    rw [ih (ws.set t v) (t + 1) i (by rw [List.length_set]; omega), wd_set]
    by_cases h1 : t = i
    · subst h1
      rw [if_neg (by omega), if_pos ⟨rfl, by omega⟩, if_pos (by omega)]
      simp
    · by_cases h2 : t + 1 ≤ i ∧ i < t + 1 + l.length
      · rw [if_pos h2, if_pos (by omega)]
        obtain ⟨m, rfl⟩ : ∃ m, i = t + 1 + m := ⟨i - (t + 1), by omega⟩
        rw [show t + 1 + m - (t + 1) = m by omega, show t + 1 + m - t = m + 1 by omega]
        simp
      · rw [if_neg h2, if_neg (fun h => h1 h.1), if_neg (by omega)]
/-- The blocks from an address on depend on the words from there on alone. -/
theorem blocks_agree {ws xs : List Nat} (hn : xs.length = ws.length) : ∀ i, (∀ j, i ≤ j → wd xs j = wd ws j) → blocks xs i = blocks ws i := by
  have key : ∀ n i, ws.length - i ≤ n → (∀ j, i ≤ j → wd xs j = wd ws j) → blocks xs i = blocks ws i := by
    intro n
    induction n with
    | zero => intro i h _; rw [blocks_end (by omega), blocks_end (by omega)]
    | succ n ih =>
      intro i h hw
      by_cases hi : ws.length ≤ i
      · rw [blocks_end (by omega), blocks_end (by omega)]
      · have e1 : stands xs i = stands ws i := by unfold stands; rw [hw i (Nat.le_refl _), hn]
        have e2 : szAt xs i = szAt ws i := by unfold szAt; rw [hw i (Nat.le_refl _)]
        have e3 : bkAt xs i = bkAt ws i := by unfold bkAt; rw [hw i (Nat.le_refl _), hw (i + 1) (by omega)]
        cases hs : stands ws i with
        | false => rw [blocks_bad (by omega) (by rw [e1, hs]), blocks_bad (by omega) hs]
        | true =>
          have hsz := stands_sz hs
          rw [blocks_step (by omega) (by rw [e1, hs]), blocks_step (by omega) hs, e2, e3, ih _ (by omega) (fun j hj => hw j (by omega))]
  exact fun i => key _ i (Nat.le_refl _)
/-- A block's own fit depends on the words of types alone. -/
theorem allMv_agree {ws xs : List Nat} (hw : ∀ j, j < 128 → wd xs j = wd ws j) : ∀ {l : List Bk}, (∀ b ∈ l, b.kind = 1 → tyA b + 1 < 128) → ∀ s, allMv xs l s = allMv ws l s := by
  intro l
  induction l with
  | nil => intro _ s; rfl
  | cons b l ih =>
    intro h s
    have e : fitB xs b = fitB ws b := by
      unfold fitB
      by_cases hk : b.kind = 1
      · have h2 := h b (by simp) hk
        unfold typedB
        rw [hw _ (by omega), hw _ (by omega)]
      · have : (b.kind != 1) = true := by rw [bne_iff_ne]; exact hk
        rw [this, Bool.true_or, Bool.true_or]
    simp only [allMv, e]
    rw [ih (fun b hb => h b (by simp [hb])), ih (fun b hb => h b (by simp [hb]))]
theorem blocks_ty {ws : List Nat} {i : Nat} {l : List Bk} (h : blocks ws i = some l) (h2 : i % 2 = 0) : ∀ b ∈ l, b.kind = 1 → tyA b + 1 < 128 := by
  intro b hb hk
  obtain ⟨m, hm, rfl⟩ := List.getElem_of_mem hb
  obtain ⟨a, e, -, -, -, b4, -⟩ := blocks_at _ _ h h2 m hm
  rw [e] at hk ⊢
  exact typ_lt (bkAt_hd b4) rfl rfl hk

/-- The error of moving. -/
def mvErr (ws : List Nat) (f t : Int) : Int := if rdErr ws f t = 0 then (match blocks ws f.toNat with | some (b :: _) => if b.mark then 0 else 6 | _ => 6) else rdErr ws f t
/-- The words of the object at its new place. -/
def mvWords (ws : List Nat) (f : Nat) : List Nat := (List.range (szAt ws f)).map fun i => if i = 0 then headW { rawBk (wd ws f) with mark := false } else if i = 1 then 0 else wd ws (f + i)
theorem mvErr_zero {ws : List Nat} {f t : Int} (h : mvErr ws f t = 0) : rdErr ws f t = 0 ∧ ∃ a : Nat, f = (a : Int) ∧ a % 2 = 0 ∧ 128 ≤ a ∧ a < ws.length ∧ stands ws a = true ∧ liveB (bkAt ws a) = true ∧ ∃ l, blocks ws a = some (bkAt ws a :: l) ∧ blocks ws (a + szAt ws a) = some l := by
  unfold mvErr at h
  split at h
  · rename_i h0
    refine ⟨h0, ?_⟩
    obtain ⟨h1, h2, l, h3, h4, h5⟩ := rdErr_zero h0
    obtain ⟨a1, a2, a3, a4, a5⟩ := rdArg_no h2
    rw [h3] at h
    cases l with
    | nil => simp at h
    | cons b l =>
      dsimp only at h
      split at h
      · rename_i hm
        refine ⟨f.toNat, by omega, by omega, by omega, ?_, ?_⟩
        · rcases Nat.lt_or_ge f.toNat ws.length with h6 | h6
          · exact h6
          · rw [blocks_end h6] at h3; simp at h3
        · have hlt : f.toNat < ws.length := by
            rcases Nat.lt_or_ge f.toNat ws.length with h6 | h6
            · exact h6
            · rw [blocks_end h6] at h3; simp at h3
          obtain ⟨_, e2, e3, e4⟩ := blocks_first h3 hlt
          have e2 : b = bkAt ws f.toNat := e2
          subst e2
          refine ⟨e3, ?_, l, h3, by simpa using e4⟩
          have h7 := (hdOk_iff _).1 (bkAt_hd e3)
          have hm2 : (rawBk (wd ws f.toNat)).mark = true := hm
          have hk : (bkAt ws f.toNat).kind = 1 := by
            rcases h7.2 with h8 | h8
            · exact h8.1
            · rw [hm2] at h8; exact absurd h8.2.2.1 (by simp)
          simp [liveB, hk]; exact hm
      · simp at h
  · rename_i h0
    exact absurd h h0
theorem mvWords_len (ws : List Nat) (f : Nat) : (mvWords ws f).length = szAt ws f := by simp [mvWords]
theorem mvWords_get (ws : List Nat) (f i : Nat) (h : i < szAt ws f) : (mvWords ws f)[i]? = some (if i = 0 then headW { rawBk (wd ws f) with mark := false } else if i = 1 then 0 else wd ws (f + i)) := by simp [mvWords, h]
theorem unmark_ok {w : Nat} (h : hdOk (rawBk w) = true) (hk : (rawBk w).kind = 1) : hdOk { rawBk w with mark := false } = true := by
  have := (hdOk_iff _).1 h
  rw [hdOk_iff]
  show _ ∧ ((rawBk w).kind = 1 ∧ _ ∨ _)
  rcases this.2 with h1 | h1
  · exact ⟨this.1, .inl h1⟩
  · rw [hk] at h1; exact absurd h1.1 (by omega)
/-- SlideWords and SlideBehind: the words behind a move. -/
theorem slide_plain {ws : List Nat} {f t : Int} (h : mvErr ws f t = 0) : ∃ a u n : Nat, f = (a : Int) ∧ t = (u : Int) ∧ n = szAt ws a ∧ 2 ≤ n ∧ n ≤ 10 ∧ 128 ≤ u ∧ u ≤ a ∧ a + n ≤ ws.length ∧ stands ws a = true ∧ liveB (bkAt ws a) = true ∧
    (∃ l, blocks ws a = some (bkAt ws a :: l) ∧ blocks ws (a + n) = some l ∧ blocks (putSeq ws u (mvWords ws a)) (a + n) = some l ∧ rdErr (putSeq ws u (mvWords ws a)) ((a + n : Nat) : Int) ((u + n : Nat) : Int) = 0 ∧
      rdMv ws f t = ((a : Int), (u : Int)) :: rdMv (putSeq ws u (mvWords ws a)) ((a + n : Nat) : Int) ((u + n : Nat) : Int)) ∧
    wd (putSeq ws u (mvWords ws a)) u = headW { rawBk (wd ws a) with mark := false } ∧ hdOk { rawBk (wd ws a) with mark := false } = true := by
  obtain ⟨h0, a, rfl, c1, c2, c3, c4, c5, l, c6, c7⟩ := mvErr_zero h
  obtain ⟨h1, h2, l', h3, h4, h5⟩ := rdErr_zero h0
  obtain ⟨a1, a2, a3, a4, a5⟩ := rdArg_no h2
  have hb := isImg_bd h1
  rw [Int.toNat_natCast, c6] at h3
  cases h3
  obtain ⟨u, rfl⟩ := Int.eq_ofNat_of_zero_le (show 0 ≤ t by omega)
  have hsz := stands_sz c4
  have hk : (bkAt ws a).kind = 1 := by simp [liveB] at c5; exact c5.1
  have hhd := (hdOk_iff _).1 (bkAt_hd c4)
  have hn10 : szAt ws a ≤ 10 := by
    have e1 : (rawBk (wd ws a)).size = ((szAt ws a : Nat) : Int) := rfl
    have hk2 : (rawBk (wd ws a)).kind = 1 := hk
    rcases hhd.2 with h8 | h8
    · omega
    · rw [hk2] at h8; exact absurd h8.1 (by omega)
  have hun := unmark_ok (bkAt_hd c4) hk
  have hlen := mvWords_len ws a
  have hwd : ∀ i, wd (putSeq ws u (mvWords ws a)) i = if u ≤ i ∧ i < u + szAt ws a then (mvWords ws a)[i - u]?.getD 0 else wd ws i := by
    intro i
    rw [putSeq_wd _ _ _ _ (by rw [hlen]; omega), hlen]
  have hagree : ∀ j, a + szAt ws a ≤ j → wd (putSeq ws u (mvWords ws a)) j = wd ws j := fun j hj => by rw [hwd, if_neg (by omega)]
  have hbx : blocks (putSeq ws u (mvWords ws a)) (a + szAt ws a) = some l := by rw [blocks_agree (putSeq_len _ _ _) _ hagree, c7]
  have hty : ∀ j, j < 128 → wd (putSeq ws u (mvWords ws a)) j = wd ws j := fun j hj => by rw [hwd, if_neg (by omega)]
  have h6 : allMv ws l ((u : Int) + (szAt ws a : Nat)) = true := by
    simp only [allMv, c5, if_true, Bool.and_eq_true] at h4
    exact h4.2.2
  have h7 : allMv (putSeq ws u (mvWords ws a)) l ((u + szAt ws a : Nat) : Int) = true := by
    rw [allMv_agree hty (fun b hb => blocks_ty c6 c1 b (by simp [hb]))]
    simpa using h6
  have hrd : rdErr (putSeq ws u (mvWords ws a)) ((a + szAt ws a : Nat) : Int) ((u + szAt ws a : Nat) : Int) = 0 := by
    rw [rdErr_of (by rw [putSeq_len]; exact h1) ?_ (by rw [Int.toNat_natCast]; exact hbx), if_pos h7]
    rw [putSeq_len]
    cases hq : rdArg ws.length ((a + szAt ws a : Nat) : Int) ((u + szAt ws a : Nat) : Int) with
    | false => rfl
    | true => exact absurd (by omega) ((rdArg_iff _ _ _).1 hq)
  refine ⟨a, u, szAt ws a, rfl, rfl, rfl, hsz.1, hn10, by omega, by omega, hsz.2.2, c4, c5, ⟨l, c6, c7, hbx, hrd, ?_⟩, ?_, hun⟩
  · rw [h5]
    have e : rdMv (putSeq ws u (mvWords ws a)) ((a + szAt ws a : Nat) : Int) ((u + szAt ws a : Nat) : Int) = moves l ((u + szAt ws a : Nat) : Int) := by
      unfold rdMv; rw [if_pos hrd, Int.toNat_natCast, hbx]
    rw [e]
    simp only [moves, c5, if_true, bkAt_at, bkAt_size]
    simp
  · rw [hwd, if_pos (by omega), Nat.sub_self, mvWords_get _ _ _ (by omega), Option.getD_some, if_pos rfl]
end Go.Proofs.YtoaepffpjoibaaaGreat

namespace Go.Proofs.YtoaepffpjoibaaaGreat

/-- The forwarding word that a block should have. -/
def wantN (b : Bk) (s : Int) : Nat := if liveB b then s.toNat else 0
def nextS (b : Bk) (s : Int) : Int := if liveB b then s + b.size else s
/-- The entries for forwarding words that differ. -/
def wantE : List Bk → Int → List En
  | [], _ => []
  | b :: l, s => (if b.kind = 1 ∧ b.next ≠ wantN b s then [⟨b.at_ + 1, wantN b s⟩] else []) ++ wantE l (nextS b s)
/-- The blocks with their right forwarding words. -/
def fwB : List Bk → Int → List Bk
  | [], _ => []
  | b :: l, s => (if b.kind = 1 then { b with next := wantN b s } else b) :: fwB l (nextS b s)
/-- Putting entries. -/
def putE : List Nat → List En → List Nat
  | ws, [] => ws
  | ws, e :: l => putE (if 0 ≤ e.a ∧ e.a < (ws.length : Int) then ws.set e.a.toNat e.v else ws) l
theorem putE_len (l : List En) : ∀ ws : List Nat, (putE ws l).length = ws.length := by
  induction l with
  | nil => intro ws; rfl
  | cons e l ih => intro ws; simp only [putE, ih]; split <;> simp
theorem putE_append (a b : List En) : ∀ ws : List Nat, putE ws (a ++ b) = putE (putE ws a) b := by
  induction a with
  | nil => intro ws; rfl
  | cons e a ih => intro ws; simp only [List.cons_append, putE, ih]
theorem putE_wd (l : List En) : ∀ (ws : List Nat) (i : Nat), (∀ e ∈ l, e.a ≠ (i : Int)) → wd (putE ws l) i = wd ws i := by
  induction l with
  | nil => intro ws i _; rfl
  | cons e l ih =>
    intro ws i h
    simp only [putE]
    rw [ih _ i (fun x hx => h x (by simp [hx]))]
    split
    · rename_i hb
      exact wd_set_ne ws _ (by have := h e (by simp); omega)
    · rfl
theorem wantE_append (a b : List Bk) : ∀ s, wantE (a ++ b) s = wantE a s ++ wantE b (endOf a s) := by
  induction a with
  | nil => intro s; rfl
  | cons x a ih =>
    intro s
    simp only [List.cons_append, wantE, ih, endOf, nextS, List.append_assoc]
    cases liveB x <;> simp
theorem wantE_at {ws : List Nat} : ∀ i l, blocks ws i = some l → ∀ s, ∀ e ∈ wantE l s, (i : Int) + 1 ≤ e.a ∧ e.a < (ws.length : Int) := by
  refine blocks_ind _ (fun i _ s e h => by simp [wantE] at h) (fun i l hi hs hb ih s e h => ?_)
  have hsz := stands_sz hs
  simp only [wantE, List.mem_append] at h
  rcases h with h | h
  · split at h
    · simp only [List.mem_cons, List.not_mem_nil, or_false] at h
      subst h
      show (i : Int) + 1 ≤ (bkAt ws i).at_ + 1 ∧ (bkAt ws i).at_ + 1 < _
      rw [bkAt_at]; omega
    · simp at h
  · have := ih _ e h
    omega
theorem bkAt_next_set {ws : List Nat} {i v : Nat} (h : i + 1 < ws.length) : bkAt (ws.set (i + 1) v) i = { bkAt ws i with next := v } := by
  rw [bkAt_set (by omega) h]
  unfold nextAt
  rw [if_pos (by rw [bkAt_at]; omega)]
theorem bk_same {b : Bk} {v : Nat} (h : b.next = v) : { b with next := v } = b := by subst h; rfl
/-- With the entries in their places the blocks have their right forwarding words. -/
theorem want_blocks : ∀ n (ws : List Nat) (i : Nat) (l : List Bk), ws.length - i ≤ n → blocks ws i = some l → ∀ s, blocks (putE ws (wantE l s)) i = some (fwB l s) ∧ ∀ j, j ≤ i → wd (putE ws (wantE l s)) j = wd ws j := by
  intro n
  induction n with
  | zero =>
    intro ws i l hn h s
    rw [blocks_end (by omega)] at h
    cases h
    exact ⟨by simp only [wantE, putE, fwB]; exact blocks_end (by omega), fun j _ => rfl⟩
  | succ n ih =>
    intro ws i l hn h s
    by_cases hi : ws.length ≤ i
    · rw [blocks_end hi] at h
      cases h
      exact ⟨by simp only [wantE, putE, fwB]; exact blocks_end hi, fun j _ => rfl⟩
    · have hi : i < ws.length := by omega
      cases hs : stands ws i with
      | false => rw [blocks_bad hi hs] at h; cases h
      | true =>
        have hsz := stands_sz hs
        rw [blocks_step hi hs] at h
        cases hb : blocks ws (i + szAt ws i) with
        | none => rw [hb] at h; cases h
        | some l' =>
          rw [hb] at h
          simp only [Option.map_some, Option.some.injEq] at h
          subst h
          -- the words behind this block's own entry
          obtain ⟨w1, hw1, hlen, hbk, hst, hsz1, hag⟩ : ∃ w1, putE ws (wantE (bkAt ws i :: l') s) = putE w1 (wantE l' (nextS (bkAt ws i) s)) ∧ w1.length = ws.length ∧ bkAt w1 i = (if (bkAt ws i).kind = 1 then { bkAt ws i with next := wantN (bkAt ws i) s } else bkAt ws i) ∧ stands w1 i = stands ws i ∧ szAt w1 i = szAt ws i ∧ ∀ j, j ≠ i + 1 → wd w1 j = wd ws j := by
            by_cases hc : (bkAt ws i).kind = 1 ∧ (bkAt ws i).next ≠ wantN (bkAt ws i) s
            · refine ⟨ws.set (i + 1) (wantN (bkAt ws i) s), ?_, by simp, ?_, (stands_set _ (by omega)).1, (stands_set _ (by omega)).2, fun j hj => wd_set_ne ws _ (by omega)⟩
              · simp only [wantE]
                rw [if_pos hc, putE_append]
                simp only [putE]
                rw [if_pos (by rw [bkAt_at]; omega), bkAt_at, show ((i : Int) + 1).toNat = i + 1 by omega]
              · rw [bkAt_next_set (by omega), if_pos hc.1]
            · refine ⟨ws, ?_, rfl, ?_, rfl, rfl, fun j _ => rfl⟩
              · simp only [wantE]
                rw [if_neg hc, List.nil_append]
              · split
                · rename_i hk
                  have : (bkAt ws i).next = wantN (bkAt ws i) s := by
                    rcases Nat.decEq (bkAt ws i).next (wantN (bkAt ws i) s) with h1 | h1
                    · exact absurd ⟨hk, h1⟩ hc
                    · exact h1
                  exact (bk_same this).symm
                · rfl
          have hb1 : blocks w1 (i + szAt ws i) = some l' := by rw [blocks_agree hlen _ (fun j hj => hag j (by omega)), hb]
          obtain ⟨g1, g2⟩ := ih w1 (i + szAt ws i) l' (by omega) hb1 (nextS (bkAt ws i) s)
          rw [hw1]
          obtain ⟨E, hE⟩ : ∃ E, wantE l' (nextS (bkAt ws i) s) = E := ⟨_, rfl⟩
          rw [hE] at g1 g2 ⊢
          have e0 : wd (putE w1 E) i = wd w1 i := g2 i (by omega)
          have e1 : wd (putE w1 E) (i + 1) = wd w1 (i + 1) := g2 (i + 1) (by omega)
          have f1 : stands (putE w1 E) i = stands w1 i := by unfold stands; rw [e0, putE_len]
          have f2 : szAt (putE w1 E) i = szAt w1 i := by unfold szAt; rw [e0]
          have f3 : bkAt (putE w1 E) i = bkAt w1 i := by unfold bkAt; rw [e0, e1]
          refine ⟨?_, fun j hj => by rw [g2 j (by omega)]; exact hag j (by omega)⟩
          rw [blocks_step (by rw [putE_len, hlen]; exact hi) (by rw [f1, hst, hs]), f2, f3, hsz1, g1, hbk]
          rfl
theorem fwB_live {l : List Bk} : ∀ {s : Int}, endOf (fwB l s) s = endOf l s ∧ moves (fwB l s) s = moves l s ∧ (fwB l s).map (fun b => (b.at_, b.size, b.kind, b.mark)) = l.map (fun b => (b.at_, b.size, b.kind, b.mark)) := by
  induction l with
  | nil => intro s; exact ⟨rfl, rfl, rfl⟩
  | cons b l ih =>
    intro s
    have hl : liveB (if b.kind = 1 then { b with next := wantN b s } else b) = liveB b := by split <;> rfl
    have h1 : (if b.kind = 1 then { b with next := wantN b s } else b).size = b.size := by split <;> rfl
    have h2 : (if b.kind = 1 then { b with next := wantN b s } else b).at_ = b.at_ := by split <;> rfl
    have h3 : (if b.kind = 1 then { b with next := wantN b s } else b).kind = b.kind := by split <;> rfl
    have h4 : (if b.kind = 1 then { b with next := wantN b s } else b).mark = b.mark := by split <;> rfl
    simp only [fwB, endOf, moves, List.map_cons, hl, h1, h2, h3, h4]
    unfold nextS
    split
    · obtain ⟨a1, a2, a3⟩ := ih (s := s + b.size)
      rw [a1, a2, a3]; exact ⟨rfl, rfl, rfl⟩
    · obtain ⟨a1, a2, a3⟩ := ih (s := s)
      rw [a1, a2, a3]; exact ⟨rfl, rfl, rfl⟩
end Go.Proofs.YtoaepffpjoibaaaGreat
