/- Words for memory that all contracts of this seat use: a slice that reads as a list of elements of several cells, kept over what a call does to memory; rows of the call's own. -/
import Derived.Test.YtpifagclhhaniaaRows
import Derived.WalkKit
import Derived.WalkSpells
import Derived.WalkLawsBesides
import Derived.Deep.QuietTactic
import Derived.BigQuiet
import Derived.Lib.Hide
import Derived.Deep.AppendLies
import Derived.Deep.OwnRows
import Derived.Deep.Cut
import Derived.Deep.Draws
import Derived.Deep.LoopGhost
import Derived.Deep.RegionWith
import Derived.WalkSmall
namespace Go.Proofs.Ytpifagclhhaniaa
open Go.RowKit

/-- The slice part A reads as the cells xs, all of them below block B. -/
def Rd (w : World) (B : Nat) (A : Option Addr) (xs : List Value) : Prop :=
  xs ≠ [] → ∃ b off, A = some ⟨b, off, none⟩ ∧ b < B ∧ ∀ j (h : j < xs.length), w.cell? ⟨b, off + j, none⟩ = some xs[j]

section
variable {w w' : World} {B B' : Nat} {A : Option Addr} {xs : List Value}
theorem Rd.nil_ : Rd w B A [] := fun h => absurd rfl h
theorem Rd.keep (h : Rd w B A xs) (hk : ∀ p : Addr, p.block < B → w'.cell? p = w.cell? p) : Rd w' B A xs := fun hn => by
  obtain ⟨b, off, e, hb, hc⟩ := h hn
  exact ⟨b, off, e, hb, fun j hj => (hk ⟨b, off + j, none⟩ hb).trans (hc j hj)⟩
theorem Rd.more (h : Rd w B A xs) (hB : B ≤ B') : Rd w B' A xs := fun hn => by
  obtain ⟨b, off, e, hb, hc⟩ := h hn
  exact ⟨b, off, e, by omega, hc⟩
theorem Rd.below (h : Rd w B A xs) (hb : Below B w w') : Rd w' B A xs := h.keep fun _ hp => hb.cell hp
theorem Rd.up (h : Rd w B A xs) (hb : Below B w w') (hB : B ≤ B') : Rd w' B' A xs := (h.below hb).more hB
theorem Rd.drewN (h : Rd w B A xs) (n : Nat) : Rd (w.drewN n) B A xs := h
theorem Rd.alloc (h : Rd w B A xs) (hB : B ≤ w.heap.size) (o : Obj) : Rd (w.alloc o) B A xs := h.keep fun p hp => World.cell?_alloc_lt w o p (by omega)
theorem Rd.set_ (h : Rd w B A xs) {p : Addr} (hB : B ≤ p.block) (u : Value) : Rd (w.setCell p u) B A xs :=
  h.keep fun q hq => World.cell?_setCell_other w p q u (fun e => by subst e; omega)
theorem Rd.drop_ (h : Rd w B A xs) (k : Nat) : Rd w B (A.map (·.add k)) (xs.drop k) := fun hn => by
  have hlt : k < xs.length := by
    rcases Nat.lt_or_ge k xs.length with h1 | h1
    · exact h1
    · exact absurd (List.drop_eq_nil_of_le h1) hn
  obtain ⟨b, off, rfl, hb, hc⟩ := h (by intro e; subst e; simp at hlt)
  refine ⟨b, off + k, ?_, hb, fun j hj => ?_⟩
  · simp only [Option.map_some, Addr.add]; split <;> simp_all
  · have hj' : k + j < xs.length := by simp at hj; omega
    rw [List.getElem_drop, Nat.add_assoc]
    exact hc _ hj'
theorem Rd.take_ (h : Rd w B A xs) (k : Nat) : Rd w B A (xs.take k) := fun hn => by
  obtain ⟨b, off, rfl, hb, hc⟩ := h (by intro e; subst e; simp at hn)
  exact ⟨b, off, rfl, hb, fun j hj => by rw [List.getElem_take]; exact hc j (by simp at hj; omega)⟩
theorem Rd.of_own {base size n : Nat} {e : TypeId} {c : Nat} (h : w.ownsRow base e size (.slice A n c) n xs) : Rd w w.heap.size A xs := fun hn => by
  have h0 : 0 < n := by
    rcases Nat.eq_zero_or_pos n with h1 | h1
    · have := h.1; subst h1; simp at this; exact absurd this hn
    · exact h1
  obtain ⟨g, cap, hv, _, hlt⟩ := h.form h0
  have hA : A = some ⟨g, 0, none⟩ := by injection hv
  subst hA
  refine ⟨g, 0, rfl, hlt, fun j hj => ?_⟩
  have := h.cells (g := g) rfl j xs[j] (List.getElem?_eq_getElem hj)
  have e : (⟨g, 0, none⟩ : Addr).add j = ⟨g, 0 + j, none⟩ := by unfold Addr.add; split <;> simp_all
  rwa [e] at this
end

/-! Elements of several cells -/
theorem flat_len {α : Type} (f : α → List Value) (sz : Nat) (hf : ∀ x, (f x).length = sz) (l : List α) : (l.flatMap f).length = l.length * sz := by
  induction l with
  | nil => simp
  | cons x l ih => rw [List.flatMap_cons, List.length_append, hf, ih, List.length_cons, Nat.add_mul]; omega
theorem flat_get {α : Type} (f : α → List Value) (sz : Nat) (hf : ∀ x, (f x).length = sz) (l : List α) (k j : Nat) (hk : k < l.length) (hj : j < sz) :
    (l.flatMap f)[k * sz + j]? = (f l[k])[j]? := by
  induction l generalizing k with
  | nil => simp at hk
  | cons x l ih =>
    rw [List.flatMap_cons]
    cases k with
    | zero => rw [List.getElem?_append_left (by rw [hf]; omega)]; simp
    | succ k =>
      rw [List.getElem?_append_right (by rw [hf, Nat.add_mul]; omega), hf]
      have : (k + 1) * sz + j - sz = k * sz + j := by rw [Nat.add_mul]; omega
      rw [this, ih k (by simpa using hk)]
      simp
theorem Rd.at_flat {α : Type} {f : α → List Value} {sz : Nat} {w : World} {B : Nat} {A : Option Addr} {l : List α} (hf : ∀ x, (f x).length = sz) (h : Rd w B A (l.flatMap f)) (hsz : 0 < sz) {k : Nat} (hk : k < l.length) :
    ∃ b off, A = some ⟨b, off, none⟩ ∧ b < B ∧ ∀ j, j < sz → w.cell? ⟨b, off + k * sz + j, none⟩ = (f l[k])[j]? := by
  have hl := flat_len f sz hf l
  have hpos : 0 < (l.flatMap f).length := by rw [hl]; exact Nat.mul_pos (by omega) hsz
  obtain ⟨b, off, rfl, hb, hc⟩ := h (by intro e; rw [e] at hpos; simp at hpos)
  refine ⟨b, off, rfl, hb, fun j hj => ?_⟩
  have hlt : k * sz + j < (l.flatMap f).length := by
    rw [hl]
    have : (k + 1) * sz ≤ l.length * sz := Nat.mul_le_mul_right _ hk
    rw [Nat.add_mul] at this; omega
  have h1 := hc _ hlt
  rw [← Nat.add_assoc] at h1
  rw [h1, ← flat_get f sz hf l k j hk hj]
  exact (List.getElem?_eq_getElem hlt).symm

/-- An entry: its address and its value. -/
structure En where
  a : Int
  v : Nat
  deriving DecidableEq, Inhabited
def En.cells (e : En) : List Value := [.int .i64 e.a, .int .u64 (e.v : Int)]
/-- A block. -/
structure Bk where
  at_ : Int
  size : Int
  kind : Int
  typ : Int
  mark : Bool
  next : Nat
  deriving DecidableEq, Inhabited
def Bk.cells (b : Bk) : List Value := [.int .i64 b.at_, .int .i64 b.size, .int .i64 b.kind, .int .i64 b.typ, .bool b.mark, .int .u64 (b.next : Int)]
def Bk.val (b : Bk) : Value := .agg #[.int .i64 b.at_, .int .i64 b.size, .int .i64 b.kind, .int .i64 b.typ, .bool b.mark, .int .u64 (b.next : Int)]
def intCells (x : Int) : List Value := [.int .i64 x]
def wordCells (x : Nat) : List Value := [.int .u64 (x : Int)]

def RdE (w : World) (B : Nat) (A : Option Addr) (l : List En) : Prop := Rd w B A (l.flatMap En.cells)
def RdB (w : World) (B : Nat) (A : Option Addr) (l : List Bk) : Prop := Rd w B A (l.flatMap Bk.cells)
def RdI (w : World) (B : Nat) (A : Option Addr) (l : List Int) : Prop := Rd w B A (l.flatMap intCells)
def RdW (w : World) (B : Nat) (A : Option Addr) (l : List Nat) : Prop := Rd w B A (l.flatMap wordCells)
theorem En.len (x : En) : x.cells.length = 2 := rfl
theorem Bk.len (x : Bk) : x.cells.length = 6 := rfl
theorem intCells_len (x : Int) : (intCells x).length = 1 := rfl
theorem wordCells_len (x : Nat) : (wordCells x).length = 1 := rfl

theorem RdE.at_ {w : World} {B : Nat} {A : Option Addr} {l : List En} (h : RdE w B A l) {k : Nat} (hk : k < l.length) :
    ∃ b off, A = some ⟨b, off, none⟩ ∧ b < B ∧ w.cell? ⟨b, off + k * 2, none⟩ = some (.int .i64 l[k].a) ∧ w.cell? ⟨b, off + k * 2 + 1, none⟩ = some (.int .u64 (l[k].v : Int)) := by
  obtain ⟨b, off, e, hb, hc⟩ := Rd.at_flat En.len h (by omega) hk
  exact ⟨b, off, e, hb, hc 0 (by omega), hc 1 (by omega)⟩
theorem RdB.at_ {w : World} {B : Nat} {A : Option Addr} {l : List Bk} (h : RdB w B A l) {k : Nat} (hk : k < l.length) :
    ∃ b off, A = some ⟨b, off, none⟩ ∧ b < B ∧ w.cell? ⟨b, off + k * 6, none⟩ = some (.int .i64 l[k].at_) ∧ w.cell? ⟨b, off + k * 6 + 1, none⟩ = some (.int .i64 l[k].size) ∧
      w.cell? ⟨b, off + k * 6 + 2, none⟩ = some (.int .i64 l[k].kind) ∧ w.cell? ⟨b, off + k * 6 + 3, none⟩ = some (.int .i64 l[k].typ) ∧
      w.cell? ⟨b, off + k * 6 + 4, none⟩ = some (.bool l[k].mark) ∧ w.cell? ⟨b, off + k * 6 + 5, none⟩ = some (.int .u64 (l[k].next : Int)) := by
  obtain ⟨b, off, e, hb, hc⟩ := Rd.at_flat Bk.len h (by omega) hk
  exact ⟨b, off, e, hb, hc 0 (by omega), hc 1 (by omega), hc 2 (by omega), hc 3 (by omega), hc 4 (by omega), hc 5 (by omega)⟩
theorem RdI.at_ {w : World} {B : Nat} {A : Option Addr} {l : List Int} (h : RdI w B A l) {k : Nat} (hk : k < l.length) :
    ∃ b off, A = some ⟨b, off, none⟩ ∧ b < B ∧ w.cell? ⟨b, off + k, none⟩ = some (.int .i64 l[k]) := by
  obtain ⟨b, off, e, hb, hc⟩ := Rd.at_flat intCells_len h (by omega) hk
  have := hc 0 (by omega)
  simp only [Nat.mul_one, Nat.add_zero] at this
  exact ⟨b, off, e, hb, this⟩
theorem RdW.at_ {w : World} {B : Nat} {A : Option Addr} {l : List Nat} (h : RdW w B A l) {k : Nat} (hk : k < l.length) :
    ∃ b off, A = some ⟨b, off, none⟩ ∧ b < B ∧ w.cell? ⟨b, off + k, none⟩ = some (.int .u64 (l[k] : Int)) := by
  obtain ⟨b, off, e, hb, hc⟩ := Rd.at_flat wordCells_len h (by omega) hk
  have := hc 0 (by omega)
  simp only [Nat.mul_one, Nat.add_zero] at this
  exact ⟨b, off, e, hb, this⟩

theorem size_drewN (w : World) (n : Nat) : (w.drewN n).heap.size = w.heap.size := rfl
theorem le_alloc_ {B : Nat} {w : World} {o : Obj} (h : B ≤ w.heap.size) : B ≤ (w.alloc o).heap.size := by rw [World.size_alloc]; omega
theorem le_set_ {B : Nat} {w : World} {p : Addr} {u : Value} (h : B ≤ w.heap.size) : B ≤ (w.setCell p u).heap.size := by rw [World.size_setCell]; exact h
theorem le_drewN_ {B n : Nat} {w : World} (h : B ≤ w.heap.size) : B ≤ (w.drewN n).heap.size := h
theorem below_drewN {B : Nat} {a w : World} (h : Below B a w) (n : Nat) : Below B a (w.drewN n) := ⟨h.os, h.tape, h.output, h.size, h.block⟩
theorem rowIs_drewN {w : World} {b : Nat} {t : TypeId} {n : Nat} {f : Nat → Value} (h : w.rowIs b t n f) (k : Nat) : (w.drewN k).rowIs b t n f := h
theorem rowIs_below {w w' : World} {B b : Nat} {t : TypeId} {n : Nat} {f : Nat → Value} (h : w.rowIs b t n f) (hb : Below B w w') (hlt : b < B) : w'.rowIs b t n f := h.of_block (hb.block b hlt)
theorem ret_int {k : IntKind} {a b : Int} (h : a = b) : Ending.returned (.int k a) = .returned (.int k b) := by rw [h]
theorem take_succ' {α : Type} (l : List α) (k : Nat) (h : k < l.length) : l.take (k + 1) = l.take k ++ [l[k]] := by
  rw [List.take_succ_eq_append_getElem h]
/-! A block that the call laid just before a call that it made: its cells behind that call -/
theorem box_of {w w1 : World} {cs : Array Value} {t : TypeId} (hB : Below (w.heap.size + 1) (w.alloc (.cells cs t)) w1) :
    (∀ i, w1.cell? ⟨w.heap.size, i, none⟩ = cs[i]?) ∧ (∀ i, w1.frozen? ⟨w.heap.size, i, none⟩ = false) ∧ Below w.heap.size w w1 ∧ w.heap.size < w1.heap.size := by
  have hb : w1.heap[w.heap.size]? = some (.cells cs t (0, 0)) := (hB.block w.heap.size (by omega)).trans (heap_alloc_new w _)
  refine ⟨fun i => cell_of_row w1 _ i cs t (0, 0) hb, fun i => by simp [World.frozen?, hb], ((Below.refl _ _).alloc (Nat.le_refl _) _).trans (hB.mono (by omega)), ?_⟩
  have := hB.size
  simp at this
  omega
theorem box3 {w w1 : World} {x y z : Value} {t : TypeId} (hB : Below (w.heap.size + 1) (w.alloc (.cells #[x, y, z] t)) w1) :
    w1.cell? ⟨w.heap.size, 0, none⟩ = some x ∧ w1.cell? ⟨w.heap.size, 1, none⟩ = some y ∧ w1.cell? ⟨w.heap.size, 2, none⟩ = some z ∧
      w1.frozen? ⟨w.heap.size, 0, none⟩ = false ∧ w1.frozen? ⟨w.heap.size, 1, none⟩ = false ∧ w1.frozen? ⟨w.heap.size, 2, none⟩ = false ∧ Below w.heap.size w w1 ∧ w.heap.size < w1.heap.size := by
  obtain ⟨hc, hf, hb, hz⟩ := box_of hB
  exact ⟨hc 0, hc 1, hc 2, hf 0, hf 1, hf 2, hb, hz⟩

/-- Block g is just the cells cs of element type t, none of them frozen. -/
def Bx (w : World) (g : Nat) (t : TypeId) (cs : Array Value) : Prop := w.heap[g]? = some (.cells cs t (0, 0))
section
variable {w w' : World} {g B : Nat} {t : TypeId} {cs : Array Value}
theorem Bx.lt (h : Bx w g t cs) : g < w.heap.size := by
  rcases Nat.lt_or_ge g w.heap.size with hlt | hge
  · exact hlt
  · unfold Bx at h; rw [Array.getElem?_eq_none hge] at h; cases h
theorem Bx.cell (h : Bx w g t cs) (i : Nat) : w.cell? ⟨g, i, none⟩ = cs[i]? := cell_of_row w g i cs t (0, 0) h
theorem Bx.frozen (h : Bx w g t cs) (i : Nat) : w.frozen? ⟨g, i, none⟩ = false := by
  unfold Bx at h
  simp [World.frozen?, h]
theorem Bx.new (w : World) (t : TypeId) (cs : Array Value) : Bx (w.alloc (.cells cs t)) w.heap.size t cs := heap_alloc_new w _
theorem Bx.drewN (h : Bx w g t cs) (n : Nat) : Bx (w.drewN n) g t cs := h
theorem Bx.alloc (h : Bx w g t cs) (o : Obj) : Bx (w.alloc o) g t cs := (Below.heap_alloc w o g h.lt).trans h
theorem Bx.far (h : Bx w g t cs) {p : Addr} (hp : g ≠ p.block) (u : Value) : Bx (w.setCell p u) g t cs := (Below.heap_setCell w p u g hp).trans h
theorem Bx.up (h : Bx w g t cs) (hb : Below B w w') (hg : g < B) : Bx w' g t cs := (hb.block g hg).trans h
theorem Bx.set_ (h : Bx w g t cs) (i : Nat) (u : Value) : Bx (w.setCell ⟨g, i, none⟩ u) g t (cs.setIfInBounds i u) := by
  unfold Bx at h ⊢
  simp [World.setCell, Array.getElem?_modify, h]
theorem Bx.of_new (hB : Below (w.heap.size + 1) (w.alloc (.cells cs t)) w') : Bx w' w.heap.size t cs := (Bx.new w t cs).up hB (by omega)
theorem Bx.c1 {x : Value} (h : Bx w g t #[x]) : w.cell? ⟨g, 0, none⟩ = some x ∧ w.frozen? ⟨g, 0, none⟩ = false ∧ g < w.heap.size := ⟨h.cell 0, h.frozen 0, h.lt⟩
theorem Bx.c2 {x y : Value} (h : Bx w g t #[x, y]) : w.cell? ⟨g, 0, none⟩ = some x ∧ w.cell? ⟨g, 1, none⟩ = some y ∧ w.frozen? ⟨g, 0, none⟩ = false ∧ w.frozen? ⟨g, 1, none⟩ = false ∧ g < w.heap.size :=
  ⟨h.cell 0, h.cell 1, h.frozen 0, h.frozen 1, h.lt⟩
theorem Bx.c3 {x y z : Value} (h : Bx w g t #[x, y, z]) : w.cell? ⟨g, 0, none⟩ = some x ∧ w.cell? ⟨g, 1, none⟩ = some y ∧ w.cell? ⟨g, 2, none⟩ = some z ∧
    w.frozen? ⟨g, 0, none⟩ = false ∧ w.frozen? ⟨g, 1, none⟩ = false ∧ w.frozen? ⟨g, 2, none⟩ = false ∧ g < w.heap.size :=
  ⟨h.cell 0, h.cell 1, h.cell 2, h.frozen 0, h.frozen 1, h.frozen 2, h.lt⟩
theorem Bx.c6 {x0 x1 x2 x3 x4 x5 : Value} (h : Bx w g t #[x0, x1, x2, x3, x4, x5]) : w.cell? ⟨g, 0, none⟩ = some x0 ∧ w.cell? ⟨g, 1, none⟩ = some x1 ∧ w.cell? ⟨g, 2, none⟩ = some x2 ∧
    w.cell? ⟨g, 3, none⟩ = some x3 ∧ w.cell? ⟨g, 4, none⟩ = some x4 ∧ w.cell? ⟨g, 5, none⟩ = some x5 ∧ (∀ i, w.frozen? ⟨g, i, none⟩ = false) ∧ g < w.heap.size :=
  ⟨h.cell 0, h.cell 1, h.cell 2, h.cell 3, h.cell 4, h.cell 5, h.frozen, h.lt⟩
end
/-- What was laid just before a call, and what the call leaves: the caller's own memory is as it was. -/
theorem below_call {w w1 : World} {o : Obj} (hB : Below (w.heap.size + 1) (w.alloc o) w1) : Below w.heap.size w w1 := ((Below.refl _ _).alloc (Nat.le_refl _) _).trans (hB.mono (by omega))

/-! append of one new element onto a row of the call's own -/
theorem news_new (w : World) (cs : List Value) (t : TypeId) : ∀ j u, cs[j]? = some u → (w.alloc (.cells cs.toArray t)).cell? ((⟨w.heap.size, 0, none⟩ : Addr).add j) = some u := by
  intro j u hu
  have e : (⟨w.heap.size, 0, none⟩ : Addr).add j = ⟨w.heap.size, j, none⟩ := by unfold Addr.add; split <;> simp_all
  rw [e, (Bx.new w t cs.toArray).cell j]
  simpa using hu
theorem below_append {H : Nat} {w wr w1 : World} {e : TypeId} {sz n : Nat} {v : Value} {xs : List Value} {o : Obj} (hB : Below H w wr) (hH : H ≤ wr.heap.size) (hown : wr.ownsRow H e sz v n xs) (hg : (wr.alloc o).grownBy w1 v.ownBlock) : Below H w w1 :=
  (hB.alloc hH _).grown hg (le_alloc_ hH) (fun k hk => (hown.lt k hk).1)
theorem below_append0 {H : Nat} {w wr w1 : World} {e : TypeId} {sz n : Nat} {v : Value} {xs : List Value} (hB : Below H w wr) (hH : H ≤ wr.heap.size) (hown : wr.ownsRow H e sz v n xs) (hg : wr.grownBy w1 v.ownBlock) : Below H w w1 :=
  hB.grown hg hH (fun k hk => (hown.lt k hk).1)
/-- Another block than the row's own is as it was. -/
theorem Bx.grown {w w' : World} {g : Nat} {t : TypeId} {cs : Array Value} {row : Option Nat} (h : Bx w g t cs) (hb : w.grownBy w' row) (hg : some g ≠ row) : Bx w' g t cs := (hb.block g h.lt hg).trans h
theorem own_ne {w : World} {H g : Nat} {e : TypeId} {sz n : Nat} {v : Value} {xs : List Value} (hown : w.ownsRow H e sz v n xs) (hg : g < H) : some g ≠ v.ownBlock := fun h => by
  have := (hown.lt g h.symm).1; omega
theorem own_slice {w : World} {H : Nat} {e : TypeId} {sz n : Nat} {v : Value} {xs : List Value} (hown : w.ownsRow H e sz v n xs) : ∃ A c, v = .slice A n c := by
  rcases hown.2 with ⟨rfl, rfl⟩ | ⟨g, cap, cur, rfl, _⟩
  · exact ⟨none, 0, rfl⟩
  · exact ⟨_, _, rfl⟩
theorem own_below {w w' : World} {H B : Nat} {e : TypeId} {sz n : Nat} {v : Value} {xs : List Value} (h : w.ownsRow H e sz v n xs) (hb : Below B w w') (hB : w.heap.size ≤ B) : w'.ownsRow H e sz v n xs := by
  refine ⟨h.1, ?_⟩
  rcases h.2 with hn | ⟨g, cap, cur, hv, hb1, hgg, rest⟩
  · exact .inl hn
  · exact .inr ⟨g, cap, cur, hv, hb1, (hb.block g (by have := (Array.getElem?_eq_some_iff.1 hgg).1; omega)).trans hgg, rest⟩
theorem flat_snoc {α : Type} (f : α → List Value) (l : List α) (x : α) : (l ++ [x]).flatMap f = l.flatMap f ++ f x := by simp

def En.ok (e : En) : Prop := -9223372036854775808 ≤ e.a ∧ e.a ≤ 9223372036854775807 ∧ e.v < 18446744073709551616
def Bk.ok (b : Bk) : Prop := (-9223372036854775808 ≤ b.at_ ∧ b.at_ ≤ 9223372036854775807) ∧ (-9223372036854775808 ≤ b.size ∧ b.size ≤ 9223372036854775807) ∧
  (-9223372036854775808 ≤ b.kind ∧ b.kind ≤ 9223372036854775807) ∧ (-9223372036854775808 ≤ b.typ ∧ b.typ ≤ 9223372036854775807) ∧ b.next < 18446744073709551616

/-- A change that lies in a slice of changes: its value's parts, and its entries. -/
structure Ch where
  A : Option Addr
  c : Nat
  l : List En
  deriving Inhabited
def Ch.cells (x : Ch) : List Value := [.slice x.A x.l.length x.c]
def Ch.ok (w : World) (x : Ch) : Prop := x.l.length ≤ maxLen ∧ RdE w w.heap.size x.A x.l ∧ ∀ e ∈ x.l, e.ok
def RdC (w : World) (B : Nat) (A : Option Addr) (l : List Ch) : Prop := Rd w B A (l.flatMap Ch.cells)
theorem Ch.len (x : Ch) : x.cells.length = 1 := rfl
theorem RdC.at_ {w : World} {B : Nat} {A : Option Addr} {l : List Ch} (h : RdC w B A l) {k : Nat} (hk : k < l.length) :
    ∃ b off, A = some ⟨b, off, none⟩ ∧ b < B ∧ w.cell? ⟨b, off + k, none⟩ = some (.slice l[k].A l[k].l.length l[k].c) := by
  obtain ⟨b, off, e, hb, hc⟩ := Rd.at_flat Ch.len h (by omega) hk
  have := hc 0 (by omega)
  simp only [Nat.mul_one, Nat.add_zero] at this
  exact ⟨b, off, e, hb, this⟩
def addrs (l : List En) : List Int := l.map En.a
theorem addrs_len (l : List En) : (addrs l).length = l.length := by simp [addrs]
theorem addrs_get (l : List En) (k : Nat) (h : k < l.length) : (addrs l)[k]?.getD 0 = l[k].a := by simp [addrs, h]
theorem own_mono {w : World} {H M : Nat} {e : TypeId} {sz n : Nat} {v : Value} {xs : List Value} (h : w.ownsRow M e sz v n xs) (hH : H ≤ M) : w.ownsRow H e sz v n xs := by
  refine ⟨h.1, ?_⟩
  rcases h.2 with hn | ⟨g, cap, cur, hv, hb1, rest⟩
  · exact .inl hn
  · exact .inr ⟨g, cap, cur, hv, by omega, rest⟩
theorem own_sep {w : World} {H H' : Nat} {e e' : TypeId} {sz sz' n n' : Nat} {v v' : Value} {xs xs' : List Value} (h : w.ownsRow H e sz v n xs) (h' : w.ownsRow H' e' sz' v' n' xs') (hne : e ≠ e') : v.ownBlock = none ∨ v.ownBlock ≠ v'.ownBlock := by
  rcases h.2 with ⟨rfl, _⟩ | ⟨g, cap, cur, rfl, _, hg, _⟩
  · exact .inl rfl
  · right
    rcases h'.2 with ⟨rfl, _⟩ | ⟨g', cap', cur', rfl, _, hg', _⟩
    · simp [Value.ownBlock]
    · simp only [Value.ownBlock, ne_eq, Option.some.injEq]
      rintro rfl
      rw [hg] at hg'
      simp only [Option.some.injEq, Obj.cells.injEq] at hg'
      exact hne hg'.2.1
/-- What stands in front of a part of a list, one more. -/
theorem drop_rev {α : Type} (l : List α) (m : Nat) (h : m < l.length) : (l.drop m).reverse = (l.drop (m + 1)).reverse ++ [l[m]] := by
  rw [List.drop_eq_getElem_cons h, List.reverse_cons]
theorem flat1_take {α : Type} (f : α → List Value) (hf : ∀ x, (f x).length = 1) (l : List α) (n : Nat) : (l.take n).flatMap f = (l.flatMap f).take n := by
  induction l generalizing n with
  | nil => simp
  | cons x l ih =>
    have hx := hf x
    match hfx : f x, hx with
    | [u], _ =>
      cases n with
      | zero => simp
      | succ n => simp [List.flatMap_cons, hfx, ih]
theorem flat1_drop {α : Type} (f : α → List Value) (hf : ∀ x, (f x).length = 1) (l : List α) (n : Nat) : (l.drop n).flatMap f = (l.flatMap f).drop n := by
  induction l generalizing n with
  | nil => simp
  | cons x l ih =>
    have hx := hf x
    match hfx : f x, hx with
    | [u], _ =>
      cases n with
      | zero => simp
      | succ n => simp [List.flatMap_cons, hfx, ih]
/-- The address of a part of a slice, as the model has it. -/
theorem Rd.cut {w : World} {B : Nat} {A : Option Addr} {xs : List Value} (h : Rd w B A xs) (k c : Nat) (hc : xs.length ≤ c) : Rd w B (if c = k then A else A.map (·.add k)) (xs.drop k) := by
  by_cases e : c = k
  · rw [if_pos e]
    intro hn
    exact absurd (List.drop_eq_nil_of_le (by omega)) hn
  · rw [if_neg e]
    exact h.drop_ k
end Go.Proofs.Ytpifagclhhaniaa
