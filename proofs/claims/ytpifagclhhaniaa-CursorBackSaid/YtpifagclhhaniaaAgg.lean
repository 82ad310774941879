/- A struct that is stored whole into a box, and loaded whole out of one. -/
import Derived.Test.YtpifagclhhaniaaArr
namespace Go.Proofs.Ytpifagclhhaniaa
open Go.RowKit

theorem setCells_other {g g' : Nat} (hne : g' ≠ g) (vs : List Value) : ∀ (w : World) (o : Nat), (w.setCells g o vs).heap[g']? = w.heap[g']? := by
  induction vs with
  | nil => intro w o; rfl
  | cons v vs ih => intro w o; simp only [World.setCells]; rw [ih]; exact Below.heap_setCell w ⟨g, o, none⟩ v g' hne
theorem setCells_size {g : Nat} (vs : List Value) : ∀ (w : World) (o : Nat), (w.setCells g o vs).heap.size = w.heap.size := by
  induction vs with
  | nil => intro w o; rfl
  | cons v vs ih => intro w o; simp only [World.setCells]; rw [ih, World.size_setCell]
/-- Block g alone is another one. -/
def Aside1 (w w' : World) (g : Nat) : Prop := w'.heap.size = w.heap.size ∧ (∀ g', g' ≠ g → w'.heap[g']? = w.heap[g']?) ∧ ∀ B, B ≤ g → Below B w w'
theorem Aside1.bx {w w' : World} {g g' : Nat} {t : TypeId} {cs : Array Value} (h : Aside1 w w' g) (hb : Bx w g' t cs) (hne : g' ≠ g) : Bx w' g' t cs := (h.2.1 g' hne).trans hb
theorem Aside1.below {w0 w w' : World} {g B : Nat} (h : Aside1 w w' g) (hb : Below B w0 w) (hB : B ≤ g) : Below B w0 w' := hb.trans (h.2.2 B hB)
theorem wpList_store_agg {P : Program} {ops : Array Oper} {rest : List Oper} {op : Oper} {a : Act} {w : World} {Q : Exit → Act → World → Prop} (hgd : op.guard = none) (ty : TypeId) (x y : Operand) (ho : op.op = .store ty x y)
    (g : Nat) (t : TypeId) (cs0 cs : Array Value) (hx : a.eval x = .pointer (some ⟨g, 0, none⟩)) (hy : a.eval y = .agg cs) (hb : Bx w g t cs0) (hs : cs.size = cs0.size) (hi : (P.info? ty).map (·.size) = some cs.size) (h1 : cs.all (·.oneCell') = true)
    (h : ∀ W', Bx W' g t cs → Aside1 w W' g → wpList P ops Q rest (a.put op.dst undef) W') : wpList P ops Q (op :: rest) a w := by
  have hth : w.there g 0 cs.size := by rw [hs]; exact there_bx hb
  refine wpList_store_mid hgd ty x y ho g 0 cs hx hy hth hi h1 (h _ (setCells_all hb hs) ⟨setCells_size _ _ _, fun g' hg' => setCells_other hg' _ _ _, fun B hB => below_setCells hB _ (Below.refl _ _)⟩)
/-- The operation that stands next is this store, or this load: for arms of a walk, to be tried with_reducible. -/
theorem at_store {P : Program} {ops : Array Oper} {rest : List Oper} {a : Act} {w : World} {Q : Exit → Act → World → Prop} {dst : Option Tmp} {type : TypeId} {pos : String} {after : Array Edge} {guard : Option (Nat × Bool)} (ty : TypeId) (x y : Operand)
    (h : wpList P ops Q ({ dst := dst, op := .store ty x y, type := type, pos := pos, after := after, guard := guard } :: rest) a w) : wpList P ops Q ({ dst := dst, op := .store ty x y, type := type, pos := pos, after := after, guard := guard } :: rest) a w := h
theorem at_load {P : Program} {ops : Array Oper} {rest : List Oper} {a : Act} {w : World} {Q : Exit → Act → World → Prop} {dst : Option Tmp} {type : TypeId} {pos : String} {after : Array Edge} {guard : Option (Nat × Bool)} (ty : TypeId) (x : Operand)
    (h : wpList P ops Q ({ dst := dst, op := .load ty x, type := type, pos := pos, after := after, guard := guard } :: rest) a w) : wpList P ops Q ({ dst := dst, op := .load ty x, type := type, pos := pos, after := after, guard := guard } :: rest) a w := h
theorem at_binop {P : Program} {ops : Array Oper} {rest : List Oper} {a : Act} {w : World} {Q : Exit → Act → World → Prop} {dst : Option Tmp} {type : TypeId} {pos : String} {after : Array Edge} {guard : Option (Nat × Bool)} (b : BinOp) (ty : TypeId) (x y : Operand) (tz : TypeId)
    (h : wpList P ops Q ({ dst := dst, op := .binOp b ty x y tz, type := type, pos := pos, after := after, guard := guard } :: rest) a w) : wpList P ops Q ({ dst := dst, op := .binOp b ty x y tz, type := type, pos := pos, after := after, guard := guard } :: rest) a w := h
/-- An operation whose value is known. -/
theorem wpList_yield {P : Program} {ops : Array Oper} {rest : List Oper} {op : Oper} {a : Act} {w : World} {Q : Exit → Act → World → Prop} (hgd : op.guard = none) (v : Value) (hv : (execOp a.eval op).run P w = .ok (.value v) w)
    (h : wpList P ops Q rest (a.put op.dst v) w) : wpList P ops Q (op :: rest) a w :=
  wpList_plain hgd fun _ hK => by
    unfold Oper.wp
    rw [hv]
    exact hK _ _ h
theorem six_one (x0 x1 x2 x3 : Int) (m : Bool) (n : Int) : (#[.int .i64 x0, .int .i64 x1, .int .i64 x2, .int .i64 x3, .bool m, .int .u64 n] : Array Value).all (·.oneCell') = true := by simp [Value.oneCell']
theorem infoBlkS : (Try.prog.info? 47).map (·.size) = some 6 := by kernel_rfl
end Go.Proofs.Ytpifagclhhaniaa
