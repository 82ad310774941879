/- The entries that set a phase. -/
import Derived.Test.YtoaepffpjoibaaaGreatKStg1
import Derived.Test.YtoaepffpjoibaaaGreatKRch
namespace Go.Proofs.YtoaepffpjoibaaaGreat
open Go.RowKit

set_option maxRecDepth 100000 in
set_option maxHeartbeats 2000000 in
theorem ent11_c (p f t : Nat) (w : World) (hp : p ≤ 4611686018427387904) (hf : f ≤ 4611686018427387904) (ht : t ≤ 4611686018427387904) :
    Calls Tryz.prog 36 #[phV p f t] w fun e w' => (∃ g, e = .returned (.slice (some ⟨g, 0, none⟩) 3 3) ∧ RdE w' w'.heap.size (some ⟨g, 0, none⟩) (phE p f t)) ∧ Below w.heap.size w w' := by
  unfold phV
  have h1 : IntKind.u64.wrap (p : Int) = (p : Int) := IntWalk.u64_in _ (by omega)
  have h2 : IntKind.u64.wrap (f : Int) = (f : Int) := IntWalk.u64_in _ (by omega)
  have h3 : IntKind.u64.wrap (t : Int) = (t : Int) := IntWalk.u64_in _ (by omega)
  have b1 := Bx.new (w.alloc (.cells #[.int .i64 (p : Int), .int .i64 (f : Int), .int .i64 (t : Int)] 78)) 53 #[.int .i64 16, .int .u64 (p : Int), .int .i64 17, .int .u64 (f : Int), .int .i64 18, .int .u64 (t : Int)]
  rw [World.size_alloc] at b1
  have B1 := Lib.hid b1
  have HB := Lib.hid (((Below.refl w.heap.size w).alloc (Nat.le_refl _) (.cells #[.int .i64 (p : Int), .int .i64 (f : Int), .int .i64 (t : Int)] 78)).alloc (le_alloc_ (Nat.le_refl _)) (.cells #[.int .i64 16, .int .u64 (p : Int), .int .i64 17, .int .u64 (f : Int), .int .i64 18, .int .u64 (t : Int)] 53))
  clear b1
  go_enter Tryz.func36, Tryz.ntmps36
  go_wp2_with fail
  go_ret
  exact ⟨⟨w.heap.size + 1, by simp, Rd.of_box B1.out B1.out.lt⟩, HB.out⟩

end Go.Proofs.YtoaepffpjoibaaaGreat
