/- The images that the laws build: two objects. -/
import Derived.Test.YtkcancjalpjbgaaBld
namespace Go.Proofs.Ytkcancjalpjbgaa
open Go.RowKit

theorem Rd.of_bx {w : World} {g B : Nat} {t : TypeId} {cs : Array Value} (h : Bx w g t cs) (hg : g < B) : Rd w B (some ⟨g, 0, none⟩) cs.toList := fun _ =>
  ⟨g, 0, rfl, hg, fun j hj => by
    rw [Nat.zero_add, h.cell j]
    simp⟩
def obj4 (m : Bool) : Bk := ⟨0, 4, 1, 0, m, 0⟩
def pairL : List Nat := (buildL 256 [[3, 1], []] [obj4 false, obj4 false] [132]).set 134 132
def oneL : List Nat := buildL 256 [] [obj4 false, obj4 true] []
def twoL : List Nat := pairL.set 132 (oneL[132]?.getD 0)

/-- Whether blocks fit. -/
def fits (n : Nat) (ts : List (List Nat)) (bs : List Bk) (k : Nat) : Prop := (0 ≤ (gk bs k).kind ∧ (gk bs k).kind < 256) ∧ (0 ≤ (gk bs k).typ ∧ (gk bs k).typ < 128) ∧ (2 ≤ (gk bs k).size ∧ (gk bs k).size < 65536) ∧ (bksPut bs (tysPut ts (List.replicate n 0) ts.length, 128) k).2 + (gk bs k).size.toNat ≤ n
instance (n : Nat) (ts : List (List Nat)) (bs : List Bk) (k : Nat) : Decidable (fits n ts bs k) := by unfold fits; infer_instance
theorem fit_pair : ∀ k, k < 2 → fits 256 [[3, 1], []] [obj4 false, obj4 false] k := by decide +kernel
theorem slot_pair : ∀ k, k < 1 → ([132] : List Int)[k]?.getD 0 < 4294967296 ∧ -4294967296 < ([132] : List Int)[k]?.getD 0 := by decide +kernel
theorem fit_one : ∀ k, k < 2 → fits 256 [] [obj4 false, obj4 true] k := by decide +kernel
theorem slot_none : ∀ k, k < 0 → ([] : List Int)[k]?.getD 0 < 4294967296 ∧ -4294967296 < ([] : List Int)[k]?.getD 0 := fun k hk => absurd hk (by omega)
theorem pairB_len : (buildL 256 [[3, 1], []] [obj4 false, obj4 false] [132]).length = 256 := by decide +kernel
theorem pairL_len : pairL.length = 256 := by unfold pairL; rw [List.length_set, pairB_len]
theorem oneL_len : oneL.length = 256 := by decide +kernel
theorem twoL_len : twoL.length = 256 := by unfold twoL; rw [List.length_set, pairL_len]
/-- Behind a store into it the call's own list is the one with the other word. -/
theorem OwnW.set_ {w w1 : World} {xs : List Nat} {g c n : Nat} (hl : xs.length = n) (hown : w1.ownsRow w.heap.size 24 1 (.slice (some ⟨g, 0, none⟩) n c) n (xs.flatMap wordCells)) (hB : Below w.heap.size w w1) (j v : Nat) :
    OwnW w (xs.set j v) (.returned (.slice (some ⟨g, 0, none⟩) n c)) (w1.setCell ⟨g, j, none⟩ (.int .u64 (v : Int))) := by
  have hs := (hown.stored j (.int .u64 (v : Int))).1
  rw [← words_set] at hs
  refine ⟨g, c, by rw [List.length_set, hl], ?_, hB.setCell (p := ⟨g, j, none⟩) (own_base hown) _⟩
  rw [List.length_set, hl]
  exact hs
theorem OwnW.mk_ {w w0 w1 : World} {xs : List Nat} {e : Ending} (hB : Below w.heap.size w w0) (h : OwnW w0 xs e w1) : OwnW w xs e w1 := by
  obtain ⟨g, c, h1, h2, h3⟩ := h
  exact ⟨g, c, h1, own_mono h2 hB.size, hB.trans (h3.mono hB.size)⟩

set_option maxRecDepth 100000 in
set_option maxHeartbeats 2000000 in
theorem pair_c (w : World) : Calls Try.prog 57 #[] w fun e w' => OwnW w pairL e w' := by
  have hlen := pairB_len
  have HPL : Hid (pairL = (buildL 256 [[3, 1], []] [obj4 false, obj4 false] [132]).set 134 132) := Lib.hid rfl
  have x0 := Bx.new w 5 #[.int .u8 3, .int .u8 1]
  have x1 := Bx.new (w.alloc (.cells #[.int .u8 3, .int .u8 1] 5)) 5 #[]
  have x2 := Bx.new ((w.alloc (.cells #[.int .u8 3, .int .u8 1] 5)).alloc (.cells #[] 5)) 81 #[.slice (some ⟨w.heap.size, 0, none⟩) 2 2, .slice (some ⟨w.heap.size + 1, 0, none⟩) 0 0]
  have x3 := Bx.new (((w.alloc (.cells #[.int .u8 3, .int .u8 1] 5)).alloc (.cells #[] 5)).alloc (.cells #[.slice (some ⟨w.heap.size, 0, none⟩) 2 2, .slice (some ⟨w.heap.size + 1, 0, none⟩) 0 0] 81)) 26 #[.int .i64 0, .int .i64 4, .int .i64 1, .int .i64 0, .bool false, .int .u64 0, .int .i64 0, .int .i64 4, .int .i64 1, .int .i64 0, .bool false, .int .u64 0]
  have x4 := Bx.new ((((w.alloc (.cells #[.int .u8 3, .int .u8 1] 5)).alloc (.cells #[] 5)).alloc (.cells #[.slice (some ⟨w.heap.size, 0, none⟩) 2 2, .slice (some ⟨w.heap.size + 1, 0, none⟩) 0 0] 81)).alloc (.cells #[.int .i64 0, .int .i64 4, .int .i64 1, .int .i64 0, .bool false, .int .u64 0, .int .i64 0, .int .i64 4, .int .i64 1, .int .i64 0, .bool false, .int .u64 0] 26)) 3 #[.int .i64 132]
  simp only [World.size_alloc] at x0 x1 x2 x3 x4
  replace x0 := (((x0.alloc (.cells #[] 5)).alloc (.cells #[.slice (some ⟨w.heap.size, 0, none⟩) 2 2, .slice (some ⟨w.heap.size + 1, 0, none⟩) 0 0] 81)).alloc (.cells #[.int .i64 0, .int .i64 4, .int .i64 1, .int .i64 0, .bool false, .int .u64 0, .int .i64 0, .int .i64 4, .int .i64 1, .int .i64 0, .bool false, .int .u64 0] 26)).alloc (.cells #[.int .i64 132] 3)
  replace x2 := (x2.alloc (.cells #[.int .i64 0, .int .i64 4, .int .i64 1, .int .i64 0, .bool false, .int .u64 0, .int .i64 0, .int .i64 4, .int .i64 1, .int .i64 0, .bool false, .int .u64 0] 26)).alloc (.cells #[.int .i64 132] 3)
  replace x3 := x3.alloc (.cells #[.int .i64 132] 3)
  have hbz : Below w.heap.size w (((((w.alloc (.cells #[.int .u8 3, .int .u8 1] 5)).alloc (.cells #[] 5)).alloc (.cells #[.slice (some ⟨w.heap.size, 0, none⟩) 2 2, .slice (some ⟨w.heap.size + 1, 0, none⟩) 0 0] 81)).alloc (.cells #[.int .i64 0, .int .i64 4, .int .i64 1, .int .i64 0, .bool false, .int .u64 0, .int .i64 0, .int .i64 4, .int .i64 1, .int .i64 0, .bool false, .int .u64 0] 26)).alloc (.cells #[.int .i64 132] 3)) := by
    refine ((((Below.refl _ _).alloc (Nat.le_refl _) _).alloc ?_ _).alloc ?_ _).alloc ?_ _ |>.alloc ?_ _ <;> simp only [World.size_alloc] <;> omega
  have X := Lib.hid (And.intro x0 (And.intro x2 (And.intro x3 (And.intro x4 hbz))))
  clear x0 x1 x2 x3 x4 hbz
  go_enter Try.func57, Try.ntmps57
  go_wp2_with fail
  obtain ⟨Z, hZ⟩ : ∃ Z, ((((w.alloc (.cells #[.int .u8 3, .int .u8 1] 5)).alloc (.cells #[] 5)).alloc (.cells #[.slice (some ⟨w.heap.size, 0, none⟩) 2 2, .slice (some ⟨w.heap.size + 1, 0, none⟩) 0 0] 81)).alloc (.cells #[.int .i64 0, .int .i64 4, .int .i64 1, .int .i64 0, .bool false, .int .u64 0, .int .i64 0, .int .i64 4, .int .i64 1, .int .i64 0, .bool false, .int .u64 0] 26)).alloc (.cells #[.int .i64 132] 3) = Z := ⟨_, rfl⟩
  rw [hZ] at X ⊢
  clear hZ
  obtain ⟨x0, x2, x3, x4, hbz⟩ := X.out
  have hT : RdT Z Z.heap.size (some ⟨w.heap.size + 1 + 1, 0, none⟩) [⟨some ⟨w.heap.size, 0, none⟩, 2, [3, 1]⟩, ⟨some ⟨w.heap.size + 1, 0, none⟩, 0, []⟩] := by
    refine ⟨Rd.of_bx x2 x2.lt, fun x hx => ?_⟩
    simp only [List.mem_cons, List.not_mem_nil, or_false] at hx
    rcases hx with rfl | rfl
    · exact ⟨Rd.of_bx x0 x0.lt, show (2 : Nat) ≤ 8 by decide, show kndOk [3, 1] = true by decide⟩
    · exact ⟨Rd.nil_, show (0 : Nat) ≤ 8 by decide, show kndOk [] = true by decide⟩
  have HC := Lib.hid (build_c (some ⟨w.heap.size + 1 + 1, 0, none⟩) (some ⟨w.heap.size + 1 + 1 + 1, 0, none⟩) (some ⟨w.heap.size + 1 + 1 + 1 + 1, 0, none⟩) [⟨some ⟨w.heap.size, 0, none⟩, 2, [3, 1]⟩, ⟨some ⟨w.heap.size + 1, 0, none⟩, 0, []⟩] [obj4 false, obj4 false] [132] 2 2 1 256 Z.heap.size Z (by omega) (by omega) hT (show (2 : Nat) ≤ 8 by decide)
    (show Rd _ _ _ _ from Rd.of_bx x3 x3.lt) (show Rd _ _ _ _ from Rd.of_bx x4 x4.lt) (by decide) (Nat.le_refl _) (by decide)
    (fun k hk => fit_pair k hk) (fun k hk => slot_pair k hk))
  refine HC.out.mono ?_
  rintro e w1 ⟨g, c, rfl, hown, hB⟩
  have hown : w1.ownsRow Z.heap.size 24 1 (.slice (some ⟨g, 0, none⟩) 256 c) 256 ((buildL 256 [[3, 1], []] [obj4 false, obj4 false] [132]).flatMap wordCells) := by
    rw [show (buildL 256 (List.map Ty.l [⟨some ⟨w.heap.size, 0, none⟩, 2, [3, 1]⟩, ⟨some ⟨w.heap.size + 1, 0, none⟩, 0, []⟩]) [obj4 false, obj4 false] [132]) = buildL 256 [[3, 1], []] [obj4 false, obj4 false] [132] from rfl, hlen] at hown
    exact hown
  rw [show (buildL 256 (List.map Ty.l [⟨some ⟨w.heap.size, 0, none⟩, 2, [3, 1]⟩, ⟨some ⟨w.heap.size + 1, 0, none⟩, 0, []⟩]) [obj4 false, obj4 false] [132]) = buildL 256 [[3, 1], []] [obj4 false, obj4 false] [132] from rfl, hlen]
  obtain ⟨bl, hbl⟩ : ∃ bl, buildL 256 [[3, 1], []] [obj4 false, obj4 false] [132] = bl := ⟨_, rfl⟩
  rw [hbl] at hown HPL hlen
  have c0 := (hown.cellAt 134 (by omega)).trans (words_get bl 134 (by rw [hlen]; omega))
  have f0 := hown.frozenAt 134
  obtain ⟨u, hu⟩ : ∃ u, ((bl[134]'(by rw [hlen]; omega) : Nat) : Int) = u := ⟨_, rfl⟩
  rw [hu] at c0
  have HO := Lib.hid hown
  have HB := Lib.hid hB
  have HLN := Lib.hid hlen
  have HBZ := Lib.hid hbz
  clear hu hbl hown hB x0 x2 x3 x4 hT hbz hlen
  go_wp2_with fail
  go_ret
  have := OwnW.mk_ HBZ.out (OwnW.set_ HLN.out HO.out HB.out 134 132)
  rw [← HPL.out] at this
  exact this
end Go.Proofs.Ytkcancjalpjbgaa
