/- Entries of a change: what the program's and the reference's Check return, for every slice of entries and every number of words. -/
import Derived.Test.YtiaddipbjigaiaaEntP
import Derived.Test.YtiaddipbjigaiaaAl34
namespace Go.Proofs.Ytiaddipbjigaiaa
open Go.RowKit Go.Maps

theorem ret_bool' {a b : Bool} (h : a = b) : Ending.returned (.bool a) = .returned (.bool b) := by rw [h]
theorem ret_int' {a b : Int} (h : a = b) : Ending.returned (.int .i64 a) = .returned (.int .i64 b) := by rw [h]

def szErr (n : Int) : Int := if sizeOk n = true then 0 else 2
theorem szErr_ok {n : Int} (h : sizeOk n = true) : szErr n = 0 := by simp [szErr, h]
theorem szErr_no {n : Int} (h : sizeOk n = false) : szErr n = 2 := by simp [szErr, h]
set_option maxHeartbeats 400000 in
theorem entSize_c (n : Int) (w : World) : Calls Try.prog 52 #[.int .i64 n] w fun e w' => e = .returned (.int .i64 (szErr n)) ∧ w = w' := by
  by_cases h1 : n < 256
  · have H : Hid (szErr n = 2) := Lib.hid (szErr_no (by simp [sizeOk]; omega))
    go_enter Try.func52, Try.ntmps52
    go_wp2_with fail
    go_ret
    exact ⟨by rw [H.out]; rfl, rfl⟩
  · have h3 : 256 ≤ n := by omega
    clear h1
    by_cases h2 : 2048 < n
    · have H : Hid (szErr n = 2) := Lib.hid (szErr_no (by simp [sizeOk]; omega))
      go_enter Try.func52, Try.ntmps52
      go_wp2_with fail
      go_ret
      exact ⟨by rw [H.out]; rfl, rfl⟩
    · have h4 : n ≤ 2048 := by omega
      clear h2
      by_cases h5 : n % 8 = 0
      · have H : Hid (szErr n = 0) := Lib.hid (szErr_ok (by simp [sizeOk]; omega))
        have h6 : (n % 8 != 0) = false := by rw [bne_eq_false_iff_eq]; exact h5
        clear h5
        go_enter Try.func52, Try.ntmps52
        go_wp2_with fail
        go_ret
        exact ⟨by rw [H.out]; rfl, rfl⟩
      · have H : Hid (szErr n = 2) := Lib.hid (szErr_no (by simp [sizeOk]; omega))
        have h6 : (n % 8 != 0) = true := by rw [bne_iff_ne]; exact h5
        clear h5
        go_enter Try.func52, Try.ntmps52
        go_wp2_with fail
        go_ret
        exact ⟨by rw [H.out]; rfl, rfl⟩
set_option maxHeartbeats 400000 in
theorem refSize_c (n : Int) (w : World) : Calls Try.prog 44 #[.int .i64 n] w fun e w' => e = .returned (.bool (sizeOk n)) ∧ w = w' := by
  by_cases h1 : n < 256
  · have H : Hid (sizeOk n = false) := Lib.hid (by simp [sizeOk]; omega)
    go_enter Try.func44, Try.ntmps44
    go_wp2_with fail
    go_ret
    exact ⟨by rw [H.out]; rfl, rfl⟩
  · have h3 : 256 ≤ n := by omega
    clear h1
    by_cases h2 : 2048 < n
    · have H : Hid (sizeOk n = false) := Lib.hid (by simp [sizeOk]; omega)
      go_enter Try.func44, Try.ntmps44
      go_wp2_with fail
      go_ret
      exact ⟨by rw [H.out]; rfl, rfl⟩
    · have h4 : n ≤ 2048 := by omega
      have H : Hid (sizeOk n = (n % 8 == 0)) := Lib.hid (by simp [sizeOk, h3, h4])
      clear h2
      go_enter Try.func44, Try.ntmps44
      go_wp2_with fail
      go_ret
      exact ⟨by rw [H.out]; rfl, rfl⟩
set_option maxHeartbeats 400000 in
theorem entMay_c (x n : Int) (w : World) : Calls Try.prog 53 #[.int .i64 x, .int .i64 n] w fun e w' => e = .returned (.bool (mayB x n)) ∧ w = w' := by
  have H : Hid (∀ b : Bool, (b = true ↔ 16 ≤ x ∧ x < n ∧ (x < 24 ∨ 96 ≤ x)) → b = mayB x n) := Lib.hid fun b h => by rw [Bool.eq_iff_iff, mayB_iff]; exact h
  go_enter Try.func53, Try.ntmps53
  go_wp2_with fail
  all_goals
    go_ret
    exact ⟨ret_bool' (H.out _ (by simp; omega)), rfl⟩
set_option maxHeartbeats 400000 in
theorem refFree_c (x n : Int) (w : World) : Calls Try.prog 45 #[.int .i64 x, .int .i64 n] w fun e w' => e = .returned (.bool (mayB x n)) ∧ w = w' := by
  have H : Hid (∀ b : Bool, (b = true ↔ 16 ≤ x ∧ x < n ∧ (x < 24 ∨ 96 ≤ x)) → b = mayB x n) := Lib.hid fun b h => by rw [Bool.eq_iff_iff, mayB_iff]; exact h
  go_enter Try.func45, Try.ntmps45
  go_wp2_with fail
  all_goals
    go_ret
    exact ⟨ret_bool' (H.out _ (by simp; omega)), rfl⟩

/-- The set after k addresses: a box that holds nil, or a map of its own. -/
def SetSt (B : Nat) (w : World) (g : Nat) (ad : List Int) (k : Nat) : Prop :=
  (k = 0 ∧ Bx w g 91 #[.map none]) ∨ (∃ b, B ≤ b ∧ Bx w g 91 #[.map (some b)] ∧ w.ownsMap Try.prog 3 (plainElem Try.prog 4) b k (keysOf ad k))
def AddPost (B : Nat) (g : Nat) (ad : List Int) (k : Nat) (r : Bool) (w : World) (e : Ending) (w' : World) : Prop := e = .returned (.bool r) ∧ SetSt B w' g ad (k + 1) ∧ Below B w w' ∧ (∀ h t cs, Bx w h t cs → h ≠ g → Bx w' h t cs)

theorem keyInt : Keyed Try.prog 3 := int_keyed Try.underlying3
theorem zeroBool (w : World) : (zeroValue 4).run Try.prog w = .ok (.bool false) w := by kernel_rfl

theorem bx_ne_map {w : World} {h b n : Nat} {t k : TypeId} {cs : Array Value} {R : Value → Option (DataW Unit × List MemPlace)} {P : Program} {D : DataW Unit} (hb : Bx w h t cs) (ho : w.ownsMap P k R b n D) : some h ≠ some b := by
  rintro e
  injection e with e
  subst e
  obtain ⟨es, clock, hm, _⟩ := ho
  rw [show w.heap[h]? = _ from hb] at hm
  cases hm
set_option maxHeartbeats 1000000 in
theorem add_c (B g : Nat) (ad : List Int) (k : Nat) (x : Int) (w : World) (hx : ad[k]?.getD 0 = x) (hxb : -9223372036854775808 ≤ x ∧ x ≤ 9223372036854775807) (hk : k ≤ 1000000) (hBg : B ≤ g) (hs : SetSt B w g ad k) :
    Calls Try.prog 54 #[.pointer (some ⟨g, 0, none⟩), .int .i64 x] w (AddPost B g ad k (!addrSeen ad x k) w) := by
  have hwf : (Lit.int .i64 x).wf = true := by simp [Lit.wf, IntKind.min, IntKind.max, IntKind.signed, IntKind.bits]; omega
  have HK := Lib.hid (keyOf_int_mk (P := Try.prog) Try.underlying3 hwf)
  have HX := Lib.hid hx
  have HN := Lib.hid (show keysOf ad (k + 1) = (keysOf ad k).put (.int .i64 x) (.lit (.bool true)) by simp only [keysOf, hx])
  have HAT := Lib.hid (keysOf_at ad x k)
  obtain ⟨r, hr⟩ : ∃ r, addrSeen ad x k = r := ⟨_, rfl⟩
  rw [hr] at HAT ⊢
  clear hx hwf hr hxb
  rcases hs with ⟨hk0, bx⟩ | ⟨b, hBb, bx, hown⟩
  · subst hk0
    obtain ⟨c0, c1, c2⟩ := bx.c1
    have hnil := fun W : World => run_eql_map_nil (P := Try.prog) W 89 3 4 none Try.underlying89
    have HBX := Lib.hid bx
    clear bx
    have hmm := @run_makeMap Try.prog
    have hm0 : ((w.setCell ⟨g, 0, none⟩ (.map (some w.heap.size))).alloc (Obj.map #[] 0)).ownsMap Try.prog 3 (plainElem Try.prog 4) w.heap.size 0 (keysOf ad 0) := by
      have := World.ownsMap_made (H := Unit) (w.setCell ⟨g, 0, none⟩ (.map (some w.heap.size))) Try.prog 3 (plainElem Try.prog 4)
      rwa [World.size_setCell] at this
    have hlk := lookup_bool hm0 keyInt Try.underlying89 Try.underlying4 (zeroBool _) HK.out HAT.out
    have HM0 := Lib.hid hm0
    have bx1 := Lib.hid (((HBX.out.set_ 0 (.map (some w.heap.size)))).alloc (Obj.map #[] 0))
    have hb0 := Lib.hid ((((Below.refl B w).setCell (p := ⟨g, 0, none⟩) hBg (.map (some w.heap.size)))).alloc (by simp; omega) (Obj.map #[] 0))
    clear hm0
    go_enter Try.func54, Try.ntmps54
    go_wp2_with (at_mapUpdate; refine wpList_mapUpdate_own _ rfl _ _ _ 89 rfl 3 4 keyInt Try.underlying89 _ w.heap.size 0 _ rfl HM0.out (by simp [maxLen]) _ _ _ rfl rfl HK.out (.lit (.bool true)) [] (plainElem_bool Try.underlying4 true) ?_; intro w1 hown1 hg1)
    go_ret
    have hb1 := hb0.out.grown hg1 (by simp; omega) (fun j hj => by cases hj; omega)
    refine ⟨rfl, .inr ⟨w.heap.size, by omega, bx1.out.grown hg1 (bx_ne_map bx1.out HM0.out), by rw [HN.out]; exact hown1⟩, hb1, fun h t cs hh hne => ?_⟩
    have h1 := (hh.far (p := ⟨g, 0, none⟩) hne (.map (some w.heap.size))).alloc (Obj.map #[] 0)
    exact h1.grown hg1 (bx_ne_map h1 HM0.out)
  · obtain ⟨c0, c1, c2⟩ := bx.c1
    have hlk := lookup_bool hown keyInt Try.underlying89 Try.underlying4 (zeroBool w) HK.out HAT.out
    have hnil := fun W : World => run_eql_map_nil (P := Try.prog) W 89 3 4 (some b) Try.underlying89
    have HBX := Lib.hid bx
    clear bx
    go_enter Try.func54, Try.ntmps54
    go_wp2_with (at_mapUpdate; refine wpList_mapUpdate_own _ rfl _ _ _ 89 rfl 3 4 keyInt Try.underlying89 _ b k _ rfl hown (by unfold maxLen; omega) _ _ _ rfl rfl HK.out (.lit (.bool true)) [] (plainElem_bool Try.underlying4 true) ?_; intro w1 hown1 hg1)
    go_ret
    have hb1 : Below B w w1 := (Below.refl B w).grown hg1 (by omega) (fun j hj => by cases hj; exact hBb)
    exact ⟨rfl, .inr ⟨b, hBb, HBX.out.grown hg1 (bx_ne_map HBX.out hown), by rw [HN.out]; exact hown1⟩, hb1, fun h t cs hh _ => hh.grown hg1 (bx_ne_map hh hown)⟩
end Go.Proofs.Ytiaddipbjigaiaa
