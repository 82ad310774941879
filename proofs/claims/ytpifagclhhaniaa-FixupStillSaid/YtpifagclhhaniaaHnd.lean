/- Root slots: what the program returns. -/
import Derived.Test.YtpifagclhhaniaaRchP
import Derived.Test.YtpifagclhhaniaaKHead
namespace Go.Proofs.Ytpifagclhhaniaa
open Go.RowKit

def Sl.val (x : Sl) : Value := .agg #[.int .i64 x.gen, .bool x.used, .int .i64 x.at_]
set_option maxRecDepth 100000 in
set_option maxHeartbeats 1000000 in
theorem hRight_c (g : Int) (u : Bool) (a : Int) (w : World) (h1 : 0 ≤ g) (h2 : g ≤ 2147483647) :
    Calls Try.prog 95 #[.agg #[.int .i64 g, .bool u, .int .i64 a]] w fun e w' => e = .returned (.bool (slOk ⟨g, u, a⟩)) ∧ Below w.heap.size w w' := by
  have hB := (Below.refl w.heap.size w).alloc (Nat.le_refl _) (.cells #[.int .i64 g, .bool u, .int .i64 a] 35)
  have HB := Lib.hid hB
  have d1 : decide (g < 0) = false := by rw [decide_eq_false_iff_not]; omega
  have d2 : decide (2147483647 < g) = false := by rw [decide_eq_false_iff_not]; omega
  clear hB
  cases u
  · have H : Hid (slOk ⟨g, false, a⟩ = (a == 0)) := Lib.hid rfl
    go_enter Try.func95, Try.ntmps95
    go_wp2_with fail
    go_ret
    exact ⟨by rw [H.out]; rfl, HB.out⟩
  · have H : Hid (∀ b : Bool, b = (decide (0 < g) && (decide (128 ≤ a) && decide (a < 2048))) → slOk ⟨g, true, a⟩ = b) := Lib.hid fun b h => by rw [h]; rfl
    have hways : (∃ b, decide (0 < g) = b) ∧ (∃ b, decide (128 ≤ a) = b) ∧ ∃ b, decide (a < 2048) = b := ⟨⟨_, rfl⟩, ⟨_, rfl⟩, ⟨_, rfl⟩⟩
    obtain ⟨⟨b1, e1⟩, ⟨b2, e2⟩, ⟨b3, e3⟩⟩ := hways
    have HV := Lib.hid (H.out _ rfl)
    rw [e1, e2, e3] at HV
    clear H h1 h2
    cases b1 <;> cases b2 <;> cases b3
    all_goals
      go_enter Try.func95, Try.ntmps95
      go_wp2_with fail
      go_ret
      exact ⟨by rw [HV.out]; rfl, HB.out⟩

def slB (x : Nat) : Sl := if slOk (slRaw x) = true then slRaw x else ⟨0, false, 0⟩
def slErr (x : Nat) : Int := if slOk (slRaw x) = true then 0 else 50
theorem sl_ok {x : Nat} (h : slOk (slRaw x) = true) : slB x = slRaw x ∧ slErr x = 0 := by simp [slB, slErr, h]
theorem sl_no {x : Nat} (h : slOk (slRaw x) = false) : slB x = ⟨0, false, 0⟩ ∧ slErr x = 50 := by simp [slB, slErr, h]
theorem results_sl {fn : Func} {p q : Tmp} (h : fn.results = #[.cell p 35, .tmp q]) (tmps : Array Value) {W : World} {g : Nat} {t : TypeId} {v0 v1 v2 u : Value} (hb : Bx W g t #[v0, v1, v2]) (hp : tmps.getD p undef = .pointer (some ⟨g, 0, none⟩)) (hq : tmps.getD q undef = u) :
    (results fn tmps).run Try.prog W = .ok (.tuple #[.agg #[v0, v1, v2], u]) W := by
  obtain ⟨c0, c1, c2, -⟩ := hb.c3
  rw [Array.getD_eq_getD_getElem?] at hp hq
  simp [results, h, hp, hq, go_sem, c0, c1, c2]
theorem sl_bits (x : Nat) (hx : x < 18446744073709551616) : bits BinOp.and .u64 ((x : Int) / 4294967296) 2147483647 = ((x / 4294967296 % 2147483648 : Nat) : Int) ∧ bits BinOp.and .u64 (x : Int) 4294967295 = ((x % 4294967296 : Nat) : Int) ∧
    (((x : Int) / 9223372036854775808) == 1) = (x / 9223372036854775808 == 1) := by
  refine ⟨?_, and_m (k := 32) (m := 4294967295) hx rfl (by omega), ?_⟩
  · have h1 : x / 4294967296 < 18446744073709551616 := by omega
    have h := and_m (k := 31) (m := 2147483647) h1 rfl (by omega)
    exact h
  · rw [Bool.eq_iff_iff, beq_iff_eq, beq_iff_eq]; omega

set_option maxRecDepth 100000 in
set_option maxHeartbeats 2000000 in
theorem hSplit_c (x : Nat) (w : World) (hx : x < 18446744073709551616) :
    Calls Try.prog 86 #[.int .u64 (x : Int)] w fun e w' => e = .returned (.tuple #[(slB x).val, .int .i64 (slErr x)]) ∧ Below w.heap.size w w' := by
  obtain ⟨e1, e2, e3⟩ := sl_bits x hx
  obtain ⟨r1, r2, r3, r4⟩ := slRaw_bd x
  have HOK := Lib.hid (fun h => sl_ok (x := x) h)
  have HNO := Lib.hid (fun h => sl_no (x := x) h)
  have HRT := Lib.hid (fun W => hRight_c (slRaw x).gen (slRaw x).used (slRaw x).at_ W r1 r2)
  have hx0 : (0 : Int) ≤ (x : Int) := by omega
  have g1 : ((x / 4294967296 % 2147483648 : Nat) : Int) = (slRaw x).gen := rfl
  have g2 : ((x % 4294967296 : Nat) : Int) = (slRaw x).at_ := rfl
  have g3 : (x / 9223372036854775808 == 1) = (slRaw x).used := rfl
  rw [g1] at e1
  rw [g2] at e2
  rw [g3] at e3
  clear g1 g2 g3 hx
  obtain ⟨s, hs⟩ : ∃ s, slRaw x = s := ⟨_, rfl⟩
  rw [hs] at e1 e2 e3 r1 r2 r3 r4 HRT HOK HNO
  obtain ⟨g, u, a⟩ := s
  dsimp only at e1 e2 e3 r1 r2 r3 r4 HRT
  have w1 : IntKind.i64.wrap g = g := IntWalk.i64_in _ (by omega)
  have w2 : IntKind.i64.wrap a = a := IntWalk.i64_in _ (by omega)
  have b0 := Bx.new w 35 #[.int .i64 0, .bool false, .int .i64 0]
  have B0 := Lib.hid (b0.alloc (.cells #[.int .i64 g, .bool u, .int .i64 a] 35))
  have b1 := Bx.new (w.alloc (.cells #[.int .i64 0, .bool false, .int .i64 0] 35)) 35 #[.int .i64 g, .bool u, .int .i64 a]
  rw [World.size_alloc] at b1
  have B1 := Lib.hid b1
  have HB := Lib.hid (((Below.refl w.heap.size w).alloc (Nat.le_refl _) (.cells #[.int .i64 0, .bool false, .int .i64 0] 35)).alloc (le_alloc_ (Nat.le_refl _)) (.cells #[.int .i64 g, .bool u, .int .i64 a] 35))
  obtain ⟨q, hq⟩ : ∃ q, slOk ⟨g, u, a⟩ = q := ⟨_, rfl⟩
  rw [hq] at HRT HOK HNO
  clear b0 b1 hs hq r1 r2 r3 r4
  go_enter Try.func86, Try.ntmps86
  go_wp2_with fail
  refine (HRT.out _).mono ?_
  rintro e w3 ⟨rfl, hB3⟩
  have hb0 := B0.out.up hB3 B0.out.lt
  have hb1 := B1.out.up hB3 B1.out.lt
  have HB3 := Lib.hid (HB.out.trans (hB3.mono HB.out.size))
  obtain ⟨p0, p1, p2, f0, f1, f2, hg0⟩ := hb0.c3
  obtain ⟨n0, n1, n2, -⟩ := hb1.c3
  have HB0 := Lib.hid hb0
  clear hb0 hb1 hB3
  cases q
  · have HV := Lib.hid (HNO.out rfl)
    go_wp2_with fail
    exact bodyPost_ret (v := .tuple #[.agg #[.int .i64 0, .bool false, .int .i64 0], .int .i64 50]) (results_sl Try.results86 _ (((HB0.out.set_ 0 _).set_ 1 _).set_ 2 _) rfl rfl) rfl ⟨by rw [HV.out.1, HV.out.2]; rfl, ((HB3.out.setCell (Nat.le_refl _) _).setCell (Nat.le_refl _) _).setCell (Nat.le_refl _) _⟩
  · have HV := Lib.hid (HOK.out rfl)
    go_wp2_with fail
    exact bodyPost_ret (v := .tuple #[.agg #[.int .i64 g, .bool u, .int .i64 a], .int .i64 0]) (results_sl Try.results86 _ (((HB0.out.set_ 0 _).set_ 1 _).set_ 2 _) rfl rfl) rfl ⟨by rw [HV.out.1, HV.out.2]; rfl, ((HB3.out.setCell (Nat.le_refl _) _).setCell (Nat.le_refl _) _).setCell (Nat.le_refl _) _⟩

/-! The table of all slots -/
def noSl : Sl := ⟨0, false, 0⟩
def slPre (ws : List Nat) (k : Nat) : List Sl := (List.range 16).map fun i => if i < k then slAt ws i else noSl
def slArr (l : List Sl) : Array Value := (l.flatMap Sl.cells).toArray
theorem slPre_len (ws : List Nat) (k : Nat) : (slPre ws k).length = 16 := by simp [slPre]
theorem slPre_get (ws : List Nat) (k j : Nat) (hj : j < 16) : (slPre ws k)[j]? = some (if j < k then slAt ws j else noSl) := by simp [slPre, hj]
theorem slPre_step (ws : List Nat) (k : Nat) (hk : k < 16) : slPre ws (k + 1) = (slPre ws k).set k (slAt ws k) := by
  apply List.ext_getElem?
  intro j
  rw [List.getElem?_set]
  by_cases hj : j < 16
  · rw [slPre_get _ _ _ hj, slPre_get _ _ _ hj]
    by_cases e : k = j
    · subst e; rw [if_pos (show k < k + 1 by omega), if_pos rfl, if_pos (by rw [slPre_len]; exact hk)]
    · rw [if_neg e]
      by_cases h : j < k
      · rw [if_pos h, if_pos (by omega)]
      · rw [if_neg h, if_neg (by omega)]
  · rw [List.getElem?_eq_none (by rw [slPre_len]; omega), if_neg (by omega), List.getElem?_eq_none (by rw [slPre_len]; omega)]
theorem slPre_zero (ws : List Nat) : slPre ws 0 = List.replicate 16 noSl := by
  apply List.ext_getElem?
  intro j
  by_cases hj : j < 16
  · rw [slPre_get _ _ _ hj, if_neg (by omega), List.getElem?_replicate, if_pos hj]
  · rw [List.getElem?_eq_none (by rw [slPre_len]; omega), List.getElem?_eq_none (by simp; omega)]
theorem slPre_all (ws : List Nat) : slPre ws 16 = slL ws := by
  unfold slPre slL
  apply List.map_congr_left
  intro i hi
  rw [if_pos (List.mem_range.1 hi)]
theorem sl_set (l : List Sl) (k : Nat) (x : Sl) : (l.set k x).flatMap Sl.cells = (((l.flatMap Sl.cells).set (k * 3) (.int .i64 x.gen)).set (k * 3 + 1) (.bool x.used)).set (k * 3 + 2) (.int .i64 x.at_) := by
  have h1 := flat_set Sl.cells 3 Sl.len l k 0 (by omega) ⟨x.gen, (l[k]?.getD default).used, (l[k]?.getD default).at_⟩ (.int .i64 x.gen) (fun y hy => by rw [hy]; rfl)
  have h2 := flat_set Sl.cells 3 Sl.len (l.set k ⟨x.gen, (l[k]?.getD default).used, (l[k]?.getD default).at_⟩) k 1 (by omega) ⟨x.gen, x.used, (l[k]?.getD default).at_⟩ (.bool x.used) (fun y hy => by
    rw [List.getElem?_set] at hy
    simp only [if_true] at hy
    split at hy
    · cases hy; rfl
    · cases hy)
  have h3 := flat_set Sl.cells 3 Sl.len (l.set k ⟨x.gen, x.used, (l[k]?.getD default).at_⟩) k 2 (by omega) x (.int .i64 x.at_) (fun y hy => by
    rw [List.getElem?_set] at hy
    simp only [if_true] at hy
    split at hy
    · cases hy; rfl
    · cases hy)
  rw [List.set_set] at h2 h3
  rw [h3, h2, h1]; rfl
theorem slArr_set (l : List Sl) (k : Nat) (x : Sl) : (((slArr l).setIfInBounds (k * 3) (.int .i64 x.gen)).setIfInBounds (k * 3 + 1) (.bool x.used)).setIfInBounds (k * 3 + 2) (.int .i64 x.at_) = slArr (l.set k x) := by
  unfold slArr
  rw [sl_set]
  simp
theorem slArr_size (l : List Sl) : (slArr l).size = l.length * 3 := by
  unfold slArr
  rw [List.size_toArray, flat_len Sl.cells 3 Sl.len]
theorem Sl.one (x : Sl) : ∀ u ∈ x.cells, u.oneCell' = true := by intro u hu; simp only [Sl.cells, List.mem_cons, List.not_mem_nil, or_false] at hu; rcases hu with rfl | rfl | rfl <;> rfl
theorem slArr_one (l : List Sl) : (slArr l).all (·.oneCell') = true := by
  unfold slArr
  rw [List.all_toArray, List.all_eq_true]
  exact cells_one Sl.one l
def zero48 : Array Value := slArr (List.replicate 16 noSl)
theorem zero48_size : zero48.size = 48 := by unfold zero48; rw [slArr_size, List.length_replicate]
theorem zero48_one : zero48.all (·.oneCell') = true := slArr_one _
theorem zero48v (w : World) : (zeroValue 86).run Try.prog w = .ok (.agg zero48) w := by kernel_rfl
theorem build48 (w : World) : (Instr.build 86 #[]).run Try.prog w = .ok (.agg zero48) w := by kernel_rfl
theorem infoTab : (Try.prog.info? 86).map (·.size) = some 48 := by kernel_rfl
end Go.Proofs.Ytpifagclhhaniaa
