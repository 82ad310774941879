/- Headers of blocks: what the program reads out of a word. -/
import Derived.Test.YtpifagclhhaniaaHdrX
namespace Go.Proofs.Ytpifagclhhaniaa
open Go.RowKit

def noBk : Bk := ⟨0, 0, 0, 0, false, 0⟩
/-- What Split gives. -/
def splB (w : Nat) : Bk := if splitOk w = true then rawBk w else noBk
def splErr (w : Nat) : Int := if splitOk w = true then 0 else 50
theorem spl_ok {w : Nat} (h : splitOk w = true) : splB w = rawBk w ∧ splErr w = 0 := by simp [splB, splErr, h]
theorem spl_no {w : Nat} (h : splitOk w = false) : splB w = noBk ∧ splErr w = 50 := by simp [splB, splErr, h]
theorem and_m {x k m : Nat} (hx : x < 18446744073709551616) (hm : m = 2 ^ k - 1) (hk : m < 18446744073709551616) : bits BinOp.and .u64 (x : Int) (m : Int) = ((x % 2 ^ k : Nat) : Int) := by
  rw [u64_and_nat x m hx hk, hm, Nat.and_two_pow_sub_one_eq_mod]
theorem spl_and (w : Nat) (hw : w < 18446744073709551616) : bits BinOp.and .u64 (w : Int) 255 = ((w % 256 : Nat) : Int) ∧ bits BinOp.and .u64 ((w : Int) / 256) 1 = ((w / 256 % 2 : Nat) : Int) ∧ bits BinOp.and .u64 ((w : Int) / 512) 127 = ((w / 512 % 128 : Nat) : Int) ∧ bits BinOp.and .u64 ((w : Int) / 65536) 65535 = ((w / 65536 % 65536 : Nat) : Int) :=
  ⟨and_m (k := 8) (m := 255) hw (by decide) (by omega), and_m (x := w / 256) (k := 1) (m := 1) (by omega) (by decide) (by omega), and_m (x := w / 512) (k := 7) (m := 127) (by omega) (by decide) (by omega), and_m (x := w / 65536) (k := 16) (m := 65535) (by omega) (by decide) (by omega)⟩

theorem results_blk {fn : Func} {p q : Tmp} (h : fn.results = #[.cell p 47, .tmp q]) (tmps : Array Value) {W : World} {g : Nat} {t : TypeId} {v0 v1 v2 v3 v4 v5 u : Value} (hb : Bx W g t #[v0, v1, v2, v3, v4, v5]) (hp : tmps.getD p undef = .pointer (some ⟨g, 0, none⟩)) (hq : tmps.getD q undef = u) :
    (results fn tmps).run Try.prog W = .ok (.tuple #[.agg #[v0, v1, v2, v3, v4, v5], u]) W := by
  obtain ⟨c0, c1, c2, c3, c4, c5, -, -⟩ := hb.c6
  rw [Array.getD_eq_getD_getElem?] at hp hq
  simp [results, h, hp, hq, go_sem, c0, c1, c2, c3, c4, c5]

set_option maxRecDepth 100000 in
set_option maxHeartbeats 1600000 in
theorem hdSplit_c (x : Nat) (w : World) (hx : x < 18446744073709551616) : Calls Try.prog 25 #[.int .u64 (x : Int)] w fun e w' => e = .returned (.tuple #[(splB x).val, .int .i64 (splErr x)]) ∧ Below w.heap.size w w' := by
  obtain ⟨e1, e2, e3, e4⟩ := spl_and x hx
  have HW := Lib.hid (fun W => hdWord_c (rawBk x) W)
  have HE0 : Hid (hdErr (rawBk x) = 0 → hwVal (rawBk x) = x → splB x = rawBk x ∧ splErr x = 0) := Lib.hid fun h1 h2 => spl_ok (by
    have hb : hdOk (rawBk x) = true := by
      cases hq : hdOk (rawBk x) with
      | true => rfl
      | false => rw [hdErr_no hq] at h1; cases h1
    simp only [hwVal, hb, if_true] at h2
    simp [splitOk, hb, h2])
  have HE1 : Hid (hdErr (rawBk x) ≠ 0 ∨ hwVal (rawBk x) ≠ x → splB x = noBk ∧ splErr x = 50) := Lib.hid fun h => spl_no (by
    cases hq : hdOk (rawBk x) with
    | false => simp [splitOk, hq]
    | true =>
      rcases h with h | h
      · exact absurd (hdErr_ok hq) h
      · simp only [hwVal, hq, if_true] at h
        simp [splitOk, hq, h])
  have hx0 : (0 : Int) ≤ (x : Int) := by omega
  have hraw : (rawBk x).val = .agg #[.int .i64 0, .int .i64 ((x / 65536 % 65536 : Nat) : Int), .int .i64 ((x % 256 : Nat) : Int), .int .i64 ((x / 512 % 128 : Nat) : Int), .bool (x / 256 % 2 == 1), .int .u64 0] := rfl
  have m1 : x % 256 < 256 := Nat.mod_lt _ (by omega)
  have m2 : x / 256 % 2 < 2 := Nat.mod_lt _ (by omega)
  have m3 : x / 512 % 128 < 128 := Nat.mod_lt _ (by omega)
  have m4 : x / 65536 % 65536 < 65536 := Nat.mod_lt _ (by omega)
  rw [hraw] at HW
  have HRAW := Lib.hid hraw
  have hbit : ((((x / 256 % 2 : Nat) : Int)) == 1) = (x / 256 % 2 == 1) := by
    rw [Bool.eq_iff_iff, beq_iff_eq, beq_iff_eq]; omega
  obtain ⟨K, hK⟩ : ∃ K, x % 256 = K := ⟨_, rfl⟩
  obtain ⟨M, hM⟩ : ∃ M, x / 256 % 2 = M := ⟨_, rfl⟩
  obtain ⟨T, hT⟩ : ∃ T, x / 512 % 128 = T := ⟨_, rfl⟩
  obtain ⟨S, hS⟩ : ∃ S, x / 65536 % 65536 = S := ⟨_, rfl⟩
  rw [hK] at e1 m1 HW HRAW
  rw [hM] at e2 m2 hbit HW HRAW
  rw [hT] at e3 m3 HW HRAW
  rw [hS] at e4 m4 HW HRAW
  obtain ⟨bm, hbm⟩ : ∃ b, (M == 1) = b := ⟨_, rfl⟩
  rw [hbm] at hbit HW HRAW
  obtain ⟨V, hV⟩ : ∃ V, hwVal (rawBk x) = V := ⟨_, rfl⟩
  obtain ⟨R, hR⟩ : ∃ R, hdErr (rawBk x) = R := ⟨_, rfl⟩
  rw [hV, hR] at HE0 HE1 HW
  clear hx hraw hK hM hT hS hbm hV hR
  go_enter Try.func25, Try.ntmps25
  go_wp2_with fail
  have q0 := (Bx.new w 47 #[.int .i64 0, .int .i64 0, .int .i64 0, .int .i64 0, .bool false, .int .u64 0]).alloc (.cells #[.int .i64 0, .int .i64 (S : Int), .int .i64 (K : Int), .int .i64 (T : Int), .bool bm, .int .u64 0] 47)
  have q1 := Bx.new (w.alloc (.cells #[.int .i64 0, .int .i64 0, .int .i64 0, .int .i64 0, .bool false, .int .u64 0] 47)) 47 #[.int .i64 0, .int .i64 (S : Int), .int .i64 (K : Int), .int .i64 (T : Int), .bool bm, .int .u64 0]
  have hb0 : Below w.heap.size w ((w.alloc (.cells #[.int .i64 0, .int .i64 0, .int .i64 0, .int .i64 0, .bool false, .int .u64 0] 47)).alloc (.cells #[.int .i64 0, .int .i64 (S : Int), .int .i64 (K : Int), .int .i64 (T : Int), .bool bm, .int .u64 0] 47)) := ((Below.refl _ _).alloc (Nat.le_refl _) _).alloc (by simp) _
  have hsz : ((w.alloc (.cells #[.int .i64 0, .int .i64 0, .int .i64 0, .int .i64 0, .bool false, .int .u64 0] 47)).alloc (.cells #[.int .i64 0, .int .i64 (S : Int), .int .i64 (K : Int), .int .i64 (T : Int), .bool bm, .int .u64 0] 47)).heap.size = w.heap.size + 2 := by simp
  rw [World.size_alloc] at q1
  obtain ⟨W0, hW0⟩ : ∃ W0, (w.alloc (.cells #[.int .i64 0, .int .i64 0, .int .i64 0, .int .i64 0, .bool false, .int .u64 0] 47)).alloc (.cells #[.int .i64 0, .int .i64 (S : Int), .int .i64 (K : Int), .int .i64 (T : Int), .bool bm, .int .u64 0] 47) = W0 := ⟨_, rfl⟩
  rw [hW0] at q0 q1 hb0 hsz ⊢
  clear hW0
  refine (HW.out W0).mono ?_
  rintro e w1 ⟨rfl, hB1⟩
  have hb1 := hb0.trans (hB1.mono hb0.size)
  obtain ⟨c0, c1, c2, c3, c4, c5, cf, cz⟩ := (q0.up hB1 (by omega)).c6
  obtain ⟨d0, d1, d2, d3, d4, d5, df, dz⟩ := (q1.up hB1 (by omega)).c6
  have cf0 := cf 0
  have cf1 := cf 1
  have cf2 := cf 2
  have cf3 := cf 3
  have cf4 := cf 4
  have cf5 := cf 5
  have Q0 := Lib.hid (q0.up hB1 (by omega))
  clear q0 q1 hB1 hb0 hsz cf df e1 e2 e3 e4 hbit m1 m2 m3 m4
  by_cases hR : R = 0
  · by_cases hV : V = x
    · obtain ⟨g1, g2⟩ := HE0.out hR hV
      have G1 := Lib.hid g1
      have G2 := Lib.hid g2
      have hr1 : (R != 0) = false := by rw [bne_eq_false_iff_eq]; exact hR
      have hv1 : ((V : Int) != (x : Int)) = false := by rw [bne_eq_false_iff_eq]; omega
      clear hR hV g1 g2
      go_wp2_with fail
      refine bodyPost_ret (v := .tuple #[.agg #[.int .i64 0, .int .i64 (S : Int), .int .i64 (K : Int), .int .i64 (T : Int), .bool bm, .int .u64 0], .int .i64 0]) (results_blk Try.results25 _ ((((((Q0.out.set_ 0 _).set_ 1 _).set_ 2 _).set_ 3 _).set_ 4 _).set_ 5 _) rfl rfl) rfl ⟨by rw [G1.out, G2.out, HRAW.out], ?_⟩
      exact (Below.setCell (p := ⟨w.heap.size, 5, none⟩) (Below.setCell (p := ⟨w.heap.size, 4, none⟩) (Below.setCell (p := ⟨w.heap.size, 3, none⟩) (Below.setCell (p := ⟨w.heap.size, 2, none⟩) (Below.setCell (p := ⟨w.heap.size, 1, none⟩) (Below.setCell (p := ⟨w.heap.size, 0, none⟩) hb1 (Nat.le_refl _) _) (Nat.le_refl _) _) (Nat.le_refl _) _) (Nat.le_refl _) _) (Nat.le_refl _) _) (Nat.le_refl _) _)
    · obtain ⟨g1, g2⟩ := HE1.out (.inr hV)
      have G1 := Lib.hid g1
      have G2 := Lib.hid g2
      have hr1 : (R != 0) = false := by rw [bne_eq_false_iff_eq]; exact hR
      have hv1 : ((V : Int) != (x : Int)) = true := by rw [bne_iff_ne]; omega
      clear hR hV g1 g2
      go_wp2_with fail
      refine bodyPost_ret (v := .tuple #[.agg #[.int .i64 0, .int .i64 0, .int .i64 0, .int .i64 0, .bool false, .int .u64 0], .int .i64 50]) (results_blk Try.results25 _ ((((((Q0.out.set_ 0 _).set_ 1 _).set_ 2 _).set_ 3 _).set_ 4 _).set_ 5 _) rfl rfl) rfl ⟨by rw [G1.out, G2.out]; rfl, ?_⟩
      exact (Below.setCell (p := ⟨w.heap.size, 5, none⟩) (Below.setCell (p := ⟨w.heap.size, 4, none⟩) (Below.setCell (p := ⟨w.heap.size, 3, none⟩) (Below.setCell (p := ⟨w.heap.size, 2, none⟩) (Below.setCell (p := ⟨w.heap.size, 1, none⟩) (Below.setCell (p := ⟨w.heap.size, 0, none⟩) hb1 (Nat.le_refl _) _) (Nat.le_refl _) _) (Nat.le_refl _) _) (Nat.le_refl _) _) (Nat.le_refl _) _) (Nat.le_refl _) _)
  · obtain ⟨g1, g2⟩ := HE1.out (.inl hR)
    have G1 := Lib.hid g1
    have G2 := Lib.hid g2
    have hr1 : (R != 0) = true := by rw [bne_iff_ne]; exact hR
    clear hR g1 g2
    go_wp2_with fail
    refine bodyPost_ret (v := .tuple #[.agg #[.int .i64 0, .int .i64 0, .int .i64 0, .int .i64 0, .bool false, .int .u64 0], .int .i64 50]) (results_blk Try.results25 _ ((((((Q0.out.set_ 0 _).set_ 1 _).set_ 2 _).set_ 3 _).set_ 4 _).set_ 5 _) rfl rfl) rfl ⟨by rw [G1.out, G2.out]; rfl, ?_⟩
    exact (Below.setCell (p := ⟨w.heap.size, 5, none⟩) (Below.setCell (p := ⟨w.heap.size, 4, none⟩) (Below.setCell (p := ⟨w.heap.size, 3, none⟩) (Below.setCell (p := ⟨w.heap.size, 2, none⟩) (Below.setCell (p := ⟨w.heap.size, 1, none⟩) (Below.setCell (p := ⟨w.heap.size, 0, none⟩) hb1 (Nat.le_refl _) _) (Nat.le_refl _) _) (Nat.le_refl _) _) (Nat.le_refl _) _) (Nat.le_refl _) _) (Nat.le_refl _) _)
end Go.Proofs.Ytpifagclhhaniaa
