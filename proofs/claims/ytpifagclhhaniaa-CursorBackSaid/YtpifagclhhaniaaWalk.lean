/- The blocks of a heap: what the program returns. -/
import Derived.Test.YtpifagclhhaniaaHdrY
import Derived.Test.YtpifagclhhaniaaSldP
import Derived.Deep.RegionHeld3
import Derived.Deep.DrawnRows
namespace Go.Proofs.Ytpifagclhhaniaa
open Go.RowKit

def stB (ws : List Nat) (a : Nat) : Bk := if stands ws a = true then bkAt ws a else noBk
def sdErr (ws : List Nat) (a : Nat) : Int := if stands ws a = true then 0 else 50
theorem st_ok {ws : List Nat} {a : Nat} (h : stands ws a = true) : stB ws a = bkAt ws a ∧ sdErr ws a = 0 := by simp [stB, sdErr, h]
theorem st_no {ws : List Nat} {a : Nat} (h : stands ws a = false) : stB ws a = noBk ∧ sdErr ws a = 50 := by simp [stB, sdErr, h]
theorem wd_get {ws : List Nat} {i : Nat} (h : i < ws.length) : wd ws i = ws[i] := by simp [wd, h]
theorem wd_lt {ws : List Nat} (ho : ∀ x ∈ ws, x < 18446744073709551616) (i : Nat) : wd ws i < 18446744073709551616 := by
  by_cases h : i < ws.length
  · rw [wd_get h]; exact ho _ (List.getElem_mem h)
  · simp [wd, h]

theorem six_bx {w : World} {g : Nat} {t : TypeId} {x0 x1 x2 x3 x4 x5 : Value} (h : Bx w g t #[x0, x1, x2, x3, x4, x5]) (u0 u1 u2 u3 u4 u5 : Value) :
    Bx ((((((w.setCell ⟨g, 0, none⟩ u0).setCell ⟨g, 1, none⟩ u1).setCell ⟨g, 2, none⟩ u2).setCell ⟨g, 3, none⟩ u3).setCell ⟨g, 4, none⟩ u4).setCell ⟨g, 5, none⟩ u5) g t #[u0, u1, u2, u3, u4, u5] :=
  (((((h.set_ 0 u0).set_ 1 u1).set_ 2 u2).set_ 3 u3).set_ 4 u4).set_ 5 u5
theorem six_below {B : Nat} {w0 w : World} {g : Nat} (h : Below B w0 w) (hg : B ≤ g) (u0 u1 u2 u3 u4 u5 : Value) :
    Below B w0 ((((((w.setCell ⟨g, 0, none⟩ u0).setCell ⟨g, 1, none⟩ u1).setCell ⟨g, 2, none⟩ u2).setCell ⟨g, 3, none⟩ u3).setCell ⟨g, 4, none⟩ u4).setCell ⟨g, 5, none⟩ u5) :=
  (((((h.setCell (p := ⟨g, 0, none⟩) hg u0).setCell (p := ⟨g, 1, none⟩) hg u1).setCell (p := ⟨g, 2, none⟩) hg u2).setCell (p := ⟨g, 3, none⟩) hg u3).setCell (p := ⟨g, 4, none⟩) hg u4).setCell (p := ⟨g, 5, none⟩) hg u5

set_option maxRecDepth 100000 in
set_option maxHeartbeats 1600000 in
theorem stands_c (A : Option Addr) (ws : List Nat) (c n a : Nat) (w : World) (hn : ws.length = n) (hm : n ≤ 1000000) (ha : a + 1 < n) (hr : RdW w w.heap.size A ws) (ho : ∀ x ∈ ws, x < 18446744073709551616) :
    Calls Try.prog 63 #[.slice A n c, .int .i64 (a : Int)] w fun e w' => e = .returned (.tuple #[(stB ws a).val, .int .i64 (sdErr ws a)]) ∧ Below w.heap.size w w' := by
  subst hn
  have HR := Lib.hid hr
  have hx := wd_lt ho a
  have HSP := Lib.hid (fun W => hdSplit_c (wd ws a) W hx)
  obtain ⟨b, off, rfl, hb, h0⟩ := RdW.at_ hr (show a < ws.length by omega)
  obtain ⟨b', off', e', -, h1⟩ := RdW.at_ hr ha
  cases e'
  rw [← wd_get] at h0 h1
  have ik0 : (0 : Int) ≤ (a : Int) := by omega
  have ik1 : (a : Int) < (ws.length : Int) := by omega
  have ik2 : (a : Int) + 1 < (ws.length : Int) := by omega
  have ik3 : (0 : Int) ≤ (a : Int) + 1 := by omega
  have htn : ((a : Int) + 1).toNat = a + 1 := by omega
  have hraw : (rawBk (wd ws a)).val = .agg #[.int .i64 0, .int .i64 ((szAt ws a : Nat) : Int), .int .i64 ((wd ws a % 256 : Nat) : Int), .int .i64 ((wd ws a / 512 % 128 : Nat) : Int), .bool (wd ws a / 256 % 2 == 1), .int .u64 0] := rfl
  have hbk : (bkAt ws a).val = .agg #[.int .i64 (a : Int), .int .i64 ((szAt ws a : Nat) : Int), .int .i64 ((wd ws a % 256 : Nat) : Int), .int .i64 ((wd ws a / 512 % 128 : Nat) : Int), .bool (wd ws a / 256 % 2 == 1), .int .u64 ((wd ws (a + 1) : Nat) : Int)] := rfl
  have hsb : szAt ws a < 65536 := Nat.mod_lt _ (by omega)
  have HST : Hid (stands ws a = (splitOk (wd ws a) && decide ((szAt ws a : Int) ≤ (ws.length : Int) - a))) := Lib.hid rfl
  have HNO : Hid (stands ws a = false → stB ws a = noBk ∧ sdErr ws a = 50) := Lib.hid st_no
  have HOK : Hid (stands ws a = true → stB ws a = bkAt ws a ∧ sdErr ws a = 0) := Lib.hid st_ok
  cases hs : splitOk (wd ws a)
  · obtain ⟨g1, g2⟩ := HNO.out (by rw [HST.out, hs]; rfl)
    obtain ⟨s1, s2⟩ := spl_no hs
    rw [s1, s2] at HSP
    have G1 := Lib.hid g1
    have G2 := Lib.hid g2
    clear hr hraw hbk hs g1 g2 s1 s2 hx
    unfold Bk.val noBk at HSP
    dsimp only at HSP
    obtain ⟨x, hx⟩ : ∃ x, wd ws a = x := ⟨_, rfl⟩
    rw [hx] at h0 HSP
    clear hx
    go_enter Try.func63, Try.ntmps63
    go_wp2_with fail
    refine (HSP.out _).mono ?_
    rintro e w1 ⟨rfl, hB1⟩
    rw [World.size_alloc] at hB1
    have bx := Bx.of_new hB1
    have hb1 := below_call hB1
    have Q0 := Lib.hid bx
    obtain ⟨c0, c1, c2, c3, c4, c5, cf, cz⟩ := bx.c6
    have cf0 := cf 0
    have cf1 := cf 1
    have cf2 := cf 2
    have cf3 := cf 3
    have cf4 := cf 4
    have cf5 := cf 5
    clear bx cf hB1
    go_wp2_with fail
    refine bodyPost_ret (v := .tuple #[.agg #[.int .i64 0, .int .i64 0, .int .i64 0, .int .i64 0, .bool false, .int .u64 0], .int .i64 50]) (results_blk Try.results63 _ ((six_bx Q0.out _ _ _ _ _ _).alloc _) rfl rfl) rfl ⟨by rw [G1.out, G2.out]; rfl, (six_below hb1 (Nat.le_refl _) _ _ _ _ _ _).alloc (by simp; have := hb1.size; omega) _⟩
  · obtain ⟨s1, s2⟩ := spl_ok hs
    rw [s1, s2, hraw] at HSP
    have HBK := Lib.hid hbk
    obtain ⟨S, hS⟩ : ∃ S, szAt ws a = S := ⟨_, rfl⟩
    obtain ⟨K, hK⟩ : ∃ K, wd ws a % 256 = K := ⟨_, rfl⟩
    obtain ⟨T, hT⟩ : ∃ T, wd ws a / 512 % 128 = T := ⟨_, rfl⟩
    obtain ⟨M, hM⟩ : ∃ M, (wd ws a / 256 % 2 == 1) = M := ⟨_, rfl⟩
    rw [hS, hK, hT, hM] at HSP HBK
    rw [hS] at hsb HST
    rw [hs, Bool.true_and] at HST
    obtain ⟨x, hx2⟩ : ∃ x, wd ws a = x := ⟨_, rfl⟩
    obtain ⟨y, hy2⟩ : ∃ y, wd ws (a + 1) = y := ⟨_, rfl⟩
    rw [hx2] at h0 HSP
    rw [hy2] at h1 HBK
    clear hr hraw hbk hs s1 s2 hx hS hK hT hM hx2 hy2
    by_cases hbig : (ws.length : Int) - a < S
    · obtain ⟨g1, g2⟩ := HNO.out (by rw [HST.out, decide_eq_false_iff_not]; omega)
      have G1 := Lib.hid g1
      have G2 := Lib.hid g2
      clear g1 g2
      go_enter Try.func63, Try.ntmps63
      go_wp2_with fail
      refine (HSP.out _).mono ?_
      rintro e w1 ⟨rfl, hB1⟩
      rw [World.size_alloc] at hB1
      have bx := Bx.of_new hB1
      have hb1 := below_call hB1
      have Q0 := Lib.hid bx
      obtain ⟨c0, c1, c2, c3, c4, c5, cf, cz⟩ := bx.c6
      have cf0 := cf 0
      have cf1 := cf 1
      have cf2 := cf 2
      have cf3 := cf 3
      have cf4 := cf 4
      have cf5 := cf 5
      clear bx cf hB1

      go_wp2_with fail
      refine bodyPost_ret (v := .tuple #[.agg #[.int .i64 0, .int .i64 0, .int .i64 0, .int .i64 0, .bool false, .int .u64 0], .int .i64 50]) (results_blk Try.results63 _ ((six_bx Q0.out _ _ _ _ _ _).alloc _) rfl rfl) rfl ⟨by rw [G1.out, G2.out]; rfl, (six_below hb1 (Nat.le_refl _) _ _ _ _ _ _).alloc (by simp; have := hb1.size; omega) _⟩
    · obtain ⟨g1, g2⟩ := HOK.out (by rw [HST.out, decide_eq_true_iff]; omega)
      have G1 := Lib.hid g1
      have G2 := Lib.hid g2
      have hle : (S : Int) ≤ (ws.length : Int) - a := by omega
      clear g1 g2 hbig
      go_enter Try.func63, Try.ntmps63
      go_wp2_with fail
      refine (HSP.out _).mono ?_
      rintro e w1 ⟨rfl, hB1⟩
      rw [World.size_alloc] at hB1
      have bx := Bx.of_new hB1
      have hb1 := below_call hB1
      have Q0 := Lib.hid bx
      obtain ⟨c0, c1, c2, c3, c4, c5, cf, cz⟩ := bx.c6
      have cf0 := cf 0
      have cf1 := cf 1
      have cf2 := cf 2
      have cf3 := cf 3
      have cf4 := cf 4
      have cf5 := cf 5
      clear bx cf hB1

      have hbw : b < w1.heap.size := by have := hb1.size; omega
      have h1' := (hb1.cell (p := ⟨b, off + (a + 1), none⟩) hb).trans h1
      have hwr : IntKind.i64.wrap ((a : Int) + 1) = (a : Int) + 1 := IntWalk.i64_in _ (by omega)
      go_wp2_with fail
      have hne := World.new_ne w1 ⟨b, off + (a + 1), none⟩ h1'
      go_region_held3 (fun X : World => X.cell? ⟨b, off + (a + 1), none⟩ = some (.int .u64 (y : Int))) (go_keep) (fail)
      all_goals
        go_wp2_with fail
        refine bodyPost_ret (v := .tuple #[.agg #[.int .i64 (a : Int), .int .i64 (S : Int), .int .i64 (K : Int), .int .i64 (T : Int), .bool M, .int .u64 (y : Int)], .int .i64 0]) (results_blk Try.results63 _ (show Bx (World.drew _) _ _ _ from (six_bx Q0.out _ _ _ _ _ _).alloc _) rfl rfl) rfl ⟨by rw [G1.out, G2.out, HBK.out], ((six_below hb1 (Nat.le_refl _) _ _ _ _ _ _).alloc (by simp; have := hb1.size; omega) _).drew⟩
end Go.Proofs.Ytpifagclhhaniaa
