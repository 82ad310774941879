/- Blocks of a heap: what the reference returns. -/
import Derived.Test.YtkcancjalpjbgaaWalk
import Derived.Test.YtkcancjalpjbgaaRef14S
namespace Go.Proofs.Ytkcancjalpjbgaa
open Go.RowKit

set_option maxRecDepth 100000 in
set_option maxHeartbeats 1600000 in
theorem at_c (A : Option Addr) (ws : List Nat) (c n a : Nat) (w : World) (hn : ws.length = n) (hm : n ≤ 1000000) (ha : a + 1 < n) (hr : RdW w w.heap.size A ws) (ho : ∀ x ∈ ws, x < 18446744073709551616) :
    Calls Try.prog 71 #[.slice A n c, .int .i64 (a : Int)] w fun e w' => e = .returned (.tuple #[(stB ws a).val, .bool (stands ws a)]) ∧ Below w.heap.size w w' := by
  subst hn
  have HR := Lib.hid hr
  have hx := wd_lt ho a
  have HSP := Lib.hid (fun W => refSplit_c (wd ws a) W hx)
  obtain ⟨b, off, rfl, hb, h0⟩ := RdW.at_ hr (show a < ws.length by omega)
  obtain ⟨b', off', e', -, h1⟩ := RdW.at_ hr ha
  cases e'
  rw [← wd_get] at h0 h1
  have ik0 : (0 : Int) ≤ (a : Int) := by omega
  have ik1 : (a : Int) < (ws.length : Int) := by omega
  have d1 : decide ((a : Int) < 0) = false := by rw [decide_eq_false_iff_not]; omega
  have d2 : decide ((ws.length : Int) ≤ (a : Int)) = false := by rw [decide_eq_false_iff_not]; omega
  have ik2 : (a : Int) + 1 < (ws.length : Int) := by omega
  have ik3 : (0 : Int) ≤ (a : Int) + 1 := by omega
  have htn : ((a : Int) + 1).toNat = a + 1 := by omega
  have hraw : (rawBk (wd ws a)).val = .agg #[.int .i64 0, .int .i64 ((szAt ws a : Nat) : Int), .int .i64 ((wd ws a % 256 : Nat) : Int), .int .i64 ((wd ws a / 512 % 128 : Nat) : Int), .bool (wd ws a / 256 % 2 == 1), .int .u64 0] := rfl
  have hbk : (bkAt ws a).val = .agg #[.int .i64 (a : Int), .int .i64 ((szAt ws a : Nat) : Int), .int .i64 ((wd ws a % 256 : Nat) : Int), .int .i64 ((wd ws a / 512 % 128 : Nat) : Int), .bool (wd ws a / 256 % 2 == 1), .int .u64 ((wd ws (a + 1) : Nat) : Int)] := rfl
  have hsb : szAt ws a < 65536 := Nat.mod_lt _ (by omega)
  have HST : Hid (stands ws a = (splitOk (wd ws a) && decide ((szAt ws a : Int) ≤ (ws.length : Int) - a))) := Lib.hid rfl
  have HNO : Hid (stands ws a = false → stB ws a = noBk) := Lib.hid fun h => (st_no h).1
  have HOK : Hid (stands ws a = true → stB ws a = bkAt ws a) := Lib.hid fun h => (st_ok h).1
  cases hs : splitOk (wd ws a)
  · have h2 : stands ws a = false := by rw [HST.out, hs]; rfl
    have G1 := Lib.hid (HNO.out h2)
    have G2 := Lib.hid h2
    obtain ⟨s1, s2⟩ := spl_no hs
    rw [s1, hs] at HSP
    clear hr hraw hbk hs h2 s1 s2 hx
    unfold Bk.val noBk at HSP
    dsimp only at HSP
    obtain ⟨x, hx⟩ : ∃ x, wd ws a = x := ⟨_, rfl⟩
    rw [hx] at h0 HSP
    clear hx
    go_enter Try.func71, Try.ntmps71
    go_wp2_with fail
    refine (HSP.out _).mono ?_
    rintro e w1 ⟨rfl, hB1⟩
    rw [World.size_alloc] at hB1
    have bx := Bx.of_new hB1
    have hb1 := below_call hB1
    have Q0 := Lib.hid bx
    obtain ⟨c0, c1, c2, c3, c4, c5, cf, cz⟩ := bx.c6
    have cf0 := cf 0
    have cf1 := cf 1
    have cf2 := cf 2
    have cf3 := cf 3
    have cf4 := cf 4
    have cf5 := cf 5
    clear bx cf hB1
    go_wp2_with fail
    refine bodyPost_ret (v := .tuple #[.agg #[.int .i64 0, .int .i64 0, .int .i64 0, .int .i64 0, .bool false, .int .u64 0], .bool false]) (results_blk Try.results71 _ ((six_bx Q0.out _ _ _ _ _ _).alloc _) rfl rfl) rfl ⟨by rw [G1.out, G2.out]; rfl, (six_below hb1 (Nat.le_refl _) _ _ _ _ _ _).alloc (by simp; have := hb1.size; omega) _⟩
  · obtain ⟨s1, s2⟩ := spl_ok hs
    rw [s1, hraw, hs] at HSP
    have HBK := Lib.hid hbk
    obtain ⟨S, hS⟩ : ∃ S, szAt ws a = S := ⟨_, rfl⟩
    obtain ⟨K, hK⟩ : ∃ K, wd ws a % 256 = K := ⟨_, rfl⟩
    obtain ⟨T, hT⟩ : ∃ T, wd ws a / 512 % 128 = T := ⟨_, rfl⟩
    obtain ⟨M, hM⟩ : ∃ M, (wd ws a / 256 % 2 == 1) = M := ⟨_, rfl⟩
    rw [hS, hK, hT, hM] at HSP HBK
    rw [hS] at hsb HST
    rw [hs, Bool.true_and] at HST
    obtain ⟨x, hx2⟩ : ∃ x, wd ws a = x := ⟨_, rfl⟩
    obtain ⟨y, hy2⟩ : ∃ y, wd ws (a + 1) = y := ⟨_, rfl⟩
    rw [hx2] at h0 HSP
    rw [hy2] at h1 HBK
    clear hr hraw hbk hs s1 s2 hx hS hK hT hM hx2 hy2
    by_cases hbig : (ws.length : Int) < (a : Int) + S
    · have h2 : stands ws a = false := by rw [HST.out, decide_eq_false_iff_not]; omega
      have G1 := Lib.hid (HNO.out h2)
      have G2 := Lib.hid h2
      clear h2
      go_enter Try.func71, Try.ntmps71
      go_wp2_with fail
      refine (HSP.out _).mono ?_
      rintro e w1 ⟨rfl, hB1⟩
      rw [World.size_alloc] at hB1
      have bx := Bx.of_new hB1
      have hb1 := below_call hB1
      have Q0 := Lib.hid bx
      obtain ⟨c0, c1, c2, c3, c4, c5, cf, cz⟩ := bx.c6
      have cf0 := cf 0
      have cf1 := cf 1
      have cf2 := cf 2
      have cf3 := cf 3
      have cf4 := cf 4
      have cf5 := cf 5
      clear bx cf hB1
      go_wp2_with fail
      refine bodyPost_ret (v := .tuple #[.agg #[.int .i64 0, .int .i64 0, .int .i64 0, .int .i64 0, .bool false, .int .u64 0], .bool false]) (results_blk Try.results71 _ ((six_bx Q0.out _ _ _ _ _ _).alloc _) rfl rfl) rfl ⟨by rw [G1.out, G2.out]; rfl, (six_below hb1 (Nat.le_refl _) _ _ _ _ _ _).alloc (by simp; have := hb1.size; omega) _⟩
    · have h2 : stands ws a = true := by rw [HST.out, decide_eq_true_iff]; omega
      have G1 := Lib.hid (HOK.out h2)
      have G2 := Lib.hid h2
      have hle : (a : Int) + S ≤ (ws.length : Int) := by omega
      clear h2 hbig
      go_enter Try.func71, Try.ntmps71
      go_wp2_with fail
      refine (HSP.out _).mono ?_
      rintro e w1 ⟨rfl, hB1⟩
      rw [World.size_alloc] at hB1
      have bx := Bx.of_new hB1
      have hb1 := below_call hB1
      have Q0 := Lib.hid bx
      obtain ⟨c0, c1, c2, c3, c4, c5, cf, cz⟩ := bx.c6
      have cf0 := cf 0
      have cf1 := cf 1
      have cf2 := cf 2
      have cf3 := cf 3
      have cf4 := cf 4
      have cf5 := cf 5
      clear bx cf hB1
      have hbw : b < w1.heap.size := by have := hb1.size; omega
      have h1' := (hb1.cell (p := ⟨b, off + (a + 1), none⟩) hb).trans h1
      have hwr : IntKind.i64.wrap ((a : Int) + 1) = (a : Int) + 1 := IntWalk.i64_in _ (by omega)
      go_wp2_with fail
      refine bodyPost_ret (v := .tuple #[.agg #[.int .i64 (a : Int), .int .i64 (S : Int), .int .i64 (K : Int), .int .i64 (T : Int), .bool M, .int .u64 (y : Int)], .bool true]) (results_blk Try.results71 _ ((six_bx Q0.out _ _ _ _ _ _).alloc _) rfl rfl) rfl ⟨by rw [G1.out, G2.out, HBK.out], (six_below hb1 (Nat.le_refl _) _ _ _ _ _ _).alloc (by simp; have := hb1.size; omega) _⟩
end Go.Proofs.Ytkcancjalpjbgaa
