/- Fixing references: the moves, an object, its references; the word of a slot. -/
import Derived.Test.YtpifagclhhaniaaFixP
import Derived.Test.YtpifagclhhaniaaHnd2
import Derived.Test.YtpifagclhhaniaaFlds
namespace Go.Proofs.Ytpifagclhhaniaa
open Go.RowKit

set_option maxRecDepth 100000 in
set_option maxHeartbeats 2000000 in
theorem fixOf_c (A : Option Addr) (m : List (Int × Int)) (c n v : Nat) (w : World) (hn : m.length = n) (hm : n ≤ 1000000) (hv : v < 18446744073709551616) (hr : RdM w w.heap.size A m) :
    Calls Try.prog 69 #[.slice A n c, .int .u64 (v : Int)] w fun e w' => e = .returned (.tuple #[.int .i64 ((fixOf m v).getD 0), .bool (fixOf m v).isSome]) ∧ Below w.heap.size w w' := by
  have HC := Lib.hid (fun a => fwTo_c A m c n w.heap.size a w hn hm hr (Nat.le_refl _))
  by_cases h : 2048 < v
  · have H : Hid (fixOf m v = none) := Lib.hid (by simp [fixOf, h])
    have h1 : decide ((2048 : Int) < (v : Int)) = true := by rw [decide_eq_true_iff]; omega
    have h1n : decide (2048 < v) = true := by rw [decide_eq_true_iff]; exact h
    clear hv hr hn hm h
    go_enter Try.func69, Try.ntmps69
    go_wp2_with fail
    go_ret2
    exact ⟨by rw [H.out]; rfl, Below.refl _ _⟩
  · have H : Hid (fixOf m v = mvTo m (v : Int)) := Lib.hid (by simp [fixOf, h])
    have h1 : decide ((2048 : Int) < (v : Int)) = false := by rw [decide_eq_false_iff_not]; omega
    have h1n : decide (2048 < v) = false := by rw [decide_eq_false_iff_not]; exact h
    have hw : IntKind.i64.wrap (v : Int) = (v : Int) := IntWalk.i64_in _ (by omega)
    have HC2 := Lib.hid (HC.out (v : Int))
    rw [← H.out] at HC2
    obtain ⟨q, hq⟩ : ∃ q, fixOf m v = q := ⟨_, rfl⟩
    rw [hq] at HC2 ⊢
    clear hv hr hn hm h hq HC H
    go_enter Try.func69, Try.ntmps69
    go_wp2_with fail
    refine HC2.out.mono ?_
    rintro e w1 ⟨rfl, hB1⟩
    go_wp2_with fail
    go_ret2
    exact ⟨rfl, hB1⟩

def FxRes (ws : List Nat) (e : Ending) (w' : World) : Prop := ∃ A c, e = .returned (.tuple #[.slice A (fxMv ws).length c, .int .i64 (fxErr ws)]) ∧ RdM w' w'.heap.size A (fxMv ws) ∧ (fxMv ws).length ≤ c
set_option maxRecDepth 100000 in
set_option maxHeartbeats 2000000 in
theorem fxRead_c (A : Option Addr) (ws : List Nat) (c n : Nat) (w : World) (hn : ws.length = n) (hm : n ≤ 9223372036854775807) (hr : RdW w w.heap.size A ws) (ho : ∀ x ∈ ws, x < 18446744073709551616) :
    Calls Try.prog 67 #[.slice A n c] w fun e w' => FxRes ws e w' ∧ Below w.heap.size w w' := by
  have HR := Lib.hid hr
  have HCK := Lib.hid (mCheck_c A ws c n w hn hm hr ho)
  have HRD := Lib.hid (fun W (h : RdW W W.heap.size A ws) => fwRead_c A ws c n 128 128 W hn hm (by omega) (by omega) h ho)
  unfold RdRes at HRD
  clear hr ho hn hm
  by_cases h0 : hpErr ws = 0
  · have HE : Hid (fxErr ws = rdErr ws 128 128 ∧ fxMv ws = rdMv ws 128 128) := Lib.hid (by
      have h1 : fxErr ws = rdErr ws 128 128 := by simp [fxErr, h0]
      refine ⟨h1, ?_⟩
      unfold fxMv
      rw [h1]
      split
      · rfl
      · rename_i h2; simp [rdMv, h2])
    rw [h0] at HCK
    clear h0
    go_enter Try.func67, Try.ntmps67
    go_wp2_with fail
    refine HCK.out.mono ?_
    rintro e w1 ⟨rfl, hB1⟩
    have HB1 := Lib.hid hB1
    have HR1 := Lib.hid (HR.out.up hB1 hB1.size)
    clear hB1
    go_wp2_with fail
    refine (HRD.out _ HR1.out).mono ?_
    rintro e w2 ⟨⟨A2, c2, rfl, hrd, hcl⟩, hB2⟩
    have HB2 := Lib.hid (HB1.out.trans (hB2.mono HB1.out.size))
    have HM2 := Lib.hid hrd
    have HC2 := Lib.hid hcl
    clear hB2 hrd hcl
    go_wp2_with fail
    go_ret2
    exact ⟨⟨A2, c2, by rw [HE.out.1, HE.out.2]; rfl, by rw [HE.out.2]; exact HM2.out, by rw [HE.out.2]; exact HC2.out⟩, HB2.out⟩
  · obtain ⟨r, hr⟩ : ∃ r, hpErr ws = r := ⟨_, rfl⟩
    have HE : Hid (fxErr ws = r ∧ fxMv ws = []) := Lib.hid (by
      have h1 : fxErr ws = r := by unfold fxErr; rw [if_neg h0, hr]
      exact ⟨h1, by unfold fxMv; rw [h1, if_neg (by rw [← hr]; exact h0)]⟩)
    rw [hr] at HCK h0
    have hrn : (r != 0) = true := by rw [bne_iff_ne]; exact h0
    clear h0 hr
    go_enter Try.func67, Try.ntmps67
    go_wp2_with fail
    refine HCK.out.mono ?_
    rintro e w1 ⟨rfl, hB1⟩
    go_wp2_with fail
    go_ret2
    exact ⟨⟨none, 0, by rw [HE.out.1, HE.out.2]; rfl, by rw [HE.out.2]; exact Rd.nil_, by rw [HE.out.2]; exact Nat.le_refl _⟩, hB1⟩

/-! The word of a slot -/
theorem slWd_or {a g : Nat} (ha : a < 4294967296) (hg : g < 2147483648) : bits BinOp.or .u64 (a : Int) ((g : Int) * 4294967296) = ((a + g * 4294967296 : Nat) : Int) ∧
    bits BinOp.or .u64 ((a + g * 4294967296 : Nat) : Int) 9223372036854775808 = ((a + g * 4294967296 + 9223372036854775808 : Nat) : Int) := by
  refine ⟨or32 ha (by omega), ?_⟩
  have h := u64_or_nat (a + g * 4294967296) 9223372036854775808 (by omega) (by omega)
  have e : (a + g * 4294967296) ||| 9223372036854775808 = a + g * 4294967296 + 9223372036854775808 := by
    rw [show (9223372036854775808 : Nat) = 1 * 2 ^ 63 by decide, or_join (i := 63) (by omega)]
  rw [e] at h
  exact h
theorem slWd_true {a g p q : Nat} (hp : a + g * 4294967296 = p) (hq : p + 9223372036854775808 = q) : slWd ⟨(g : Int), true, (a : Int)⟩ = q := by
  unfold slWd
  dsimp only
  rw [Int.toNat_natCast, Int.toNat_natCast, if_pos rfl, hp, hq]
theorem slWd_false {a g p : Nat} (hp : a + g * 4294967296 = p) : slWd ⟨(g : Int), false, (a : Int)⟩ = p := by
  unfold slWd
  dsimp only
  rw [Int.toNat_natCast, Int.toNat_natCast, if_neg (by simp), hp, Nat.add_zero]
set_option maxRecDepth 100000 in
set_option maxHeartbeats 2000000 in
theorem hPack0_c (g a p : Nat) (w : World) (hg : g < 2147483648) (ha : a < 4294967296) (o1 : bits BinOp.or .u64 (a : Int) ((g : Int) * 4294967296) = (p : Int)) :
    Calls Try.prog 96 #[.agg #[.int .i64 (g : Int), .bool false, .int .i64 (a : Int)]] w fun e w' => e = .returned (.int .u64 (p : Int)) ∧ Below w.heap.size w w' := by
  have hw1 : IntKind.u64.wrap (a : Int) = (a : Int) := IntWalk.u64_in _ (by omega)
  have hw2 : IntKind.u64.wrap (g : Int) = (g : Int) := IntWalk.u64_in _ (by omega)
  have hw3 : IntKind.u64.wrap ((g : Int) * 4294967296) = (g : Int) * 4294967296 := IntWalk.u64_in _ (by omega)
  have HB := Lib.hid ((Below.refl w.heap.size w).alloc (Nat.le_refl _) (.cells #[.int .i64 (g : Int), .bool false, .int .i64 (a : Int)] 35))
  clear ha hg
  go_enter Try.func96, Try.ntmps96
  go_wp2_with fail
  go_ret
  exact ⟨rfl, HB.out⟩
set_option maxRecDepth 100000 in
set_option maxHeartbeats 2000000 in
theorem hPack1_c (g a p q : Nat) (w : World) (hg : g < 2147483648) (ha : a < 4294967296) (o1 : bits BinOp.or .u64 (a : Int) ((g : Int) * 4294967296) = (p : Int)) (o2 : bits BinOp.or .u64 (p : Int) 9223372036854775808 = (q : Int)) :
    Calls Try.prog 96 #[.agg #[.int .i64 (g : Int), .bool true, .int .i64 (a : Int)]] w fun e w' => e = .returned (.int .u64 (q : Int)) ∧ Below w.heap.size w w' := by
  have hw1 : IntKind.u64.wrap (a : Int) = (a : Int) := IntWalk.u64_in _ (by omega)
  have hw2 : IntKind.u64.wrap (g : Int) = (g : Int) := IntWalk.u64_in _ (by omega)
  have hw3 : IntKind.u64.wrap ((g : Int) * 4294967296) = (g : Int) * 4294967296 := IntWalk.u64_in _ (by omega)
  have HB := Lib.hid ((Below.refl w.heap.size w).alloc (Nat.le_refl _) (.cells #[.int .i64 (g : Int), .bool true, .int .i64 (a : Int)] 35))
  clear ha hg
  go_enter Try.func96, Try.ntmps96
  go_wp2_with fail
  go_ret
  exact ⟨rfl, HB.out⟩
theorem hPack_c (g a : Nat) (u : Bool) (w : World) (hg : g < 2147483648) (ha : a < 4294967296) :
    Calls Try.prog 96 #[.agg #[.int .i64 (g : Int), .bool u, .int .i64 (a : Int)]] w fun e w' => e = .returned (.int .u64 (slWd ⟨(g : Int), u, (a : Int)⟩ : Nat)) ∧ Below w.heap.size w w' := by
  obtain ⟨o1, o2⟩ := slWd_or ha hg
  obtain ⟨p, hp⟩ : ∃ p, a + g * 4294967296 = p := ⟨_, rfl⟩
  rw [hp] at o1 o2
  obtain ⟨q, hq⟩ : ∃ q, p + 9223372036854775808 = q := ⟨_, rfl⟩
  rw [hq] at o2
  cases u
  · rw [slWd_false hp]
    exact hPack0_c g a p w hg ha o1
  · rw [slWd_true hp hq]
    exact hPack1_c g a p q w hg ha o1 o2
set_option maxRecDepth 100000 in
set_option maxHeartbeats 2000000 in
theorem hWord_c (g a : Nat) (u : Bool) (w : World) (hg : g < 2147483648) (ha : a < 4294967296) (hok : slOk ⟨(g : Int), u, (a : Int)⟩ = true) :
    Calls Try.prog 73 #[.agg #[.int .i64 (g : Int), .bool u, .int .i64 (a : Int)]] w fun e w' => e = .returned (.tuple #[.int .u64 (slWd ⟨(g : Int), u, (a : Int)⟩ : Nat), .int .i64 0]) ∧ Below w.heap.size w w' := by
  have HRT := Lib.hid (fun W => hRight_c (g : Int) u (a : Int) W (by omega) (by omega))
  rw [hok] at HRT
  have HPK := Lib.hid (fun W => hPack_c g a u W hg ha)
  have b0 := Bx.new w 35 #[.int .i64 (g : Int), .bool u, .int .i64 (a : Int)]
  have B0 := Lib.hid b0
  have HB := Lib.hid ((Below.refl w.heap.size w).alloc (Nat.le_refl _) (.cells #[.int .i64 (g : Int), .bool u, .int .i64 (a : Int)] 35))
  obtain ⟨V, hV⟩ : ∃ V, slWd ⟨(g : Int), u, (a : Int)⟩ = V := ⟨_, rfl⟩
  rw [hV] at HPK ⊢
  clear b0 hV hok hg ha
  go_enter Try.func73, Try.ntmps73
  go_wp2_with fail
  refine (HRT.out _).mono ?_
  rintro e w1 ⟨rfl, hB1⟩
  have hb1 := B0.out.up hB1 B0.out.lt
  obtain ⟨p0, p1, p2, -⟩ := hb1.c3
  have HB1 := Lib.hid (HB.out.trans (hB1.mono HB.out.size))
  clear hB1 hb1
  go_wp2_with fail
  refine (HPK.out _).mono ?_
  rintro e w2 ⟨rfl, hB2⟩
  go_wp2_with fail
  go_ret2
  exact ⟨rfl, HB1.out.trans (hB2.mono HB1.out.size)⟩
end Go.Proofs.Ytpifagclhhaniaa
