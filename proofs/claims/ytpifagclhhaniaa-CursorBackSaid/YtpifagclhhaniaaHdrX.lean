/- Headers of blocks: what the program writes and reads. -/
import Derived.Test.YtpifagclhhaniaaHdrW
import Derived.PlainAid
namespace Go.Proofs.Ytpifagclhhaniaa
open Go.RowKit

def OfRes (b : Bk) (e : Ending) : Prop := ∃ a1 a2 a3 a4, e = .returned (.agg #[.int .u64 (lowOf b : Nat), a1, a2, a3, a4])
theorem or_join {a x i : Nat} (ha : a < 2 ^ i) : a ||| x * 2 ^ i = a + x * 2 ^ i := by
  rw [Nat.or_comm, nat_join i _ a (by simp) ha, Nat.add_comm]
theorem bits_low {K M T S : Nat} {m : Int} (hK : K < 256) (hM : M ≤ 1) (hT : T < 128) (hS : S < 65536) (hm : m = ((M * 256 : Nat) : Int)) :
    bits BinOp.or .u64 (bits BinOp.or .u64 (bits BinOp.or .u64 (K : Int) m) ((T : Int) * 512)) ((S : Int) * 65536) = ((K + M * 256 + T * 512 + S * 65536 : Nat) : Int) := by
  subst hm
  have e1 := u64_or_nat K (M * 256) (by omega) (by omega)
  have j1 : K ||| M * 256 = K + M * 256 := by rw [show M * 256 = M * 2 ^ 8 from rfl, or_join hK]
  rw [j1] at e1
  rw [e1]
  have e2 := u64_or_nat (K + M * 256) (T * 512) (by omega) (by omega)
  have j2 : K + M * 256 ||| T * 512 = K + M * 256 + T * 512 := by rw [show T * 512 = T * 2 ^ 9 from rfl, or_join (by omega)]
  rw [j2] at e2
  rw [show ((T : Int) * 512) = ((T * 512 : Nat) : Int) by simp, e2]
  have e3 := u64_or_nat (K + M * 256 + T * 512) (S * 65536) (by omega) (by omega)
  have j3 : K + M * 256 + T * 512 ||| S * 65536 = K + M * 256 + T * 512 + S * 65536 := by rw [show S * 65536 = S * 2 ^ 16 from rfl, or_join (by omega)]
  rw [j3] at e3
  rw [show ((S : Int) * 65536) = ((S * 65536 : Nat) : Int) by simp, e3]
theorem rd_new1 (w : World) (cs : List Value) (t : TypeId) : Rd (w.alloc (.cells cs.toArray t)) (w.heap.size + 1) (some ⟨w.heap.size, 0, none⟩) cs := fun _ =>
  ⟨w.heap.size, 0, rfl, by omega, fun j hj => by
    have := (Bx.new w t cs.toArray).cell j
    rw [Nat.zero_add, this]
    simp [hj]⟩

set_option maxRecDepth 100000 in
set_option maxHeartbeats 1600000 in
theorem hdOf_c (b : Bk) (w : World) (hb : hdOk b = true) : Calls Try.prog 80 #[b.val] w fun e w' => OfRes b e ∧ Below w.heap.size w w' := by
  obtain ⟨h1, h2, h3, h4, h5, h6, h7⟩ := hdOk_bd hb
  clear hb
  obtain ⟨xa, xs, xk, xt, xm, xn⟩ := b
  dsimp only at *
  obtain ⟨K, rfl⟩ := Int.eq_ofNat_of_zero_le h4
  obtain ⟨T, rfl⟩ := Int.eq_ofNat_of_zero_le h5
  obtain ⟨S, rfl⟩ := Int.eq_ofNat_of_zero_le h6
  simp only [Int.toNat_natCast] at h1 h2 h3
  unfold Bk.val
  cases xm
  all_goals
    go_enter Try.func80, Try.ntmps80
    go_wp2_with fail
  · refine bodyPost_ret (v := .agg #[.int .u64 (bits BinOp.or .u64 (bits BinOp.or .u64 (bits BinOp.or .u64 (K : Int) 0) ((T : Int) * 512)) ((S : Int) * 65536)), .int .u64 (K : Int), .int .u64 (T : Int), .int .u64 (S : Int), .int .u64 0]) (by simp [results, Try.results80, go_sem]) rfl ⟨?_, ?_⟩
    · refine ⟨.int .u64 (K : Int), .int .u64 (T : Int), .int .u64 (S : Int), .int .u64 0, ?_⟩
      rw [bits_low (M := 0) h1 (by omega) h2 h3 (by simp)]
      rfl
    · exact (((Below.refl _ _).alloc (Nat.le_refl _) _).alloc (by simp) _).alloc (by simp; omega) _
  · refine bodyPost_ret (v := .agg #[.int .u64 (bits BinOp.or .u64 (bits BinOp.or .u64 (bits BinOp.or .u64 (K : Int) 256) ((T : Int) * 512)) ((S : Int) * 65536)), .int .u64 (K : Int), .int .u64 (T : Int), .int .u64 (S : Int), .int .u64 1]) (by simp [results, Try.results80, go_sem]) rfl ⟨?_, ?_⟩
    · refine ⟨.int .u64 (K : Int), .int .u64 (T : Int), .int .u64 (S : Int), .int .u64 1, ?_⟩
      rw [bits_low (M := 1) h1 (by omega) h2 h3 (by simp)]
      rfl
    · exact (((Below.refl _ _).alloc (Nat.le_refl _) _).alloc (by simp) _).alloc (by simp; omega) _

theorem or32 {x t : Nat} (hx : x < 4294967296) (ht : t < 4294967296) : bits BinOp.or .u64 (x : Int) ((t : Int) * 4294967296) = ((x + t * 4294967296 : Nat) : Int) := by
  have h := u64_or_nat x (t * 4294967296) (by omega) (by omega)
  rw [show t * 4294967296 = t * 2 ^ 32 from rfl, or_join (i := 32) (by omega)] at h
  rw [← h]
  simp
set_option maxRecDepth 100000 in
set_option maxHeartbeats 1600000 in
theorem sealed_c (x : Nat) (w : World) (hx : x < 4294967296) : Calls Try.prog 81 #[.int .u64 (x : Int)] w fun e w' => e = .returned (.tuple #[.int .u64 ((x + sum1 x % 4294967296 * 4294967296 : Nat) : Int), .int .i64 0]) ∧ Below w.heap.size w w' := by
  have hsb : sum1 x % 4294967296 < 4294967296 := Nat.mod_lt _ (by omega)
  have HOR := Lib.hid (or32 hx hsb)
  have HX := Lib.hid hx
  have hx0 : (0 : Int) ≤ (x : Int) := by omega
  have HE : Hid (sumFrom 14695981039346656037 [x] = sum1 x) := Lib.hid rfl
  clear hx
  go_enter Try.func81, Try.ntmps81
  go_wp2_with fail
  have hrd := rd_new1 w [.int .u64 (x : Int)] 38
  refine (sumLow32_c _ [x] _ 1 _ rfl (by omega) (by rw [World.size_alloc]; exact hrd) (by intro y hy; simp at hy; subst hy; have := HX.out; omega)).mono ?_
  rintro e w1 ⟨rfl, hB1⟩
  rw [World.size_alloc] at hB1
  have hb1 := below_call hB1
  rw [HE.out]
  obtain ⟨t, ht⟩ : ∃ t, sum1 x % 4294967296 = t := ⟨_, rfl⟩
  have HT := Lib.hid ht
  rw [ht] at hsb HOR ⊢
  clear ht hB1 hrd
  go_wp2_with fail
  go_ret2
  exact ⟨by rw [HT.out, ← HOR.out]; rfl, hb1⟩

/-- What Word gives: the header, or the error. -/
def hwVal (b : Bk) : Nat := if hdOk b = true then headW b else 0
set_option maxRecDepth 100000 in
set_option maxHeartbeats 1600000 in
theorem hdWord_c (b : Bk) (w : World) : Calls Try.prog 48 #[b.val] w fun e w' => e = .returned (.tuple #[.int .u64 (hwVal b : Nat), .int .i64 (hdErr b)]) ∧ Below w.heap.size w w' := by
  cases hb : hdOk b
  · have HV := Lib.hid (show hwVal b = 0 by simp [hwVal, hb])
    have HE := Lib.hid (hdErr_no hb)
    have HC := Lib.hid (fun W => hdCheck_c b W)
    clear hb
    obtain ⟨xa, xs, xk, xt, xm, xn⟩ := b
    unfold Bk.val at HC ⊢
    dsimp only at HC ⊢
    go_enter Try.func48, Try.ntmps48
    go_wp2_with fail
    refine (HC.out _).mono ?_
    rintro e w1 ⟨rfl, hB1⟩
    rw [World.size_alloc] at hB1
    rw [HE.out]
    go_wp2_with fail
    go_ret2
    exact ⟨by rw [HV.out, HE.out]; rfl, below_call hB1⟩
  · have HV := Lib.hid (show hwVal b = lowOf b + sum1 (lowOf b) % 4294967296 * 4294967296 by simp [hwVal, hb, headW])
    have HE := Lib.hid (hdErr_ok hb)
    have HC := Lib.hid (fun W => hdCheck_c b W)
    have HO := Lib.hid (fun W => hdOf_c b W hb)
    have HL := Lib.hid (lowOf_lt hb)
    clear hb
    obtain ⟨q, hq⟩ : ∃ q, lowOf b = q := ⟨_, rfl⟩
    have HQ := Lib.hid hq
    rw [hq] at HV HL
    clear hq
    obtain ⟨xa, xs, xk, xt, xm, xn⟩ := b
    unfold Bk.val at HC HO ⊢
    dsimp only at HC HO ⊢
    go_enter Try.func48, Try.ntmps48
    go_wp2_with fail
    refine (HC.out _).mono ?_
    rintro e w1 ⟨rfl, hB1⟩
    rw [World.size_alloc] at hB1
    have hb1 := below_call hB1
    have bx := Bx.of_new hB1
    obtain ⟨c0, c1, c2, c3, c4, c5, -, hz⟩ := bx.c6
    rw [HE.out]
    clear bx hB1
    go_wp2_with fail
    refine (HO.out _).mono ?_
    rintro e w2 ⟨⟨a1, a2, a3, a4, rfl⟩, hB2⟩
    have hb2 := hb1.trans (hB2.mono hb1.size)
    rw [HQ.out]
    have hfld : ∀ W, (Instr.field 112 (.agg #[.int .u64 (q : Int), a1, a2, a3, a4]) 0).run Try.prog W = .ok (.int .u64 (q : Int)) W := fun _ => by kernel_rfl
    go_wp2_with fail
    refine (sealed_c q _ HL.out).mono ?_
    rintro e w3 ⟨rfl, hB3⟩
    have hb3 := hb2.trans (hB3.mono hb2.size)
    rw [← HV.out]
    go_wp2_with fail
    go_ret2
    exact ⟨by rw [HE.out]; rfl, hb3⟩
end Go.Proofs.Ytpifagclhhaniaa
