/- The reference's types, read: what it returns for right types. -/
import Derived.Test.YtoaepffpjoibaaaGreatKImage
import Derived.Test.YtoaepffpjoibaaaGreatKHeap
namespace Go.Proofs.YtoaepffpjoibaaaGreat
open Go.RowKit

theorem told_rest {a b : Nat} (h : typOk a b = true) : a % 256 ≤ 8 ∧ kndOk (fldL a) = true ∧ sum1 a = b ∧ a / 256 / 4 ^ (a % 256) = 0 := by
  have h1 := h
  rw [typOk_parts] at h1
  simp only [Bool.and_eq_true, decide_eq_true_eq, beq_iff_eq] at h1
  obtain ⟨⟨h2, h3⟩, h4, h5⟩ := h1
  refine ⟨h2, h3, h5, ?_⟩
  have h6 := fldW_lt (fldL a) 4 (fun k hk => ((kndOk_iff _).1 h3 k hk).2)
  rw [fldL_len] at h6
  have h7 : a = (a % 256) + fldW (fldL a) 4 := by
    have : typW (fldL a) = (fldL a).length + fldW (fldL a) 4 := rfl
    rw [fldL_len] at this
    omega
  have h8 : (4 : Nat) ^ (4 + a % 256) = 256 * 4 ^ (a % 256) := by rw [Nat.pow_add]
  have h9 : a < 256 * 4 ^ (a % 256) := by omega
  rw [Nat.div_div_eq_div_mul]
  exact Nat.div_eq_of_lt h9
theorem told_step (a k : Nat) : a / 256 / 4 ^ k % 4 = a / 4 ^ (k + 4) % 4 ∧ a / 256 / 4 ^ k / 4 = a / 256 / 4 ^ (k + 1) := by
  refine ⟨?_, ?_⟩
  · rw [Nat.div_div_eq_div_mul, show (4 : Nat) ^ (k + 4) = 256 * 4 ^ k by rw [Nat.pow_add, Nat.mul_comm]]
  · rw [Nat.div_div_eq_div_mul (a / 256), Nat.pow_succ]

set_option maxRecDepth 100000 in
set_option maxHeartbeats 2000000 in
theorem r13Told_c (a b : Nat) (w : World) (ha : a < 18446744073709551616) (h : typOk a b = true) :
    Calls Tryz.prog 112 #[.int .u64 (a : Int)] w fun e w' => (∃ A c, e = .returned (.tuple #[.slice A (fldL a).length c, .bool true]) ∧ RdY w' w'.heap.size A (fldL a)) ∧ Below w.heap.size w w' := by
  obtain ⟨h1, h2, -, h4⟩ := told_rest h
  have HFL := Lib.hid (fldL_len a)
  have HFG := Lib.hid (fun k h => fldL_get a k h)
  have HST := Lib.hid (fun k => told_step a k)
  have HK := Lib.hid h2
  have HR0 := Lib.hid h4
  obtain ⟨m, hmm⟩ : ∃ m, a % 256 = m := ⟨_, rfl⟩
  rw [hmm] at HFL HFG HR0 h1
  have hmi : (a : Int) % 256 = (m : Int) := by omega
  have HMI := Lib.hid hmi
  have w1' : IntKind.u64.wrap ((a : Int) / 256) = (a : Int) / 256 := IntWalk.u64_in _ (by omega)
  have ha0 : (0 : Int) ≤ (a : Int) := by omega
  have d8 : decide ((a : Int) % 256 ≤ 8) = true := by rw [decide_eq_true_iff]; omega
  have HA := Lib.hid ha
  clear hmm h h2 h4 ha hmi
  obtain ⟨i0, hi, hz0, hz1, hz2⟩ := info_parts infoByte
  have HI := Lib.hid hi
  have HZ0 := Lib.hid hz0
  have HZ1 := Lib.hid hz1
  have HZ2 := Lib.hid hz2
  clear hi hz0 hz1 hz2
  go_enter Tryz.func112, Tryz.ntmps112
  go_wp2_with fail
  go_loopw [5, 6, 7] (fun v r i wr => ∃ k : Nat, k ≤ m ∧ i = .int .u64 k ∧ r = .int .u64 ((a / 256 / 4 ^ k : Nat) : Int) ∧ wr.ownsRow w.heap.size 5 1 v k (((fldL a).take k).flatMap byteCells) ∧ Below w.heap.size w wr) (fun _ _ i _ => m - (intOf i).toNat)
  case atStart => exact ⟨0, Nat.zero_le _, rfl, by simp, World.ownsRow_nil _ _ _ _, Below.refl _ _⟩
  case round =>
    obtain ⟨k, hk, rfl, rfl, hown, hB⟩ := hrel
    have hz := hB.size
    by_cases hlt : k < m
    · obtain ⟨t1, t2⟩ := HST.out k
      have hg := HFG.out k hlt
      rw [← t1] at hg
      have hrl : a / 256 / 4 ^ k < 18446744073709551616 := Nat.lt_of_le_of_lt (Nat.div_le_self _ _) (Nat.lt_of_le_of_lt (Nat.div_le_self _ _) HA.out)
      obtain ⟨r, hr⟩ : ∃ r, a / 256 / 4 ^ k = r := ⟨_, rfl⟩
      rw [hr] at t1 t2 hg hrl
      simp only [hr]
      have HR2 := Lib.hid (show (((a / 256 / 4 ^ (k + 1) : Nat)) : Int) = (r : Int) / 4 by rw [← t2]; omega)
      have HFL2 := Lib.hid (show ((fldL a).take (k + 1)).flatMap byteCells = ((fldL a).take k).flatMap byteCells ++ [.int .u8 ((r : Int) % 4)] by
        have hl : k < (fldL a).length := by rw [HFL.out]; exact hlt
        rw [List.take_succ_eq_append_getElem hl, flat_snoc]
        rw [List.getElem?_eq_getElem hl] at hg
        rw [Option.some.inj hg]; rfl)
      have w2' : IntKind.u64.wrap ((r : Int) / 4) = (r : Int) / 4 := IntWalk.u64_in _ (by omega)
      have hr00 : (0 : Int) ≤ (r : Int) := by omega
      have hki : (k : Int) < (a : Int) % 256 := by rw [HMI.out]; omega
      have hk8 : (k : Int) < 8 := by omega
      have hw8 : IntKind.u8.wrap ((r : Int) % 4) = (r : Int) % 4 := IntWalk.u8_in _ (by omega)
      clear hg hr t1 t2 hrl
      go_wp2_with (at_builtin; refine wpList_append_own _ rfl _ _ 82 rfl w.heap.size 5 i0 _ 1 1 Tryz.underlying82 HI.out HZ0.out HZ1.out HZ2.out rfl (by decide) _ _ _ rfl (hown.alloc _) ⟨_, 0, none⟩ 1 1 [.int .u8 ((r : Int) % 4)] rfl rfl (news_new _ _ _) (by simp [Value.oneCell']) (by unfold maxLen; omega) (by omega) (le_alloc_ hB.size) ?_; intro v1 w1 hown1 hg1 _; have hB1 := below_append hB hB.size hown hg1)
      go_roundw
      case rel => exact ⟨k + 1, by omega, by go_num, by rw [HR2.out], by rw [HFL2.out]; exact hown1, hB1⟩
      case measure => simp [intOf]; omega
    · obtain rfl : k = m := by omega
      rw [HR0.out]
      rw [List.take_of_length_le (by rw [HFL.out]; exact Nat.le_refl _)] at hown
      obtain ⟨A1, c1, rfl⟩ := own_slice hown
      have HC := Lib.hid (r13Check_c A1 (fldL a) c1 k wr.heap.size wr HFL.out h1 HK.out (Rd.of_own hown))
      have HRD := Lib.hid (Rd.of_own hown)
      have hkn : decide ((k : Int) < (a : Int) % 256) = false := by rw [decide_eq_false_iff_not, HMI.out]; omega
      clear hown
      go_wp2_with fail
      refine HC.out.mono ?_
      rintro e w1 ⟨rfl, rfl⟩
      go_wp2_with fail
      go_ret2
      exact ⟨⟨A1, c1, by rw [HFL.out]; rfl, HRD.out⟩, hB⟩

set_option maxRecDepth 100000 in
set_option maxHeartbeats 2000000 in
theorem r13Read_c (a b : Nat) (w : World) (ha : a < 18446744073709551616) (h : typOk a b = true) :
    Calls Tryz.prog 101 #[.int .u64 (a : Int), .int .u64 (b : Int)] w fun e w' => (∃ A c, e = .returned (.tuple #[.slice A (fldL a).length c, .int .i64 0]) ∧ RdY w' w'.heap.size A (fldL a)) ∧ Below w.heap.size w w' := by
  have HC := Lib.hid (r13Told_c a b w ha h)
  have HS := Lib.hid (fun A W (hr : RdW W W.heap.size A [a]) => refSum_c A [a] 1 1 W rfl (by omega) hr (fun x hx => by rw [List.mem_singleton] at hx; rw [hx]; exact ha))
  have h3 := (told_rest h).2.2.1
  rw [show sumFrom 14695981039346656037 [a] = b from h3] at HS
  obtain ⟨l, hl⟩ : ∃ l, fldL a = l := ⟨_, rfl⟩
  rw [hl] at HC ⊢
  have hne : ((b : Int) != (b : Int)) = false := by simp
  clear h h3 hl ha
  go_enter Tryz.func101, Tryz.ntmps101
  go_wp2_with fail
  refine HC.out.mono ?_
  rintro e w1 ⟨⟨A1, c1, rfl, hrd⟩, hB1⟩
  have hz1 := hB1.size
  have HRD := Lib.hid hrd
  have HB1 := Lib.hid hB1
  clear hrd hB1
  go_wp2_with fail
  have xb := Bx.new w1 46 #[.int .u64 (a : Int)]
  refine (HS.out _ _ (show Rd _ _ _ _ from Rd.of_bx xb xb.lt)).mono ?_
  rintro e w2 ⟨rfl, hB2⟩
  have HB2 := Lib.hid ((HB1.out.alloc hz1 (.cells #[.int .u64 (a : Int)] 46)).trans (hB2.mono (by simp; omega)))
  have HRD2 := Lib.hid ((HRD.out.alloc (Nat.le_refl _) (.cells #[.int .u64 (a : Int)] 46)).up (B' := w2.heap.size) (hB2.mono (by simp)) (by have := hB2.size; simp at this; omega))
  clear xb hB2
  go_wp2_with fail
  go_ret2
  exact ⟨⟨A1, c1, rfl, HRD2.out⟩, HB2.out⟩

end Go.Proofs.YtoaepffpjoibaaaGreat
