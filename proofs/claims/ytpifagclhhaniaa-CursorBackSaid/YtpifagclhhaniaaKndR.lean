/- Types: the fields of a type, as the program reads them. -/
import Derived.Test.YtpifagclhhaniaaKndW
import Derived.Test.YtpifagclhhaniaaFrom
namespace Go.Proofs.Ytpifagclhhaniaa
open Go.RowKit

def krOut (a b : Nat) : List Nat := if typOk a b = true then fldL a else []
def krErr (a b : Nat) : Int := if typOk a b = true then 0 else 50
def KrRes (a b : Nat) (e : Ending) (w' : World) : Prop := ∃ A c, e = .returned (.tuple #[.slice A (krOut a b).length c, .int .i64 (krErr a b)]) ∧ RdY w' w'.heap.size A (krOut a b) ∧ (krOut a b).length ≤ c
theorem krRes_no {a b : Nat} {w' : World} (h : typOk a b = false) : KrRes a b (.returned (.tuple #[.slice none 0 0, .int .i64 50])) w' := by
  have h1 : krOut a b = [] := by simp [krOut, h]
  have h2 : krErr a b = 50 := by simp [krErr, h]
  exact ⟨none, 0, by rw [h1, h2]; rfl, by rw [h1]; exact Rd.nil_, by rw [h1]; simp⟩
theorem krRes_own {H : Nat} {a b : Nat} {v : Value} {w' : World} (h0 : typOk a b = true) (h : w'.ownsRow H 5 1 v (fldL a).length ((fldL a).flatMap byteCells)) : KrRes a b (.returned (.tuple #[v, .int .i64 0])) w' := by
  have h1 : krOut a b = fldL a := by simp [krOut, h0]
  have h2 : krErr a b = 0 := by simp [krErr, h0]
  have hc : ∃ A c, v = .slice A (fldL a).length c ∧ (fldL a).length ≤ c := by
    rcases h.2 with ⟨rfl, hnil⟩ | ⟨g, cap, cur, rfl, _, _, hle, _⟩
    · exact ⟨none, 0, by rw [hnil], by omega⟩
    · exact ⟨_, _, rfl, hle⟩
  obtain ⟨A, c, rfl, hle⟩ := hc
  exact ⟨A, c, by rw [h1, h2], by rw [h1]; exact Rd.of_own h, by rw [h1]; exact hle⟩
theorem typOk_parts (a b : Nat) : typOk a b = ((decide (a % 256 ≤ 8) && kndOk (fldL a)) && (typW (fldL a) == a && sum1 a == b)) := rfl
theorem fld_bits (a k : Nat) (ha : a < 18446744073709551616) : bits BinOp.and .u64 ((a : Int) / 2 ^ (8 + 2 * k)) 3 = ((a / 4 ^ (k + 4) % 4 : Nat) : Int) := by
  have e1 : (2 : Nat) ^ (8 + 2 * k) = 4 ^ (k + 4) := by rw [show 8 + 2 * k = 2 * (k + 4) by omega, Nat.pow_mul]
  have e2 : (a : Int) / 2 ^ (8 + 2 * k) = ((a / 4 ^ (k + 4) : Nat) : Int) := by rw [← e1]; simp
  have h : a / 4 ^ (k + 4) < 18446744073709551616 := Nat.lt_of_le_of_lt (Nat.div_le_self _ _) ha
  rw [e2]
  exact and_m (k := 2) (m := 3) h (by decide) (by omega)

theorem two_eq (p q a b : Int) (W : World) : (Op.equalIn 10000 118 (.agg #[.int .u64 p, .int .u64 q]) (.agg #[.int .u64 a, .int .u64 b])).run Try.prog W = .ok (p == a && q == b) W := by
  have hu := Try.underlying118
  have hw := Try.underlying38
  have hs : (Op.equalIn 10000 118 (.agg #[.int .u64 p, .int .u64 q]) (.agg #[.int .u64 a, .int .u64 b])) = (Op.equalIn (9999 + 1) 118 (.agg #[.int .u64 p, .int .u64 q]) (.agg #[.int .u64 a, .int .u64 b])) := rfl
  have hr : List.range' 0 2 = [0, 1] := rfl
  have e1 := fun (x y : Int) => run_equalIn_int W 9998 38 .u64 .u64 x y hw
  rw [hs]
  unfold Op.equalIn
  simp [go_sem, run_underlying hu, Sem.run_bind, hr, List.forIn_cons]
  by_cases h1 : p = a <;> by_cases h2 : q = b <;> simp [h1, h2, go_sem]

set_option maxRecDepth 100000 in
set_option maxHeartbeats 2000000 in
theorem kRead_c (a b : Nat) (w : World) (ha : a < 18446744073709551616) (hb : b < 18446744073709551616) :
    Calls Try.prog 58 #[.int .u64 (a : Int), .int .u64 (b : Int)] w fun e w' => KrRes a b e w' ∧ Below w.heap.size w w' := by
  have HT := Lib.hid (typOk_parts a b)
  have ha0 : (0 : Int) ≤ (a : Int) := by omega
  have e1 := (spl_and a ha).1
  have HFL := Lib.hid (fldL_len a)
  have HFG := Lib.hid (fun k h => fldL_get a k h)
  have HBT := Lib.hid (fun k => fld_bits a k ha)
  have hm : a % 256 < 256 := Nat.mod_lt _ (by omega)
  obtain ⟨m, hmm⟩ : ∃ m, a % 256 = m := ⟨_, rfl⟩
  rw [hmm] at e1 HFL HFG HT hm
  by_cases h8 : 8 < m
  · have HB := Lib.hid (show typOk a b = false by rw [HT.out, show decide (m ≤ 8) = false by rw [decide_eq_false_iff_not]; omega]; rfl)
    clear hmm ha hb
    go_enter Try.func58, Try.ntmps58
    go_wp2_with fail
    go_ret2
    exact ⟨krRes_no HB.out, Below.refl _ _⟩
  · have h8' : m ≤ 8 := by omega
    rw [show decide (m ≤ 8) = true by rw [decide_eq_true_iff]; exact h8'] at HT
    have hx0 : (0 : Int) ≤ (m : Int) := by omega
    have HA := Lib.hid ha
    have HB := Lib.hid hb
    have d8 : decide ((8 : Int) < (m : Int)) = false := by rw [decide_eq_false_iff_not]; omega
    clear hmm ha hb h8 hm
    obtain ⟨i0, hi, hz0, hz1, hz2⟩ := info_parts infoByte
    have HI := Lib.hid hi
    have HZ0 := Lib.hid hz0
    have HZ1 := Lib.hid hz1
    have HZ2 := Lib.hid hz2
    clear hi hz0 hz1 hz2
    go_enter Try.func58, Try.ntmps58
    go_wp2_with fail
    go_loopw [7, 16] (fun v i wr => ∃ k : Nat, k ≤ m ∧ i = .int .u64 k ∧ wr.ownsRow w.heap.size 5 1 v k (((fldL a).take k).flatMap byteCells) ∧ Below w.heap.size w wr) (fun _ i _ => m - (intOf i).toNat)
    case atStart => exact ⟨0, Nat.zero_le _, rfl, World.ownsRow_nil _ _ _ _, Below.refl _ _⟩
    case round =>
      obtain ⟨k, hk, rfl, hown, hB⟩ := hrel
      have hz := hB.size
      by_cases hlt : k < m
      · have hbt := HBT.out k
        have hg := HFG.out k hlt
        obtain ⟨x, hx⟩ : ∃ x, a / 4 ^ (k + 4) % 4 = x := ⟨_, rfl⟩
        have hx3 : x < 4 := by rw [← hx]; exact Nat.mod_lt _ (by omega)
        rw [hx] at hbt hg
        have HFL2 := Lib.hid (show ((fldL a).take (k + 1)).flatMap byteCells = ((fldL a).take k).flatMap byteCells ++ [.int .u8 (x : Int)] by
          have hl : k < (fldL a).length := by rw [HFL.out]; exact hlt
          rw [List.take_succ_eq_append_getElem hl, flat_snoc]
          rw [List.getElem?_eq_getElem hl] at hg
          rw [Option.some.inj hg]; rfl)
        have hxi : (x : Int) < 4 := by omega
        have hx00 : (0 : Int) ≤ (x : Int) := by omega
        have hki : (k : Int) < (m : Int) := by omega
        clear hx hg
        go_wp2_with (at_builtin; refine wpList_append_own _ rfl _ _ 90 rfl w.heap.size 5 i0 _ 1 1 Try.underlying90 HI.out HZ0.out HZ1.out HZ2.out rfl (by decide) _ _ _ rfl (hown.alloc _) ⟨_, 0, none⟩ 1 1 [.int .u8 (x : Int)] rfl rfl (news_new _ _ _) (by simp [Value.oneCell']) (by unfold maxLen; omega) (by omega) (le_alloc_ hB.size) ?_; intro v1 w1 hown1 hg1 _; have hB1 := below_append hB hB.size hown hg1)
        go_roundw
        case rel => exact ⟨k + 1, by omega, by go_num, by rw [HFL2.out]; exact hown1, hB1⟩
        case measure => simp [intOf]; omega
      · obtain rfl : k = m := by omega
        rw [List.take_of_length_le (by rw [HFL.out]; exact Nat.le_refl _)] at hown
        obtain ⟨A1, c1, rfl⟩ := own_slice hown
        have HC := Lib.hid (kWrite_c A1 (fldL a) c1 k wr HFL.out (by omega) (Rd.of_own hown))
        have hlen8 : (fldL a).length ≤ 8 := by rw [HFL.out]; exact h8'
        cases hkn : kndOk (fldL a)
        · have HKE := Lib.hid (kndErr_bad hlen8 hkn)
          have HN := Lib.hid (show typOk a b = false by rw [HT.out, hkn]; rfl)
          have HV := Lib.hid (show kwV (fldL a) = .agg #[.int .u64 0, .int .u64 0] by simp [kwV, HKE.out, twoV])
          rw [HKE.out, HV.out] at HC
          clear hkn hlen8 hown
          go_wp2_with fail
          refine HC.out.mono ?_
          rintro e w1 ⟨rfl, hB1⟩
          have hb1 := hB.trans (hB1.mono hz)
          go_wp2_with fail
          go_ret2
          exact ⟨krRes_no HN.out, hb1.alloc hb1.size _⟩
        · have HKE := Lib.hid (kndErr_ok hlen8 hkn)
          have HV := Lib.hid (show kwV (fldL a) = .agg #[.int .u64 (typW (fldL a) : Nat), .int .u64 (sum1 (typW (fldL a)) : Nat)] by simp [kwV, HKE.out, twoV])
          have HT2 := Lib.hid (show typOk a b = (typW (fldL a) == a && sum1 (typW (fldL a)) == b) by
            rw [HT.out, hkn]
            by_cases h : typW (fldL a) = a
            · rw [h]; simp
            · rw [show (typW (fldL a) == a) = false by rw [beq_eq_false_iff_ne]; exact h]; simp only [Bool.false_and, Bool.and_false])
          rw [HKE.out, HV.out] at HC
          obtain ⟨p, hp⟩ : ∃ p, typW (fldL a) = p := ⟨_, rfl⟩
          obtain ⟨q, hq⟩ : ∃ q, sum1 p = q := ⟨_, rfl⟩
          rw [hp, hq] at HC HT2
          clear hkn hlen8 hp hq
          by_cases hpa : p = a
          · by_cases hqb : q = b
            · have HY := Lib.hid (show typOk a b = true by rw [HT2.out, hpa, hqb]; simp)
              have hq1 := two_eq p q a b
              rw [show ((p : Int) == (a : Int)) = true by rw [beq_iff_eq]; omega, show ((q : Int) == (b : Int)) = true by rw [beq_iff_eq]; omega, Bool.and_self] at hq1
              clear hpa hqb
              go_wp2_with fail
              refine HC.out.mono ?_
              rintro e w1 ⟨rfl, hB1⟩
              have hb1 := hB.trans (hB1.mono hz)
              have hown1 := own_below hown hB1 (Nat.le_refl _)
              go_wp2_with fail
              go_ret2
              refine ⟨krRes_own HY.out (H := w.heap.size) ?_, hb1.alloc hb1.size _⟩
              rw [HFL.out]; exact hown1.alloc _
            · have HN := Lib.hid (show typOk a b = false by rw [HT2.out, show (q == b) = false by rw [beq_eq_false_iff_ne]; exact hqb, Bool.and_false])
              have hq1 := two_eq p q a b
              rw [show ((q : Int) == (b : Int)) = false by rw [beq_eq_false_iff_ne]; omega, Bool.and_false] at hq1
              clear hpa hqb hown
              go_wp2_with fail
              refine HC.out.mono ?_
              rintro e w1 ⟨rfl, hB1⟩
              have hb1 := hB.trans (hB1.mono hz)
              go_wp2_with fail
              go_ret2
              exact ⟨krRes_no HN.out, hb1.alloc hb1.size _⟩
          · have HN := Lib.hid (show typOk a b = false by rw [HT2.out, show (p == a) = false by rw [beq_eq_false_iff_ne]; exact hpa, Bool.false_and])
            have hq1 := two_eq p q a b
            rw [show ((p : Int) == (a : Int)) = false by rw [beq_eq_false_iff_ne]; omega, Bool.false_and] at hq1
            clear hpa hown
            go_wp2_with fail
            refine HC.out.mono ?_
            rintro e w1 ⟨rfl, hB1⟩
            have hb1 := hB.trans (hB1.mono hz)
            go_wp2_with fail
            go_ret2
            exact ⟨krRes_no HN.out, hb1.alloc hb1.size _⟩
end Go.Proofs.Ytpifagclhhaniaa
