/- Fields of a type that the program reads: they lie in memory that the call made. -/
import Derived.Test.YtpifagclhhaniaaKHeap
import Derived.Deep.RegionHeld3
import Derived.Deep.DrawnRows
namespace Go.Proofs.Ytpifagclhhaniaa
open Go.RowKit

def KrResF (H : Nat) (a b : Nat) (e : Ending) (w' : World) : Prop := ∃ A c, e = .returned (.tuple #[.slice A (krOut a b).length c, .int .i64 (krErr a b)]) ∧ w'.ownsRow H 5 1 (.slice A (krOut a b).length c) (krOut a b).length ((krOut a b).flatMap byteCells)
theorem krResF_no {H a b : Nat} {w' : World} (h : typOk a b = false) : KrResF H a b (.returned (.tuple #[.slice none 0 0, .int .i64 50])) w' := by
  have h1 : krOut a b = [] := by simp [krOut, h]
  have h2 : krErr a b = 50 := by simp [krErr, h]
  exact ⟨none, 0, by rw [h1, h2]; rfl, by rw [h1]; exact World.ownsRow_nil _ _ _ _⟩
theorem krResF_own {H : Nat} {a b : Nat} {v : Value} {w' : World} (h0 : typOk a b = true) (h : w'.ownsRow H 5 1 v (fldL a).length ((fldL a).flatMap byteCells)) : KrResF H a b (.returned (.tuple #[v, .int .i64 0])) w' := by
  have h1 : krOut a b = fldL a := by simp [krOut, h0]
  have h2 : krErr a b = 0 := by simp [krErr, h0]
  obtain ⟨A, c, rfl⟩ := own_slice h
  exact ⟨A, c, by rw [h1, h2], by rw [h1]; exact h⟩

set_option maxRecDepth 100000 in
set_option maxHeartbeats 2000000 in
theorem kReadF_c (a b : Nat) (w : World) (ha : a < 18446744073709551616) (hb : b < 18446744073709551616) :
    Calls Try.prog 58 #[.int .u64 (a : Int), .int .u64 (b : Int)] w fun e w' => KrResF w.heap.size a b e w' ∧ Below w.heap.size w w' := by
  have HT := Lib.hid (typOk_parts a b)
  have ha0 : (0 : Int) ≤ (a : Int) := by omega
  have e1 := (spl_and a ha).1
  have HFL := Lib.hid (fldL_len a)
  have HFG := Lib.hid (fun k h => fldL_get a k h)
  have HBT := Lib.hid (fun k => fld_bits a k ha)
  have hm : a % 256 < 256 := Nat.mod_lt _ (by omega)
  obtain ⟨m, hmm⟩ : ∃ m, a % 256 = m := ⟨_, rfl⟩
  rw [hmm] at e1 HFL HFG HT hm
  by_cases h8 : 8 < m
  · have HB := Lib.hid (show typOk a b = false by rw [HT.out, show decide (m ≤ 8) = false by rw [decide_eq_false_iff_not]; omega]; rfl)
    clear hmm ha hb
    go_enter Try.func58, Try.ntmps58
    go_wp2_with fail
    go_ret2
    exact ⟨krResF_no HB.out, Below.refl _ _⟩
  · have h8' : m ≤ 8 := by omega
    rw [show decide (m ≤ 8) = true by rw [decide_eq_true_iff]; exact h8'] at HT
    have hx0 : (0 : Int) ≤ (m : Int) := by omega
    have HA := Lib.hid ha
    have HB := Lib.hid hb
    have d8 : decide ((8 : Int) < (m : Int)) = false := by rw [decide_eq_false_iff_not]; omega
    clear hmm ha hb h8 hm
    obtain ⟨i0, hi, hz0, hz1, hz2⟩ := info_parts infoByte
    have HI := Lib.hid hi
    have HZ0 := Lib.hid hz0
    have HZ1 := Lib.hid hz1
    have HZ2 := Lib.hid hz2
    clear hi hz0 hz1 hz2
    go_enter Try.func58, Try.ntmps58
    go_wp2_with fail
    go_loopw [7, 16] (fun v i wr => ∃ k : Nat, k ≤ m ∧ i = .int .u64 k ∧ wr.ownsRow w.heap.size 5 1 v k (((fldL a).take k).flatMap byteCells) ∧ Below w.heap.size w wr) (fun _ i _ => m - (intOf i).toNat)
    case atStart => exact ⟨0, Nat.zero_le _, rfl, World.ownsRow_nil _ _ _ _, Below.refl _ _⟩
    case round =>
      obtain ⟨k, hk, rfl, hown, hB⟩ := hrel
      have hz := hB.size
      by_cases hlt : k < m
      · have hbt := HBT.out k
        have hg := HFG.out k hlt
        obtain ⟨x, hx⟩ : ∃ x, a / 4 ^ (k + 4) % 4 = x := ⟨_, rfl⟩
        have hx3 : x < 4 := by rw [← hx]; exact Nat.mod_lt _ (by omega)
        rw [hx] at hbt hg
        have HFL2 := Lib.hid (show ((fldL a).take (k + 1)).flatMap byteCells = ((fldL a).take k).flatMap byteCells ++ [.int .u8 (x : Int)] by
          have hl : k < (fldL a).length := by rw [HFL.out]; exact hlt
          rw [List.take_succ_eq_append_getElem hl, flat_snoc]
          rw [List.getElem?_eq_getElem hl] at hg
          rw [Option.some.inj hg]; rfl)
        have hxi : (x : Int) < 4 := by omega
        have hx00 : (0 : Int) ≤ (x : Int) := by omega
        have hki : (k : Int) < (m : Int) := by omega
        clear hx hg
        go_wp2_with (at_builtin; refine wpList_append_own _ rfl _ _ 90 rfl w.heap.size 5 i0 _ 1 1 Try.underlying90 HI.out HZ0.out HZ1.out HZ2.out rfl (by decide) _ _ _ rfl (hown.alloc _) ⟨_, 0, none⟩ 1 1 [.int .u8 (x : Int)] rfl rfl (news_new _ _ _) (by simp [Value.oneCell']) (by unfold maxLen; omega) (by omega) (le_alloc_ hB.size) ?_; intro v1 w1 hown1 hg1 _; have hB1 := below_append hB hB.size hown hg1)
        go_roundw
        case rel => exact ⟨k + 1, by omega, by go_num, by rw [HFL2.out]; exact hown1, hB1⟩
        case measure => simp [intOf]; omega
      · obtain rfl : k = m := by omega
        rw [List.take_of_length_le (by rw [HFL.out]; exact Nat.le_refl _)] at hown
        obtain ⟨A1, c1, rfl⟩ := own_slice hown
        have HC := Lib.hid (kWrite_c A1 (fldL a) c1 k wr HFL.out (by omega) (Rd.of_own hown))
        have hlen8 : (fldL a).length ≤ 8 := by rw [HFL.out]; exact h8'
        cases hkn : kndOk (fldL a)
        · have HKE := Lib.hid (kndErr_bad hlen8 hkn)
          have HN := Lib.hid (show typOk a b = false by rw [HT.out, hkn]; rfl)
          have HV := Lib.hid (show kwV (fldL a) = .agg #[.int .u64 0, .int .u64 0] by simp [kwV, HKE.out, twoV])
          rw [HKE.out, HV.out] at HC
          clear hkn hlen8 hown
          go_wp2_with fail
          refine HC.out.mono ?_
          rintro e w1 ⟨rfl, hB1⟩
          have hb1 := hB.trans (hB1.mono hz)
          go_wp2_with fail
          go_ret2
          exact ⟨krResF_no HN.out, hb1.alloc hb1.size _⟩
        · have HKE := Lib.hid (kndErr_ok hlen8 hkn)
          have HV := Lib.hid (show kwV (fldL a) = .agg #[.int .u64 (typW (fldL a) : Nat), .int .u64 (sum1 (typW (fldL a)) : Nat)] by simp [kwV, HKE.out, twoV])
          have HT2 := Lib.hid (show typOk a b = (typW (fldL a) == a && sum1 (typW (fldL a)) == b) by
            rw [HT.out, hkn]
            by_cases h : typW (fldL a) = a
            · rw [h]; simp
            · rw [show (typW (fldL a) == a) = false by rw [beq_eq_false_iff_ne]; exact h]; simp only [Bool.false_and, Bool.and_false])
          rw [HKE.out, HV.out] at HC
          obtain ⟨p, hp⟩ : ∃ p, typW (fldL a) = p := ⟨_, rfl⟩
          obtain ⟨q, hq⟩ : ∃ q, sum1 p = q := ⟨_, rfl⟩
          rw [hp, hq] at HC HT2
          clear hkn hlen8 hp hq
          by_cases hpa : p = a
          · by_cases hqb : q = b
            · have HY := Lib.hid (show typOk a b = true by rw [HT2.out, hpa, hqb]; simp)
              have hq1 := two_eq p q a b
              rw [show ((p : Int) == (a : Int)) = true by rw [beq_iff_eq]; omega, show ((q : Int) == (b : Int)) = true by rw [beq_iff_eq]; omega, Bool.and_self] at hq1
              clear hpa hqb
              go_wp2_with fail
              refine HC.out.mono ?_
              rintro e w1 ⟨rfl, hB1⟩
              have hb1 := hB.trans (hB1.mono hz)
              have hown1 := own_below hown hB1 (Nat.le_refl _)
              go_wp2_with fail
              go_ret2
              refine ⟨krResF_own HY.out (H := w.heap.size) ?_, hb1.alloc hb1.size _⟩
              rw [HFL.out]; exact hown1.alloc _
            · have HN := Lib.hid (show typOk a b = false by rw [HT2.out, show (q == b) = false by rw [beq_eq_false_iff_ne]; exact hqb, Bool.and_false])
              have hq1 := two_eq p q a b
              rw [show ((q : Int) == (b : Int)) = false by rw [beq_eq_false_iff_ne]; omega, Bool.and_false] at hq1
              clear hpa hqb hown
              go_wp2_with fail
              refine HC.out.mono ?_
              rintro e w1 ⟨rfl, hB1⟩
              have hb1 := hB.trans (hB1.mono hz)
              go_wp2_with fail
              go_ret2
              exact ⟨krResF_no HN.out, hb1.alloc hb1.size _⟩
          · have HN := Lib.hid (show typOk a b = false by rw [HT2.out, show (p == a) = false by rw [beq_eq_false_iff_ne]; exact hpa, Bool.false_and])
            have hq1 := two_eq p q a b
            rw [show ((p : Int) == (a : Int)) = false by rw [beq_eq_false_iff_ne]; omega, Bool.false_and] at hq1
            clear hpa hown
            go_wp2_with fail
            refine HC.out.mono ?_
            rintro e w1 ⟨rfl, hB1⟩
            have hb1 := hB.trans (hB1.mono hz)
            go_wp2_with fail
            go_ret2
            exact ⟨krResF_no HN.out, hb1.alloc hb1.size _⟩

def FlResF (H : Nat) (a b : Nat) (e : Ending) (w' : World) : Prop := ∃ A c, e = .returned (.tuple #[.slice A (krOut a b).length c, .bool (typOk a b)]) ∧ w'.ownsRow H 5 1 (.slice A (krOut a b).length c) (krOut a b).length ((krOut a b).flatMap byteCells)
set_option maxRecDepth 100000 in
set_option maxHeartbeats 2000000 in
theorem mFieldsF_c (A : Option Addr) (ws : List Nat) (c n t : Nat) (w : World) (hn : ws.length = n) (hm : n ≤ 1000000) (h2 : 256 ≤ n) (ht : t < 8) (hr : RdW w w.heap.size A ws) (ho : ∀ x ∈ ws, x < 18446744073709551616) :
    Calls Try.prog 85 #[.slice A n c, .int .i64 (t : Int)] w fun e w' => FlResF w.heap.size (wd ws (96 + 2 * t)) (wd ws (96 + 2 * t + 1)) e w' ∧ Below w.heap.size w w' := by
  subst hn
  have hx := wd_lt ho (96 + 2 * t)
  have hy := wd_lt ho (96 + 2 * t + 1)
  have HC := Lib.hid (fun W => kReadF_c (wd ws (96 + 2 * t)) (wd ws (96 + 2 * t + 1)) W hx hy)
  have HK := Lib.hid (krErr_eq (wd ws (96 + 2 * t)) (wd ws (96 + 2 * t + 1)))
  obtain ⟨b, off, rfl, hb, h0⟩ := RdW.at_ hr (show 96 + 2 * t < ws.length by omega)
  obtain ⟨b', off', e', -, h1⟩ := RdW.at_ hr (show 96 + 2 * t + 1 < ws.length by omega)
  cases e'
  rw [← wd_get] at h0 h1
  obtain ⟨x, hx2⟩ : ∃ x, wd ws (96 + 2 * t) = x := ⟨_, rfl⟩
  obtain ⟨y, hy2⟩ : ∃ y, wd ws (96 + 2 * t + 1) = y := ⟨_, rfl⟩
  rw [hx2] at h0 HC HK ⊢
  rw [hy2] at h1 HC HK ⊢
  have t0 : (0 : Int) ≤ (t : Int) := by omega
  have t8 : (t : Int) < 8 := by omega
  have w1 : IntKind.i64.wrap (2 * (t : Int)) = 2 * (t : Int) := IntWalk.i64_in _ (by omega)
  have w2 : IntKind.i64.wrap (96 + 2 * (t : Int)) = 96 + 2 * (t : Int) := IntWalk.i64_in _ (by omega)
  have w3 : IntKind.i64.wrap (96 + 2 * (t : Int) + 1) = 96 + 2 * (t : Int) + 1 := IntWalk.i64_in _ (by omega)
  have i1 : (0 : Int) ≤ 96 + 2 * (t : Int) := by omega
  have i2 : (96 : Int) + 2 * (t : Int) < (ws.length : Int) := by omega
  have i3 : (0 : Int) ≤ 96 + 2 * (t : Int) + 1 := by omega
  have i4 : (96 : Int) + 2 * (t : Int) + 1 < (ws.length : Int) := by omega
  have n1 : ((96 : Int) + 2 * (t : Int)).toNat = 96 + 2 * t := by omega
  have n2 : ((96 : Int) + 2 * (t : Int) + 1).toNat = 96 + 2 * t + 1 := by omega
  clear hr hx hy hx2 hy2 ho ht
  go_enter Try.func85, Try.ntmps85
  go_wp2_with fail
  go_region_held3 (fun X : World => X.cell? ⟨b, off + (96 + 2 * t), none⟩ = some (.int .u64 (x : Int)) ∧ X.cell? ⟨b, off + (96 + 2 * t + 1), none⟩ = some (.int .u64 (y : Int))) (go_keep)
    (first | (go_at_call 58; refine (HC.out _).mono ?_; rintro e w5 ⟨⟨A1, c1, rfl, hrd⟩, hB5⟩; have m0 := (hB5.cell (p := ⟨b, off + (96 + 2 * t), none⟩) hb).trans h0; have m1 := (hB5.cell (p := ⟨b, off + (96 + 2 * t + 1), none⟩) hb).trans h1; have HRD := Lib.hid hrd; clear hrd))
  go_wp2_with fail
  go_ret2
  exact ⟨⟨A1, c1, by rw [HK.out]; rfl, HRD.out⟩, (Below.refl _ _).drew.trans hB5⟩
end Go.Proofs.Ytpifagclhhaniaa
