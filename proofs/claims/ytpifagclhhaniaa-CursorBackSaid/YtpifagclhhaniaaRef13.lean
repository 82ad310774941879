/- Types: what the reference writes, for fields that are right. -/
import Derived.Test.YtpifagclhhaniaaKndW
import Derived.Test.YtpifagclhhaniaaRef05
import Derived.Test.YtpifagclhhaniaaAgg
namespace Go.Proofs.Ytpifagclhhaniaa
open Go.RowKit

def fN : List Nat → Nat
  | [] => 0
  | k :: l => fN l * 4 + k
theorem fldW_fN (l : List Nat) : ∀ j, fldW l j = 4 ^ j * fN l := by
  induction l with
  | nil => intro j; rfl
  | cons k l ih => intro j; simp only [fldW, fN, ih]; rw [Nat.pow_succ, Nat.mul_add, Nat.mul_comm k, Nat.mul_comm (fN l) 4, Nat.mul_assoc]; omega
theorem fN_typW (l : List Nat) : fN l * 256 + l.length = typW l := by
  unfold typW
  rw [fldW_fN, show (4 : Nat) ^ 4 = 256 by decide]; omega
theorem fN_lt {l : List Nat} (h : kndOk l = true) : fN l < 4 ^ l.length := by
  induction l with
  | nil => simp [fN]
  | cons k l ih =>
    rw [kndOk_iff] at h
    have h1 := ih ((kndOk_iff l).2 fun x hx => h x (by simp [hx]))
    have h2 := h k (by simp)
    simp only [fN, List.length_cons, Nat.pow_succ]; omega
theorem fN_drop {l : List Nat} {k : Nat} (hk : k < l.length) : fN (l.drop k) = fN (l.drop (k + 1)) * 4 + l[k] := by rw [List.drop_eq_getElem_cons hk]; rfl
theorem fN_drop_lt {l : List Nat} (h8 : l.length ≤ 8) (h : kndOk l = true) (k : Nat) : fN (l.drop k) < 65536 := by
  have h1 : kndOk (l.drop k) = true := (kndOk_iff _).2 fun x hx => (kndOk_iff l).1 h x (List.mem_of_mem_drop hx)
  have h2 := fN_lt h1
  have h3 : 4 ^ (l.drop k).length ≤ 4 ^ 8 := Nat.pow_le_pow_right (by omega) (by rw [List.length_drop]; omega)
  have h4 : (4 : Nat) ^ 8 = 65536 := by decide
  omega

set_option maxRecDepth 100000 in
set_option maxHeartbeats 1000000 in
theorem r13First_c (A : Option Addr) (l : List Nat) (c n B : Nat) (w : World) (hn : l.length = n) (h8 : n ≤ 8) (hk : kndOk l = true) (hr : RdY w B A l) :
    Calls Try.prog 103 #[.slice A n c] w fun e w' => e = .returned (.int .u64 (typW l : Nat)) ∧ w = w' := by
  subst hn
  have HR := Lib.hid hr
  have HT := Lib.hid (fN_typW l)
  have HK := Lib.hid hk
  clear hr hk
  go_enter Try.func103, Try.ntmps103
  go_wp2_with fail
  go_loop [3, 4] (fun s i => ∃ k : Nat, k ≤ l.length ∧ i = .int .i64 ((k : Int) - 1) ∧ s = .int .u64 (fN (l.drop k) : Nat)) (fun _ i => (intOf i + 1).toNat)
  case atStart => exact ⟨l.length, Nat.le_refl _, rfl, by rw [List.drop_length]; rfl⟩
  case round =>
    obtain ⟨k, hk, rfl, rfl⟩ := hrel
    cases k with
    | zero =>
      have hlt := fN_drop_lt h8 HK.out 0
      rw [List.drop_zero] at hlt ⊢
      obtain ⟨q, hq⟩ : ∃ q, fN l = q := ⟨_, rfl⟩
      rw [hq] at hlt HT ⊢
      have hq0 : (0 : Int) ≤ (q : Int) := by omega
      have hq1 : (q : Int) < 65536 := by omega
      clear hq
      go_wp2_with fail
      go_ret
      exact ⟨by rw [← HT.out]; try simp, rfl⟩
    | succ k =>
      rw [show (((k + 1 : Nat) : Int) - 1) = (k : Int) by omega]
      have hlt : k < l.length := by omega
      obtain ⟨b, off, rfl, hb, h0⟩ := HR.out.at_ hlt
      have hq := fN_drop_lt h8 HK.out (k + 1)
      have HS := Lib.hid (fN_drop hlt)
      have hx3 := ((kndOk_iff l).1 HK.out l[k] (List.getElem_mem hlt)).2
      obtain ⟨x, hx⟩ : ∃ x, l[k] = x := ⟨_, rfl⟩
      obtain ⟨q, hq2⟩ : ∃ q, fN (l.drop (k + 1)) = q := ⟨_, rfl⟩
      rw [hx] at h0 HS hx3
      rw [hq2] at hq HS ⊢
      have hq0 : (0 : Int) ≤ (q : Int) := by omega
      have hq1 : (q : Int) < 65536 := by omega
      have hx0 : (0 : Int) ≤ (x : Int) := by omega
      have hx1 : (x : Int) ≤ 3 := by omega
      have hk0 : (0 : Int) ≤ (k : Int) := by omega
      have hkl : (k : Int) < (l.length : Int) := by omega
      clear hx hq2
      go_wp2_with fail
      go_round
      case rel => exact ⟨k, by omega, rfl, by rw [HS.out]; simp⟩
      case measure => simp [intOf] <;> omega

set_option maxRecDepth 100000 in
set_option maxHeartbeats 1000000 in
theorem r13Check_c (A : Option Addr) (l : List Nat) (c n B : Nat) (w : World) (hn : l.length = n) (h8 : n ≤ 8) (hk : kndOk l = true) (hr : RdY w B A l) :
    Calls Try.prog 102 #[.slice A n c] w fun e w' => e = .returned (.int .i64 0) ∧ w = w' := by
  subst hn
  have HR := Lib.hid hr
  have HK := Lib.hid hk
  clear hr hk
  go_enter Try.func102, Try.ntmps102
  go_wp2_with fail
  go_loop [3] (fun i => ∃ k : Nat, k ≤ l.length ∧ i = .int .i64 k) (fun i => l.length - (intOf i).toNat)
  case atStart => exact ⟨0, Nat.zero_le _, rfl⟩
  case round =>
    obtain ⟨k, hk, rfl⟩ := hrel
    by_cases hlt : k < l.length
    · obtain ⟨b, off, rfl, hb, h0⟩ := HR.out.at_ hlt
      obtain ⟨g1, g2⟩ := (kndOk_iff l).1 HK.out l[k] (List.getElem_mem hlt)
      obtain ⟨x, hx⟩ : ∃ x, l[k] = x := ⟨_, rfl⟩
      rw [hx] at h0 g1 g2
      have e1 : ((x : Int) == 0) = false := by rw [beq_eq_false_iff_ne]; omega
      clear hx
      go_wp2_with fail
      go_round
      case rel => exact ⟨k + 1, by omega, by go_num⟩
      case measure => simp [intOf]; omega
    · go_wp2_with fail
      go_ret
      exact ⟨rfl, rfl⟩

set_option maxRecDepth 100000 in
set_option maxHeartbeats 1000000 in
theorem refSum_c (A : Option Addr) (l : List Nat) (c n : Nat) (w : World) (hn : l.length = n) (hm : n ≤ 2048) (hr : RdW w w.heap.size A l) (ho : ∀ x ∈ l, x < 18446744073709551616) :
    Calls Try.prog 104 #[.slice A n c] w fun e w' => e = .returned (.int .u64 (sumFrom 14695981039346656037 l : Nat)) ∧ Below w.heap.size w w' := by
  have HC := Lib.hid (behind_c 14695981039346656037 A l c n w hn hm (by omega) hr ho)
  clear hr ho
  obtain ⟨q, hq⟩ : ∃ q, sumFrom 14695981039346656037 l = q := ⟨_, rfl⟩
  rw [hq] at HC ⊢
  clear hq
  go_enter Try.func104, Try.ntmps104
  go_wp2_with fail
  refine HC.out.mono ?_
  rintro e w1 ⟨rfl, hB1⟩
  go_wp2_with fail
  go_ret
  exact ⟨rfl, hB1⟩

set_option maxRecDepth 100000 in
set_option maxHeartbeats 2000000 in
theorem r13Write_c (A : Option Addr) (l : List Nat) (c n H : Nat) (w : World) (hn : l.length = n) (h8 : n ≤ 8) (hk : kndOk l = true) (hr : RdY w H A l) (hH : H ≤ w.heap.size) :
    Calls Try.prog 83 #[.slice A n c] w fun e w' => e = .returned (.tuple #[twoV (typW l) (sum1 (typW l)), .int .i64 0]) ∧ Below w.heap.size w w' := by
  have hra : RdY (w.alloc (.cells #[.int .u64 0, .int .u64 0] 118)) H A l := Rd.alloc hr hH _
  have HK := Lib.hid (r13Check_c A l c n H (w.alloc (.cells #[.int .u64 0, .int .u64 0] 118)) hn h8 hk hra)
  have HF := Lib.hid (r13First_c A l c n H (w.alloc (.cells #[.int .u64 0, .int .u64 0] 118)) hn h8 hk hra)
  have bx := Bx.new w 118 #[.int .u64 0, .int .u64 0]
  have hlt := typW_lt (by omega) hk
  have HSM : Hid (sumFrom 14695981039346656037 [typW l] = sum1 (typW l)) := Lib.hid rfl
  obtain ⟨q, hq⟩ : ∃ q, typW l = q := ⟨_, rfl⟩
  rw [hq] at HF hlt HSM ⊢
  have HV : Hid (twoV q (sum1 q) = .agg #[.int .u64 (q : Int), .int .u64 (sum1 q : Nat)]) := Lib.hid rfl
  have hi2 : (Try.prog.info? 118).map (·.size) = some 2 := by kernel_rfl
  have BX := Lib.hid bx
  clear hr hra hk hq bx hn
  go_enter Try.func83, Try.ntmps83
  go_wp2_with fail
  refine HK.out.mono ?_
  rintro e w1 ⟨rfl, rfl⟩
  go_wp2_with fail
  refine HF.out.mono ?_
  rintro e w1 ⟨rfl, rfl⟩
  go_wp2_with fail
  refine HF.out.mono ?_
  rintro e w1 ⟨rfl, rfl⟩
  go_wp2_with fail
  have hrd := rd_new1 (w.alloc (.cells #[.int .u64 0, .int .u64 0] 118)) [.int .u64 (q : Int)] 38
  refine (refSum_c _ [q] _ 1 _ rfl (by omega) (by simp only [World.size_alloc] at hrd ⊢; exact hrd) (by intro y hy; simp at hy; subst hy; omega)).mono ?_
  rintro e w1 ⟨rfl, hB1⟩
  rw [World.size_alloc, World.size_alloc] at hB1
  have hb1 := (((Below.refl _ _).alloc (Nat.le_refl _) (.cells #[.int .u64 0, .int .u64 0] 118)).alloc (by simp) (.cells #[.int .u64 (q : Int)] 38)).trans (hB1.mono (by omega))
  have bx1 := (BX.out.alloc (.cells #[.int .u64 (q : Int)] 38)).up hB1 (by omega)
  have BX1 := Lib.hid bx1
  have HB1 := Lib.hid hb1
  rw [HSM.out]
  obtain ⟨z, hz⟩ : ∃ z, sum1 q = z := ⟨_, rfl⟩
  have HZ := Lib.hid hz
  rw [hz] at HV ⊢
  clear hz bx1 hb1 hB1 hrd
  go_wp2_with ((with_reducible refine at_store 118 (.tmp 2) _ ?_); refine wpList_store_agg rfl _ _ _ rfl w.heap.size 118 #[.int .u64 0, .int .u64 0] #[.int .u64 (q : Int), .int .u64 (z : Int)] (by rfl) (by rfl) BX1.out rfl hi2 (by simp [Value.oneCell']) ?_; intro w3 hb3 ha3; have HB3 := Lib.hid hb3; have HA3 := Lib.hid ha3; clear hb3 ha3)
  exact bodyPost_ret (v := .tuple #[.agg #[.int .u64 (q : Int), .int .u64 (z : Int)], .int .i64 0]) (results_two Try.results83 _ HB3.out rfl rfl) rfl ⟨by rw [HZ.out, HV.out], HA3.out.below HB1.out (Nat.le_refl _)⟩
end Go.Proofs.Ytpifagclhhaniaa
