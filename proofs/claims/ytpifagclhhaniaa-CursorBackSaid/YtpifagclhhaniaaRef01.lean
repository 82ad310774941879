/- Fields of words: what the reference returns. -/
import Derived.Test.YtpifagclhhaniaaImg
namespace Go.Proofs.Ytpifagclhhaniaa
open Go.RowKit

/-- A field of a word, and a word with another field. -/
def fieldOf (w f n : Nat) : Nat := w / 2 ^ f % 2 ^ n
def withF (w f n v : Nat) : Nat := w - fieldOf w f n * 2 ^ f + v % 2 ^ n * 2 ^ f
theorem fieldOf_succ (w f n : Nat) : fieldOf w f (n + 1) = fieldOf w f n + w / 2 ^ (f + n) % 2 * 2 ^ n := by
  unfold fieldOf
  rw [Nat.pow_succ, Nat.mod_mul, Nat.div_div_eq_div_mul, ← Nat.pow_add, Nat.mul_comm (2 ^ n)]
theorem fieldOf_lt (w f n : Nat) : fieldOf w f n < 2 ^ n := Nat.mod_lt _ (Nat.pow_pos (by omega))
theorem fieldOf_le (w f n : Nat) : fieldOf w f n * 2 ^ f ≤ w := by
  have h1 : fieldOf w f n ≤ w / 2 ^ f := Nat.mod_le _ _
  exact Nat.le_trans (Nat.mul_le_mul_right _ h1) (Nat.div_mul_le_self _ _)
theorem withF_zero (w f v : Nat) : withF w f 0 v = w := by simp [withF, fieldOf, Nat.mod_one]
/-- What lies above a field stays. -/
theorem withF_div (w f n v : Nat) : withF w f n v / 2 ^ (f + n) = w / 2 ^ (f + n) := by
  have hp : 0 < 2 ^ (f + n) := Nat.pow_pos (by omega)
  have h1 : w = w / 2 ^ (f + n) * 2 ^ (f + n) + (fieldOf w f n * 2 ^ f + w % 2 ^ f) := by
    have e1 := Nat.div_add_mod w (2 ^ f)
    have e2 := Nat.div_add_mod (w / 2 ^ f) (2 ^ n)
    rw [Nat.div_div_eq_div_mul, ← Nat.pow_add] at e2
    unfold fieldOf
    have e3 : 2 ^ f * (w / 2 ^ f) = 2 ^ f * (2 ^ n * (w / 2 ^ (f + n)) + w / 2 ^ f % 2 ^ n) := by rw [e2]
    rw [Nat.mul_add, ← Nat.mul_assoc, ← Nat.pow_add] at e3
    rw [Nat.mul_comm (w / 2 ^ (f + n)), Nat.mul_comm (w / 2 ^ f % 2 ^ n)]
    omega
  have h2 : withF w f n v = w / 2 ^ (f + n) * 2 ^ (f + n) + (v % 2 ^ n * 2 ^ f + w % 2 ^ f) := by
    unfold withF; omega
  have h3 : v % 2 ^ n * 2 ^ f + w % 2 ^ f < 2 ^ (f + n) := by
    have a1 : v % 2 ^ n + 1 ≤ 2 ^ n := Nat.mod_lt _ (Nat.pow_pos (by omega))
    have a2 : w % 2 ^ f < 2 ^ f := Nat.mod_lt _ (Nat.pow_pos (by omega))
    have a3 : (v % 2 ^ n + 1) * 2 ^ f ≤ 2 ^ n * 2 ^ f := Nat.mul_le_mul_right _ a1
    rw [Nat.pow_add, Nat.mul_comm (2 ^ f)]
    rw [Nat.add_mul] at a3
    omega
  rw [h2, Nat.mul_comm, Nat.mul_add_div hp, Nat.div_eq_of_lt h3, Nat.add_zero]
theorem withF_succ (w f n v : Nat) : withF w f (n + 1) v = withF w f n v - withF w f n v / 2 ^ (f + n) % 2 * 2 ^ (f + n) + v / 2 ^ n % 2 * 2 ^ (f + n) ∧ withF w f n v / 2 ^ (f + n) % 2 * 2 ^ (f + n) ≤ withF w f n v := by
  have hle : withF w f n v / 2 ^ (f + n) % 2 * 2 ^ (f + n) ≤ withF w f n v := Nat.le_trans (Nat.mul_le_mul_right _ (Nat.mod_le _ _)) (Nat.div_mul_le_self _ _)
  refine ⟨?_, hle⟩
  rw [withF_div] at hle ⊢
  have e1 := fieldOf_succ w f n
  have e2 : v % 2 ^ (n + 1) = v % 2 ^ n + v / 2 ^ n % 2 * 2 ^ n := by rw [Nat.pow_succ, Nat.mod_mul, Nat.mul_comm (2 ^ n)]
  have e3 := fieldOf_le w f (n + 1)
  have e4 := fieldOf_le w f n
  unfold withF at hle ⊢
  rw [e1, Nat.add_mul, Nat.mul_assoc (w / 2 ^ (f + n) % 2), ← Nat.pow_add, Nat.add_comm n f] at e3 ⊢
  rw [e2, Nat.add_mul, Nat.mul_assoc (v / 2 ^ n % 2), ← Nat.pow_add, Nat.add_comm n f]
  omega
theorem withF_lt {w f n v : Nat} (hw : w < 18446744073709551616) (h : f + n ≤ 64) : withF w f n v < 18446744073709551616 := by
  have hp : 0 < 2 ^ (f + n) := Nat.pow_pos (by omega)
  have e : 18446744073709551616 = 2 ^ (64 - (f + n)) * 2 ^ (f + n) := by rw [← Nat.pow_add, show 64 - (f + n) + (f + n) = 64 by omega]
  rw [e, ← Nat.div_lt_iff_lt_mul hp] at hw ⊢
  rw [withF_div]; exact hw
theorem fieldOf_lt64 {w f n : Nat} (h : f + n ≤ 64) : fieldOf w f n < 18446744073709551616 :=
  Nat.lt_of_lt_of_le (fieldOf_lt w f n) (show 2 ^ n ≤ 2 ^ 64 from Nat.pow_le_pow_right (by omega) (by omega))

set_option maxRecDepth 100000 in
set_option maxHeartbeats 1000000 in
theorem bit_c (x i : Nat) (w : World) (hx : x < 18446744073709551616) (hi : i ≤ 64) :
    Calls Try.prog 116 #[.int .u64 (x : Int), .int .i64 (i : Int)] w fun e w' => e = .returned (.int .u64 ((x / 2 ^ i % 2 : Nat) : Int)) ∧ w' = w := by
  have HX := Lib.hid hx
  clear hx
  go_enter Try.func116, Try.ntmps116
  go_wp2_with fail
  go_loopw [0, 5] (fun v k wr => ∃ j : Nat, j ≤ i ∧ k = .int .i64 j ∧ v = .int .u64 ((x / 2 ^ j : Nat) : Int) ∧ wr = w) (fun _ k _ => i - (intOf k).toNat)
  case atStart => exact ⟨0, Nat.zero_le _, rfl, by simp, rfl⟩
  case round =>
    obtain ⟨j, hj, rfl, rfl, rfl⟩ := hrel
    obtain ⟨y, hy⟩ : ∃ y, x / 2 ^ j = y := ⟨_, rfl⟩
    rw [hy]
    have hy0 : (0 : Int) ≤ (y : Int) := by omega
    have HY := Lib.hid hy
    have HYB := Lib.hid (show y < 18446744073709551616 by rw [← hy]; exact Nat.lt_of_le_of_lt (Nat.div_le_self _ _) HX.out)
    clear hy
    by_cases hlt : j < i
    · have ik1 : (j : Int) < (i : Int) := by omega
      have hy1 : (y : Int) / 2 < 18446744073709551616 := by have := HYB.out; omega
      have hy2 : (0 : Int) ≤ (y : Int) / 2 := by omega
      have HN : Hid (x / 2 ^ (j + 1) = y / 2) := Lib.hid (by rw [← HY.out, Nat.pow_succ, Nat.div_div_eq_div_mul])
      go_wp2_with fail
      go_roundw
      case rel => exact ⟨j + 1, by omega, by go_num, by rw [HN.out]; go_num, trivial⟩
      case measure => simp [intOf]; omega
    · obtain rfl : j = i := by omega
      go_wp2_with fail
      go_ret
      rw [HY.out]
      exact ⟨by go_num, rfl⟩

set_option maxRecDepth 100000 in
set_option maxHeartbeats 1000000 in
theorem power_c (i : Nat) (w : World) (hi : i < 64) :
    Calls Try.prog 117 #[.int .i64 (i : Int)] w fun e w' => e = .returned (.int .u64 ((2 ^ i : Nat) : Int)) ∧ w' = w := by
  go_enter Try.func117, Try.ntmps117
  go_wp2_with fail
  go_loopw [3, 4] (fun v k wr => ∃ j : Nat, j ≤ i ∧ k = .int .i64 j ∧ v = .int .u64 ((2 ^ j : Nat) : Int) ∧ wr = w) (fun _ k _ => i - (intOf k).toNat)
  case atStart => exact ⟨0, Nat.zero_le _, rfl, rfl, rfl⟩
  case round =>
    obtain ⟨j, hj, rfl, rfl, rfl⟩ := hrel
    obtain ⟨y, hy⟩ : ∃ y, 2 ^ j = y := ⟨_, rfl⟩
    rw [hy]
    have hy0 : (0 : Int) ≤ (y : Int) := by omega
    have HY := Lib.hid hy
    by_cases hlt : j < i
    · have ik1 : (j : Int) < (i : Int) := by omega
      have hy1 : (y : Int) * 2 < 18446744073709551616 := by
        have h1 : 2 ^ (j + 1) ≤ 2 ^ 63 := Nat.pow_le_pow_right (by omega) (by omega)
        rw [Nat.pow_succ, hy] at h1
        omega
      have HN : Hid (2 ^ (j + 1) = y * 2) := Lib.hid (by rw [← HY.out, Nat.pow_succ])
      clear hy
      go_wp2_with fail
      go_roundw
      case rel => exact ⟨j + 1, by omega, by go_num, by rw [HN.out]; go_num, trivial⟩
      case measure => simp [intOf]; omega
    · obtain rfl : j = i := by omega
      clear hy
      go_wp2_with fail
      go_ret
      rw [HY.out]
      exact ⟨by go_num, rfl⟩

set_option maxRecDepth 100000 in
set_option maxHeartbeats 1000000 in
theorem value_c (x f n : Nat) (w : World) (hx : x < 18446744073709551616) (hi : f + n ≤ 64) :
    Calls Try.prog 118 #[.int .u64 (x : Int), .int .i64 (f : Int), .int .i64 (n : Int)] w fun e w' => e = .returned (.int .u64 ((fieldOf x f n : Nat) : Int)) ∧ w' = w := by
  have HX := Lib.hid hx
  clear hx
  go_enter Try.func118, Try.ntmps118
  go_wp2_with fail
  go_loopw [7, 8] (fun v k wr => ∃ j : Nat, j ≤ n ∧ k = .int .i64 j ∧ v = .int .u64 ((fieldOf x f j : Nat) : Int) ∧ wr = w) (fun _ k _ => n - (intOf k).toNat)
  case atStart => exact ⟨0, Nat.zero_le _, rfl, by simp [fieldOf, Nat.mod_one], rfl⟩
  case round =>
    obtain ⟨j, hj, rfl, rfl, rfl⟩ := hrel
    obtain ⟨y, hy⟩ : ∃ y, fieldOf x f j = y := ⟨_, rfl⟩
    rw [hy]
    have hy0 : (0 : Int) ≤ (y : Int) := by omega
    by_cases hlt : j < n
    · have ik1 : (j : Int) < (n : Int) := by omega
      have h1 := bit_c x (f + j) wr HX.out (by omega)
      have h2 := power_c j wr (by omega)
      have h3 := fieldOf_succ x f j
      have h4 := fieldOf_lt64 (w := x) (f := f) (n := j + 1) (by omega)
      obtain ⟨b, hb⟩ : ∃ b, x / 2 ^ (f + j) % 2 = b := ⟨_, rfl⟩
      obtain ⟨p, hp⟩ : ∃ p, 2 ^ j = p := ⟨_, rfl⟩
      rw [hb, Int.natCast_add] at h1
      rw [hp] at h2
      rw [hy, hb, hp] at h3
      rw [h3] at h4
      obtain ⟨q, hq⟩ : ∃ q, b * p = q := ⟨_, rfl⟩
      rw [hq] at h3 h4
      have hm : (b : Int) * (p : Int) = (q : Int) := by rw [← hq, Int.natCast_mul]
      have hm0 : (0 : Int) ≤ (b : Int) * (p : Int) := by omega
      have hm1 : (b : Int) * (p : Int) < 18446744073709551616 := by omega
      have hs0 : (0 : Int) ≤ (y : Int) + (b : Int) * (p : Int) := by omega
      have hs1 : (y : Int) + (b : Int) * (p : Int) < 18446744073709551616 := by omega
      have HM := Lib.hid hm
      have H1 := Lib.hid h1
      have H2 := Lib.hid h2
      have H3 := Lib.hid h3
      clear hb hp hq hy h1 h2 h3 h4 hm
      go_wp2_with fail
      refine H1.out.mono ?_
      rintro e w1 ⟨rfl, rfl⟩
      go_wp2_with fail
      refine H2.out.mono ?_
      rintro e w2 ⟨rfl, rfl⟩
      go_wp2_with fail
      go_roundw
      case rel => exact ⟨j + 1, by omega, by go_num, by rw [H3.out, HM.out]; go_num, trivial⟩
      case measure => simp [intOf]; omega
    · obtain rfl : j = n := by omega
      have HY := Lib.hid hy
      clear hy
      go_wp2_with fail
      go_ret
      rw [HY.out]
      exact ⟨by go_num, rfl⟩

set_option maxRecDepth 100000 in
set_option maxHeartbeats 1600000 in
theorem with_c (x f n v : Nat) (w : World) (hx : x < 18446744073709551616) (hv : v < 18446744073709551616) (hi : f + n ≤ 64) :
    Calls Try.prog 105 #[.int .u64 (x : Int), .int .i64 (f : Int), .int .i64 (n : Int), .int .u64 (v : Int)] w fun e w' => e = .returned (.int .u64 ((withF x f n v : Nat) : Int)) ∧ w' = w := by
  have HX := Lib.hid hx
  have HV := Lib.hid hv
  clear hx hv
  go_enter Try.func105, Try.ntmps105
  go_wp2_with fail
  go_loopw [0, 9] (fun u k wr => ∃ j : Nat, j ≤ n ∧ k = .int .i64 j ∧ u = .int .u64 ((withF x f j v : Nat) : Int) ∧ wr = w) (fun _ k _ => n - (intOf k).toNat)
  case atStart => exact ⟨0, Nat.zero_le _, rfl, by rw [withF_zero], rfl⟩
  case round =>
    obtain ⟨j, hj, rfl, rfl, rfl⟩ := hrel
    obtain ⟨y, hy⟩ : ∃ y, withF x f j v = y := ⟨_, rfl⟩
    rw [hy]
    have hy0 : (0 : Int) ≤ (y : Int) := by omega
    by_cases hlt : j < n
    · have ik1 : (j : Int) < (n : Int) := by omega
      have hyb := withF_lt (v := v) HX.out (show f + j ≤ 64 by omega)
      rw [hy] at hyb
      have h1 := bit_c y (f + j) wr hyb (by omega)
      have h2 := power_c (f + j) wr (by omega)
      have h5 := bit_c v j wr HV.out (by omega)
      obtain ⟨h3, h3'⟩ := withF_succ x f j v
      have h4 := withF_lt (v := v) HX.out (show f + (j + 1) ≤ 64 by omega)
      rw [hy] at h3 h3'
      rw [h3] at h4
      obtain ⟨b, hb⟩ : ∃ b, y / 2 ^ (f + j) % 2 = b := ⟨_, rfl⟩
      obtain ⟨p, hp⟩ : ∃ p, 2 ^ (f + j) = p := ⟨_, rfl⟩
      obtain ⟨c, hc⟩ : ∃ c, v / 2 ^ j % 2 = c := ⟨_, rfl⟩
      rw [hb, Int.natCast_add] at h1
      rw [hp, Int.natCast_add] at h2
      rw [hc] at h5
      rw [hb, hp, hc] at h3 h4
      rw [hb, hp] at h3'
      obtain ⟨q, hq⟩ : ∃ q, b * p = q := ⟨_, rfl⟩
      obtain ⟨r, hr⟩ : ∃ r, c * p = r := ⟨_, rfl⟩
      rw [hq, hr] at h3 h4
      rw [hq] at h3'
      have hm : (b : Int) * (p : Int) = (q : Int) := by rw [← hq, Int.natCast_mul]
      have hn : (c : Int) * (p : Int) = (r : Int) := by rw [← hr, Int.natCast_mul]
      have hm0 : (0 : Int) ≤ (b : Int) * (p : Int) := by omega
      have hm1 : (b : Int) * (p : Int) < 18446744073709551616 := by omega
      have hn0 : (0 : Int) ≤ (c : Int) * (p : Int) := by omega
      have hn1 : (c : Int) * (p : Int) < 18446744073709551616 := by omega
      have ht0 : (0 : Int) ≤ (y : Int) - (b : Int) * (p : Int) := by omega
      have ht1 : (y : Int) - (b : Int) * (p : Int) < 18446744073709551616 := by omega
      have hs0 : (0 : Int) ≤ (y : Int) - (b : Int) * (p : Int) + (c : Int) * (p : Int) := by omega
      have hs1 : (y : Int) - (b : Int) * (p : Int) + (c : Int) * (p : Int) < 18446744073709551616 := by omega
      have hE : (((y - q + r : Nat) : Int)) = (y : Int) - (b : Int) * (p : Int) + (c : Int) * (p : Int) := by omega
      have HE := Lib.hid hE
      have H1 := Lib.hid h1
      have H2 := Lib.hid h2
      have H3 := Lib.hid h3
      have H5 := Lib.hid h5
      clear hb hp hc hq hr hy h1 h2 h3 h3' h4 h5 hm hn hE hyb
      go_wp2_with fail
      refine H1.out.mono ?_
      rintro e w1 ⟨rfl, rfl⟩
      go_wp2_with fail
      refine H2.out.mono ?_
      rintro e w2 ⟨rfl, rfl⟩
      go_wp2_with fail
      refine H5.out.mono ?_
      rintro e w3 ⟨rfl, rfl⟩
      go_wp2_with fail
      refine H2.out.mono ?_
      rintro e w4 ⟨rfl, rfl⟩
      go_wp2_with fail
      go_roundw
      case rel => exact ⟨j + 1, by omega, by go_num, by rw [H3.out, HE.out], trivial⟩
      case measure => simp [intOf]; omega
    · obtain rfl : j = n := by omega
      have HY := Lib.hid hy
      clear hy
      go_wp2_with fail
      go_ret
      rw [HY.out]
      exact ⟨by go_num, rfl⟩
end Go.Proofs.Ytpifagclhhaniaa
