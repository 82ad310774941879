/- EffortOfs: Of and Bound return what the reference returns, for every slice of entries and every number. -/
import Derived.Test.YtiaddipbjigaiaaEff
namespace Go.Proofs.Ytiaddipbjigaiaa
open Go.RowKit

/-- What Bound gives: the bound and the error. -/
def bdErr (n : Int) : Int := if n < 256 then 2 else if 2048 < n then 2 else if n % 8 = 0 then 0 else 2
def bdN (n : Int) : Int := if bdErr n = 0 then 20 * (n - 128) + 200 else 0
def bdRes (n : Int) : Value := .tuple #[effV (bdN n) (bdN n) (bdN n), .int .i64 (bdErr n)]
theorem bdRes_err {n : Int} (h : bdErr n = 2) : bdRes n = .tuple #[effV 0 0 0, .int .i64 2] := by simp [bdRes, bdN, h]

set_option maxHeartbeats 400000 in
theorem refBound_c (n : Int) (w : World) :
    Calls Try.prog 14 #[.int .i64 n] w fun e w' => e = .returned (bdRes n) ∧ Below w.heap.size w w' := by
  by_cases h1 : n < 256
  · have H := Lib.hid (bdRes_err (n := n) (by simp [bdErr, h1]))
    go_enter Try.func14, Try.ntmps14
    go_wp2
    exact bodyPost_ret (v := .tuple #[effV 0 0 0, .int .i64 2]) (by simp [results, Try.results14, go_sem, effV]) rfl ⟨by rw [H.out], (Below.refl _ _).alloc (Nat.le_refl _) _⟩
  · by_cases h2 : 2048 < n
    · have H := Lib.hid (bdRes_err (n := n) (by simp [bdErr, h2]))
      have h3 : 256 ≤ n := by omega
      clear h1
      go_enter Try.func14, Try.ntmps14
      go_wp2
      exact bodyPost_ret (v := .tuple #[effV 0 0 0, .int .i64 2]) (by simp [results, Try.results14, go_sem, effV]) rfl ⟨by rw [H.out], (Below.refl _ _).alloc (Nat.le_refl _) _⟩
    · have h3 : 256 ≤ n := by omega
      have h4 : n ≤ 2048 := by omega
      by_cases h5 : n % 8 = 0
      · have H : Hid (bdRes n = .tuple #[effV (20 * (n - 128) + 200) (20 * (n - 128) + 200) (20 * (n - 128) + 200), .int .i64 0]) := by simp [Hid, bdRes, bdN, bdErr, h1, h2, h5]
        clear h1 h2
        go_enter Try.func14, Try.ntmps14
        go_wp2
        exact bodyPost_ret (v := .tuple #[effV (20 * (n - 128) + 200) (20 * (n - 128) + 200) (20 * (n - 128) + 200), .int .i64 0]) (by simp [results, Try.results14, go_sem, effV]) rfl ⟨by rw [H.out], (Below.refl _ _).alloc (Nat.le_refl _) _⟩
      · have H := Lib.hid (bdRes_err (n := n) (by simp [bdErr, h5]))
        have h6 : (n % 8 == 0) = false := by rw [beq_eq_false_iff_ne]; exact h5
        have h7 : (n % 8 != 0) = true := by rw [bne_iff_ne]; exact h5
        clear h1 h2 h5
        go_enter Try.func14, Try.ntmps14
        go_wp2
        exact bodyPost_ret (v := .tuple #[effV 0 0 0, .int .i64 2]) (by simp [results, Try.results14, go_sem, effV]) rfl ⟨by rw [H.out], (Below.refl _ _).alloc (Nat.le_refl _) _⟩

set_option maxHeartbeats 400000 in
theorem bound_c (n : Int) (w : World) :
    Calls Try.prog 13 #[.int .i64 n] w fun e w' => e = .returned (bdRes n) ∧ Below w.heap.size w w' := by
  by_cases h1 : n < 256
  · have H := Lib.hid (bdRes_err (n := n) (by simp [bdErr, h1]))
    go_enter Try.func13, Try.ntmps13
    go_wp2
    exact bodyPost_ret (v := .tuple #[effV 0 0 0, .int .i64 2]) (by simp [results, Try.results13, go_sem, effV]) rfl ⟨by rw [H.out], (Below.refl _ _).alloc (Nat.le_refl _) _⟩
  · by_cases h2 : 2048 < n
    · have H := Lib.hid (bdRes_err (n := n) (by simp [bdErr, h2]))
      have h3 : 256 ≤ n := by omega
      clear h1
      go_enter Try.func13, Try.ntmps13
      go_wp2
      exact bodyPost_ret (v := .tuple #[effV 0 0 0, .int .i64 2]) (by simp [results, Try.results13, go_sem, effV]) rfl ⟨by rw [H.out], (Below.refl _ _).alloc (Nat.le_refl _) _⟩
    · have h3 : 256 ≤ n := by omega
      have h4 : n ≤ 2048 := by omega
      by_cases h5 : n % 8 = 0
      · have H : Hid (bdRes n = .tuple #[effV (20 * (n - 128) + 200) (20 * (n - 128) + 200) (20 * (n - 128) + 200), .int .i64 0]) := by simp [Hid, bdRes, bdN, bdErr, h1, h2, h5]
        clear h1 h2
        go_enter Try.func13, Try.ntmps13
        go_wp2
        exact bodyPost_ret (v := .tuple #[effV (20 * (n - 128) + 200) (20 * (n - 128) + 200) (20 * (n - 128) + 200), .int .i64 0]) (by simp [results, Try.results13, go_sem, effV]) rfl ⟨by rw [H.out], (Below.refl _ _).alloc (Nat.le_refl _) _⟩
      · have H := Lib.hid (bdRes_err (n := n) (by simp [bdErr, h5]))
        have h6 : (n % 8 == 0) = false := by rw [beq_eq_false_iff_ne]; exact h5
        have h7 : (n % 8 != 0) = true := by rw [bne_iff_ne]; exact h5
        clear h1 h2 h5
        go_enter Try.func13, Try.ntmps13
        go_wp2
        exact bodyPost_ret (v := .tuple #[effV 0 0 0, .int .i64 2]) (by simp [results, Try.results13, go_sem, effV]) rfl ⟨by rw [H.out], (Below.refl _ _).alloc (Nat.le_refl _) _⟩

set_option maxHeartbeats 800000 in
theorem effortOfs_c (A : Option Addr) (l : List En) (c : Nat) (n : Int) (w : World) (hm : l.length ≤ 9223372036854775807) (hr : RdE w w.heap.size A l) :
    Calls Try.prog 3 #[.slice A l.length c, .int .i64 n] w fun e w' => e = .returned (.bool true) ∧ Below w.heap.size w w' := by
  have HR := Lib.hid hr
  clear hr
  by_cases h : 100 < l.length
  · go_enter Try.func3, Try.ntmps3
    go_wp2_with fail
    go_ret
    exact ⟨rfl, Below.refl _ _⟩
  · have h1 : l.length ≤ 100 := by omega
    clear h
    go_enter Try.func3, Try.ntmps3
    go_wp2_with fail
    refine (of_c A l c _ hm HR.out).mono ?_
    rintro e w1 ⟨rfl, hB1⟩
    obtain ⟨s, hs⟩ : ∃ s, s = ofS (addrs l) := ⟨_, rfl⟩
    obtain ⟨f, hf⟩ : ∃ f, f = ofF (addrs l) := ⟨_, rfl⟩
    obtain ⟨q, hq⟩ : ∃ q, q = ofN (addrs l) := ⟨_, rfl⟩
    obtain ⟨r, hr⟩ : ∃ r, r = ofErr (addrs l) := ⟨_, rfl⟩
    obtain ⟨t, ht⟩ : ∃ t, t = bdN n := ⟨_, rfl⟩
    obtain ⟨u, hu⟩ : ∃ u, u = bdErr n := ⟨_, rfl⟩
    have he : effRes (addrs l) = .tuple #[.agg #[.int .i64 s, .int .i64 f, .int .i64 q], .int .i64 r] := by rw [effRes, effV, hs, hf, hq, hr]
    have hd : bdRes n = .tuple #[.agg #[.int .i64 t, .int .i64 t, .int .i64 t], .int .i64 u] := by rw [bdRes, effV, ht, hu]
    have HE := Lib.hid he
    have HD := Lib.hid hd
    clear he hd hs hf hq hr ht hu
    rw [HE.out]
    go_wp2_with fail
    refine (refOf_c A l c _ hm (((HR.out.up hB1 hB1.size).alloc (Nat.le_refl _) _).more (by simp))).mono ?_
    rintro e w2 ⟨rfl, hB2⟩
    rw [World.size_alloc] at hB2
    have b1 := Bx.of_new hB2
    have hb2 := hB1.trans ((below_call hB2).mono hB1.size)
    rw [HE.out]
    have hz1 := b1.lt
    go_wp2_with fail
    refine (bound_c n _).mono ?_
    rintro e w3 ⟨rfl, hB3⟩
    rw [World.size_alloc] at hB3
    have c1 := (b1.alloc _).up hB3 (by omega)
    have c2 := Bx.of_new hB3
    have hb3 := hb2.trans ((below_call hB3).mono hb2.size)
    rw [HD.out]
    have hz2 := c2.lt
    go_wp2_with fail
    refine (refBound_c n _).mono ?_
    rintro e w4 ⟨rfl, hB4⟩
    rw [World.size_alloc] at hB4
    have d1 := (c1.alloc _).up hB4 (by omega)
    have d2 := (c2.alloc _).up hB4 (by omega)
    have d3 := Bx.of_new hB4
    have hb4 := hb3.trans ((below_call hB4).mono hb3.size)
    rw [HD.out]
    obtain ⟨p0, p1, p2, -, -, -, pz⟩ := d1.c3
    obtain ⟨q0, q1, q2, -, -, -, qz⟩ := d2.c3
    obtain ⟨r0, r1, r2, -, -, -, rz⟩ := d3.c3
    go_wp2_with fail
    go_ret
    have z4 := hb4.size
    refine ⟨rfl, ?_⟩
    (repeat' (first | with_reducible assumption | with_reducible exact Below.refl _ _ | (with_reducible refine below_drewN ?_ _) | (with_reducible refine Below.drew ?_) | (with_reducible refine Below.alloc ?_ ?_ _) | (with_reducible refine Below.setCell ?_ ?_ _))) <;> (first | exact Nat.le_refl _ | exact Nat.le_succ _ | omega | (dsimp only; omega) | ((repeat (first | (with_reducible refine le_alloc_ ?_) | (with_reducible refine le_set_ ?_) | (with_reducible refine le_drewN_ ?_))); first | exact Nat.le_refl _ | omega))

theorem effortOfs_walk (w : World) (A : Option Addr) (l : List En) (c : Nat) (hm : l.length ≤ maxLen) (_hc : l.length ≤ c) (hr : RdE w w.heap.size A l) (_ho : ∀ x ∈ l, -9223372036854775808 ≤ x.a ∧ x.a ≤ 9223372036854775807 ∧ x.v < 18446744073709551616) (n : Int) (_hn : -9223372036854775808 ≤ n ∧ n ≤ 9223372036854775807) :
    Calls Try.prog 3 #[.slice A l.length c, .int .i64 n] w fun e w' => e = .returned (.bool true) ∧ Below w.heap.size w w' :=
  effortOfs_c A l c n w (by unfold maxLen at hm; omega) hr
end Go.Proofs.Ytiaddipbjigaiaa
