/- Headers of blocks: the word that the reference returns. -/
import Derived.Test.YtpifagclhhaniaaRef05
import Derived.Test.YtpifagclhhaniaaHdrY
namespace Go.Proofs.Ytpifagclhhaniaa
open Go.RowKit

theorem withF_new {w f n v : Nat} (hw : w < 2 ^ f) (hv : v < 2 ^ n) : withF w f n v = w + v * 2 ^ f := by
  unfold withF fieldOf
  rw [Nat.div_eq_of_lt hw, Nat.zero_mod, Nat.zero_mul, Nat.sub_zero, Nat.mod_eq_of_lt hv]

set_option maxRecDepth 100000 in
set_option maxHeartbeats 1600000 in
theorem refWord_c (K T S : Nat) (m : Bool) (w : World) (h1 : K < 256) (h2 : T < 128) (h3 : S < 65536) :
    Calls Try.prog 84 #[.int .i64 (K : Int), .bool m, .int .i64 (T : Int), .int .i64 (S : Int)] w fun e w' => e = .returned (.int .u64 ((K + mk01 m * 256 + T * 512 + S * 65536 + sum1 (K + mk01 m * 256 + T * 512 + S * 65536) % 4294967296 * 4294967296 : Nat) : Int)) ∧ Below w.heap.size w w' := by
  obtain ⟨M, hM⟩ : ∃ M, mk01 m = M := ⟨_, rfl⟩
  have hM1 : M < 2 := by rw [← hM]; cases m <;> simp [mk01]
  have k1 := Lib.hid (fun W => with_c 0 0 8 K W (by omega) (by omega) (by omega))
  have e1 := withF_new (w := 0) (f := 0) (n := 8) (v := K) (by omega) (by omega)
  have e2 := withF_new (w := K) (f := 8) (n := 1) (v := 1) (by omega) (by omega)
  have e3 := withF_new (w := K + M * 256) (f := 9) (n := 7) (v := T) (by omega) (by omega)
  have e4 := withF_new (w := K + M * 256 + T * 512) (f := 16) (n := 16) (v := S) (by omega) (by omega)
  have hlo : K + M * 256 + T * 512 + S * 65536 < 4294967296 := by omega
  have HP := Lib.hid (Nat.mod_lt (sum1 (K + M * 256 + T * 512 + S * 65536)) (show 4294967296 > 0 by omega))
  have k2 := Lib.hid (fun W => with_c K 8 1 1 W (by omega) (by omega) (by omega))
  have k3 := Lib.hid (fun W => with_c (K + M * 256) 9 7 T W (by omega) (by omega) (by omega))
  have k4 := Lib.hid (fun W => with_c (K + M * 256 + T * 512) 16 16 S W (by omega) (by omega) (by omega))
  rw [show 0 + K * 2 ^ 0 = K by omega] at e1
  rw [e1] at k1
  rw [e2] at k2
  rw [e3] at k3
  rw [e4] at k4
  have e5 := withF_new (w := K + M * 256 + T * 512 + S * 65536) (f := 32) (n := 32) (v := sum1 (K + M * 256 + T * 512 + S * 65536) % 4294967296) (by omega) HP.out
  have k5 := Lib.hid (fun W => with_c (K + M * 256 + T * 512 + S * 65536) 32 32 (sum1 (K + M * 256 + T * 512 + S * 65536) % 4294967296) W (by omega) (by have := HP.out; omega) (by omega))
  rw [e5] at k5
  rw [hM]
  have hK1 : K + 1 * 2 ^ 8 = K + 256 := by omega
  have hT1 : K + M * 256 + T * 2 ^ 9 = K + M * 256 + T * 512 := by omega
  have hS1 : K + M * 256 + T * 512 + S * 2 ^ 16 = K + M * 256 + T * 512 + S * 65536 := by omega
  rw [hK1] at k2
  rw [hT1] at k3
  rw [hS1] at k4
  clear e1 e2 e3 e4 e5 hK1 hT1 hS1
  obtain ⟨A1, hA1⟩ : ∃ A1, K + M * 256 = A1 := ⟨_, rfl⟩
  rw [hA1] at k3 k4 k5 hlo HP ⊢
  obtain ⟨A2, hA2⟩ : ∃ A2, A1 + T * 512 = A2 := ⟨_, rfl⟩
  rw [hA2] at k3 k4 k5 hlo HP ⊢
  obtain ⟨A3, hA3⟩ : ∃ A3, A2 + S * 65536 = A3 := ⟨_, rfl⟩
  rw [hA3] at k4 k5 hlo HP ⊢
  have HA1 : Hid (m = true → K + 256 = A1) := Lib.hid (fun h => by subst h; simp [mk01] at hM; omega)
  have HA0 : Hid (m = false → K = A1) := Lib.hid (fun h => by subst h; simp [mk01] at hM; omega)
  clear hA1 hA2 hA3 hM
  cases m
  · obtain rfl := HA0.out rfl
    clear HA0 HA1
    go_enter Try.func84, Try.ntmps84
    go_wp2_with fail
    refine (k1.out _).mono ?_
    rintro e w1 ⟨rfl, rfl⟩
    go_wp2_with fail
    refine (k3.out _).mono ?_
    rintro e w2 ⟨rfl, rfl⟩
    go_wp2_with fail
    refine (k4.out _).mono ?_
    rintro e w3 ⟨rfl, rfl⟩
    go_wp2_with fail
    have hrd := rd_new1 w3 [.int .u64 (A3 : Int)] 38
    refine (part32_c _ [A3] _ 1 _ rfl (by omega) (by rw [World.size_alloc]; exact hrd) (by intro y hy; simp at hy; subst hy; omega)).mono ?_
    rintro e w4 ⟨rfl, hB1⟩
    rw [World.size_alloc] at hB1
    have hb1 := below_call hB1
    rw [show sumFrom 14695981039346656037 [A3] = sum1 A3 from rfl]
    clear hB1 hrd
    go_wp2_with fail
    refine (k5.out _).mono ?_
    rintro e w5 ⟨rfl, rfl⟩
    go_wp2_with fail
    go_ret
    exact ⟨rfl, hb1⟩
  · obtain rfl := HA1.out rfl
    clear HA0 HA1
    go_enter Try.func84, Try.ntmps84
    go_wp2_with fail
    refine (k1.out _).mono ?_
    rintro e w1 ⟨rfl, rfl⟩
    go_wp2_with fail
    refine (k2.out _).mono ?_
    rintro e w1 ⟨rfl, rfl⟩
    go_wp2_with fail
    refine (k3.out _).mono ?_
    rintro e w2 ⟨rfl, rfl⟩
    go_wp2_with fail
    refine (k4.out _).mono ?_
    rintro e w3 ⟨rfl, rfl⟩
    go_wp2_with fail
    have hrd := rd_new1 w3 [.int .u64 (A3 : Int)] 38
    refine (part32_c _ [A3] _ 1 _ rfl (by omega) (by rw [World.size_alloc]; exact hrd) (by intro y hy; simp at hy; subst hy; omega)).mono ?_
    rintro e w4 ⟨rfl, hB1⟩
    rw [World.size_alloc] at hB1
    have hb1 := below_call hB1
    rw [show sumFrom 14695981039346656037 [A3] = sum1 A3 from rfl]
    clear hB1 hrd
    go_wp2_with fail
    refine (k5.out _).mono ?_
    rintro e w5 ⟨rfl, rfl⟩
    go_wp2_with fail
    go_ret
    exact ⟨rfl, hb1⟩
end Go.Proofs.Ytpifagclhhaniaa
