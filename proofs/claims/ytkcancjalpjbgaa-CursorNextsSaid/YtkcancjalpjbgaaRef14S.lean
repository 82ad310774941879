/- Headers of blocks: what the reference reads out of a word. -/
import Derived.Test.YtkcancjalpjbgaaRef14
import Derived.Test.YtkcancjalpjbgaaRef14W
namespace Go.Proofs.Ytkcancjalpjbgaa
open Go.RowKit

set_option maxRecDepth 100000 in
set_option maxHeartbeats 1000000 in
theorem refOf_c (xa : Int) (S K T : Nat) (m : Bool) (xn : Nat) (w : World) (h1 : K < 256) (h2 : T < 128) (h3 : S < 65536) :
    Calls Try.prog 105 #[.agg #[.int .i64 xa, .int .i64 (S : Int), .int .i64 (K : Int), .int .i64 (T : Int), .bool m, .int .u64 (xn : Int)]] w fun e w' => e = .returned (.int .u64 ((headW ⟨xa, (S : Int), (K : Int), (T : Int), m, xn⟩ : Nat) : Int)) ∧ Below w.heap.size w w' := by
  have HW := Lib.hid (fun W => refWord_c K T S m W h1 h2 h3)
  have HE : Hid (headW ⟨xa, (S : Int), (K : Int), (T : Int), m, xn⟩ = K + mk01 m * 256 + T * 512 + S * 65536 + sum1 (K + mk01 m * 256 + T * 512 + S * 65536) % 4294967296 * 4294967296) := Lib.hid rfl
  obtain ⟨V, hV⟩ : ∃ V, K + mk01 m * 256 + T * 512 + S * 65536 + sum1 (K + mk01 m * 256 + T * 512 + S * 65536) % 4294967296 * 4294967296 = V := ⟨_, rfl⟩
  rw [hV] at HW HE
  rw [HE.out]
  clear hV
  go_enter Try.func105, Try.ntmps105
  go_wp2_with fail
  refine (HW.out _).mono ?_
  rintro e w1 ⟨rfl, hB1⟩
  rw [World.size_alloc] at hB1
  have hb1 := below_call hB1
  clear hB1
  go_wp2_with fail
  go_ret
  exact ⟨rfl, hb1⟩

set_option maxRecDepth 100000 in
set_option maxHeartbeats 1600000 in
theorem refSplit_c (x : Nat) (w : World) (hx : x < 18446744073709551616) : Calls Try.prog 91 #[.int .u64 (x : Int)] w fun e w' => e = .returned (.tuple #[(splB x).val, .bool (splitOk x)]) ∧ Below w.heap.size w w' := by
  have HCK := Lib.hid (fun W => refHdCheck_c (rawBk x) W)
  have HE0 : Hid (hdErr (rawBk x) = 0 → headW (rawBk x) = x → splB x = rawBk x ∧ splitOk x = true) := Lib.hid fun h1 h2 => by
    have hb : hdOk (rawBk x) = true := by
      cases hq : hdOk (rawBk x) with
      | true => rfl
      | false => rw [hdErr_no hq] at h1; cases h1
    have : splitOk x = true := by simp [splitOk, hb, h2]
    exact ⟨(spl_ok this).1, this⟩
  have HE1 : Hid (hdErr (rawBk x) ≠ 0 ∨ headW (rawBk x) ≠ x → splB x = noBk ∧ splitOk x = false) := Lib.hid fun h => by
    have : splitOk x = false := by
      cases hq : hdOk (rawBk x) with
      | false => simp [splitOk, hq]
      | true =>
        rcases h with h | h
        · exact absurd (hdErr_ok hq) h
        · simp [splitOk, hq, h]
    exact ⟨(spl_no this).1, this⟩
  have hx0 : (0 : Int) ≤ (x : Int) := by omega
  have hraw : (rawBk x).val = .agg #[.int .i64 0, .int .i64 ((x / 65536 % 65536 : Nat) : Int), .int .i64 ((x % 256 : Nat) : Int), .int .i64 ((x / 512 % 128 : Nat) : Int), .bool (x / 256 % 2 == 1), .int .u64 0] := rfl
  have m1 : x % 256 < 256 := Nat.mod_lt _ (by omega)
  have m2 : x / 256 % 2 < 2 := Nat.mod_lt _ (by omega)
  have m3 : x / 512 % 128 < 128 := Nat.mod_lt _ (by omega)
  have m4 : x / 65536 % 65536 < 65536 := Nat.mod_lt _ (by omega)
  have HV1 := Lib.hid (fun W => value_c x 0 8 W hx (by omega))
  have HV2 := Lib.hid (fun W => value_c x 8 1 W hx (by omega))
  have HV3 := Lib.hid (fun W => value_c x 9 7 W hx (by omega))
  have HV4 := Lib.hid (fun W => value_c x 16 16 W hx (by omega))
  rw [show fieldOf x 0 8 = x % 256 by simp [fieldOf]] at HV1
  rw [show fieldOf x 8 1 = x / 256 % 2 from rfl] at HV2
  rw [show fieldOf x 9 7 = x / 512 % 128 from rfl] at HV3
  rw [show fieldOf x 16 16 = x / 65536 % 65536 from rfl] at HV4
  have HOF := Lib.hid (fun W => refOf_c 0 (x / 65536 % 65536) (x % 256) (x / 512 % 128) (x / 256 % 2 == 1) 0 W m1 m3 m4)
  rw [show (⟨0, ((x / 65536 % 65536 : Nat) : Int), ((x % 256 : Nat) : Int), ((x / 512 % 128 : Nat) : Int), (x / 256 % 2 == 1), 0⟩ : Bk) = rawBk x from rfl] at HOF
  rw [hraw] at HCK
  have HRAW := Lib.hid hraw
  have hbit : ((((x / 256 % 2 : Nat) : Int)) == 1) = (x / 256 % 2 == 1) := by
    rw [Bool.eq_iff_iff, beq_iff_eq, beq_iff_eq]; omega
  obtain ⟨K, hK⟩ : ∃ K, x % 256 = K := ⟨_, rfl⟩
  obtain ⟨M, hM⟩ : ∃ M, x / 256 % 2 = M := ⟨_, rfl⟩
  obtain ⟨T, hT⟩ : ∃ T, x / 512 % 128 = T := ⟨_, rfl⟩
  obtain ⟨S, hS⟩ : ∃ S, x / 65536 % 65536 = S := ⟨_, rfl⟩
  rw [hK] at m1 HV1 HCK HOF HRAW
  rw [hM] at m2 hbit HV2 HCK HOF HRAW
  rw [hT] at m3 HV3 HCK HOF HRAW
  rw [hS] at m4 HV4 HCK HOF HRAW
  obtain ⟨bm, hbm⟩ : ∃ b, (M == 1) = b := ⟨_, rfl⟩
  rw [hbm] at hbit HCK HOF HRAW
  obtain ⟨V, hV⟩ : ∃ V, headW (rawBk x) = V := ⟨_, rfl⟩
  obtain ⟨R, hR⟩ : ∃ R, hdErr (rawBk x) = R := ⟨_, rfl⟩
  rw [hV, hR] at HE0 HE1
  rw [hR] at HCK
  rw [hV] at HOF
  clear hx hraw hK hM hT hS hbm hV hR
  go_enter Try.func91, Try.ntmps91
  go_wp2_with fail
  refine (HV1.out _).mono ?_
  rintro e w1 ⟨rfl, rfl⟩
  go_wp2_with fail
  refine (HV2.out _).mono ?_
  rintro e w1 ⟨rfl, rfl⟩
  go_wp2_with fail
  refine (HV3.out _).mono ?_
  rintro e w1 ⟨rfl, rfl⟩
  go_wp2_with fail
  refine (HV4.out _).mono ?_
  rintro e w1 ⟨rfl, rfl⟩
  go_wp2_with fail
  have q0 := (Bx.new w 26 #[.int .i64 0, .int .i64 0, .int .i64 0, .int .i64 0, .bool false, .int .u64 0]).alloc (.cells #[.int .i64 0, .int .i64 (S : Int), .int .i64 (K : Int), .int .i64 (T : Int), .bool bm, .int .u64 0] 26)
  have q1 := Bx.new (w.alloc (.cells #[.int .i64 0, .int .i64 0, .int .i64 0, .int .i64 0, .bool false, .int .u64 0] 26)) 26 #[.int .i64 0, .int .i64 (S : Int), .int .i64 (K : Int), .int .i64 (T : Int), .bool bm, .int .u64 0]
  have hb0 : Below w.heap.size w ((w.alloc (.cells #[.int .i64 0, .int .i64 0, .int .i64 0, .int .i64 0, .bool false, .int .u64 0] 26)).alloc (.cells #[.int .i64 0, .int .i64 (S : Int), .int .i64 (K : Int), .int .i64 (T : Int), .bool bm, .int .u64 0] 26)) := ((Below.refl _ _).alloc (Nat.le_refl _) _).alloc (by simp) _
  have hsz : ((w.alloc (.cells #[.int .i64 0, .int .i64 0, .int .i64 0, .int .i64 0, .bool false, .int .u64 0] 26)).alloc (.cells #[.int .i64 0, .int .i64 (S : Int), .int .i64 (K : Int), .int .i64 (T : Int), .bool bm, .int .u64 0] 26)).heap.size = w.heap.size + 2 := by simp
  rw [World.size_alloc] at q1
  obtain ⟨W0, hW0⟩ : ∃ W0, (w.alloc (.cells #[.int .i64 0, .int .i64 0, .int .i64 0, .int .i64 0, .bool false, .int .u64 0] 26)).alloc (.cells #[.int .i64 0, .int .i64 (S : Int), .int .i64 (K : Int), .int .i64 (T : Int), .bool bm, .int .u64 0] 26) = W0 := ⟨_, rfl⟩
  rw [hW0] at q0 q1 hb0 hsz ⊢
  clear hW0
  refine (HCK.out W0).mono ?_
  rintro e w1 ⟨rfl, hB1⟩
  have hb1 := hb0.trans (hB1.mono hb0.size)
  replace q0 := q0.up hB1 (by omega)
  replace q1 := q1.up hB1 (by omega)
  have hz1 : w.heap.size + 2 ≤ w1.heap.size := by have := hB1.size; omega
  obtain ⟨c0, c1, c2, c3, c4, c5, cf, cz⟩ := q0.c6
  obtain ⟨d0, d1, d2, d3, d4, d5, df, dz⟩ := q1.c6
  have Q0 := Lib.hid q0
  have Q1 := Lib.hid q1
  have cf0 := cf 0
  have cf1 := cf 1
  have cf2 := cf 2
  have cf3 := cf 3
  have cf4 := cf 4
  have cf5 := cf 5
  clear q0 q1 hB1 hb0 hsz df cf hbit m1 m2 m3 m4
  by_cases hR : R = 0
  · have hr1 : (R != 0) = false := by rw [bne_eq_false_iff_eq]; exact hR
    have HRR := Lib.hid hR
    clear hR cf0 cf1 cf2 cf3 cf4 cf5 c0 c1 c2 c3 c4 c5
    go_wp2_with fail
    refine (HOF.out w1).mono ?_
    rintro e w2 ⟨rfl, hB2⟩
    have hb2 := hb1.trans (hB2.mono hb1.size)
    have q0 := Q0.out.up hB2 (by omega)
    have q1 := Q1.out.up hB2 (by omega)
    clear d0 d1 d2 d3 d4 d5
    obtain ⟨c0, c1, c2, c3, c4, c5, cf, cz⟩ := q0.c6
    obtain ⟨d0, d1, d2, d3, d4, d5, df, dz⟩ := q1.c6
    have P0 := Lib.hid q0
    have cf0 := cf 0
    have cf1 := cf 1
    have cf2 := cf 2
    have cf3 := cf 3
    have cf4 := cf 4
    have cf5 := cf 5
    clear q0 q1 hB2 df cf
    by_cases hV : V = x
    · obtain ⟨g1, g2⟩ := HE0.out HRR.out hV
      have G1 := Lib.hid g1
      have G2 := Lib.hid g2
      have hv1 : ((V : Int) != (x : Int)) = false := by rw [bne_eq_false_iff_eq]; omega
      clear hV g1 g2
      go_wp2_with fail
      refine bodyPost_ret (v := .tuple #[.agg #[.int .i64 0, .int .i64 (S : Int), .int .i64 (K : Int), .int .i64 (T : Int), .bool bm, .int .u64 0], .bool true]) (results_blk Try.results91 _ ((((((P0.out.set_ 0 _).set_ 1 _).set_ 2 _).set_ 3 _).set_ 4 _).set_ 5 _) rfl rfl) rfl ⟨by rw [G1.out, G2.out, HRAW.out], ?_⟩
      exact (Below.setCell (p := ⟨w.heap.size, 5, none⟩) (Below.setCell (p := ⟨w.heap.size, 4, none⟩) (Below.setCell (p := ⟨w.heap.size, 3, none⟩) (Below.setCell (p := ⟨w.heap.size, 2, none⟩) (Below.setCell (p := ⟨w.heap.size, 1, none⟩) (Below.setCell (p := ⟨w.heap.size, 0, none⟩) hb2 (Nat.le_refl _) _) (Nat.le_refl _) _) (Nat.le_refl _) _) (Nat.le_refl _) _) (Nat.le_refl _) _) (Nat.le_refl _) _)
    · obtain ⟨g1, g2⟩ := HE1.out (.inr hV)
      have G1 := Lib.hid g1
      have G2 := Lib.hid g2
      have hv1 : ((V : Int) != (x : Int)) = true := by rw [bne_iff_ne]; omega
      clear hV g1 g2
      go_wp2_with fail
      refine bodyPost_ret (v := .tuple #[.agg #[.int .i64 0, .int .i64 0, .int .i64 0, .int .i64 0, .bool false, .int .u64 0], .bool false]) (results_blk Try.results91 _ ((((((P0.out.set_ 0 _).set_ 1 _).set_ 2 _).set_ 3 _).set_ 4 _).set_ 5 _) rfl rfl) rfl ⟨by rw [G1.out, G2.out]; rfl, ?_⟩
      exact (Below.setCell (p := ⟨w.heap.size, 5, none⟩) (Below.setCell (p := ⟨w.heap.size, 4, none⟩) (Below.setCell (p := ⟨w.heap.size, 3, none⟩) (Below.setCell (p := ⟨w.heap.size, 2, none⟩) (Below.setCell (p := ⟨w.heap.size, 1, none⟩) (Below.setCell (p := ⟨w.heap.size, 0, none⟩) hb2 (Nat.le_refl _) _) (Nat.le_refl _) _) (Nat.le_refl _) _) (Nat.le_refl _) _) (Nat.le_refl _) _) (Nat.le_refl _) _)
  · obtain ⟨g1, g2⟩ := HE1.out (.inl hR)
    have G1 := Lib.hid g1
    have G2 := Lib.hid g2
    have hr1 : (R != 0) = true := by rw [bne_iff_ne]; exact hR
    clear hR g1 g2
    go_wp2_with fail
    refine bodyPost_ret (v := .tuple #[.agg #[.int .i64 0, .int .i64 0, .int .i64 0, .int .i64 0, .bool false, .int .u64 0], .bool false]) (results_blk Try.results91 _ ((((((Q0.out.set_ 0 _).set_ 1 _).set_ 2 _).set_ 3 _).set_ 4 _).set_ 5 _) rfl rfl) rfl ⟨by rw [G1.out, G2.out]; rfl, ?_⟩
    exact (Below.setCell (p := ⟨w.heap.size, 5, none⟩) (Below.setCell (p := ⟨w.heap.size, 4, none⟩) (Below.setCell (p := ⟨w.heap.size, 3, none⟩) (Below.setCell (p := ⟨w.heap.size, 2, none⟩) (Below.setCell (p := ⟨w.heap.size, 1, none⟩) (Below.setCell (p := ⟨w.heap.size, 0, none⟩) hb1 (Nat.le_refl _) _) (Nat.le_refl _) _) (Nat.le_refl _) _) (Nat.le_refl _) _) (Nat.le_refl _) _) (Nat.le_refl _) _)
end Go.Proofs.Ytkcancjalpjbgaa
