/- Images of the law ResumeNames, and all their changes. -/
import Derived.Test.YtpfbppjjegialaaAl33
import Derived.Test.YtpfbppjjegialaaCmp
import Derived.Test.YtpfbppjjegialaaMk256
namespace Go.Proofs.Ytpfbppjjegialaa
open Go.RowKit

set_option maxRecDepth 100000 in
set_option maxHeartbeats 2000000 in
theorem ends33_c (A : Option Addr) (ws : List Nat) (c n k : Nat) (r : Int) (w : World) (hn : ws.length = n) (hm : n ≤ 9223372036854775807) (hc : n ≤ c) (hr : RdW w w.heap.size A ws) (ho : ∀ x ∈ ws, x < 18446744073709551616) (h : (rsAll ws).1 = r ∧ (rsAll ws).2.1.length = k) :
    Calls Try.prog 11 #[.slice A n c, .int .i64 (k : Int), .int .i64 r] w fun e w' => e = .returned (.bool true) ∧ Below w.heap.size w w' := by
  have HA := Lib.hid (rAll_c A ws c n w hn hm hc hr ho)
  have HS := Lib.hid (fun W (h : RdW W W.heap.size A ws) => rSteps_c A ws c n W hn hm hc h ho)
  unfold RaRes at HA
  rw [h.1] at HA HS
  rw [h.2] at HS
  have HK : Hid ((rsAll ws).2.1.length = k) := Lib.hid h.2
  have HR := Lib.hid hr
  clear hr ho h hn hm hc
  go_enter Try.func11, Try.ntmps11
  go_wp2_with fail
  refine HA.out.mono ?_
  rintro e w1 ⟨⟨L, B, d, vx, rfl, hL, -, hx1, hx2⟩, hB1⟩
  have hl : L.length = k := by rw [← HK.out, ← hL, List.length_map]
  have HB1 := Lib.hid hB1
  have HR1 := Lib.hid (HR.out.up hB1 hB1.size)
  rw [hl]
  obtain ⟨vc, hvc⟩ : ∃ v, vx = v := ⟨_, rfl⟩
  have hvs : ∃ a b c, vx = .slice a b c := by
    by_cases h0 : r = 0
    · obtain ⟨g, c, rfl, -⟩ := hx1 h0
      exact ⟨_, _, _, rfl⟩
    · exact ⟨_, _, _, hx2 h0⟩
  obtain ⟨va, vb, vd, rfl⟩ := hvs
  clear hB1 hL hl hx1 hx2 hvc
  go_wp2_with fail
  refine (HS.out _ HR1.out).mono ?_
  rintro e w2 ⟨rfl, hB2⟩
  have HB2 := Lib.hid (HB1.out.trans (hB2.mono HB1.out.size))
  clear hB2
  go_wp2_with fail
  go_ret
  exact ⟨rfl, HB2.out⟩
def rnwL : List Nat := buildL 256 [] [] []
theorem rnw_len : rnwL.length = 256 := by decide +kernel
theorem rnw_lt : ∀ x ∈ rnwL, x < 18446744073709551616 := by decide +kernel
theorem rnw_fit : ∀ k, k < 0 → fits 256 [] [] k := by decide +kernel
theorem rnw_slt : ∀ k, k < 0 → ([] : List Int)[k]?.getD 0 < 4294967296 ∧ -4294967296 < ([] : List Int)[k]?.getD 0 := by decide +kernel
set_option maxRecDepth 100000 in
theorem rnw_c (w : World) : Calls Try.prog 7 #[.int .i64 256, .slice none 0 0, .slice none 0 0, .slice none 0 0] w fun e w' => OwnW w rnwL e w' := by
  have hbz : Below w.heap.size w w := Below.refl _ _
  obtain ⟨Z, hZ⟩ : ∃ Z, w = Z := ⟨_, rfl⟩
  rw [hZ] at  hbz ⊢
  clear hZ
  have hC := build_c none none none [] [] [] 0 0 0 256 Z.heap.size Z (by omega) (by omega) RdT.nil_ (show (0 : Nat) ≤ 8 by decide) Rd.nil_ Rd.nil_ (show (0 : Nat) ≤ 16 by decide) (Nat.le_refl _) (show (0 : Nat) ≤ 2048 by decide) (fun k hk => rnw_fit k hk) (fun k hk => rnw_slt k hk)
  refine hC.mono ?_
  intro e w1 h
  exact OwnW.mk_ hbz (show OwnW Z rnwL e w1 from h)
def rnxL : List Nat := buildL 256 [[3]] [⟨0, 4, 1, 0, true, 128⟩, ⟨0, 4, 1, 0, false, 0⟩] [128]
theorem rnx_len : rnxL.length = 256 := by decide +kernel
theorem rnx_lt : ∀ x ∈ rnxL, x < 18446744073709551616 := by decide +kernel
theorem rnx_fit : ∀ k, k < 2 → fits 256 [[3]] [⟨0, 4, 1, 0, true, 128⟩, ⟨0, 4, 1, 0, false, 0⟩] k := by decide +kernel
theorem rnx_slt : ∀ k, k < 1 → ([128] : List Int)[k]?.getD 0 < 4294967296 ∧ -4294967296 < ([128] : List Int)[k]?.getD 0 := by decide +kernel
set_option maxRecDepth 100000 in
theorem rnx_c (w : World) : Calls Try.prog 7 #[.int .i64 256, .slice (some ⟨w.heap.size + 1, 0, none⟩) 1 1, .slice (some ⟨w.heap.size + 1 + 1, 0, none⟩) 2 2, .slice (some ⟨w.heap.size + 1 + 1 + 1, 0, none⟩) 1 1] ((((w.alloc (.cells #[.int .u8 3] 5)).alloc (.cells #[.slice (some ⟨w.heap.size, 0, none⟩) 1 1] 29)).alloc (.cells #[.int .i64 0, .int .i64 4, .int .i64 1, .int .i64 0, .bool true, .int .u64 128, .int .i64 0, .int .i64 4, .int .i64 1, .int .i64 0, .bool false, .int .u64 0] 33)).alloc (.cells #[.int .i64 128] 3)) fun e w' => OwnW w rnxL e w' := by
  have x0 := Bx.new w 5 #[.int .u8 3]
  have x1 := Bx.new (w.alloc (.cells #[.int .u8 3] 5)) 29 #[.slice (some ⟨w.heap.size, 0, none⟩) 1 1]
  have x2 := Bx.new ((w.alloc (.cells #[.int .u8 3] 5)).alloc (.cells #[.slice (some ⟨w.heap.size, 0, none⟩) 1 1] 29)) 33 #[.int .i64 0, .int .i64 4, .int .i64 1, .int .i64 0, .bool true, .int .u64 128, .int .i64 0, .int .i64 4, .int .i64 1, .int .i64 0, .bool false, .int .u64 0]
  have x3 := Bx.new (((w.alloc (.cells #[.int .u8 3] 5)).alloc (.cells #[.slice (some ⟨w.heap.size, 0, none⟩) 1 1] 29)).alloc (.cells #[.int .i64 0, .int .i64 4, .int .i64 1, .int .i64 0, .bool true, .int .u64 128, .int .i64 0, .int .i64 4, .int .i64 1, .int .i64 0, .bool false, .int .u64 0] 33)) 3 #[.int .i64 128]
  (try simp only [World.size_alloc] at x0 x1 x2 x3)
  replace x0 := (((x0.alloc (.cells #[.slice (some ⟨w.heap.size, 0, none⟩) 1 1] 29)).alloc (.cells #[.int .i64 0, .int .i64 4, .int .i64 1, .int .i64 0, .bool true, .int .u64 128, .int .i64 0, .int .i64 4, .int .i64 1, .int .i64 0, .bool false, .int .u64 0] 33)).alloc (.cells #[.int .i64 128] 3))
  replace x1 := ((x1.alloc (.cells #[.int .i64 0, .int .i64 4, .int .i64 1, .int .i64 0, .bool true, .int .u64 128, .int .i64 0, .int .i64 4, .int .i64 1, .int .i64 0, .bool false, .int .u64 0] 33)).alloc (.cells #[.int .i64 128] 3))
  replace x2 := (x2.alloc (.cells #[.int .i64 128] 3))
  have hbz : Below w.heap.size w ((((w.alloc (.cells #[.int .u8 3] 5)).alloc (.cells #[.slice (some ⟨w.heap.size, 0, none⟩) 1 1] 29)).alloc (.cells #[.int .i64 0, .int .i64 4, .int .i64 1, .int .i64 0, .bool true, .int .u64 128, .int .i64 0, .int .i64 4, .int .i64 1, .int .i64 0, .bool false, .int .u64 0] 33)).alloc (.cells #[.int .i64 128] 3)) := by
    refine (((((Below.refl _ _).alloc ?_ _).alloc ?_ _).alloc ?_ _).alloc ?_ _) <;> (try simp only [World.size_alloc]) <;> omega
  obtain ⟨Z, hZ⟩ : ∃ Z, ((((w.alloc (.cells #[.int .u8 3] 5)).alloc (.cells #[.slice (some ⟨w.heap.size, 0, none⟩) 1 1] 29)).alloc (.cells #[.int .i64 0, .int .i64 4, .int .i64 1, .int .i64 0, .bool true, .int .u64 128, .int .i64 0, .int .i64 4, .int .i64 1, .int .i64 0, .bool false, .int .u64 0] 33)).alloc (.cells #[.int .i64 128] 3)) = Z := ⟨_, rfl⟩
  rw [hZ] at x0 x1 x2 x3 hbz ⊢
  clear hZ
  have hT : RdT Z Z.heap.size (some ⟨w.heap.size + 1, 0, none⟩) [⟨some ⟨w.heap.size, 0, none⟩, 1, [3]⟩] := by
    refine ⟨Rd.of_bx x1 x1.lt, fun x hx => ?_⟩
    simp only [List.mem_cons, List.not_mem_nil, or_false] at hx
    rcases hx with rfl
    · exact ⟨Rd.of_bx x0 x0.lt, show (1 : Nat) ≤ 8 by decide, show kndOk [3] = true by decide⟩
  have hC := build_c (some ⟨w.heap.size + 1, 0, none⟩) (some ⟨w.heap.size + 1 + 1, 0, none⟩) (some ⟨w.heap.size + 1 + 1 + 1, 0, none⟩) [⟨some ⟨w.heap.size, 0, none⟩, 1, [3]⟩] [⟨0, 4, 1, 0, true, 128⟩, ⟨0, 4, 1, 0, false, 0⟩] [128] 1 2 1 256 Z.heap.size Z (by omega) (by omega) hT (show (1 : Nat) ≤ 8 by decide) (show Rd _ _ _ _ from Rd.of_bx x2 x2.lt) (show Rd _ _ _ _ from Rd.of_bx x3 x3.lt) (show (1 : Nat) ≤ 16 by decide) (Nat.le_refl _) (show (2 : Nat) ≤ 2048 by decide) (fun k hk => rnx_fit k hk) (fun k hk => rnx_slt k hk)
  refine hC.mono ?_
  intro e w1 h
  exact OwnW.mk_ hbz (show OwnW Z rnxL e w1 from h)

def rnX : List Nat := rnxL.set 130 132
theorem rnX_len : rnX.length = 256 := by unfold rnX; rw [List.length_set, rnx_len]
theorem rnX_lt : ∀ x ∈ rnX, x < 18446744073709551616 := by decide +kernel
theorem rn_lt {l : List Nat} (h : ∀ x ∈ l, x < 18446744073709551616) (p f t : Nat) (hp : p < 18446744073709551616) (hf : f < 18446744073709551616) (ht : t < 18446744073709551616) : ∀ x ∈ putE l (phE p f t), x < 18446744073709551616 := putE_lt _ _ h fun e he => by
  unfold phE at he
  simp only [List.mem_cons, List.not_mem_nil, or_false] at he
  rcases he with rfl | rfl | rfl <;> assumption
theorem rn_all {f k : Nat} {x : List Nat} {q : Int × Nat} (ho : ∀ v ∈ x, v < 18446744073709551616) (h : (rsAllC f k x).map (fun r => (r.1, r.2.1.length)) = some q) : (rsAll x).1 = q.1 ∧ (rsAll x).2.1.length = q.2 := by
  cases hr : rsAllC f k x with
  | none => rw [hr] at h; cases h
  | some r =>
    rw [hr] at h
    rw [rsAllC_ok ho hr]
    have := Option.some.inj h
    rw [← this]
    exact ⟨rfl, rfl⟩
theorem rn_nx : rsNxC 20 [] = some (8, false, []) ∧ rsNxC 20 (List.replicate 256 0) = some (50, false, []) := by decide +kernel
theorem rn_last : (rsNxC 20 (putE rnwL (phE 4 128 128))).map (fun r => (r.1, r.2.1, r.2.2.length)) = some (0, false, 5) := by decide +kernel
theorem rn_0 : (rsAllC 40 14 rnwL).map (fun r => (r.1, r.2.1.length)) = some (0, 0) := by decide +kernel
theorem rn_1 : (rsAllC 40 14 (putE rnwL (phE 1 0 0))).map (fun r => (r.1, r.2.1.length)) = some (0, 5) := by decide +kernel
theorem rn_2 : (rsAllC 40 14 (putE rnwL (phE 2 0 0))).map (fun r => (r.1, r.2.1.length)) = some (0, 4) := by decide +kernel
theorem rn_3 : (rsAllC 40 14 (putE rnwL (phE 3 0 0))).map (fun r => (r.1, r.2.1.length)) = some (0, 3) := by decide +kernel
theorem rn_4 : (rsAllC 40 14 (putE rnwL (phE 3 256 0))).map (fun r => (r.1, r.2.1.length)) = some (0, 2) := by decide +kernel
theorem rn_5 : (rsAllC 40 14 (putE rnwL (phE 4 128 128))).map (fun r => (r.1, r.2.1.length)) = some (0, 1) := by decide +kernel
theorem rn_6 : (rsAllC 40 14 (putE rnwL (phE 4 128 130))).map (fun r => (r.1, r.2.1.length)) = some (50, 0) := by decide +kernel
theorem rn_7 : (rsAllC 40 14 []).map (fun r => (r.1, r.2.1.length)) = some (8, 0) := by decide +kernel
theorem rn_8 : (rsAllC 40 14 (putE rnX (phE 3 0 0))).map (fun r => (r.1, r.2.1.length)) = some (50, 0) := by decide +kernel
theorem rn_9 : (rsAllC 40 14 (putE rnX (phE 1 0 0))).map (fun r => (r.1, r.2.1.length)) = some (0, 9) := by decide +kernel
end Go.Proofs.Ytpfbppjjegialaa
