/- The chapter's example of layer 33. -/
import Derived.Test.YtpfbppjjegialaaRsA
import Derived.Test.YtpfbppjjegialaaCmp
import Derived.Test.YtpfbppjjegialaaEnt11
import Derived.Test.YtpfbppjjegialaaFrsh
import Derived.Test.YtpfbppjjegialaaSameW
import Derived.Test.YtpfbppjjegialaaKMove
namespace Go.Proofs.Ytpfbppjjegialaa
open Go.RowKit

set_option maxRecDepth 100000 in
set_option maxHeartbeats 2000000 in
theorem at33_c (A : Option Addr) (ws : List Nat) (c n p f t H : Nat) (w : World) (hn : ws.length = n) (h0 : 0 < n) (hm : n ≤ 1000000) (hp : p ≤ 4611686018427387904) (hf : f ≤ 4611686018427387904) (ht : t ≤ 4611686018427387904) (hr : RdW w H A ws) (hH : H ≤ w.heap.size) :
    Calls Try.prog 9 #[.slice A n c, .int .i64 (p : Int), .int .i64 (f : Int), .int .i64 (t : Int)] w fun e w' => OwnW w (putE ws (phE p f t)) e w' := by
  have HR := Lib.hid (hr.more hH)
  have HE := Lib.hid (fun W => ent11_c p f t W hp hf ht)
  have HPT := Lib.hid (fun B d W (h : RdW W W.heap.size A ws) (h2 : RdE W W.heap.size B (phE p f t)) => put25_c A B ws (phE p f t) c d n 3 W.heap.size W hn rfl h0 hm (by omega) h h2 (Nat.le_refl _))
  unfold OwnW at HPT ⊢
  unfold phV at HE
  clear hr hH hn h0 hm hp hf ht
  go_enter Try.func9, Try.ntmps9
  go_wp2_with fail
  refine (HE.out _).mono ?_
  rintro e w1 ⟨⟨g, rfl, hre⟩, hB1⟩
  have HRE := Lib.hid hre
  have HB1 := Lib.hid hB1
  have HR1 := Lib.hid (HR.out.up hB1 hB1.size)
  clear hre hB1
  go_wp2_with fail
  refine (HPT.out _ _ _ HR1.out HRE.out).mono ?_
  rintro e w2 ⟨g2, c2, rfl, hown, hB2⟩
  go_wp2_with fail
  go_ret
  exact ⟨g2, c2, rfl, own_mono hown HB1.out.size, HB1.out.trans (hB2.mono HB1.out.size)⟩

def rs1L : List Nat := putE freshL (phE 1 0 0)
theorem rs1L_len : rs1L.length = 256 := by unfold rs1L; rw [putE_len, freshL_len]
theorem rs1L_lt : ∀ x ∈ rs1L, x < 18446744073709551616 := by decide +kernel
theorem rs1_all : (rsAllC 20 10 rs1L).map (fun r => (r.1, r.2.1.length, r.2.2)) = some (0, 5, freshL) := by decide +kernel
theorem rs0_nx : rsNxC 20 freshL = some (0, true, []) := by decide +kernel

set_option maxRecDepth 100000 in
set_option maxHeartbeats 8000000 in
theorem alive33_c (w : World) : Calls Try.prog 10 #[] w fun e w' => e = .returned (.bool true) ∧ Below w.heap.size w w' := by
  have HBC := Lib.hid (fun W => build_c none none none [] [] [] 0 0 0 256 W.heap.size W (by omega) (by omega) RdT.nil_ (show (0 : Nat) ≤ 8 by decide) Rd.nil_ Rd.nil_ (show (0 : Nat) ≤ 16 by decide) (Nat.le_refl _) (show (0 : Nat) ≤ 2048 by decide) (fun k hk => absurd hk (by simp)) (fun k hk => absurd hk (by simp)))
  have HFL : Hid (buildL 256 (List.map Ty.l []) [] [] = freshL) := Lib.hid rfl
  rw [HFL.out] at HBC
  unfold OwnW at HBC
  rw [freshL_len] at HBC
  have HA1 := Lib.hid (fun A c W (h : RdW W W.heap.size A freshL) => at33_c A freshL c 256 1 0 0 W.heap.size W freshL_len (by omega) (by omega) (by omega) (by omega) (by omega) h (Nat.le_refl _))
  rw [show putE freshL (phE 1 0 0) = rs1L from rfl] at HA1
  unfold OwnW at HA1
  rw [rs1L_len] at HA1
  simp only [Int.cast_ofNat_Int] at HA1
  have HN := Lib.hid (fun A c W (hc : 256 ≤ c) (h : RdW W W.heap.size A freshL) => rNext_c A freshL c 256 W freshL_len (by omega) hc h freshL_lt)
  unfold NxRes at HN
  rw [rsNxC_ok rs0_nx] at HN
  have hall : ∃ o, rsAll rs1L = (0, o, freshL) ∧ o.length = 5 := by
    have h := rs1_all
    cases hr : rsAllC 20 10 rs1L with
    | none => rw [hr] at h; cases h
    | some r =>
      rw [hr] at h
      simp only [Option.map_some, Option.some.injEq, Prod.mk.injEq] at h
      obtain ⟨h1, h2, h3⟩ := h
      exact ⟨r.2.1, by rw [rsAllC_ok rs1L_lt hr, ← h3, ← h1], h2⟩
  obtain ⟨o, hall, ho5⟩ := hall
  have HR := Lib.hid (fun A c W (hc : 256 ≤ c) (h : RdW W W.heap.size A rs1L) => rAll_c A rs1L c 256 W rs1L_len (by omega) hc h rs1L_lt)
  unfold RaRes at HR
  rw [hall, rs1L_len] at HR
  dsimp only at HN HR
  have HL5 : Hid (∀ L : List Ch, L.map Ch.l = o → L.length = 5) := Lib.hid fun L h => by rw [← ho5, ← h, List.length_map]
  have HSW := Lib.hid (fun A c B d W (h1 : RdW W W.heap.size A freshL) (h2 : RdW W W.heap.size B freshL) => sameWords_c A B freshL freshL 256 256 c d W.heap.size W freshL_len freshL_len (by omega) h1 h2 (Nat.le_refl _))
  rw [show decide (freshL = freshL) = true by simp] at HSW
  generalize freshL = F at HBC HA1 HN HR HSW
  generalize rs1L = M1 at HA1 HR
  clear HFL hall ho5
  go_enter Try.func10, Try.ntmps10
  go_wp2_with fail
  refine (HBC.out _).mono ?_
  rintro e w1 ⟨g1, c1, rfl, hown1, hB1⟩
  have HB1 := Lib.hid hB1
  have HF1 := Lib.hid (Rd.of_own hown1)
  have hc1 := own_capR hown1
  clear hown1 hB1
  go_wp2_with fail
  refine (HN.out _ _ _ hc1 HF1.out).mono ?_
  rintro e w2 ⟨⟨A2, c2, rfl, -⟩, hB2⟩
  have HB2 := Lib.hid (HB1.out.trans (hB2.mono HB1.out.size))
  have HF2 := Lib.hid (HF1.out.up hB2 hB2.size)
  clear hB2
  go_wp2_with fail
  refine (HA1.out _ _ _ HF2.out).mono ?_
  rintro e w3 ⟨g3, c3, rfl, hown3, hB3⟩
  have HB3 := Lib.hid (HB2.out.trans (hB3.mono HB2.out.size))
  have HF3 := Lib.hid (HF2.out.up hB3 hB3.size)
  have HM3 := Lib.hid (Rd.of_own hown3)
  have hc3 := own_capR hown3
  clear hown3 hB3
  go_wp2_with fail
  refine (HR.out _ _ _ hc3 HM3.out).mono ?_
  rintro e w4 ⟨⟨L, B4, d4, vx, rfl, hL, -, hx, -⟩, hB4⟩
  obtain ⟨g4, c4, rfl, -, hx4⟩ := hx trivial
  have hl := HL5.out L hL
  have HB4 := Lib.hid (HB3.out.trans (hB4.mono HB3.out.size))
  have HF4 := Lib.hid (HF3.out.up hB4 hB4.size)
  have HX4 := Lib.hid (Rd.of_own hx4)
  clear hx hx4 hB4 hL
  rw [hl]
  clear hl
  go_wp2_with fail
  refine (HSW.out _ _ _ _ _ HX4.out HF4.out).mono ?_
  rintro e w5 ⟨rfl, hB5⟩
  have HB5 := Lib.hid (HB4.out.trans (hB5.mono HB4.out.size))
  clear hB5
  go_wp2_with fail
  go_ret
  exact ⟨rfl, HB5.out⟩
end Go.Proofs.Ytpfbppjjegialaa
