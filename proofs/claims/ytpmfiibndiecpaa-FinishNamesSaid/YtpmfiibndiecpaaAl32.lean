/- The chapter's example of layer 32: the last change of a new heap that slides. -/
import Derived.Test.YtpmfiibndiecpaaFin
import Derived.Test.YtpmfiibndiecpaaEnt11
import Derived.Test.YtpmfiibndiecpaaFrsh
import Derived.Test.YtpmfiibndiecpaaKMove
namespace Go.Proofs.Ytpmfiibndiecpaa
open Go.RowKit

set_option maxRecDepth 100000 in
set_option maxHeartbeats 2000000 in
theorem at32_c (A : Option Addr) (ws : List Nat) (c n p f t H : Nat) (w : World) (hn : ws.length = n) (h0 : 0 < n) (hm : n ≤ 1000000) (hp : p ≤ 4611686018427387904) (hf : f ≤ 4611686018427387904) (ht : t ≤ 4611686018427387904) (hr : RdW w H A ws) (hH : H ≤ w.heap.size) :
    Calls Try.prog 47 #[.slice A n c, .int .i64 (p : Int), .int .i64 (f : Int), .int .i64 (t : Int)] w fun e w' => OwnW w (putE ws (phE p f t)) e w' := by
  have HR := Lib.hid (hr.more hH)
  have HE := Lib.hid (fun W => ent11_c p f t W hp hf ht)
  have HPT := Lib.hid (fun B d W (h : RdW W W.heap.size A ws) (h2 : RdE W W.heap.size B (phE p f t)) => put25_c A B ws (phE p f t) c d n 3 W.heap.size W hn rfl h0 hm (by omega) h h2 (Nat.le_refl _))
  unfold OwnW at HPT ⊢
  unfold phV at HE
  clear hr hH hn h0 hm hp hf ht
  go_enter Try.func47, Try.ntmps47
  go_wp2_with fail
  refine (HE.out _).mono ?_
  rintro e w1 ⟨⟨g, rfl, hre⟩, hB1⟩
  have HRE := Lib.hid hre
  have HB1 := Lib.hid hB1
  have HR1 := Lib.hid (HR.out.up hB1 hB1.size)
  clear hre hB1
  go_wp2_with fail
  refine (HPT.out _ _ _ HR1.out HRE.out).mono ?_
  rintro e w2 ⟨g2, c2, rfl, hown, hB2⟩
  go_wp2_with fail
  go_ret
  exact ⟨g2, c2, rfl, own_mono hown HB1.out.size, HB1.out.trans (hB2.mono HB1.out.size)⟩

def finL : List Nat := putE freshL (phE 4 128 128)
theorem finL_len : finL.length = 256 := by unfold finL; rw [putE_len, freshL_len]
theorem finL_lt : ∀ x ∈ finL, x < 18446744073709551616 := by decide +kernel
theorem fin_en : enErr finL = 0 := by decide +kernel
theorem fin_fr : frN finL = 128 := by decide +kernel
def finE : List En := chOut finL
theorem finE_len : finE.length = 5 := by decide +kernel
theorem finE_0 : finE[0]? = some ⟨16, 0⟩ ∧ finE[2]? = some ⟨18, 0⟩ ∧ finE[3]?.map En.a = some 128 ∧ finE[4]? = some ⟨129, 0⟩ := by decide +kernel
set_option maxRecDepth 100000 in
set_option maxHeartbeats 2000000 in
theorem fresh32_c (w : World) : Calls Try.prog 93 #[] w fun e w' => OwnW w finL e w' := by
  have HC := Lib.hid (build_c none none none [] [] [] 0 0 0 256 w.heap.size w (by omega) (by omega) RdT.nil_ (show (0 : Nat) ≤ 8 by decide) Rd.nil_ Rd.nil_ (show (0 : Nat) ≤ 16 by decide) (Nat.le_refl _) (show (0 : Nat) ≤ 2048 by decide) (fun k hk => absurd hk (by simp)) (fun k hk => absurd hk (by simp)))
  have HL : Hid (buildL 256 (List.map Ty.l []) [] [] = freshL) := Lib.hid rfl
  rw [HL.out] at HC
  have HAT := Lib.hid (fun A c W (h : RdW W W.heap.size A freshL) => at32_c A freshL c 256 4 128 128 W.heap.size W freshL_len (by omega) (by omega) (by omega) (by omega) (by omega) h (Nat.le_refl _))
  have hlen := freshL_len
  have hlen2 := finL_len
  have hfin : putE freshL (phE 4 128 128) = finL := rfl
  rw [hfin] at HAT
  unfold OwnW at HC HAT ⊢
  rw [hlen] at HC
  rw [hlen2] at HAT ⊢
  simp only [Int.cast_ofNat_Int] at HAT
  clear hfin hlen hlen2
  generalize freshL = L at HC HAT
  generalize finL = L2 at HAT ⊢
  clear HL
  go_enter Try.func93, Try.ntmps93
  go_wp2_with fail
  refine HC.out.mono ?_
  rintro e w1 ⟨g, c, rfl, hown, hB⟩
  have HR1 := Lib.hid (Rd.of_own hown)
  have HB1 := Lib.hid hB
  clear hown hB
  go_wp2_with fail
  refine (HAT.out _ _ _ HR1.out).mono ?_
  rintro e w2 ⟨g2, c2, rfl, hown, hB2⟩
  go_wp2_with fail
  go_ret
  exact ⟨g2, c2, rfl, own_mono hown HB1.out.size, HB1.out.trans (hB2.mono HB1.out.size)⟩

set_option maxRecDepth 100000 in
set_option maxHeartbeats 4000000 in
theorem alive32_c (w : World) : Calls Try.prog 50 #[] w fun e w' => e = .returned (.bool true) ∧ Below w.heap.size w w' := by
  have HC := Lib.hid (fun W => fresh32_c W)
  unfold OwnW at HC
  rw [finL_len] at HC
  have hout : chOut finL = finE := rfl
  have HCH := Lib.hid (fun A c W (hc : 256 ≤ c) (h : RdW W W.heap.size A finL) => fChange_c A finL c 256 W finL_len (by omega) hc h finL_lt)
  unfold ChRes at HCH
  rw [fin_en, hout, finE_len] at HCH
  have HFR := Lib.hid (fun A c W (hc : 256 ≤ c) (h : RdW W W.heap.size A finL) => fFree_c A finL c 256 W finL_len (by omega) hc h finL_lt)
  rw [fin_en, fin_fr] at HFR
  simp only [Int.cast_ofNat_Int] at HFR
  obtain ⟨v0, v2, v3, v4⟩ := finE_0
  clear hout
  generalize finE = E at HCH v0 v2 v3 v4
  generalize finL = L at HC HCH HFR
  obtain ⟨x3, hx3, hx3a⟩ : ∃ x, E[3]? = some x ∧ x.a = 128 := by
    cases h : E[3]? with
    | none => rw [h] at v3; cases v3
    | some x => rw [h] at v3; exact ⟨x, rfl, by simpa using v3⟩
  obtain ⟨l0, e0⟩ := List.getElem?_eq_some_iff.1 v0
  obtain ⟨l2, e2⟩ := List.getElem?_eq_some_iff.1 v2
  obtain ⟨l3, e3⟩ := List.getElem?_eq_some_iff.1 hx3
  obtain ⟨l4, e4⟩ := List.getElem?_eq_some_iff.1 v4
  clear v0 v2 v3 v4 hx3
  go_enter Try.func50, Try.ntmps50
  go_wp2_with fail
  refine (HC.out _).mono ?_
  rintro e w1 ⟨g1, c1, rfl, hown1, hB1⟩
  have hc1 := own_cap hown1
  have HR1 := Lib.hid (Rd.of_own hown1)
  clear hown1
  go_wp2_with fail
  refine (HCH.out _ _ _ hc1 HR1.out).mono ?_
  rintro e w2 ⟨⟨A2, c2, rfl, hrd2, -⟩, hB2⟩
  have HB2 := Lib.hid (hB1.trans (hB2.mono hB1.size))
  have HE2 := Lib.hid hrd2
  clear hB1 hB2 hrd2
  go_wp2_with fail
  refine (HC.out _).mono ?_
  rintro e w3 ⟨g3, c3, rfl, hown3, hB3⟩
  have hc3 := own_cap hown3
  have HR3 := Lib.hid (Rd.of_own hown3)
  have HE3 := Lib.hid (HE2.out.up hB3 hB3.size)
  have HB3 := Lib.hid (HB2.out.trans (hB3.mono HB2.out.size))
  clear hown3 hB3
  go_wp2_with fail
  refine (HFR.out _ _ _ hc3 HR3.out).mono ?_
  rintro e w4 ⟨rfl, hB4⟩
  have hE4 := HE3.out.up hB4 hB4.size
  have HB4 := Lib.hid (HB3.out.trans (hB4.mono HB3.out.size))
  obtain ⟨b, off, rfl, hb, p0, -⟩ := RdE.at_ hE4 l0
  obtain ⟨b', off', hA, -, p2, -⟩ := RdE.at_ hE4 l2
  cases hA
  obtain ⟨b', off', hA, -, p3, -⟩ := RdE.at_ hE4 l3
  cases hA
  obtain ⟨b', off', hA, -, p4, p4'⟩ := RdE.at_ hE4 l4
  cases hA
  rw [e0] at p0
  rw [e2] at p2
  rw [e3, hx3a] at p3
  rw [e4] at p4 p4'
  dsimp only at p0 p2 p4 p4'
  simp only [Nat.zero_mul, Nat.add_zero, Nat.reduceMul, Int.cast_ofNat_Int] at p0 p2 p3 p4 p4'
  clear hB4 hE4 e0 e2 e3 e4 l0 l2 l3 l4 hx3a
  go_wp2_with fail
  go_ret
  exact ⟨rfl, HB4.out⟩
end Go.Proofs.Ytpmfiibndiecpaa
