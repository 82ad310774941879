/- The chapter's example of layer 30: in a new heap no object is next, and none is left. -/
import Derived.Test.YtpifagclhhaniaaKCursor
import Derived.Test.YtpifagclhhaniaaNxt
import Derived.Test.YtpifagclhhaniaaKImage
namespace Go.Proofs.Ytpifagclhhaniaa
open Go.RowKit

theorem own_cap {w : World} {H n c : Nat} {e : TypeId} {sz : Nat} {A : Option Addr} {xs : List Value} (h : w.ownsRow H e sz (.slice A n c) n xs) : n ≤ c := by
  obtain ⟨A', c', hv, hle, -⟩ := slice_of h
  cases hv; exact hle
def freshL : List Nat := buildL 256 [] [] []
theorem freshL_len : freshL.length = 256 := by decide +kernel
theorem freshL_lt : ∀ x ∈ freshL, x < 18446744073709551616 := by decide +kernel
theorem fresh_ln : lnErr freshL = 0 := by decide +kernel
theorem fresh_lv : wd freshL 16 = 0 ∧ wd freshL 17 = 0 ∧ wd freshL 18 = 0 := by decide +kernel
theorem fresh_nx : nxtErr freshL 128 = 6 ∧ nxtB freshL 128 = noBk := by decide +kernel
theorem fresh_ck : ckErr freshL = 0 := by decide +kernel
theorem fresh_lf : lfN freshL = 0 := by decide +kernel

set_option maxRecDepth 100000 in
set_option maxHeartbeats 2000000 in
theorem fresh30_c (w : World) : Calls Try.prog 61 #[] w fun e w' => OwnW w freshL e w' := by
  have HC := Lib.hid (build_c none none none [] [] [] 0 0 0 256 w.heap.size w (by omega) (by omega) RdT.nil_ (show (0 : Nat) ≤ 8 by decide) Rd.nil_ Rd.nil_ (show (0 : Nat) ≤ 16 by decide) (Nat.le_refl _) (show (0 : Nat) ≤ 2048 by decide) (fun k hk => absurd hk (by simp)) (fun k hk => absurd hk (by simp)))
  have HL : Hid (buildL 256 (List.map Ty.l []) [] [] = freshL) := Lib.hid rfl
  rw [HL.out] at HC
  have hlen := freshL_len
  unfold OwnW at HC ⊢
  rw [hlen] at HC ⊢
  generalize freshL = L at HC ⊢
  clear hlen HL
  go_enter Try.func61, Try.ntmps61
  go_wp2_with fail
  refine HC.out.mono ?_
  rintro e w1 ⟨g, c, rfl, hown, hB⟩
  go_wp2_with fail
  go_ret
  exact ⟨g, c, rfl, hown, hB⟩

set_option maxRecDepth 100000 in
set_option maxHeartbeats 4000000 in
theorem alive30_c (w : World) : Calls Try.prog 27 #[] w fun e w' => e = .returned (.bool true) ∧ Below w.heap.size w w' := by
  have HC := Lib.hid (fun W => fresh30_c W)
  unfold OwnW at HC
  rw [freshL_len] at HC
  have hlv : lnV freshL = phV 0 0 0 := by
    obtain ⟨h1, h2, h3⟩ := fresh_lv
    simp [lnV, fresh_ln, h1, h2, h3]
  have HLN := Lib.hid (fun A c W (hc : 256 ≤ c) (h : RdW W W.heap.size A freshL) => line_c A freshL c 256 W freshL_len (by omega) hc h freshL_lt)
  rw [hlv, fresh_ln] at HLN
  have HNX := Lib.hid (fun A c W (h : RdW W W.heap.size A freshL) => next_c A freshL c 256 128 W freshL_len (by omega) (by omega) h freshL_lt)
  rw [fresh_nx.1, fresh_nx.2] at HNX
  have HLF := Lib.hid (fun A c W (hc : 256 ≤ c) (h : RdW W W.heap.size A freshL) => cLeft_c A freshL c 256 W freshL_len (by omega) hc h freshL_lt)
  rw [fresh_lf, fresh_ck] at HLF
  unfold phV at HLN
  unfold noBk Bk.val at HNX
  simp only [Int.cast_ofNat_Int] at HLN HNX HLF
  clear hlv
  generalize freshL = L at HC HLN HNX HLF
  go_enter Try.func27, Try.ntmps27
  go_wp2_with fail
  refine (HC.out _).mono ?_
  rintro e w1 ⟨g1, c1, rfl, hown1, hB1⟩
  have hc1 := own_cap hown1
  have HR1 := Lib.hid (Rd.of_own hown1)
  clear hown1
  go_wp2_with fail
  refine (HLN.out _ _ _ hc1 HR1.out).mono ?_
  rintro e w2 ⟨rfl, hB2⟩
  have hb2 := hB1.trans (hB2.mono hB1.size)
  have bx2 := Bx.new w2 61 #[.int .i64 0, .int .i64 0, .int .i64 0]
  have hbb2 := hb2.alloc hb2.size (.cells #[.int .i64 0, .int .i64 0, .int .i64 0] 61)
  have BX2 := Lib.hid bx2
  have HB2 := Lib.hid hbb2
  clear hB1 hB2 hb2 bx2 hbb2
  go_wp2_with fail
  obtain ⟨W2, hW2⟩ : ∃ W2, w2.alloc (.cells #[.int .i64 0, .int .i64 0, .int .i64 0] 61) = W2 := ⟨_, rfl⟩
  rw [hW2] at BX2 HB2 ⊢
  clear hW2
  refine (HC.out _).mono ?_
  rintro e w3 ⟨g3, c3, rfl, hown3, hB3⟩
  have HR3 := Lib.hid (Rd.of_own hown3)
  have HB3 := Lib.hid (HB2.out.trans (hB3.mono HB2.out.size))
  have BX3 := Lib.hid (BX2.out.up hB3 BX2.out.lt)
  clear hown3 hB3
  go_wp2_with fail
  refine (HNX.out _ _ _ HR3.out).mono ?_
  rintro e w4 ⟨rfl, hB4⟩
  have HB4 := Lib.hid (HB3.out.trans (hB4.mono HB3.out.size))
  have BX4 := Lib.hid (BX3.out.up hB4 BX3.out.lt)
  have BX4a := Lib.hid (BX4.out.alloc (.cells #[.int .i64 0, .int .i64 0, .int .i64 0, .int .i64 0, .bool false, .int .u64 0] 47))
  have HB4a := Lib.hid (HB4.out.alloc HB4.out.size (.cells #[.int .i64 0, .int .i64 0, .int .i64 0, .int .i64 0, .bool false, .int .u64 0] 47))
  clear hB4
  go_wp2_with fail
  obtain ⟨W4, hW4⟩ : ∃ W4, w4.alloc (.cells #[.int .i64 0, .int .i64 0, .int .i64 0, .int .i64 0, .bool false, .int .u64 0] 47) = W4 := ⟨_, rfl⟩
  rw [hW4] at BX4a HB4a ⊢
  clear hW4
  refine (HC.out _).mono ?_
  rintro e w5 ⟨g5, c5, rfl, hown5, hB5⟩
  have hc5 := own_cap hown5
  have HR5 := Lib.hid (Rd.of_own hown5)
  have HB5 := Lib.hid (HB4a.out.trans (hB5.mono HB4a.out.size))
  have BX5 := Lib.hid (BX4a.out.up hB5 BX4a.out.lt)
  clear hown5 hB5
  go_wp2_with fail
  refine (HLF.out _ _ _ hc5 HR5.out).mono ?_
  rintro e w6 ⟨rfl, hB6⟩
  have HB6 := Lib.hid (HB5.out.trans (hB6.mono HB5.out.size))
  have bx6 := BX5.out.up hB6 BX5.out.lt
  obtain ⟨p0, p1, p2, -⟩ := bx6.c3
  clear hB6 bx6
  go_wp2_with fail
  go_ret
  exact ⟨rfl, HB6.out⟩
end Go.Proofs.Ytpifagclhhaniaa
