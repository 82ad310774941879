/- The chapter's example of layer 31. -/
import Derived.Test.YtpmfiibndiecpaaStgA
import Derived.Test.YtpmfiibndiecpaaEnt11
import Derived.Test.YtpmfiibndiecpaaAl25P
import Derived.Test.YtpmfiibndiecpaaSameW
import Derived.Test.YtpmfiibndiecpaaKMove
namespace Go.Proofs.Ytpmfiibndiecpaa
open Go.RowKit

def mk1L : List Nat := putE freshL (phE 1 0 0)
def mk2L : List Nat := putE freshL (phE 2 0 0)
def mk4L : List Nat := putE freshL (phE 4 128 128)
theorem mk1L_len : mk1L.length = 256 := by unfold mk1L; rw [putE_len, freshL_len]
theorem mk2L_len : mk2L.length = 256 := by unfold mk2L; rw [putE_len, freshL_len]
theorem mk4L_len : mk4L.length = 256 := by unfold mk4L; rw [putE_len, freshL_len]
theorem mk1L_lt : ∀ x ∈ mk1L, x < 18446744073709551616 := by decide +kernel
theorem mk4L_lt : ∀ x ∈ mk4L, x < 18446744073709551616 := by decide +kernel
theorem mk1_ck : ckErr mk1L = 0 ∧ wd mk1L 16 = 1 := by decide +kernel
theorem mk4_ck : ckErr mk4L = 0 ∧ wd mk4L 16 = 4 ∧ nxtErr mk4L ((wd mk4L 17 : Nat) : Int) ≠ 0 := by decide +kernel
theorem mk1_hp : hpErr mk1L = 0 := by decide +kernel
theorem mk1_sl : slsOk mk1L = true := by decide +kernel
theorem mk1_us : ∀ i, i < 16 → (slAt mk1L i).used = true → (slAt mk1L i).at_.toNat ∈ ([] : List Nat) := by decide +kernel
theorem mk1_kd : ∀ b ∈ hpOut mk1L, b.kind ≠ 1 := by decide +kernel
theorem mk1_rc : rcErr mk1L = 0 ∧ rcOut mk1L = [] := rc_of [] mk1_hp mk1_sl (fun a h => absurd h (by simp)) mk1_us (fun a h => absurd h (by simp)) (fun a h => absurd h (by simp)) List.Pairwise.nil
theorem mk1_wt : wtOut mk1L = [] := wtOut_none mk1_rc.1 mk1_kd
theorem mk1_put : putE mk1L [⟨16, 2⟩] = mk2L ∧ wd mk2L 16 = 2 := by decide +kernel
theorem mk1_all : sgAll mk1L = (0, [[⟨16, 2⟩]], mk2L) := by
  have h1 : sgOne mk1L = (0, [⟨16, 2⟩]) := by
    unfold sgOne
    rw [if_pos mk1_ck.1, if_pos mk1_ck.2, if_pos mk1_rc.1, mk1_wt]
    rfl
  unfold sgAll
  rw [if_pos mk1_ck.1, mk1_ck.2, allE_step mk1L_lt mk1_ck.2 (by rw [h1]), h1]
  dsimp only
  rw [mk1_put.1, allE_other (by rw [mk1_put.2]; decide)]
  simp only [if_true]
theorem mk4_all : sgAll mk4L = (0, [], mk4L) := by
  unfold sgAll
  rw [if_pos mk4_ck.1, mk4_ck.2.1]
  refine allE_none mk4_ck.2.1 ?_
  unfold sgOne
  rw [if_pos mk4_ck.1, if_neg (by rw [mk4_ck.2.1]; decide), if_neg (by rw [mk4_ck.2.1]; decide), if_neg (by rw [mk4_ck.2.1]; decide), if_pos mk4_ck.2.1]
  unfold sgSld
  rw [if_neg mk4_ck.2.2]

set_option maxRecDepth 100000 in
set_option maxHeartbeats 2000000 in
theorem at31_c (A : Option Addr) (ws : List Nat) (c n p f t H : Nat) (w : World) (hn : ws.length = n) (h0 : 0 < n) (hm : n ≤ 1000000) (hp : p ≤ 4611686018427387904) (hf : f ≤ 4611686018427387904) (ht : t ≤ 4611686018427387904) (hr : RdW w H A ws) (hH : H ≤ w.heap.size) :
    Calls Try.prog 52 #[.slice A n c, .int .i64 (p : Int), .int .i64 (f : Int), .int .i64 (t : Int)] w fun e w' => OwnW w (putE ws (phE p f t)) e w' := by
  have HR := Lib.hid (hr.more hH)
  have HE := Lib.hid (fun W => ent11_c p f t W hp hf ht)
  have HPT := Lib.hid (fun B d W (h : RdW W W.heap.size A ws) (h2 : RdE W W.heap.size B (phE p f t)) => put25_c A B ws (phE p f t) c d n 3 W.heap.size W hn rfl h0 hm (by omega) h h2 (Nat.le_refl _))
  unfold OwnW at HPT ⊢
  unfold phV at HE
  clear hr hH hn h0 hm hp hf ht
  go_enter Try.func52, Try.ntmps52
  go_wp2_with fail
  refine (HE.out _).mono ?_
  rintro e w1 ⟨⟨g, rfl, hre⟩, hB1⟩
  have HRE := Lib.hid hre
  have HB1 := Lib.hid hB1
  have HR1 := Lib.hid (HR.out.up hB1 hB1.size)
  clear hre hB1
  go_wp2_with fail
  refine (HPT.out _ _ _ HR1.out HRE.out).mono ?_
  rintro e w2 ⟨g2, c2, rfl, hown, hB2⟩
  go_wp2_with fail
  go_ret
  exact ⟨g2, c2, rfl, own_mono hown HB1.out.size, HB1.out.trans (hB2.mono HB1.out.size)⟩
theorem map_one {L : List Ch} {E : List En} (h : L.map Ch.l = [E]) : ∃ x, L = [x] ∧ x.l = E := by
  match L, h with
  | [x], h => exact ⟨x, rfl, by simpa using h⟩

set_option maxRecDepth 100000 in
set_option maxHeartbeats 8000000 in
theorem alive31_c (w : World) : Calls Try.prog 56 #[] w fun e w' => e = .returned (.bool true) ∧ Below w.heap.size w w' := by
  have HBC := Lib.hid (fun W => build_c none none none [] [] [] 0 0 0 256 W.heap.size W (by omega) (by omega) RdT.nil_ (show (0 : Nat) ≤ 8 by decide) Rd.nil_ Rd.nil_ (show (0 : Nat) ≤ 16 by decide) (Nat.le_refl _) (show (0 : Nat) ≤ 2048 by decide) (fun k hk => absurd hk (by simp)) (fun k hk => absurd hk (by simp)))
  have HFL : Hid (buildL 256 (List.map Ty.l []) [] [] = freshL) := Lib.hid rfl
  rw [HFL.out] at HBC
  unfold OwnW at HBC
  rw [freshL_len] at HBC
  have HA1 := Lib.hid (fun A c W (h : RdW W W.heap.size A freshL) => at31_c A freshL c 256 1 0 0 W.heap.size W freshL_len (by omega) (by omega) (by omega) (by omega) (by omega) h (Nat.le_refl _))
  have HA2 := Lib.hid (fun A c W (h : RdW W W.heap.size A freshL) => at31_c A freshL c 256 2 0 0 W.heap.size W freshL_len (by omega) (by omega) (by omega) (by omega) (by omega) h (Nat.le_refl _))
  have HA4 := Lib.hid (fun A c W (h : RdW W W.heap.size A freshL) => at31_c A freshL c 256 4 128 128 W.heap.size W freshL_len (by omega) (by omega) (by omega) (by omega) (by omega) h (Nat.le_refl _))
  rw [show putE freshL (phE 1 0 0) = mk1L from rfl] at HA1
  rw [show putE freshL (phE 2 0 0) = mk2L from rfl] at HA2
  rw [show putE freshL (phE 4 128 128) = mk4L from rfl] at HA4
  unfold OwnW at HA1 HA2 HA4
  rw [mk1L_len] at HA1
  rw [mk2L_len] at HA2
  rw [mk4L_len] at HA4
  simp only [Int.cast_ofNat_Int] at HA1 HA2 HA4
  have HS1 := Lib.hid (fun A c W (hc : 256 ≤ c) (h : RdW W W.heap.size A mk1L) => sgAll_c A mk1L c 256 W mk1L_len (by omega) hc h mk1L_lt)
  unfold AlRes at HS1
  rw [mk1_all, mk1L_len] at HS1
  have HS4 := Lib.hid (fun A c W (hc : 256 ≤ c) (h : RdW W W.heap.size A mk4L) => sgAll_c A mk4L c 256 W mk4L_len (by omega) hc h mk4L_lt)
  unfold AlRes at HS4
  rw [mk4_all, mk4L_len] at HS4
  dsimp only at HS1 HS4
  have HSE := Lib.hid (fun A c B d W (h1 : RdE W W.heap.size A [⟨16, 2⟩]) (h2 : RdE W W.heap.size B [⟨16, 2⟩]) => sameEntries_c A B [⟨16, 2⟩] [⟨16, 2⟩] 1 1 c d W.heap.size W rfl rfl (by omega) h1 h2 (Nat.le_refl _))
  rw [show decide (([⟨16, 2⟩] : List En) = [⟨16, 2⟩]) = true from rfl] at HSE
  have HSW := Lib.hid (fun A c B d W (h1 : RdW W W.heap.size A mk2L) (h2 : RdW W W.heap.size B mk2L) => sameWords_c A B mk2L mk2L 256 256 c d W.heap.size W mk2L_len mk2L_len (by omega) h1 h2 (Nat.le_refl _))
  rw [show decide (mk2L = mk2L) = true by simp] at HSW
  generalize freshL = F at HBC HA1 HA2 HA4
  generalize mk1L = M1 at HA1 HS1
  generalize mk2L = M2 at HA2 HSW HS1
  generalize mk4L = M4 at HA4 HS4
  clear HFL
  go_enter Try.func56, Try.ntmps56
  go_wp2_with fail
  refine (HBC.out _).mono ?_
  rintro e w1 ⟨g1, c1, rfl, hown1, hB1⟩
  have HB1 := Lib.hid hB1
  have HF1 := Lib.hid (Rd.of_own hown1)
  clear hown1 hB1
  go_wp2_with fail
  refine (HA1.out _ _ _ HF1.out).mono ?_
  rintro e w2 ⟨g2, c2, rfl, hown2, hB2⟩
  have HB2 := Lib.hid (HB1.out.trans (hB2.mono HB1.out.size))
  have HF2 := Lib.hid (HF1.out.up hB2 hB2.size)
  have HM2 := Lib.hid (Rd.of_own hown2)
  have hcc2 := own_capR hown2
  clear hown2 hB2
  go_wp2_with fail
  refine (HS1.out _ _ _ hcc2 HM2.out).mono ?_
  rintro e w3 ⟨⟨L, B3, d3, vx, rfl, hL, ⟨hLo, hLe⟩, hx, -⟩, hB3⟩
  obtain ⟨y, rfl, hy⟩ := map_one hL
  obtain ⟨g3, c3, rfl, -, hx3⟩ := hx trivial
  have HB3 := Lib.hid (HB2.out.trans (hB3.mono HB2.out.size))
  have HF3 := Lib.hid (HF2.out.up hB3 hB3.size)
  have HX3 := Lib.hid (Rd.of_own hx3)
  have HE3 := Lib.hid (hLe y (by simp))
  have HO3 := Lib.hid hLo
  obtain ⟨yA, yc, yl⟩ := y
  dsimp only at hy HE3 HO3
  subst hy
  clear hLo hLe hx hx3 hB3 hL
  simp only [List.length_cons, List.length_nil] at HO3 HE3 ⊢
  go_wp2_with fail
  refine (HA4.out _ _ _ HF3.out).mono ?_
  rintro e w4 ⟨g4, c4, rfl, hown4, hB4⟩
  have HB4 := Lib.hid (HB3.out.trans (hB4.mono HB3.out.size))
  have HF4 := Lib.hid (HF3.out.up hB4 hB4.size)
  have HX4 := Lib.hid (HX3.out.up hB4 hB4.size)
  have HE4 := Lib.hid (own_below HE3.out hB4 (Nat.le_refl _))
  have HO4 := Lib.hid (own_below HO3.out hB4 (Nat.le_refl _))
  have HM4 := Lib.hid (Rd.of_own hown4)
  have hcc4 := own_capR hown4
  clear hown4 hB4
  go_wp2_with fail
  refine (HS4.out _ _ _ hcc4 HM4.out).mono ?_
  rintro e w5 ⟨⟨L5, B5, d5, vx5, rfl, hL5, -, hx5, -⟩, hB5⟩
  obtain ⟨g5, c5, rfl, -, -⟩ := hx5 trivial
  have hl5 : L5.length = 0 := by have := congrArg List.length hL5; simpa using this
  have HB5 := Lib.hid (HB4.out.trans (hB5.mono HB4.out.size))
  have HF5 := Lib.hid (HF4.out.up hB5 hB5.size)
  have HX5 := Lib.hid (HX4.out.up hB5 hB5.size)
  have HE5 := Lib.hid (own_below HE4.out hB5 (Nat.le_refl _))
  have HO5 := Lib.hid (own_below HO4.out hB5 (Nat.le_refl _))
  clear hx5 hB5 hL5
  rw [hl5]
  clear hl5
  obtain ⟨bO, oO, rfl, hbO, r0⟩ := RdC.at_ (show RdC w5 w5.heap.size B3 [⟨yA, yc, [⟨16, 2⟩]⟩] from Rd.of_own HO5.out) (show 0 < 1 by omega)
  simp only [List.getElem_cons_zero, Nat.add_zero, List.length_cons, List.length_nil] at r0
  go_wp2_with fail
  have xb := Bx.new w5 54 #[.int .i64 16, .int .u64 2]
  have HEx := Lib.hid (show RdE _ _ _ _ from ((Rd.of_own HE5.out).alloc (Nat.le_refl _) (.cells #[.int .i64 16, .int .u64 2] 54)).more (B' := (w5.alloc (.cells #[.int .i64 16, .int .u64 2] 54)).heap.size) (by simp))
  have HFx := Lib.hid ((HF5.out.alloc (Nat.le_refl _) (.cells #[.int .i64 16, .int .u64 2] 54)).more (show w5.heap.size ≤ (w5.alloc (.cells #[.int .i64 16, .int .u64 2] 54)).heap.size by simp))
  have HXx := Lib.hid ((HX5.out.alloc (Nat.le_refl _) (.cells #[.int .i64 16, .int .u64 2] 54)).more (show w5.heap.size ≤ (w5.alloc (.cells #[.int .i64 16, .int .u64 2] 54)).heap.size by simp))
  have HBx := Lib.hid (HB5.out.alloc HB5.out.size (.cells #[.int .i64 16, .int .u64 2] 54))
  refine (HSE.out _ _ _ _ _ HEx.out (show Rd _ _ _ _ from Rd.of_bx xb xb.lt)).mono ?_
  rintro e w6 ⟨rfl, hB6⟩
  have HB6 := Lib.hid (HBx.out.trans (hB6.mono HBx.out.size))
  have HF6 := Lib.hid (HFx.out.up hB6 hB6.size)
  have HX6 := Lib.hid (HXx.out.up hB6 hB6.size)
  clear hB6 xb r0
  go_wp2_with fail
  refine (HA2.out _ _ _ HF6.out).mono ?_
  rintro e w7 ⟨g7, c7, rfl, hown7, hB7⟩
  have HB7 := Lib.hid (HB6.out.trans (hB7.mono HB6.out.size))
  have HX7 := Lib.hid (HX6.out.up hB7 hB7.size)
  have HM7 := Lib.hid (Rd.of_own hown7)
  clear hown7 hB7
  go_wp2_with fail
  refine (HSW.out _ _ _ _ _ HX7.out HM7.out).mono ?_
  rintro e w8 ⟨rfl, hB8⟩
  have HB8 := Lib.hid (HB7.out.trans (hB8.mono HB7.out.size))
  go_wp2_with fail
  go_ret
  exact ⟨rfl, HB8.out⟩
end Go.Proofs.Ytpmfiibndiecpaa
