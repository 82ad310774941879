/- The chapter's examples of layer 25. -/
import Derived.Test.YtpmfiibndiecpaaAl25P
import Derived.Test.YtpmfiibndiecpaaKWnt
namespace Go.Proofs.Ytpmfiibndiecpaa
open Go.RowKit

set_option maxRecDepth 100000 in
set_option maxHeartbeats 2000000 in
theorem reaches_c (A B : Option Addr) (ws : List Nat) (l : List Int) (c n m d : Nat) (w : World) (hn : ws.length = n) (hlm : l.length = m) (hm : n ≤ 9223372036854775807) (h1 : rcErr ws = 0) (h2 : rcOut ws = l) (hm2 : m ≤ 1000000) (hr : RdW w w.heap.size A ws) (hl : RdI w w.heap.size B l) (ho : ∀ x ∈ ws, x < 18446744073709551616) :
    Calls Try.prog 37 #[.slice A n c, .slice B m d] w fun e w' => e = .returned (.bool true) ∧ Below w.heap.size w w' := by
  have HC := Lib.hid (mReached_c A ws c n w hn hm hr ho)
  unfold RcdRes at HC
  rw [h1, h2] at HC
  have HS := Lib.hid (fun A1 c1 W (h : RdI W W.heap.size A1 l) (h2 : RdI W W.heap.size B l) => sameInts_c A1 B l l l.length m c1 d W.heap.size W rfl hlm (by omega) h h2 (Nat.le_refl _))
  rw [show decide (l = l) = true by simp] at HS
  have HL := Lib.hid hl
  clear hr hl ho h1 h2 hn hlm
  go_enter Try.func37, Try.ntmps37
  go_wp2_with fail
  refine HC.out.mono ?_
  rintro e w1 ⟨⟨A1, c1, rfl, hrd, -⟩, hB1⟩
  have HRD := Lib.hid hrd
  have HB1 := Lib.hid hB1
  have HL1 := Lib.hid (HL.out.up hB1 hB1.size)
  clear hrd hB1
  go_wp2_with fail
  refine (HS.out A1 c1 w1 HRD.out (show RdI _ _ _ _ from HL1.out)).mono ?_
  rintro e w2 ⟨rfl, hB2⟩
  have HB2 := Lib.hid (HB1.out.trans (hB2.mono HB1.out.size))
  go_wp2_with fail
  go_ret
  exact ⟨rfl, HB2.out⟩

set_option maxRecDepth 100000 in
set_option maxHeartbeats 4000000 in
theorem alive25_c (w : World) : Calls Try.prog 36 #[] w fun e w' => e = .returned (.bool true) ∧ Below w.heap.size w w' := by
  have HPC := Lib.hid (fun W => pair_c W)
  unfold OwnW at HPC
  rw [pairL_len] at HPC
  have HBC := Lib.hid (fun W => build_c none none none [] [] [] 0 0 0 256 W.heap.size W (by omega) (by omega) RdT.nil_ (show (0 : Nat) ≤ 8 by decide) Rd.nil_ Rd.nil_ (show (0 : Nat) ≤ 16 by decide) (Nat.le_refl _) (show (0 : Nat) ≤ 2048 by decide) (fun k hk => absurd hk (by simp)) (fun k hk => absurd hk (by simp)))
  have HFL : Hid (buildL 256 (List.map Ty.l []) [] [] = freshL) := Lib.hid rfl
  rw [HFL.out] at HBC
  unfold OwnW at HBC
  rw [freshL_len] at HBC
  have HWN := Lib.hid (fun A c W (h : RdW W W.heap.size A freshL) => mWanted_c A freshL c 256 W freshL_len (by omega) h freshL_lt)
  unfold WtRes at HWN
  rw [fresh_rc.1, fresh_wt] at HWN
  have HR1 := Lib.hid (fun A c W (h : RdW W W.heap.size A freshL) => reaches_c A none freshL [] c 256 0 0 W freshL_len rfl (by omega) fresh_rc.1 fresh_rc.2 (by omega) h Rd.nil_ freshL_lt)
  have HR2 := Lib.hid (fun A B c d W (h : RdW W W.heap.size A pairL) (h2 : RdI W W.heap.size B [132]) => reaches_c A B pairL [132] c 256 1 d W pairL_len rfl (by omega) pair_rc.1 pair_rc.2 (by omega) h h2 pairL_lt)
  have HR3 := Lib.hid (fun A c W (h : RdW W W.heap.size A noneL) => reaches_c A none noneL [] c 256 0 0 W noneL_len rfl (by omega) none_rc.1 none_rc.2 (by omega) h Rd.nil_ noneL_lt)
  have HNL : Hid (noneL = pairL.set 112 0) := Lib.hid rfl
  have hpl := pairL_len
  generalize freshL = F at HBC HWN HR1
  generalize noneL = N at HR3 HNL
  generalize pairL = P at HPC HR2 HNL hpl
  have HPL := Lib.hid hpl
  clear HFL
  obtain ⟨i0, hi, hz0, hz1, hz2⟩ := info_parts infoWord
  have HI := Lib.hid hi
  have HZ0 := Lib.hid hz0
  have HZ1 := Lib.hid hz1
  have HZ2 := Lib.hid hz2
  clear hi hz0 hz1 hz2
  go_enter Try.func36, Try.ntmps36
  go_wp2_with fail
  refine (HPC.out _).mono ?_
  rintro e w1 ⟨g1, c1, rfl, hown1, hB1⟩
  have HR := Lib.hid (Rd.of_own hown1)
  have HB1 := Lib.hid hB1
  clear hown1 hB1
  go_wp2_with ((at_builtin; refine wpList_append_rd' _ (by rfl) _ _ 37 rfl w1.heap.size 22 i0 _ 1 8 Try.underlying37 HI.out HZ0.out HZ1.out HZ2.out rfl (by decide) (.slice (some ⟨w1.heap.size, 0, none⟩) 0 0) 0 [] (by rfl) (own_empty w1 _ _ _ (Nat.le_refl _)) w1.heap.size (some ⟨g1, 0, none⟩) (256) _ (P.flatMap wordCells) (by rfl) (by rw [words_len]; omega) (Rd.alloc (HR.out) (Nat.le_refl _) _) (cells_one word_one _) (by unfold maxLen; omega) (by omega) (by simp) ?_; intro v1 wa hown1 hg1; have hBa := below_append0 ((Below.refl w1.heap.size w1).alloc (Nat.le_refl _) _) (by simp) (own_empty w1 w1.heap.size 22 1 (Nat.le_refl _)) hg1; simp only [Nat.zero_add, List.nil_append] at hown1; obtain ⟨ga, ca, rfl⟩ := own_some hown1 (by omega); have HOWN := Lib.hid hown1; have HBA := Lib.hid hBa; clear hown1 hBa hg1); have c0 := (HOWN.out.cellAt 112 (by omega)).trans (words_get P 112 (by rw [HPL.out]; omega)); have f0 := HOWN.out.frozenAt 112)
  have hgt := own_base HOWN.out
  have hs := (HOWN.out.stored 112 (.int .u64 ((0 : Nat) : Int))).1
  rw [← words_set, ← HNL.out] at hs
  have HSN := Lib.hid hs
  have HBN := Lib.hid ((HB1.out.trans (HBA.out.mono HB1.out.size)).setCell (p := ⟨ga, 112, none⟩) (Nat.le_trans HB1.out.size hgt) (.int .u64 ((0 : Nat) : Int)))
  have HRN := Lib.hid (Rd.set_ (HR.out.below HBA.out) (p := ⟨ga, 112, none⟩) hgt (.int .u64 ((0 : Nat) : Int)))
  have hsz : w1.heap.size ≤ (wa.setCell ⟨ga, 112, none⟩ (.int .u64 ((0 : Nat) : Int))).heap.size := by rw [World.size_setCell]; exact HBA.out.size
  have HRN2 := Lib.hid (HRN.out.more hsz)
  clear hs HOWN HBA HRN hsz c0 f0
  obtain ⟨W, hW⟩ : ∃ W, wa.setCell ⟨ga, 112, none⟩ (.int .u64 ((0 : Nat) : Int)) = W := ⟨_, rfl⟩
  rw [hW] at HSN HBN HRN2
  rw [show (wa.setCell ⟨ga, 112, none⟩ (.int .u64 0)) = W from hW]
  clear hW
  refine (HBC.out _).mono ?_
  rintro e w2 ⟨g2, c2, rfl, hown2, hB2⟩
  have HF2 := Lib.hid (Rd.of_own hown2)
  have HS2 := Lib.hid (own_below HSN.out hB2 (Nat.le_refl _))
  have HP2 := Lib.hid (HRN2.out.up hB2 hB2.size)
  have HB2 := Lib.hid (HBN.out.trans (hB2.mono HBN.out.size))
  clear hown2 hB2
  go_wp2_with fail
  refine (HWN.out _ _ _ HF2.out).mono ?_
  rintro e w3 ⟨⟨A3, c3, rfl, -, -⟩, hB3⟩
  have HS3 := Lib.hid (own_below HS2.out hB3 (Nat.le_refl _))
  have HP3 := Lib.hid (HP2.out.up hB3 hB3.size)
  have HB3 := Lib.hid (HB2.out.trans (hB3.mono HB2.out.size))
  clear hB3
  go_wp2_with fail
  refine (HBC.out _).mono ?_
  rintro e w4 ⟨g4, c4, rfl, hown4, hB4⟩
  have HF4 := Lib.hid (Rd.of_own hown4)
  have HS4 := Lib.hid (own_below HS3.out hB4 (Nat.le_refl _))
  have HP4 := Lib.hid (HP3.out.up hB4 hB4.size)
  have HB4 := Lib.hid (HB3.out.trans (hB4.mono HB3.out.size))
  clear hown4 hB4
  go_wp2_with fail
  refine (HR1.out _ _ _ HF4.out).mono ?_
  rintro e w5 ⟨rfl, hB5⟩
  have HS5 := Lib.hid (own_below HS4.out hB5 (Nat.le_refl _))
  have HP5 := Lib.hid (HP4.out.up hB5 hB5.size)
  have HB5 := Lib.hid (HB4.out.trans (hB5.mono HB4.out.size))
  clear hB5
  go_wp2_with fail
  have xb := Bx.new w5 3 #[.int .i64 132]
  have HPx := Lib.hid (HP5.out.alloc (Nat.le_refl _) (.cells #[.int .i64 132] 3))
  have HSx := Lib.hid (HS5.out.alloc (.cells #[.int .i64 132] 3))
  have HBx := Lib.hid (HB5.out.alloc HB5.out.size (.cells #[.int .i64 132] 3))
  have hsz : (w5.alloc (.cells #[.int .i64 132] 3)).heap.size = w5.heap.size + 1 := by simp
  obtain ⟨W5, hW5⟩ : ∃ W5, w5.alloc (.cells #[.int .i64 132] 3) = W5 := ⟨_, rfl⟩
  rw [hW5] at xb HPx HSx HBx hsz ⊢
  clear hW5
  refine (HR2.out _ _ _ _ _ (show RdW _ _ _ _ from HPx.out.more (by omega)) (show Rd _ _ _ _ from Rd.of_bx xb xb.lt)).mono ?_
  rintro e w6 ⟨rfl, hB6⟩
  have HS6 := Lib.hid (own_below HSx.out hB6 (Nat.le_refl _))
  have HB6 := Lib.hid (HBx.out.trans (hB6.mono HBx.out.size))
  clear hB6 xb
  go_wp2_with fail
  refine (HR3.out _ _ _ (show RdW _ _ _ _ from Rd.of_own HS6.out)).mono ?_
  rintro e w7 ⟨rfl, hB7⟩
  have HB7 := Lib.hid (HB6.out.trans (hB7.mono HB6.out.size))
  go_wp2_with fail
  go_ret
  exact ⟨rfl, HB7.out⟩
end Go.Proofs.Ytpmfiibndiecpaa
