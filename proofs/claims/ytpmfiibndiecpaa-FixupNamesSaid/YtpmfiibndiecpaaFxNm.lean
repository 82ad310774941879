/- The law FixupNames: limits and errors. -/
import Derived.Test.YtpmfiibndiecpaaAl28
import Derived.Test.YtpmfiibndiecpaaMk256
namespace Go.Proofs.Ytpmfiibndiecpaa
open Go.RowKit

set_option maxRecDepth 100000 in
set_option maxHeartbeats 2000000 in
theorem put28_c (A : Option Addr) (ws : List Nat) (c n a v H : Nat) (w : World) (hn : ws.length = n) (hm : n ≤ 1000000) (ha : a < n) (hr : RdW w H A ws) (hH : H ≤ w.heap.size) :
    Calls Try.prog 41 #[.slice A n c, .int .i64 (a : Int), .int .u64 (v : Int)] w fun e w' => OwnW w (ws.set a v) e w' := by
  have HR := Lib.hid (hr.more hH)
  have HN := Lib.hid hn
  have HLN := Lib.hid (words_len ws)
  have HWS := Lib.hid (words_set ws a v)
  have ha1 : (a : Int) < (n : Int) := by omega
  have ha0 : (0 : Int) ≤ (a : Int) := by omega
  clear hr hH hn
  obtain ⟨i0, hi, hz0, hz1, hz2⟩ := info_parts infoWord
  have HI := Lib.hid hi
  have HZ0 := Lib.hid hz0
  have HZ1 := Lib.hid hz1
  have HZ2 := Lib.hid hz2
  clear hi hz0 hz1 hz2
  go_enter Try.func41, Try.ntmps41
  go_wp2_with (at_builtin; refine wpList_append_rd' _ (by rfl) _ _ 37 rfl w.heap.size 22 i0 _ 1 8 Try.underlying37 HI.out HZ0.out HZ1.out HZ2.out rfl (by decide) (.slice (some ⟨w.heap.size, 0, none⟩) 0 0) 0 [] (by rfl) (own_empty w _ _ _ (Nat.le_refl _)) w.heap.size A n _ (ws.flatMap wordCells) (by rfl) (by rw [HLN.out, HN.out]; omega) (Rd.alloc HR.out (Nat.le_refl _) _) (cells_one word_one _) (by unfold maxLen; omega) (by omega) (by simp) ?_; intro v1 wa hown1 hg1; have hBa := below_append0 ((Below.refl w.heap.size w).alloc (Nat.le_refl _) _) (by simp) (own_empty w w.heap.size 22 1 (Nat.le_refl _)) hg1; simp only [Nat.zero_add, List.nil_append] at hown1; obtain ⟨g, c1, rfl⟩ := own_some hown1 (by omega); have hc0 := (hown1.cellAt a (by omega)).trans (words_get ws a (by rw [HN.out]; exact ha)); have hf0 := hown1.frozenAt a; have HOWN := Lib.hid hown1; have HBA := Lib.hid hBa; clear hown1 hBa hg1)
  go_ret
  have hs := (HOWN.out.stored a (.int .u64 (v : Int))).1
  rw [← HWS.out] at hs
  refine ⟨g, c1, by rw [List.length_set, HN.out]; rfl, ?_, HBA.out.setCell (p := ⟨g, a, none⟩) (own_base HOWN.out) _⟩
  rw [List.length_set, HN.out]
  exact hs

set_option maxRecDepth 100000 in
set_option maxHeartbeats 2000000 in
theorem fails28_c (A : Option Addr) (ws : List Nat) (c n : Nat) (a s o r : Int) (w : World) (hn : ws.length = n) (hm : n ≤ 9223372036854775807) (hr : RdW w w.heap.size A ws) (ho : ∀ x ∈ ws, x < 18446744073709551616) (h1 : fsErr ws = s) (h2 : obErr ws a = o) (h3 : rsErr ws a = r) :
    Calls Try.prog 40 #[.slice A n c, .int .i64 a, .int .i64 s, .int .i64 o, .int .i64 r] w fun e w' => e = .returned (.bool true) ∧ Below w.heap.size w w' := by
  have HR := Lib.hid hr
  have HS := Lib.hid (fxSlots_c A ws c n w hn hm hr ho)
  have HOB := Lib.hid (fun W (h : RdW W W.heap.size A ws) => fxObject_c A ws c n a W hn hm h ho)
  have HRS := Lib.hid (fun W (h : RdW W W.heap.size A ws) => fxRefsAt_c A ws c n a W hn hm h ho)
  unfold FsRes at HS
  unfold ObRes at HOB
  unfold RsRes at HRS
  rw [h1] at HS
  rw [h2] at HOB
  rw [h3] at HRS
  clear hr ho h1 h2 h3 hn hm
  go_enter Try.func40, Try.ntmps40
  go_wp2_with fail
  refine HS.out.mono ?_
  rintro e w1 ⟨⟨A1, c1, rfl, -, -⟩, hB1⟩
  have HB1 := Lib.hid hB1
  clear hB1
  go_wp2_with fail
  refine (HOB.out _ (HR.out.up HB1.out HB1.out.size)).mono ?_
  rintro e w2 ⟨⟨A2, c2, rfl, -, -⟩, hB2⟩
  have HB2 := Lib.hid (HB1.out.trans (hB2.mono HB1.out.size))
  clear hB2
  go_wp2_with fail
  refine (HRS.out _ (HR.out.up HB2.out HB2.out.size)).mono ?_
  rintro e w3 ⟨⟨A3, c3, rfl, -, -⟩, hB3⟩
  have HB3 := Lib.hid (HB2.out.trans (hB3.mono HB2.out.size))
  clear hB3
  go_wp2_with fail
  go_ret
  exact ⟨rfl, HB3.out⟩
def fxsL : List Nat := buildL 256 [] [] [128]
theorem fxs_len : fxsL.length = 256 := by decide +kernel
theorem fxs_lt : ∀ x ∈ fxsL, x < 18446744073709551616 := by decide +kernel
theorem fxs_fit : ∀ k, k < 0 → fits 256 [] [] k := by decide +kernel
theorem fxs_slt : ∀ k, k < 1 → ([128] : List Int)[k]?.getD 0 < 4294967296 ∧ -4294967296 < ([128] : List Int)[k]?.getD 0 := by decide +kernel
set_option maxRecDepth 100000 in
theorem fxs_c (w : World) : Calls Try.prog 32 #[.int .i64 256, .slice none 0 0, .slice none 0 0, .slice (some ⟨w.heap.size, 0, none⟩) 1 1] (w.alloc (.cells #[.int .i64 128] 3)) fun e w' => OwnW w fxsL e w' := by
  have x0 := Bx.new w 3 #[.int .i64 128]
  (try simp only [World.size_alloc] at x0)
  have hbz : Below w.heap.size w (w.alloc (.cells #[.int .i64 128] 3)) := by
    refine ((Below.refl _ _).alloc ?_ _) <;> (try simp only [World.size_alloc]) <;> omega
  obtain ⟨Z, hZ⟩ : ∃ Z, (w.alloc (.cells #[.int .i64 128] 3)) = Z := ⟨_, rfl⟩
  rw [hZ] at x0 hbz ⊢
  clear hZ
  have hC := build_c none none (some ⟨w.heap.size, 0, none⟩) [] [] [128] 0 0 1 256 Z.heap.size Z (by omega) (by omega) RdT.nil_ (show (0 : Nat) ≤ 8 by decide) Rd.nil_ (show Rd _ _ _ _ from Rd.of_bx x0 x0.lt) (show (1 : Nat) ≤ 16 by decide) (Nat.le_refl _) (show (0 : Nat) ≤ 2048 by decide) (fun k hk => fxs_fit k hk) (fun k hk => fxs_slt k hk)
  refine hC.mono ?_
  intro e w1 h
  exact OwnW.mk_ hbz (show OwnW Z fxsL e w1 from h)
def fxtL : List Nat := buildL 256 [[3, 3]] [⟨0, 4, 1, 0, true, 128⟩] [128, 128]
theorem fxt_len : fxtL.length = 256 := by decide +kernel
theorem fxt_lt : ∀ x ∈ fxtL, x < 18446744073709551616 := by decide +kernel
theorem fxt_fit : ∀ k, k < 1 → fits 256 [[3, 3]] [⟨0, 4, 1, 0, true, 128⟩] k := by decide +kernel
theorem fxt_slt : ∀ k, k < 2 → ([128, 128] : List Int)[k]?.getD 0 < 4294967296 ∧ -4294967296 < ([128, 128] : List Int)[k]?.getD 0 := by decide +kernel
set_option maxRecDepth 100000 in
theorem fxt_c (w : World) : Calls Try.prog 32 #[.int .i64 256, .slice (some ⟨w.heap.size + 1, 0, none⟩) 1 1, .slice (some ⟨w.heap.size + 1 + 1, 0, none⟩) 1 1, .slice (some ⟨w.heap.size + 1 + 1 + 1, 0, none⟩) 2 2] ((((w.alloc (.cells #[.int .u8 3, .int .u8 3] 5)).alloc (.cells #[.slice (some ⟨w.heap.size, 0, none⟩) 2 2] 58)).alloc (.cells #[.int .i64 0, .int .i64 4, .int .i64 1, .int .i64 0, .bool true, .int .u64 128] 24)).alloc (.cells #[.int .i64 128, .int .i64 128] 3)) fun e w' => OwnW w fxtL e w' := by
  have x0 := Bx.new w 5 #[.int .u8 3, .int .u8 3]
  have x1 := Bx.new (w.alloc (.cells #[.int .u8 3, .int .u8 3] 5)) 58 #[.slice (some ⟨w.heap.size, 0, none⟩) 2 2]
  have x2 := Bx.new ((w.alloc (.cells #[.int .u8 3, .int .u8 3] 5)).alloc (.cells #[.slice (some ⟨w.heap.size, 0, none⟩) 2 2] 58)) 24 #[.int .i64 0, .int .i64 4, .int .i64 1, .int .i64 0, .bool true, .int .u64 128]
  have x3 := Bx.new (((w.alloc (.cells #[.int .u8 3, .int .u8 3] 5)).alloc (.cells #[.slice (some ⟨w.heap.size, 0, none⟩) 2 2] 58)).alloc (.cells #[.int .i64 0, .int .i64 4, .int .i64 1, .int .i64 0, .bool true, .int .u64 128] 24)) 3 #[.int .i64 128, .int .i64 128]
  (try simp only [World.size_alloc] at x0 x1 x2 x3)
  replace x0 := (((x0.alloc (.cells #[.slice (some ⟨w.heap.size, 0, none⟩) 2 2] 58)).alloc (.cells #[.int .i64 0, .int .i64 4, .int .i64 1, .int .i64 0, .bool true, .int .u64 128] 24)).alloc (.cells #[.int .i64 128, .int .i64 128] 3))
  replace x1 := ((x1.alloc (.cells #[.int .i64 0, .int .i64 4, .int .i64 1, .int .i64 0, .bool true, .int .u64 128] 24)).alloc (.cells #[.int .i64 128, .int .i64 128] 3))
  replace x2 := (x2.alloc (.cells #[.int .i64 128, .int .i64 128] 3))
  have hbz : Below w.heap.size w ((((w.alloc (.cells #[.int .u8 3, .int .u8 3] 5)).alloc (.cells #[.slice (some ⟨w.heap.size, 0, none⟩) 2 2] 58)).alloc (.cells #[.int .i64 0, .int .i64 4, .int .i64 1, .int .i64 0, .bool true, .int .u64 128] 24)).alloc (.cells #[.int .i64 128, .int .i64 128] 3)) := by
    refine (((((Below.refl _ _).alloc ?_ _).alloc ?_ _).alloc ?_ _).alloc ?_ _) <;> (try simp only [World.size_alloc]) <;> omega
  obtain ⟨Z, hZ⟩ : ∃ Z, ((((w.alloc (.cells #[.int .u8 3, .int .u8 3] 5)).alloc (.cells #[.slice (some ⟨w.heap.size, 0, none⟩) 2 2] 58)).alloc (.cells #[.int .i64 0, .int .i64 4, .int .i64 1, .int .i64 0, .bool true, .int .u64 128] 24)).alloc (.cells #[.int .i64 128, .int .i64 128] 3)) = Z := ⟨_, rfl⟩
  rw [hZ] at x0 x1 x2 x3 hbz ⊢
  clear hZ
  have hT : RdT Z Z.heap.size (some ⟨w.heap.size + 1, 0, none⟩) [⟨some ⟨w.heap.size, 0, none⟩, 2, [3, 3]⟩] := by
    refine ⟨Rd.of_bx x1 x1.lt, fun x hx => ?_⟩
    simp only [List.mem_cons, List.not_mem_nil, or_false] at hx
    rcases hx with rfl
    · exact ⟨Rd.of_bx x0 x0.lt, show (2 : Nat) ≤ 8 by decide, show kndOk [3, 3] = true by decide⟩
  have hC := build_c (some ⟨w.heap.size + 1, 0, none⟩) (some ⟨w.heap.size + 1 + 1, 0, none⟩) (some ⟨w.heap.size + 1 + 1 + 1, 0, none⟩) [⟨some ⟨w.heap.size, 0, none⟩, 2, [3, 3]⟩] [⟨0, 4, 1, 0, true, 128⟩] [128, 128] 1 1 2 256 Z.heap.size Z (by omega) (by omega) hT (show (1 : Nat) ≤ 8 by decide) (show Rd _ _ _ _ from Rd.of_bx x2 x2.lt) (show Rd _ _ _ _ from Rd.of_bx x3 x3.lt) (show (2 : Nat) ≤ 16 by decide) (Nat.le_refl _) (show (1 : Nat) ≤ 2048 by decide) (fun k hk => fxt_fit k hk) (fun k hk => fxt_slt k hk)
  refine hC.mono ?_
  intro e w1 h
  exact OwnW.mk_ hbz (show OwnW Z fxtL e w1 from h)

theorem fxn_lt {l : List Nat} (h : ∀ x ∈ l, x < 18446744073709551616) (a v : Nat) (hv : v < 18446744073709551616) : ∀ x ∈ l.set a v, x < 18446744073709551616 := fun x hx => by
  rcases List.mem_or_eq_of_mem_set hx with h1 | rfl
  · exact h x h1
  · exact hv
theorem tri_lt' : ∀ x ∈ triL, x < 18446744073709551616 := by decide +kernel
def fxV : Nat := fxsL[112]?.getD 0
theorem fxV_lt : fxV < 18446744073709551616 := by decide +kernel
def fxSt : List Nat := (fxtL.set 130 128).set 131 128
theorem fxSt_len : fxSt.length = 256 := by unfold fxSt; rw [List.length_set, List.length_set, fxt_len]
theorem fxSt_lt : ∀ x ∈ fxSt, x < 18446744073709551616 := by decide +kernel
theorem fx_0 : fsErr [] = 8 ∧ obErr [] 0 = 8 ∧ rsErr [] 0 = 8 := by decide +kernel
theorem fx_1 : fsErr (List.replicate 256 0) = 50 ∧ obErr (List.replicate 256 0) 128 = 50 ∧ rsErr (List.replicate 256 0) 128 = 50 := by decide +kernel
theorem fx_2 : fsErr (triL.set 133 130) = 50 ∧ obErr (triL.set 133 130) 132 = 50 ∧ rsErr (triL.set 133 130) 132 = 0 := by decide +kernel
theorem fx_3 : fsErr triL = 0 ∧ obErr triL 128 = 6 ∧ rsErr triL 128 = 0 := by decide +kernel
theorem fx_4 : obErr triL 136 = 6 ∧ rsErr triL 136 = 6 ∧ obErr triL 134 = 6 ∧ rsErr triL 134 = 6 ∧ obErr triL (-1) = 6 ∧ rsErr triL (-1) = 6 := by decide +kernel
theorem fx_5 : fsErr (triL.set 134 128) = 0 ∧ obErr (triL.set 134 128) 132 = 50 ∧ rsErr (triL.set 134 128) 132 = 0 := by decide +kernel
theorem fx_6 : fsErr (triL.set 134 4294967428) = 0 ∧ obErr (triL.set 134 4294967428) 132 = 50 ∧ rsErr (triL.set 134 4294967428) 132 = 0 := by decide +kernel
theorem fx_7 : fsErr (triL.set 112 fxV) = 50 ∧ obErr (triL.set 112 fxV) 132 = 0 ∧ rsErr (triL.set 112 fxV) 132 = 0 := by decide +kernel
theorem fx_8 : obErr (triL.set 134 0) 132 = 0 ∧ obOut (triL.set 134 0) 132 = [] ∧ fsErr (triL.set 112 0) = 0 ∧ fsOut (triL.set 112 0) = [] := by decide +kernel
theorem fx_9 : fsErr fxSt = 0 ∧ fsOut fxSt = [] ∧ obErr fxSt 128 = 0 ∧ obOut fxSt 128 = [] ∧ rsErr fxSt 128 = 0 ∧ rsOut fxSt 128 = [130, 131] := by decide +kernel
theorem mkst {w w1 : World} {xs : List Nat} {g c n : Nat} (_hl : xs.length = n) (hown : w1.ownsRow w.heap.size 22 1 (.slice (some ⟨g, 0, none⟩) n c) n (xs.flatMap wordCells)) (hB : Below w.heap.size w w1) (j v : Nat) :
    (w1.setCell ⟨g, j, none⟩ (.int .u64 (v : Int))).ownsRow w.heap.size 22 1 (.slice (some ⟨g, 0, none⟩) n c) n ((xs.set j v).flatMap wordCells) ∧ Below w.heap.size w (w1.setCell ⟨g, j, none⟩ (.int .u64 (v : Int))) := by
  have hs := (hown.stored j (.int .u64 (v : Int))).1
  rw [← words_set] at hs
  exact ⟨hs, hB.setCell (p := ⟨g, j, none⟩) (own_base hown) _⟩

set_option maxRecDepth 100000 in
set_option maxHeartbeats 16000000 in
theorem fixupNames_walk (w : World) : Calls Try.prog 6 #[] w fun e w' => e = .returned (.bool true) ∧ Below w.heap.size w w' := by
  have HB0 := Lib.hid (Below.refl w.heap.size w)
  have HC := Lib.hid (fun W => two28_c W)
  unfold OwnW at HC
  rw [triL_len] at HC
  have F0 := Lib.hid (fun c W => fails28_c none [] c 0 0 8 8 8 W rfl (by omega) Rd.nil_ (fun x hx => by simp at hx) fx_0.1 fx_0.2.1 fx_0.2.2)
  have F1 := Lib.hid (fun A c W (h : RdW W W.heap.size A (List.replicate 256 0)) => fails28_c A (List.replicate 256 0) c 256 128 50 50 50 W zero256.2.2 (by omega) h zero_lt fx_1.1 fx_1.2.1 fx_1.2.2)
  have F2 := Lib.hid (fun A c W (h : RdW W W.heap.size A (triL.set 133 130)) => fails28_c A (triL.set 133 130) c 256 132 50 50 0 W (by rw [List.length_set]; exact triL_len) (by omega) h (fxn_lt tri_lt' 133 130 (by omega)) fx_2.1 fx_2.2.1 fx_2.2.2)
  have F3 := Lib.hid (fun A c W (h : RdW W W.heap.size A triL) => fails28_c A triL c 256 128 0 6 0 W triL_len (by omega) h tri_lt' fx_3.1 fx_3.2.1 fx_3.2.2)
  have F4 := Lib.hid (fun A c W (h : RdW W W.heap.size A triL) => fails28_c A triL c 256 136 0 6 6 W triL_len (by omega) h tri_lt' fx_3.1 fx_4.1 fx_4.2.1)
  have F5 := Lib.hid (fun A c W (h : RdW W W.heap.size A triL) => fails28_c A triL c 256 134 0 6 6 W triL_len (by omega) h tri_lt' fx_3.1 fx_4.2.2.1 fx_4.2.2.2.1)
  have F6 := Lib.hid (fun A c W (h : RdW W W.heap.size A triL) => fails28_c A triL c 256 (-1) 0 6 6 W triL_len (by omega) h tri_lt' fx_3.1 fx_4.2.2.2.2.1 fx_4.2.2.2.2.2)
  have F7 := Lib.hid (fun A c W (h : RdW W W.heap.size A (triL.set 134 128)) => fails28_c A (triL.set 134 128) c 256 132 0 50 0 W (by rw [List.length_set]; exact triL_len) (by omega) h (fxn_lt tri_lt' 134 128 (by omega)) fx_5.1 fx_5.2.1 fx_5.2.2)
  have F8 := Lib.hid (fun A c W (h : RdW W W.heap.size A (triL.set 134 4294967428)) => fails28_c A (triL.set 134 4294967428) c 256 132 0 50 0 W (by rw [List.length_set]; exact triL_len) (by omega) h (fxn_lt tri_lt' 134 4294967428 (by omega)) fx_6.1 fx_6.2.1 fx_6.2.2)
  have F9 := Lib.hid (fun A c W (h : RdW W W.heap.size A (triL.set 112 fxV)) => fails28_c A (triL.set 112 fxV) c 256 132 50 0 0 W (by rw [List.length_set]; exact triL_len) (by omega) h (fxn_lt tri_lt' 112 fxV fxV_lt) fx_7.1 fx_7.2.1 fx_7.2.2)
  have P2 := Lib.hid (fun A c W (h : RdW W W.heap.size A triL) => put28_c A triL c 256 133 130 W.heap.size W triL_len (by omega) (by omega) h (Nat.le_refl _))
  unfold OwnW at P2
  rw [List.length_set, triL_len] at P2
  have P7 := Lib.hid (fun A c W (h : RdW W W.heap.size A triL) => put28_c A triL c 256 134 128 W.heap.size W triL_len (by omega) (by omega) h (Nat.le_refl _))
  unfold OwnW at P7
  rw [List.length_set, triL_len] at P7
  have P8 := Lib.hid (fun A c W (h : RdW W W.heap.size A triL) => put28_c A triL c 256 134 4294967428 W.heap.size W triL_len (by omega) (by omega) h (Nat.le_refl _))
  unfold OwnW at P8
  rw [List.length_set, triL_len] at P8
  have P9 := Lib.hid (fun A c W (h : RdW W W.heap.size A triL) => put28_c A triL c 256 112 fxV W.heap.size W triL_len (by omega) (by omega) h (Nat.le_refl _))
  unfold OwnW at P9
  rw [List.length_set, triL_len] at P9
  have PA := Lib.hid (fun A c W (h : RdW W W.heap.size A triL) => put28_c A triL c 256 134 0 W.heap.size W triL_len (by omega) (by omega) h (Nat.le_refl _))
  unfold OwnW at PA
  rw [List.length_set, triL_len] at PA
  have PB := Lib.hid (fun A c W (h : RdW W W.heap.size A triL) => put28_c A triL c 256 112 0 W.heap.size W triL_len (by omega) (by omega) h (Nat.le_refl _))
  unfold OwnW at PB
  rw [List.length_set, triL_len] at PB
  have HOA := Lib.hid (fun A c W (h : RdW W W.heap.size A (triL.set 134 0)) => fxObject_c A (triL.set 134 0) c 256 132 W (by rw [List.length_set]; exact triL_len) (by omega) h (fxn_lt tri_lt' 134 0 (by omega)))
  unfold ObRes at HOA
  rw [fx_8.1, fx_8.2.1] at HOA
  have HSB := Lib.hid (fun A c W (h : RdW W W.heap.size A (triL.set 112 0)) => fxSlots_c A (triL.set 112 0) c 256 W (by rw [List.length_set]; exact triL_len) (by omega) h (fxn_lt tri_lt' 112 0 (by omega)))
  unfold FsRes at HSB
  rw [fx_8.2.2.1, fx_8.2.2.2] at HSB
  have HTS := Lib.hid (fun A c W (h : RdW W W.heap.size A fxSt) => fxSlots_c A fxSt c 256 W fxSt_len (by omega) h fxSt_lt)
  unfold FsRes at HTS
  rw [fx_9.1, fx_9.2.1] at HTS
  have HTO := Lib.hid (fun A c W (h : RdW W W.heap.size A fxSt) => fxObject_c A fxSt c 256 128 W fxSt_len (by omega) h fxSt_lt)
  unfold ObRes at HTO
  rw [fx_9.2.2.1, fx_9.2.2.2.1] at HTO
  have HTR := Lib.hid (fun A c W (h : RdW W W.heap.size A fxSt) => fxRefsAt_c A fxSt c 256 128 W fxSt_len (by omega) h fxSt_lt)
  unfold RsRes at HTR
  rw [fx_9.2.2.2.2.1, fx_9.2.2.2.2.2] at HTR
  have HSI := Lib.hid (fun A c B d W (h1 : RdI W W.heap.size A [130, 131]) (h2 : RdI W W.heap.size B [130, 131]) => sameInts_c A B [130, 131] [130, 131] 2 2 c d W.heap.size W rfl rfl (by omega) h1 h2 (Nat.le_refl _))
  rw [show decide (([130, 131] : List Int) = [130, 131]) = true from rfl] at HSI
  have HSL := Lib.hid (fun W => fxs_c W)
  unfold OwnW at HSL
  rw [fxs_len] at HSL
  have HTL := Lib.hid (fun W => fxt_c W)
  unfold OwnW at HTL
  rw [fxt_len] at HTL
  have HVE : Hid (∀ h : 112 < fxsL.length, fxsL[112] = fxV) := Lib.hid fun h => by simp [fxV, h]
  have HSLN := Lib.hid fxs_len
  have HTLN := Lib.hid fxt_len
  have HST : Hid (fxSt = (fxtL.set 130 128).set 131 128) := Lib.hid rfl
  generalize triL = tri at *
  generalize fxsL = sl at *
  generalize fxtL = tl at *
  generalize fxSt = ts at *
  generalize fxV = v at *
  generalize tri.set 133 130 = u0 at *
  generalize tri.set 134 128 = u1 at *
  generalize tri.set 134 4294967428 = u2 at *
  generalize tri.set 112 v = u3 at *
  generalize tri.set 134 0 = u4 at *
  generalize tri.set 112 0 = u5 at *
  go_enter Try.func6, Try.ntmps6
  go_wp2_with fail
  refine (HC.out _).mono ?_
  rintro e w_1 ⟨g1, c1, rfl, hown1, hB1⟩
  have HB1 := Lib.hid (HB0.out.trans (hB1.mono HB0.out.size))
  have T_1 := Lib.hid (show RdW _ _ _ tri from Rd.of_own hown1)
  clear hB1 hown1
  go_wp2_with fail
  refine (F0.out _ _).mono ?_
  rintro e w_2 ⟨rfl, hB2⟩
  have T_2 := Lib.hid (T_1.out.up hB2 hB2.size)
  have HB2 := Lib.hid (HB1.out.trans (hB2.mono HB1.out.size))
  clear hB2
  obtain ⟨w_3, hmk, hr, hb⟩ := mk256 w_2
  have T_3 := Lib.hid (T_2.out.up hb hb.size)
  have HB3 := Lib.hid (HB2.out.trans (hb.mono HB2.out.size))
  have Z_3 := Lib.hid hr
  clear hr hb
  go_wp2_with fail
  clear hmk
  refine (F1.out _ _ _ Z_3.out).mono ?_
  rintro e w_4 ⟨rfl, hB4⟩
  have T_4 := Lib.hid (T_3.out.up hB4 hB4.size)
  have HB4 := Lib.hid (HB3.out.trans (hB4.mono HB3.out.size))
  clear hB4
  go_wp2_with fail
  refine (P2.out _ _ _ T_4.out).mono ?_
  rintro e w_5 ⟨g5, c5, rfl, hown5, hB5⟩
  have T_5 := Lib.hid (T_4.out.up hB5 hB5.size)
  have HB5 := Lib.hid (HB4.out.trans (hB5.mono HB4.out.size))
  have U_5 := Lib.hid (show RdW _ _ _ u0 from Rd.of_own hown5)
  clear hB5 hown5
  go_wp2_with fail
  refine (F2.out _ _ _ U_5.out).mono ?_
  rintro e w_6 ⟨rfl, hB6⟩
  have T_6 := Lib.hid (T_5.out.up hB6 hB6.size)
  have HB6 := Lib.hid (HB5.out.trans (hB6.mono HB5.out.size))
  clear hB6
  go_wp2_with fail
  refine (F3.out _ _ _ T_6.out).mono ?_
  rintro e w_7 ⟨rfl, hB7⟩
  have T_7 := Lib.hid (T_6.out.up hB7 hB7.size)
  have HB7 := Lib.hid (HB6.out.trans (hB7.mono HB6.out.size))
  clear hB7
  go_wp2_with fail
  refine (F4.out _ _ _ T_7.out).mono ?_
  rintro e w_8 ⟨rfl, hB8⟩
  have T_8 := Lib.hid (T_7.out.up hB8 hB8.size)
  have HB8 := Lib.hid (HB7.out.trans (hB8.mono HB7.out.size))
  clear hB8
  go_wp2_with fail
  refine (F5.out _ _ _ T_8.out).mono ?_
  rintro e w_9 ⟨rfl, hB9⟩
  have T_9 := Lib.hid (T_8.out.up hB9 hB9.size)
  have HB9 := Lib.hid (HB8.out.trans (hB9.mono HB8.out.size))
  clear hB9
  go_wp2_with fail
  refine (F6.out _ _ _ T_9.out).mono ?_
  rintro e w_10 ⟨rfl, hB10⟩
  have T_10 := Lib.hid (T_9.out.up hB10 hB10.size)
  have HB10 := Lib.hid (HB9.out.trans (hB10.mono HB9.out.size))
  clear hB10
  go_wp2_with fail
  refine (P7.out _ _ _ T_10.out).mono ?_
  rintro e w_11 ⟨g11, c11, rfl, hown11, hB11⟩
  have T_11 := Lib.hid (T_10.out.up hB11 hB11.size)
  have HB11 := Lib.hid (HB10.out.trans (hB11.mono HB10.out.size))
  have U_11 := Lib.hid (show RdW _ _ _ u1 from Rd.of_own hown11)
  clear hB11 hown11
  go_wp2_with fail
  refine (F7.out _ _ _ U_11.out).mono ?_
  rintro e w_12 ⟨rfl, hB12⟩
  have T_12 := Lib.hid (T_11.out.up hB12 hB12.size)
  have HB12 := Lib.hid (HB11.out.trans (hB12.mono HB11.out.size))
  clear hB12
  go_wp2_with fail
  refine (P8.out _ _ _ T_12.out).mono ?_
  rintro e w_13 ⟨g13, c13, rfl, hown13, hB13⟩
  have T_13 := Lib.hid (T_12.out.up hB13 hB13.size)
  have HB13 := Lib.hid (HB12.out.trans (hB13.mono HB12.out.size))
  have U_13 := Lib.hid (show RdW _ _ _ u2 from Rd.of_own hown13)
  clear hB13 hown13
  go_wp2_with fail
  refine (F8.out _ _ _ U_13.out).mono ?_
  rintro e w_14 ⟨rfl, hB14⟩
  have T_14 := Lib.hid (T_13.out.up hB14 hB14.size)
  have HB14 := Lib.hid (HB13.out.trans (hB14.mono HB13.out.size))
  clear hB14
  go_wp2_with fail
  refine (HSL.out _).mono ?_
  rintro e w_15 ⟨g15, c15, rfl, hown15, hB15⟩
  have T_15 := Lib.hid (T_14.out.up hB15 hB15.size)
  have HB15 := Lib.hid (HB14.out.trans (hB15.mono HB14.out.size))
  have S_15 := Lib.hid (hown15)
  clear hB15 hown15
  have c0 := (S_15.out.cellAt 112 (by omega)).trans (words_get sl 112 (by rw [HSLN.out]; omega))
  rw [HVE.out] at c0
  go_wp2_with fail
  clear c0
  refine (P9.out _ _ _ T_15.out).mono ?_
  rintro e w_16 ⟨g16, c16, rfl, hown16, hB16⟩
  have T_16 := Lib.hid (T_15.out.up hB16 hB16.size)
  have HB16 := Lib.hid (HB15.out.trans (hB16.mono HB15.out.size))
  have B_16 := Lib.hid (show RdW _ _ _ u3 from Rd.of_own hown16)
  clear hB16 hown16
  go_wp2_with fail
  refine (PA.out _ _ _ T_16.out).mono ?_
  rintro e w_17 ⟨g17, c17, rfl, hown17, hB17⟩
  have T_17 := Lib.hid (T_16.out.up hB17 hB17.size)
  have B_17 := Lib.hid (B_16.out.up hB17 hB17.size)
  have HB17 := Lib.hid (HB16.out.trans (hB17.mono HB16.out.size))
  have U_17 := Lib.hid (show RdW _ _ _ u4 from Rd.of_own hown17)
  clear hB17 hown17
  go_wp2_with fail
  refine (HOA.out _ _ _ U_17.out).mono ?_
  rintro e w_18 ⟨⟨A18, c18, rfl, -, -⟩, hB18⟩
  have T_18 := Lib.hid (T_17.out.up hB18 hB18.size)
  have B_18 := Lib.hid (B_17.out.up hB18 hB18.size)
  have HB18 := Lib.hid (HB17.out.trans (hB18.mono HB17.out.size))
  clear hB18
  go_wp2_with fail
  refine (PB.out _ _ _ T_18.out).mono ?_
  rintro e w_19 ⟨g19, c19, rfl, hown19, hB19⟩
  have B_19 := Lib.hid (B_18.out.up hB19 hB19.size)
  have HB19 := Lib.hid (HB18.out.trans (hB19.mono HB18.out.size))
  have U_19 := Lib.hid (show RdW _ _ _ u5 from Rd.of_own hown19)
  clear hB19 hown19
  go_wp2_with fail
  refine (HSB.out _ _ _ U_19.out).mono ?_
  rintro e w_20 ⟨⟨A20, c20, rfl, -, -⟩, hB20⟩
  have B_20 := Lib.hid (B_19.out.up hB20 hB20.size)
  have HB20 := Lib.hid (HB19.out.trans (hB20.mono HB19.out.size))
  clear hB20
  go_wp2_with fail
  refine (HTL.out _).mono ?_
  rintro e x ⟨g, d, rfl, hown, hB⟩
  have c0 := (hown.cellAt 130 (by omega)).trans (words_get tl 130 (by rw [HTLN.out]; omega))
  have c1 := (hown.cellAt 131 (by omega)).trans (words_get tl 131 (by rw [HTLN.out]; omega))
  have f0 := hown.frozenAt 130
  have f1 := hown.frozenAt 131
  have hs1 := mkst HTLN.out hown hB 130 128
  have hs2 := mkst (by rw [List.length_set]; exact HTLN.out) hs1.1 hs1.2 131 128
  rw [← HST.out] at hs2
  have HS2 := Lib.hid hs2
  obtain ⟨u6, hu6⟩ : ∃ u, ((tl[130]'(by rw [HTLN.out]; omega) : Nat) : Int) = u := ⟨_, rfl⟩
  rw [hu6] at c0
  obtain ⟨u7, hu7⟩ : ∃ u, ((tl[131]'(by rw [HTLN.out]; omega) : Nat) : Int) = u := ⟨_, rfl⟩
  rw [hu7] at c1
  clear hs1 hs2 hu6 hu7 hown hB
  go_wp2_with fail
  obtain ⟨w_21, hW⟩ : ∃ W, (x.setCell ⟨g, 130, none⟩ (.int .u64 128)).setCell ⟨g, 131, none⟩ (.int .u64 128) = W := ⟨_, rfl⟩
  obtain ⟨hs1, hs2⟩ := HS2.out
  have hs1 : w_21.ownsRow w_20.heap.size 22 1 (.slice (some ⟨g, 0, none⟩) 256 d) 256 (ts.flatMap wordCells) := by rw [← hW]; exact hs1
  have hs2 : Below w_20.heap.size w_20 w_21 := by rw [← hW]; exact hs2
  rw [hW]
  have B_21 := Lib.hid (B_20.out.up hs2 hs2.size)
  have HB21 := Lib.hid (HB20.out.trans (hs2.mono HB20.out.size))
  have L_21 := Lib.hid (show RdW _ _ _ ts from Rd.of_own hs1)
  clear hs1 hs2 hW c0 c1 f0 f1 HS2
  go_wp2_with fail
  refine (HTS.out _ _ _ L_21.out).mono ?_
  rintro e w_22 ⟨⟨A22, c22, rfl, -, -⟩, hB22⟩
  have B_22 := Lib.hid (B_21.out.up hB22 hB22.size)
  have L_22 := Lib.hid (L_21.out.up hB22 hB22.size)
  have HB22 := Lib.hid (HB21.out.trans (hB22.mono HB21.out.size))
  clear hB22
  go_wp2_with fail
  refine (HTO.out _ _ _ L_22.out).mono ?_
  rintro e w_23 ⟨⟨A23, c23, rfl, -, -⟩, hB23⟩
  have B_23 := Lib.hid (B_22.out.up hB23 hB23.size)
  have L_23 := Lib.hid (L_22.out.up hB23 hB23.size)
  have HB23 := Lib.hid (HB22.out.trans (hB23.mono HB22.out.size))
  clear hB23
  go_wp2_with fail
  refine (HTR.out _ _ _ L_23.out).mono ?_
  rintro e w_24 ⟨⟨A24, c24, rfl, hr24, -⟩, hB24⟩
  have B_24 := Lib.hid (B_23.out.up hB24 hB24.size)
  have HB24 := Lib.hid (HB23.out.trans (hB24.mono HB23.out.size))
  have R_24 := Lib.hid (hr24)
  clear hB24 hr24
  go_wp2_with fail
  refine (alive28_c _).mono ?_
  rintro e w_25 ⟨rfl, hB25⟩
  have B_25 := Lib.hid (B_24.out.up hB25 hB25.size)
  have R_25 := Lib.hid (R_24.out.up hB25 hB25.size)
  have HB25 := Lib.hid (HB24.out.trans (hB25.mono HB24.out.size))
  clear hB25
  go_wp2_with fail
  refine (F9.out _ _ _ B_25.out).mono ?_
  rintro e w_26 ⟨rfl, hB26⟩
  have R_26 := Lib.hid (R_25.out.up hB26 hB26.size)
  have HB26 := Lib.hid (HB25.out.trans (hB26.mono HB25.out.size))
  clear hB26
  go_wp2_with fail
  have xb := Bx.new w_26 3 #[.int .i64 130, .int .i64 131]
  have hba : Below w_26.heap.size w_26 (w_26.alloc (.cells #[.int .i64 130, .int .i64 131] 3)) := (Below.refl _ _).alloc (Nat.le_refl _) _
  refine (HSI.out _ _ _ _ _ (R_26.out.up hba hba.size) (show Rd _ _ _ _ from Rd.of_bx xb xb.lt)).mono ?_
  rintro e w_27 ⟨rfl, hB27⟩
  have hbb := hba.trans (hB27.mono hba.size)
  have HB27 := Lib.hid (HB26.out.trans (hbb.mono HB26.out.size))
  clear hB27 hbb hba
  go_wp2_with fail
  go_ret
  exact ⟨rfl, HB27.out⟩
end Go.Proofs.Ytpmfiibndiecpaa
