/- The law FinishNames: limits and errors. -/
import Derived.Test.YtpmfiibndiecpaaAl32
import Derived.Test.YtpmfiibndiecpaaMk256
namespace Go.Proofs.Ytpmfiibndiecpaa
open Go.RowKit

set_option maxRecDepth 100000 in
set_option maxHeartbeats 2000000 in
theorem fails32_c (A : Option Addr) (ws : List Nat) (c n : Nat) (r : Int) (w : World) (hn : ws.length = n) (hm : n ≤ 9223372036854775807) (hc : n ≤ c) (hr : RdW w w.heap.size A ws) (ho : ∀ x ∈ ws, x < 18446744073709551616) (h1 : enErr ws = r) (h0 : r ≠ 0) :
    Calls Try.prog 46 #[.slice A n c, .int .i64 r] w fun e w' => e = .returned (.bool true) ∧ Below w.heap.size w w' := by
  have HR := Lib.hid hr
  have HC := Lib.hid (fChange_c A ws c n w hn hm hc hr ho)
  have HF := Lib.hid (fun W (h : RdW W W.heap.size A ws) => fFree_c A ws c n W hn hm hc h ho)
  unfold ChRes at HC
  have hno : chOut ws = [] := by unfold chOut; rw [if_neg (by rw [h1]; exact h0)]
  have hn0 : frN ws = 0 := by unfold frN; rw [if_neg (by rw [h1]; exact h0)]
  rw [h1, hno] at HC
  rw [h1, hn0] at HF
  simp only [List.length_nil] at HC
  clear hr ho h1 h0 hn hm hc hno hn0
  go_enter Try.func46, Try.ntmps46
  go_wp2_with fail
  refine HC.out.mono ?_
  rintro e w1 ⟨⟨A1, c1, rfl, -, -⟩, hB1⟩
  have HB1 := Lib.hid hB1
  clear hB1
  go_wp2_with fail
  refine (HF.out _ (HR.out.up HB1.out HB1.out.size)).mono ?_
  rintro e w2 ⟨rfl, hB2⟩
  have HB2 := Lib.hid (HB1.out.trans (hB2.mono HB1.out.size))
  clear hB2
  go_wp2_with fail
  go_ret
  exact ⟨rfl, HB2.out⟩
theorem el_at {E : List En} {i : Nat} {a : Int} (h : E[i]?.map En.a = some a) : ∃ h : i < E.length, (E[i]'h).a = a := by
  cases hq : E[i]? with
  | none => rw [hq] at h; cases h
  | some x =>
    obtain ⟨h1, h2⟩ := List.getElem?_eq_some_iff.1 hq
    rw [hq] at h
    exact ⟨h1, by rw [h2]; simpa using h⟩
theorem infoBlkN : (Try.prog.info? 24).map (fun i => (i.zero, i.size, i.bytes)) = some (some (.agg #[.int .i64 0, .int .i64 0, .int .i64 0, .int .i64 0, .bool false, .int .u64 0]), 6, 48) := by kernel_rfl
def fnB (k : Nat) : List Bk := List.replicate k ⟨0, 2, 1, 0, false, 0⟩
theorem fnB_snoc (k : Nat) : (fnB (k + 1)).flatMap Bk.cells = (fnB k).flatMap Bk.cells ++ [.int .i64 0, .int .i64 2, .int .i64 1, .int .i64 0, .bool false, .int .u64 0] := by
  unfold fnB
  rw [List.replicate_succ', flat_snoc]; rfl
def fnwL : List Nat := buildL 256 [] [] []
theorem fnw_len : fnwL.length = 256 := by decide +kernel
theorem fnw_lt : ∀ x ∈ fnwL, x < 18446744073709551616 := by decide +kernel
theorem fnw_fit : ∀ k, k < 0 → fits 256 [] [] k := by decide +kernel
theorem fnw_slt : ∀ k, k < 0 → ([] : List Int)[k]?.getD 0 < 4294967296 ∧ -4294967296 < ([] : List Int)[k]?.getD 0 := by decide +kernel
set_option maxRecDepth 100000 in
theorem fnw_c (w : World) : Calls Try.prog 32 #[.int .i64 256, .slice none 0 0, .slice none 0 0, .slice none 0 0] w fun e w' => OwnW w fnwL e w' := by
  have hbz : Below w.heap.size w w := Below.refl _ _
  obtain ⟨Z, hZ⟩ : ∃ Z, w = Z := ⟨_, rfl⟩
  rw [hZ] at  hbz ⊢
  clear hZ
  have hC := build_c none none none [] [] [] 0 0 0 256 Z.heap.size Z (by omega) (by omega) RdT.nil_ (show (0 : Nat) ≤ 8 by decide) Rd.nil_ Rd.nil_ (show (0 : Nat) ≤ 16 by decide) (Nat.le_refl _) (show (0 : Nat) ≤ 2048 by decide) (fun k hk => fnw_fit k hk) (fun k hk => fnw_slt k hk)
  refine hC.mono ?_
  intro e w1 h
  exact OwnW.mk_ hbz (show OwnW Z fnwL e w1 from h)
def fnxL : List Nat := buildL 256 [[]] [⟨0, 2, 1, 0, false, 0⟩, ⟨0, 2, 1, 0, false, 0⟩, ⟨0, 2, 1, 0, true, 130⟩] []
theorem fnx_len : fnxL.length = 256 := by decide +kernel
theorem fnx_lt : ∀ x ∈ fnxL, x < 18446744073709551616 := by decide +kernel
theorem fnx_fit : ∀ k, k < 3 → fits 256 [[]] [⟨0, 2, 1, 0, false, 0⟩, ⟨0, 2, 1, 0, false, 0⟩, ⟨0, 2, 1, 0, true, 130⟩] k := by decide +kernel
theorem fnx_slt : ∀ k, k < 0 → ([] : List Int)[k]?.getD 0 < 4294967296 ∧ -4294967296 < ([] : List Int)[k]?.getD 0 := by decide +kernel
set_option maxRecDepth 100000 in
theorem fnx_c (w : World) : Calls Try.prog 32 #[.int .i64 256, .slice (some ⟨w.heap.size + 1, 0, none⟩) 1 1, .slice (some ⟨w.heap.size + 1 + 1, 0, none⟩) 3 3, .slice none 0 0] (((w.alloc (.cells #[] 5)).alloc (.cells #[.slice (some ⟨w.heap.size, 0, none⟩) 0 0] 58)).alloc (.cells #[.int .i64 0, .int .i64 2, .int .i64 1, .int .i64 0, .bool false, .int .u64 0, .int .i64 0, .int .i64 2, .int .i64 1, .int .i64 0, .bool false, .int .u64 0, .int .i64 0, .int .i64 2, .int .i64 1, .int .i64 0, .bool true, .int .u64 130] 24)) fun e w' => OwnW w fnxL e w' := by
  have x0 := Bx.new w 5 #[]
  have x1 := Bx.new (w.alloc (.cells #[] 5)) 58 #[.slice (some ⟨w.heap.size, 0, none⟩) 0 0]
  have x2 := Bx.new ((w.alloc (.cells #[] 5)).alloc (.cells #[.slice (some ⟨w.heap.size, 0, none⟩) 0 0] 58)) 24 #[.int .i64 0, .int .i64 2, .int .i64 1, .int .i64 0, .bool false, .int .u64 0, .int .i64 0, .int .i64 2, .int .i64 1, .int .i64 0, .bool false, .int .u64 0, .int .i64 0, .int .i64 2, .int .i64 1, .int .i64 0, .bool true, .int .u64 130]
  (try simp only [World.size_alloc] at x0 x1 x2)
  replace x0 := ((x0.alloc (.cells #[.slice (some ⟨w.heap.size, 0, none⟩) 0 0] 58)).alloc (.cells #[.int .i64 0, .int .i64 2, .int .i64 1, .int .i64 0, .bool false, .int .u64 0, .int .i64 0, .int .i64 2, .int .i64 1, .int .i64 0, .bool false, .int .u64 0, .int .i64 0, .int .i64 2, .int .i64 1, .int .i64 0, .bool true, .int .u64 130] 24))
  replace x1 := (x1.alloc (.cells #[.int .i64 0, .int .i64 2, .int .i64 1, .int .i64 0, .bool false, .int .u64 0, .int .i64 0, .int .i64 2, .int .i64 1, .int .i64 0, .bool false, .int .u64 0, .int .i64 0, .int .i64 2, .int .i64 1, .int .i64 0, .bool true, .int .u64 130] 24))
  have hbz : Below w.heap.size w (((w.alloc (.cells #[] 5)).alloc (.cells #[.slice (some ⟨w.heap.size, 0, none⟩) 0 0] 58)).alloc (.cells #[.int .i64 0, .int .i64 2, .int .i64 1, .int .i64 0, .bool false, .int .u64 0, .int .i64 0, .int .i64 2, .int .i64 1, .int .i64 0, .bool false, .int .u64 0, .int .i64 0, .int .i64 2, .int .i64 1, .int .i64 0, .bool true, .int .u64 130] 24)) := by
    refine ((((Below.refl _ _).alloc ?_ _).alloc ?_ _).alloc ?_ _) <;> (try simp only [World.size_alloc]) <;> omega
  obtain ⟨Z, hZ⟩ : ∃ Z, (((w.alloc (.cells #[] 5)).alloc (.cells #[.slice (some ⟨w.heap.size, 0, none⟩) 0 0] 58)).alloc (.cells #[.int .i64 0, .int .i64 2, .int .i64 1, .int .i64 0, .bool false, .int .u64 0, .int .i64 0, .int .i64 2, .int .i64 1, .int .i64 0, .bool false, .int .u64 0, .int .i64 0, .int .i64 2, .int .i64 1, .int .i64 0, .bool true, .int .u64 130] 24)) = Z := ⟨_, rfl⟩
  rw [hZ] at x0 x1 x2 hbz ⊢
  clear hZ
  have hT : RdT Z Z.heap.size (some ⟨w.heap.size + 1, 0, none⟩) [⟨some ⟨w.heap.size, 0, none⟩, 0, []⟩] := by
    refine ⟨Rd.of_bx x1 x1.lt, fun x hx => ?_⟩
    simp only [List.mem_cons, List.not_mem_nil, or_false] at hx
    rcases hx with rfl
    · exact ⟨Rd.nil_, show (0 : Nat) ≤ 8 by decide, show kndOk [] = true by decide⟩
  have hC := build_c (some ⟨w.heap.size + 1, 0, none⟩) (some ⟨w.heap.size + 1 + 1, 0, none⟩) none [⟨some ⟨w.heap.size, 0, none⟩, 0, []⟩] [⟨0, 2, 1, 0, false, 0⟩, ⟨0, 2, 1, 0, false, 0⟩, ⟨0, 2, 1, 0, true, 130⟩] [] 1 3 0 256 Z.heap.size Z (by omega) (by omega) hT (show (1 : Nat) ≤ 8 by decide) (show Rd _ _ _ _ from Rd.of_bx x2 x2.lt) Rd.nil_ (show (0 : Nat) ≤ 16 by decide) (Nat.le_refl _) (show (3 : Nat) ≤ 2048 by decide) (fun k hk => fnx_fit k hk) (fun k hk => fnx_slt k hk)
  refine hC.mono ?_
  intro e w1 h
  exact OwnW.mk_ hbz (show OwnW Z fnxL e w1 from h)
def fnfL : List Nat := buildL 256 [[]] (fnB 64) []
theorem fnf_len : fnfL.length = 256 := by decide +kernel
theorem fnf_lt : ∀ x ∈ fnfL, x < 18446744073709551616 := by decide +kernel
theorem fnf_fit : ∀ k, k < 64 → fits 256 [[]] (fnB 64) k := by decide +kernel
theorem fnf_slt : ∀ k, k < 0 → ([] : List Int)[k]?.getD 0 < 4294967296 ∧ -4294967296 < ([] : List Int)[k]?.getD 0 := by decide +kernel
set_option maxRecDepth 100000 in
theorem fnf_c (w : World) (g cap : Nat) (hrow : RdB w w.heap.size (some ⟨g, 0, none⟩) (fnB 64)) : Calls Try.prog 32 #[.int .i64 256, .slice (some ⟨w.heap.size + 1, 0, none⟩) 1 1, .slice (some ⟨g, 0, none⟩) 64 cap, .slice none 0 0] ((w.alloc (.cells #[] 5)).alloc (.cells #[.slice (some ⟨w.heap.size, 0, none⟩) 0 0] 58)) fun e w' => OwnW w fnfL e w' := by
  have x0 := Bx.new w 5 #[]
  have x1 := Bx.new (w.alloc (.cells #[] 5)) 58 #[.slice (some ⟨w.heap.size, 0, none⟩) 0 0]
  (try simp only [World.size_alloc] at x0 x1)
  replace x0 := (x0.alloc (.cells #[.slice (some ⟨w.heap.size, 0, none⟩) 0 0] 58))
  have hbz : Below w.heap.size w ((w.alloc (.cells #[] 5)).alloc (.cells #[.slice (some ⟨w.heap.size, 0, none⟩) 0 0] 58)) := by
    refine (((Below.refl _ _).alloc ?_ _).alloc ?_ _) <;> (try simp only [World.size_alloc]) <;> omega
  obtain ⟨Z, hZ⟩ : ∃ Z, ((w.alloc (.cells #[] 5)).alloc (.cells #[.slice (some ⟨w.heap.size, 0, none⟩) 0 0] 58)) = Z := ⟨_, rfl⟩
  rw [hZ] at x0 x1 hbz ⊢
  clear hZ
  have hT : RdT Z Z.heap.size (some ⟨w.heap.size + 1, 0, none⟩) [⟨some ⟨w.heap.size, 0, none⟩, 0, []⟩] := by
    refine ⟨Rd.of_bx x1 x1.lt, fun x hx => ?_⟩
    simp only [List.mem_cons, List.not_mem_nil, or_false] at hx
    rcases hx with rfl
    · exact ⟨Rd.nil_, show (0 : Nat) ≤ 8 by decide, show kndOk [] = true by decide⟩
  have hrz : RdB Z Z.heap.size (some ⟨g, 0, none⟩) (fnB 64) := hrow.up hbz hbz.size
  have hC := build_c (some ⟨w.heap.size + 1, 0, none⟩) (some ⟨g, 0, none⟩) none [⟨some ⟨w.heap.size, 0, none⟩, 0, []⟩] (fnB 64) [] 1 cap 0 256 Z.heap.size Z (by omega) (by omega) hT (show (1 : Nat) ≤ 8 by decide) hrz Rd.nil_ (show (0 : Nat) ≤ 16 by decide) (Nat.le_refl _) (show (64 : Nat) ≤ 2048 by decide) (fun k hk => fnf_fit k hk) (fun k hk => fnf_slt k hk)
  refine hC.mono ?_
  intro e w1 h
  exact OwnW.mk_ hbz (show OwnW Z fnfL e w1 from h)

theorem fn_0 : enErr [] = 8 ∧ enErr fnwL = 6 ∧ enErr (List.replicate 256 0) = 50 := by decide +kernel
theorem fn_1 : enErr (putE fnwL (phE 1 0 0)) = 6 ∧ enErr (putE fnwL (phE 3 256 0)) = 6 ∧ enErr (putE fnwL (phE 4 128 130)) = 50 := by decide +kernel
theorem fn_2 : enErr (putE fnxL (phE 4 132 130)) = 6 ∧ enErr (putE fnxL (phE 4 132 132)) = 50 := by decide +kernel
theorem fn_3 : enErr (putE fnxL (phE 4 134 130)) = 0 ∧ frN (putE fnxL (phE 4 134 130)) = 126 ∧ (chOut (putE fnxL (phE 4 134 130))).length = 5 ∧ (chOut (putE fnxL (phE 4 134 130)))[3]?.map En.a = some 130 := by decide +kernel
theorem fn_4 : enErr (putE fnfL (phE 4 256 256)) = 0 ∧ frN (putE fnfL (phE 4 256 256)) = 0 ∧ chOut (putE fnfL (phE 4 256 256)) = [⟨16, 0⟩, ⟨17, 0⟩, ⟨18, 0⟩] := by decide +kernel
theorem fn_lt {l : List Nat} (h : ∀ x ∈ l, x < 18446744073709551616) (p f t : Nat) (hp : p < 18446744073709551616) (hf : f < 18446744073709551616) (ht : t < 18446744073709551616) : ∀ x ∈ putE l (phE p f t), x < 18446744073709551616 := putE_lt _ _ h fun e he => by
  unfold phE at he
  simp only [List.mem_cons, List.not_mem_nil, or_false] at he
  rcases he with rfl | rfl | rfl <;> assumption

set_option maxRecDepth 100000 in
set_option maxHeartbeats 16000000 in
theorem finishNames_walk (w : World) : Calls Try.prog 7 #[] w fun e w' => e = .returned (.bool true) ∧ Below w.heap.size w w' := by
  have HB0 := Lib.hid (Below.refl w.heap.size w)
  obtain ⟨i0, hi, hz0, hz1, hz2⟩ := info_parts infoBlkN
  have HI := Lib.hid hi
  have HZ0 := Lib.hid hz0
  have HZ1 := Lib.hid hz1
  have HZ2 := Lib.hid hz2
  clear hi hz0 hz1 hz2
  have HLw := Lib.hid (fun W => fnw_c W)
  unfold OwnW at HLw
  rw [fnw_len] at HLw
  have HLx := Lib.hid (fun W => fnx_c W)
  unfold OwnW at HLx
  rw [fnx_len] at HLx
  have HLf := Lib.hid (fun W g cap h => fnf_c W g cap h)
  unfold OwnW at HLf
  rw [fnf_len] at HLf
  have F0 := Lib.hid (fun c W => fails32_c none [] c 0 8 W rfl (by omega) (Nat.zero_le c) Rd.nil_ (fun x hx => by simp at hx) fn_0.1 (by decide))
  have F1 := Lib.hid (fun A c W (hc : 256 ≤ c) (h : RdW W W.heap.size A fnwL) => fails32_c A fnwL c 256 6 W fnw_len (by omega) hc h fnw_lt fn_0.2.1 (by decide))
  have F4 := Lib.hid (fun A c W (hc : 256 ≤ c) (h : RdW W W.heap.size A (List.replicate 256 0)) => fails32_c A (List.replicate 256 0) c 256 50 W zero256.2.2 (by omega) hc h zero_lt fn_0.2.2 (by decide))
  have P2 := Lib.hid (fun A c W (h : RdW W W.heap.size A fnwL) => at32_c A fnwL c 256 1 0 0 W.heap.size W fnw_len (by omega) (by omega) (by omega) (by omega) (by omega) h (Nat.le_refl _))
  unfold OwnW at P2
  rw [putE_len, fnw_len] at P2
  (try simp only [Int.cast_ofNat_Int] at P2)
  have F2 := Lib.hid (fun A c W (hc : 256 ≤ c) (h : RdW W W.heap.size A (putE fnwL (phE 1 0 0))) => fails32_c A (putE fnwL (phE 1 0 0)) c 256 6 W (by rw [putE_len]; exact fnw_len) (by omega) hc h (fn_lt fnw_lt 1 0 0 (by omega) (by omega) (by omega)) fn_1.1 (by decide))
  have P3 := Lib.hid (fun A c W (h : RdW W W.heap.size A fnwL) => at32_c A fnwL c 256 3 256 0 W.heap.size W fnw_len (by omega) (by omega) (by omega) (by omega) (by omega) h (Nat.le_refl _))
  unfold OwnW at P3
  rw [putE_len, fnw_len] at P3
  (try simp only [Int.cast_ofNat_Int] at P3)
  have F3 := Lib.hid (fun A c W (hc : 256 ≤ c) (h : RdW W W.heap.size A (putE fnwL (phE 3 256 0))) => fails32_c A (putE fnwL (phE 3 256 0)) c 256 6 W (by rw [putE_len]; exact fnw_len) (by omega) hc h (fn_lt fnw_lt 3 256 0 (by omega) (by omega) (by omega)) fn_1.2.1 (by decide))
  have P5 := Lib.hid (fun A c W (h : RdW W W.heap.size A fnwL) => at32_c A fnwL c 256 4 128 130 W.heap.size W fnw_len (by omega) (by omega) (by omega) (by omega) (by omega) h (Nat.le_refl _))
  unfold OwnW at P5
  rw [putE_len, fnw_len] at P5
  (try simp only [Int.cast_ofNat_Int] at P5)
  have F5 := Lib.hid (fun A c W (hc : 256 ≤ c) (h : RdW W W.heap.size A (putE fnwL (phE 4 128 130))) => fails32_c A (putE fnwL (phE 4 128 130)) c 256 50 W (by rw [putE_len]; exact fnw_len) (by omega) hc h (fn_lt fnw_lt 4 128 130 (by omega) (by omega) (by omega)) fn_1.2.2 (by decide))
  have P6 := Lib.hid (fun A c W (h : RdW W W.heap.size A fnxL) => at32_c A fnxL c 256 4 132 130 W.heap.size W fnx_len (by omega) (by omega) (by omega) (by omega) (by omega) h (Nat.le_refl _))
  unfold OwnW at P6
  rw [putE_len, fnx_len] at P6
  (try simp only [Int.cast_ofNat_Int] at P6)
  have F6 := Lib.hid (fun A c W (hc : 256 ≤ c) (h : RdW W W.heap.size A (putE fnxL (phE 4 132 130))) => fails32_c A (putE fnxL (phE 4 132 130)) c 256 6 W (by rw [putE_len]; exact fnx_len) (by omega) hc h (fn_lt fnx_lt 4 132 130 (by omega) (by omega) (by omega)) fn_2.1 (by decide))
  have P7 := Lib.hid (fun A c W (h : RdW W W.heap.size A fnxL) => at32_c A fnxL c 256 4 132 132 W.heap.size W fnx_len (by omega) (by omega) (by omega) (by omega) (by omega) h (Nat.le_refl _))
  unfold OwnW at P7
  rw [putE_len, fnx_len] at P7
  (try simp only [Int.cast_ofNat_Int] at P7)
  have F7 := Lib.hid (fun A c W (hc : 256 ≤ c) (h : RdW W W.heap.size A (putE fnxL (phE 4 132 132))) => fails32_c A (putE fnxL (phE 4 132 132)) c 256 50 W (by rw [putE_len]; exact fnx_len) (by omega) hc h (fn_lt fnx_lt 4 132 132 (by omega) (by omega) (by omega)) fn_2.2 (by decide))
  have P8 := Lib.hid (fun A c W (h : RdW W W.heap.size A fnxL) => at32_c A fnxL c 256 4 134 130 W.heap.size W fnx_len (by omega) (by omega) (by omega) (by omega) (by omega) h (Nat.le_refl _))
  unfold OwnW at P8
  rw [putE_len, fnx_len] at P8
  (try simp only [Int.cast_ofNat_Int] at P8)
  have P9 := Lib.hid (fun A c W (h : RdW W W.heap.size A fnfL) => at32_c A fnfL c 256 4 256 256 W.heap.size W fnf_len (by omega) (by omega) (by omega) (by omega) (by omega) h (Nat.le_refl _))
  unfold OwnW at P9
  rw [putE_len, fnf_len] at P9
  (try simp only [Int.cast_ofNat_Int] at P9)
  have C8 := Lib.hid (fun A c W (hc : 256 ≤ c) (h : RdW W W.heap.size A (putE fnxL (phE 4 134 130))) => fChange_c A (putE fnxL (phE 4 134 130)) c 256 W (by rw [putE_len]; exact fnx_len) (by omega) hc h (fn_lt fnx_lt 4 134 130 (by omega) (by omega) (by omega)))
  unfold ChRes at C8
  rw [fn_3.1, fn_3.2.2.1] at C8
  have R8 := Lib.hid (fun A c W (hc : 256 ≤ c) (h : RdW W W.heap.size A (putE fnxL (phE 4 134 130))) => fFree_c A (putE fnxL (phE 4 134 130)) c 256 W (by rw [putE_len]; exact fnx_len) (by omega) hc h (fn_lt fnx_lt 4 134 130 (by omega) (by omega) (by omega)))
  rw [fn_3.1, fn_3.2.1] at R8
  simp only [Int.cast_ofNat_Int] at R8
  have C9 := Lib.hid (fun A c W (hc : 256 ≤ c) (h : RdW W W.heap.size A (putE fnfL (phE 4 256 256))) => fChange_c A (putE fnfL (phE 4 256 256)) c 256 W (by rw [putE_len]; exact fnf_len) (by omega) hc h (fn_lt fnf_lt 4 256 256 (by omega) (by omega) (by omega)))
  unfold ChRes at C9
  rw [fn_4.1, fn_4.2.2] at C9
  have R9 := Lib.hid (fun A c W (hc : 256 ≤ c) (h : RdW W W.heap.size A (putE fnfL (phE 4 256 256))) => fFree_c A (putE fnfL (phE 4 256 256)) c 256 W (by rw [putE_len]; exact fnf_len) (by omega) hc h (fn_lt fnf_lt 4 256 256 (by omega) (by omega) (by omega)))
  rw [fn_4.1, fn_4.2.1] at R9
  simp only [Int.cast_ofNat_Int] at R9
  have v3 := fn_3.2.2.2
  have v5 := fn_3.2.2.1
  obtain ⟨E, hE⟩ : ∃ E, chOut (putE fnxL (phE 4 134 130)) = E := ⟨_, rfl⟩
  rw [hE] at C8 v3 v5
  clear hE
  obtain ⟨l3, e3⟩ := el_at v3
  have HE3 := Lib.hid e3
  clear v3 v5 e3
  have HSE := Lib.hid (fun A c B d W (h1 : RdE W W.heap.size A [⟨16, 0⟩, ⟨17, 0⟩, ⟨18, 0⟩]) (h2 : RdE W W.heap.size B [⟨16, 0⟩, ⟨17, 0⟩, ⟨18, 0⟩]) => sameEntries_c A B [⟨16, 0⟩, ⟨17, 0⟩, ⟨18, 0⟩] [⟨16, 0⟩, ⟨17, 0⟩, ⟨18, 0⟩] 3 3 c d W.heap.size W rfl rfl (by omega) h1 h2 (Nat.le_refl _))
  rw [show decide (([⟨16, 0⟩, ⟨17, 0⟩, ⟨18, 0⟩] : List En) = [⟨16, 0⟩, ⟨17, 0⟩, ⟨18, 0⟩]) = true by decide] at HSE
  generalize putE fnwL (phE 1 0 0) = u0 at *
  generalize putE fnwL (phE 3 256 0) = u1 at *
  generalize putE fnwL (phE 4 128 130) = u2 at *
  generalize putE fnxL (phE 4 132 130) = u3 at *
  generalize putE fnxL (phE 4 132 132) = u4 at *
  generalize putE fnxL (phE 4 134 130) = u5 at *
  generalize putE fnfL (phE 4 256 256) = u6 at *
  generalize fnwL = lw at *
  generalize fnxL = lx at *
  generalize fnfL = lf at *
  go_enter Try.func7, Try.ntmps7
  go_wp2_with fail
  refine (HLw.out _).mono ?_
  rintro e w_1 ⟨g1, c1, rfl, hown1, hB1⟩
  have HB1 := Lib.hid (HB0.out.trans (hB1.mono HB0.out.size))
  have W_1 := Lib.hid (show RdW _ _ _ lw from Rd.of_own hown1)
  have CP1 := Lib.hid (own_capR hown1)
  clear hB1 hown1
  go_wp2_with fail
  refine (HLx.out _).mono ?_
  rintro e w_2 ⟨g2, c2, rfl, hown2, hB2⟩
  have W_2 := Lib.hid (W_1.out.up hB2 hB2.size)
  have HB2 := Lib.hid (HB1.out.trans (hB2.mono HB1.out.size))
  have X_2 := Lib.hid (show RdW _ _ _ lx from Rd.of_own hown2)
  have CP2 := Lib.hid (own_capR hown2)
  clear hB2 hown2
  go_wp2_with fail
  refine (F0.out _ _).mono ?_
  rintro e w_3 ⟨rfl, hB3⟩
  have W_3 := Lib.hid (W_2.out.up hB3 hB3.size)
  have X_3 := Lib.hid (X_2.out.up hB3 hB3.size)
  have HB3 := Lib.hid (HB2.out.trans (hB3.mono HB2.out.size))
  clear hB3
  go_wp2_with fail
  refine (F1.out _ _ _ CP1.out W_3.out).mono ?_
  rintro e w_4 ⟨rfl, hB4⟩
  have W_4 := Lib.hid (W_3.out.up hB4 hB4.size)
  have X_4 := Lib.hid (X_3.out.up hB4 hB4.size)
  have HB4 := Lib.hid (HB3.out.trans (hB4.mono HB3.out.size))
  clear hB4
  go_wp2_with fail
  refine (P2.out _ _ _ W_4.out).mono ?_
  rintro e w_5 ⟨g5, c5, rfl, hown5, hB5⟩
  have W_5 := Lib.hid (W_4.out.up hB5 hB5.size)
  have X_5 := Lib.hid (X_4.out.up hB5 hB5.size)
  have HB5 := Lib.hid (HB4.out.trans (hB5.mono HB4.out.size))
  have U_5 := Lib.hid (show RdW _ _ _ u0 from Rd.of_own hown5)
  have CP5 := Lib.hid (own_capR hown5)
  clear hB5 hown5
  go_wp2_with fail
  refine (F2.out _ _ _ CP5.out U_5.out).mono ?_
  rintro e w_6 ⟨rfl, hB6⟩
  have W_6 := Lib.hid (W_5.out.up hB6 hB6.size)
  have X_6 := Lib.hid (X_5.out.up hB6 hB6.size)
  have HB6 := Lib.hid (HB5.out.trans (hB6.mono HB5.out.size))
  clear hB6
  go_wp2_with fail
  refine (P3.out _ _ _ W_6.out).mono ?_
  rintro e w_7 ⟨g7, c7, rfl, hown7, hB7⟩
  have W_7 := Lib.hid (W_6.out.up hB7 hB7.size)
  have X_7 := Lib.hid (X_6.out.up hB7 hB7.size)
  have HB7 := Lib.hid (HB6.out.trans (hB7.mono HB6.out.size))
  have U_7 := Lib.hid (show RdW _ _ _ u1 from Rd.of_own hown7)
  have CP7 := Lib.hid (own_capR hown7)
  clear hB7 hown7
  go_wp2_with fail
  refine (F3.out _ _ _ CP7.out U_7.out).mono ?_
  rintro e w_8 ⟨rfl, hB8⟩
  have W_8 := Lib.hid (W_7.out.up hB8 hB8.size)
  have X_8 := Lib.hid (X_7.out.up hB8 hB8.size)
  have HB8 := Lib.hid (HB7.out.trans (hB8.mono HB7.out.size))
  clear hB8
  obtain ⟨w_9, hmk, hr, hb⟩ := mk256 w_8
  have W_9 := Lib.hid (W_8.out.up hb hb.size)
  have X_9 := Lib.hid (X_8.out.up hb hb.size)
  have HB9 := Lib.hid (HB8.out.trans (hb.mono HB8.out.size))
  have Z_9 := Lib.hid hr
  clear hr hb
  go_wp2_with fail
  clear hmk
  refine (F4.out _ _ _ (Nat.le_refl _) Z_9.out).mono ?_
  rintro e w_10 ⟨rfl, hB10⟩
  have W_10 := Lib.hid (W_9.out.up hB10 hB10.size)
  have X_10 := Lib.hid (X_9.out.up hB10 hB10.size)
  have HB10 := Lib.hid (HB9.out.trans (hB10.mono HB9.out.size))
  clear hB10
  go_wp2_with fail
  refine (P5.out _ _ _ W_10.out).mono ?_
  rintro e w_11 ⟨g11, c11, rfl, hown11, hB11⟩
  have W_11 := Lib.hid (W_10.out.up hB11 hB11.size)
  have X_11 := Lib.hid (X_10.out.up hB11 hB11.size)
  have HB11 := Lib.hid (HB10.out.trans (hB11.mono HB10.out.size))
  have U_11 := Lib.hid (show RdW _ _ _ u2 from Rd.of_own hown11)
  have CP11 := Lib.hid (own_capR hown11)
  clear hB11 hown11
  go_wp2_with fail
  refine (F5.out _ _ _ CP11.out U_11.out).mono ?_
  rintro e w_12 ⟨rfl, hB12⟩
  have W_12 := Lib.hid (W_11.out.up hB12 hB12.size)
  have X_12 := Lib.hid (X_11.out.up hB12 hB12.size)
  have HB12 := Lib.hid (HB11.out.trans (hB12.mono HB11.out.size))
  clear hB12
  go_wp2_with fail
  refine (P6.out _ _ _ X_12.out).mono ?_
  rintro e w_13 ⟨g13, c13, rfl, hown13, hB13⟩
  have X_13 := Lib.hid (X_12.out.up hB13 hB13.size)
  have HB13 := Lib.hid (HB12.out.trans (hB13.mono HB12.out.size))
  have U_13 := Lib.hid (show RdW _ _ _ u3 from Rd.of_own hown13)
  have CP13 := Lib.hid (own_capR hown13)
  clear hB13 hown13
  go_wp2_with fail
  refine (F6.out _ _ _ CP13.out U_13.out).mono ?_
  rintro e w_14 ⟨rfl, hB14⟩
  have X_14 := Lib.hid (X_13.out.up hB14 hB14.size)
  have HB14 := Lib.hid (HB13.out.trans (hB14.mono HB13.out.size))
  clear hB14
  go_wp2_with fail
  refine (P7.out _ _ _ X_14.out).mono ?_
  rintro e w_15 ⟨g15, c15, rfl, hown15, hB15⟩
  have X_15 := Lib.hid (X_14.out.up hB15 hB15.size)
  have HB15 := Lib.hid (HB14.out.trans (hB15.mono HB14.out.size))
  have U_15 := Lib.hid (show RdW _ _ _ u4 from Rd.of_own hown15)
  have CP15 := Lib.hid (own_capR hown15)
  clear hB15 hown15
  go_wp2_with fail
  refine (F7.out _ _ _ CP15.out U_15.out).mono ?_
  rintro e w_16 ⟨rfl, hB16⟩
  have X_16 := Lib.hid (X_15.out.up hB16 hB16.size)
  have HB16 := Lib.hid (HB15.out.trans (hB16.mono HB15.out.size))
  clear hB16
  go_wp2_with fail
  refine (P8.out _ _ _ X_16.out).mono ?_
  rintro e w_17 ⟨g17, c17, rfl, hown17, hB17⟩
  have X_17 := Lib.hid (X_16.out.up hB17 hB17.size)
  have HB17 := Lib.hid (HB16.out.trans (hB17.mono HB16.out.size))
  have U_17 := Lib.hid (show RdW _ _ _ u5 from Rd.of_own hown17)
  have CP17 := Lib.hid (own_capR hown17)
  clear hB17 hown17
  go_wp2_with fail
  refine (C8.out _ _ _ CP17.out U_17.out).mono ?_
  rintro e w_18 ⟨⟨A18, c18, rfl, hr18, -⟩, hB18⟩
  have X_18 := Lib.hid (X_17.out.up hB18 hB18.size)
  have HB18 := Lib.hid (HB17.out.trans (hB18.mono HB17.out.size))
  have E_18 := Lib.hid (hr18)
  clear hB18 hr18
  go_wp2_with fail
  refine (P8.out _ _ _ X_18.out).mono ?_
  rintro e w_19 ⟨g19, c19, rfl, hown19, hB19⟩
  have E_19 := Lib.hid (E_18.out.up hB19 hB19.size)
  have HB19 := Lib.hid (HB18.out.trans (hB19.mono HB18.out.size))
  have U_19 := Lib.hid (show RdW _ _ _ u5 from Rd.of_own hown19)
  have CP19 := Lib.hid (own_capR hown19)
  clear hB19 hown19
  go_wp2_with fail
  refine (R8.out _ _ _ CP19.out U_19.out).mono ?_
  rintro e w_20 ⟨rfl, hB20⟩
  have E_20 := Lib.hid (E_19.out.up hB20 hB20.size)
  have HB20 := Lib.hid (HB19.out.trans (hB20.mono HB19.out.size))
  clear hB20
  go_wp2_with fail
  have HSN := Lib.hid (fun k => fnB_snoc k)
  go_loopw [8, 9] (fun v i wr => ∃ k : Nat, k ≤ 64 ∧ i = .int .i64 k ∧ wr.ownsRow w_20.heap.size 24 6 v k ((fnB k).flatMap Bk.cells) ∧ Below w_20.heap.size w_20 wr) (fun _ i _ => 64 - (intOf i).toNat)
  case atStart => exact ⟨0, Nat.zero_le _, rfl, World.ownsRow_nil _ _ _ _, Below.refl _ _⟩
  case round =>
    obtain ⟨k, hk, rfl, hown, hB⟩ := hrel
    have hz := hB.size
    by_cases hlt : k < 64
    · have HN := Lib.hid (HSN.out k)
      go_wp2_with (at_builtin; refine wpList_append_own _ rfl _ _ 25 rfl w_20.heap.size 24 i0 _ 6 48 Try.underlying25 HI.out HZ0.out HZ1.out HZ2.out rfl (by decide) _ _ _ rfl (hown.alloc _) ⟨_, 0, none⟩ 1 1 [.int .i64 0, .int .i64 2, .int .i64 1, .int .i64 0, .bool false, .int .u64 0] rfl rfl (news_new _ _ _) (by simp [Value.oneCell']) (by unfold maxLen; omega) (by omega) (le_alloc_ hB.size) ?_; intro v1 w2 hown1 hg1 _; have hB2 := below_append hB hB.size hown hg1)
      go_roundw
      case rel => exact ⟨k + 1, by omega, by go_num, by rw [HN.out]; exact hown1, hB2⟩
      case measure => simp [intOf]; omega
    · obtain rfl : k = 64 := by omega
      obtain ⟨g, cap, rfl⟩ := own_some hown (by omega)
      obtain ⟨w_21, hW⟩ : ∃ W, wr = W := ⟨_, rfl⟩
      subst hW
      have E_21 := Lib.hid (E_20.out.up hB hB.size)
      have HB21 := Lib.hid (HB20.out.trans (hB.mono HB20.out.size))
      have G_21 := Lib.hid (show RdB _ _ _ _ from Rd.of_own hown)
      clear hown hB hz hk hlt HSN
      rw [show ((64 : Nat) : Int) = 64 from rfl]
      go_wp2_with fail
      refine (HLf.out _ _ _ G_21.out).mono ?_
      rintro e w_22 ⟨g22, c22, rfl, hown22, hB22⟩
      have E_22 := Lib.hid (E_21.out.up hB22 hB22.size)
      have HB22 := Lib.hid (HB21.out.trans (hB22.mono HB21.out.size))
      have U_22 := Lib.hid (show RdW _ _ _ lf from Rd.of_own hown22)
      have CP22 := Lib.hid (own_capR hown22)
      clear hB22 hown22
      go_wp2_with fail
      refine (P9.out _ _ _ U_22.out).mono ?_
      rintro e w_23 ⟨g23, c23, rfl, hown23, hB23⟩
      have E_23 := Lib.hid (E_22.out.up hB23 hB23.size)
      have HB23 := Lib.hid (HB22.out.trans (hB23.mono HB22.out.size))
      have V_23 := Lib.hid (show RdW _ _ _ u6 from Rd.of_own hown23)
      have CP23 := Lib.hid (own_capR hown23)
      clear hB23 hown23
      go_wp2_with fail
      refine (C9.out _ _ _ CP23.out V_23.out).mono ?_
      rintro e w_24 ⟨⟨A24, c24, rfl, hr24, -⟩, hB24⟩
      have E_24 := Lib.hid (E_23.out.up hB24 hB24.size)
      have V_24 := Lib.hid (V_23.out.up hB24 hB24.size)
      have HB24 := Lib.hid (HB23.out.trans (hB24.mono HB23.out.size))
      have M_24 := Lib.hid (hr24)
      clear hB24 hr24
      go_wp2_with fail
      refine (R9.out _ _ _ CP23.out V_24.out).mono ?_
      rintro e w_25 ⟨rfl, hB25⟩
      have E_25 := Lib.hid (E_24.out.up hB25 hB25.size)
      have M_25 := Lib.hid (M_24.out.up hB25 hB25.size)
      have HB25 := Lib.hid (HB24.out.trans (hB25.mono HB24.out.size))
      clear hB25
      go_wp2_with fail
      refine (alive32_c _).mono ?_
      rintro e w_26 ⟨rfl, hB26⟩
      have E_26 := Lib.hid (E_25.out.up hB26 hB26.size)
      have M_26 := Lib.hid (M_25.out.up hB26 hB26.size)
      have HB26 := Lib.hid (HB25.out.trans (hB26.mono HB25.out.size))
      clear hB26
      obtain ⟨b, off, eA, hb, p3, -⟩ := RdE.at_ E_26.out l3
      cases eA
      rw [HE3.out] at p3
      simp only [Nat.reduceMul] at p3
      go_wp2_with fail
      clear p3 hb
      have xb := Bx.new w_26 54 #[.int .i64 16, .int .u64 0, .int .i64 17, .int .u64 0, .int .i64 18, .int .u64 0]
      have hba : Below w_26.heap.size w_26 (w_26.alloc (.cells #[.int .i64 16, .int .u64 0, .int .i64 17, .int .u64 0, .int .i64 18, .int .u64 0] 54)) := (Below.refl _ _).alloc (Nat.le_refl _) _
      refine (HSE.out _ _ _ _ _ (M_26.out.up hba hba.size) (show Rd _ _ _ _ from Rd.of_bx xb xb.lt)).mono ?_
      rintro e w_27 ⟨rfl, hB27⟩
      have hbb := hba.trans (hB27.mono hba.size)
      have HB27 := Lib.hid (HB26.out.trans (hbb.mono HB26.out.size))
      clear hB27 hbb hba
      go_wp2_with fail
      go_ret
      exact ⟨rfl, HB27.out⟩
end Go.Proofs.Ytpmfiibndiecpaa
