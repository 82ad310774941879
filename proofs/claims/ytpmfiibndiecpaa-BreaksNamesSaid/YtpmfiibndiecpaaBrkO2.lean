/- Rows that are refused, and starts that are wrong: the words of the law BreaksNames. -/
import Derived.Test.YtpmfiibndiecpaaBrkM
import Derived.Test.YtpmfiibndiecpaaKHead
import Derived.Test.YtpmfiibndiecpaaSeq
namespace Go.Proofs.Ytpmfiibndiecpaa
open Go.RowKit

set_option maxRecDepth 100000 in
set_option maxHeartbeats 800000 in
theorem refused_c (A : Option Addr) (l : List Bk) (c n : Nat) (w : World) (hn : l.length = n) (hm : n ≤ 4294967296) (hr : RdB w w.heap.size A l) (h8 : rowErr l = 8) :
    Calls Try.prog 14 #[.slice A n c] w fun e w' => e = .returned (.bool true) ∧ Below w.heap.size w w' := by
  subst hn
  have HR := Lib.hid hr
  have H8 := Lib.hid h8
  have hs8 : stErr l (-1) = 8 := by rw [stErr_8 (by rw [h8]; omega), h8]
  have HS8 := Lib.hid hs8
  have HE := Lib.hid (endRes_no (l := l) (s := -1) (by rw [hs8]; omega))
  have HG := Lib.hid (gapRes_no (l := l) (by rw [h8]; omega))
  clear hr h8 hs8
  go_enter Try.func14, Try.ntmps14
  go_wp2_with fail
  refine (places_c A l c l.length (-1) _ rfl hm HR.out (by omega)).mono ?_
  rintro e w1 ⟨⟨P, cp, rfl, -, -⟩, hB1⟩
  rw [HS8.out]
  have hz1 := hB1.size
  go_wp2_with fail
  refine (end_c A l c l.length (-1) _ rfl hm (HR.out.up hB1 hz1) (by omega)).mono ?_
  rintro e w2 ⟨rfl, hB2⟩
  have hb2 := hB1.trans (hB2.mono hz1)
  rw [HE.out, HS8.out]
  go_wp2_with fail
  refine (gaps_c A l c l.length _ rfl hm (HR.out.up hb2 hb2.size)).mono ?_
  rintro e w3 ⟨rfl, hB3⟩
  have hb3 := hb2.trans (hB3.mono hb2.size)
  rw [HG.out, H8.out]
  go_wp2_with fail
  refine (check_c A l c l.length _ rfl (by omega) (HR.out.up hb3 hb3.size)).mono ?_
  rintro e w4 ⟨rfl, hB4⟩
  have hb4 := hb3.trans (hB4.mono hb3.size)
  rw [H8.out]
  go_wp2_with fail
  go_ret
  exact ⟨rfl, hb4⟩

set_option maxRecDepth 100000 in
set_option maxHeartbeats 800000 in
theorem wrong_c (A : Option Addr) (l : List Bk) (c n : Nat) (s : Int) (w : World) (hn : l.length = n) (hm : n ≤ 4294967296) (hr : RdB w w.heap.size A l) (hs : -9223372036854775808 ≤ s ∧ s ≤ 9223372036854775807) (h2 : stErr l s = 2) :
    Calls Try.prog 19 #[.slice A n c, .int .i64 s] w fun e w' => e = .returned (.bool true) ∧ Below w.heap.size w w' := by
  subst hn
  have HR := Lib.hid hr
  have H2 := Lib.hid h2
  have HE := Lib.hid (endRes_no (l := l) (s := s) (by rw [h2]; omega))
  clear hr h2
  go_enter Try.func19, Try.ntmps19
  go_wp2_with fail
  refine (places_c A l c l.length s _ rfl hm HR.out hs).mono ?_
  rintro e w1 ⟨⟨P, cp, rfl, -, -⟩, hB1⟩
  rw [H2.out]
  have hz1 := hB1.size
  go_wp2_with fail
  refine (end_c A l c l.length s _ rfl hm (HR.out.up hB1 hz1) hs).mono ?_
  rintro e w2 ⟨rfl, hB2⟩
  have hb2 := hB1.trans (hB2.mono hz1)
  rw [HE.out, H2.out]
  go_wp2_with fail
  go_ret
  exact ⟨rfl, hb2⟩

/-- Rows of n marked objects of 2 words. -/
def mk2 (i : Nat) : Bk := ⟨128 + 2 * (i : Int), 2, 1, 0, true, 0⟩
def manyL (n : Nat) : List Bk := (List.range n).map mk2
theorem manyL_len (n : Nat) : (manyL n).length = n := by simp [manyL]
theorem manyL_gk {n k : Nat} (h : k < n) : gk (manyL n) k = mk2 k := by simp [gk, manyL, h]
theorem manyL_take {n k : Nat} (h : k ≤ n) : (manyL n).take k = manyL k := by
  simp only [manyL, ← List.map_take, List.take_range, Nat.min_eq_left h]
theorem manyL_snoc (n : Nat) : manyL (n + 1) = manyL n ++ [mk2 n] := by simp [manyL, List.range_succ]
theorem manyL_pre {n k : Nat} (hn : n ≤ 960) (h : k ≤ n) : rowPre (manyL n) k = true := by
  induction k with
  | zero => rfl
  | succ k ih =>
    refine rowPre_yes (ih (by omega)) ?_ ?_
    · rw [manyL_gk (n := n) (k := k) (by omega), bkOk_iff]
      unfold mk2
      dsimp only
      omega
    · rcases Nat.eq_zero_or_pos k with h0 | h0
      · exact .inl h0
      · right
        obtain ⟨m, rfl⟩ : ∃ m, k = m + 1 := ⟨k - 1, by omega⟩
        simp only [rowNext]
        rw [manyL_gk (n := n) (k := m + 1) (by omega), manyL_gk (n := n) (k := m) (by omega)]
        unfold mk2
        dsimp only
        omega
theorem manyL_ok : rowErr (manyL 960) = 0 := rowErr_ok (by rw [manyL_len]; omega) (by rw [manyL_len]; exact manyL_pre (Nat.le_refl _) (Nat.le_refl _))
theorem manyL_961 : rowErr (manyL 961) = 8 := rowErr_bad (k := 961) (rowPre_no (by rw [manyL_gk (by omega)]; decide +kernel)) (by rw [manyL_len]; omega)
theorem manyL_1025 : rowErr (manyL 1025) = 8 := rowErr_many (by rw [manyL_len]; omega)
theorem manyL_end (n : Nat) (s : Int) : endOf (manyL n) s = s + 2 * n := by
  induction n with
  | zero => simp [manyL, endOf]
  | succ n ih => rw [manyL_snoc, endOf_append, ih]; simp only [endOf, show liveB (mk2 n) = true from rfl, if_true]; simp only [mk2]; omega
theorem many960_end : endRes (manyL 960) 128 = .tuple #[.int .i64 2048, .int .i64 0] := by
  have : stErr (manyL 960) 128 = 0 := stErr_0 manyL_ok ⟨by omega, by unfold most; rw [manyL_len, if_neg (by omega), manyL_gk (by omega)]; simp [mk2], by omega⟩
  rw [endRes_ok this, manyL_end]; rfl
theorem nil_end : endRes [] 2048 = .tuple #[.int .i64 2048, .int .i64 0] := by simp [endRes, show stErr [] 2048 = 0 from by decide +kernel, endOf]
theorem nil_gap : gapRes [] = .tuple #[.int .i64 0, .int .i64 0] := by simp [gapRes, show rowErr [] = 0 from by decide +kernel, gapsOf]
theorem one_end : endRes [⟨2046, 2, 1, 0, true, 0⟩] 128 = .tuple #[.int .i64 130, .int .i64 0] := by
  simp only [endRes, show stErr [⟨2046, 2, 1, 0, true, 0⟩] 128 = 0 from by decide +kernel, show endOf [⟨2046, 2, 1, 0, true, 0⟩] 128 = 130 from by decide +kernel]; rfl

theorem many_at {w : World} {B g : Nat} (h : RdB w B (some ⟨g, 0, none⟩) (manyL 1025)) {k : Nat} (hk : k < 1025) : w.cell? ⟨g, k * 6, none⟩ = some (.int .i64 (128 + 2 * (k : Int))) ∧ w.cell? ⟨g, k * 6 + 1, none⟩ = some (.int .i64 2) ∧ w.cell? ⟨g, k * 6 + 2, none⟩ = some (.int .i64 1) ∧
    w.cell? ⟨g, k * 6 + 3, none⟩ = some (.int .i64 0) ∧ w.cell? ⟨g, k * 6 + 4, none⟩ = some (.bool true) ∧ w.cell? ⟨g, k * 6 + 5, none⟩ = some (.int .u64 0) := by
  obtain ⟨b, off, e, _, h0, h1, h2, h3, h4, h5⟩ := h.at_ (k := k) (by rw [manyL_len]; exact hk)
  cases e
  have e : (manyL 1025)[k]'(by rw [manyL_len]; exact hk) = mk2 k := by rw [← gk_get, manyL_gk hk]
  rw [e] at h0 h1 h2 h3 h4 h5
  simp only [Nat.zero_add] at h0 h1 h2 h3 h4 h5
  exact ⟨h0, h1, h2, h3, h4, h5⟩
def L02 : List Bk := [⟨128, 2, 1, 0, true, 0⟩, ⟨132, 2, 1, 0, true, 0⟩]
def L10 : List Bk := [⟨130, 2, 1, 0, true, 0⟩, ⟨128, 2, 1, 0, true, 0⟩]
def L46 : List Bk := [⟨2046, 2, 1, 0, true, 0⟩]
def badsL : List Bk := [⟨128, 2, 0, 0, false, 0⟩, ⟨128, 2, 3, 0, false, 0⟩, ⟨128, 3, 1, 0, false, 0⟩, ⟨128, 0, 1, 0, false, 0⟩, ⟨129, 2, 1, 0, false, 0⟩, ⟨126, 2, 1, 0, false, 0⟩, ⟨2048, 2, 2, 0, false, 0⟩, ⟨128, 1922, 2, 0, false, 0⟩, ⟨128, 9223372036854775806, 2, 0, false, 0⟩, ⟨-2, 2, 1, 0, false, 0⟩]
theorem badsL_8 (i : Nat) (h : i < 10) : rowErr ((badsL.drop i).take 1) = 8 := by
  have : ∀ i : Fin 10, rowErr ((badsL.drop i.1).take 1) = 8 := by decide +kernel
  exact this ⟨i, h⟩

theorem infoBlk : (Try.prog.info? 24).map (fun i => (i.zero, i.size, i.bytes)) = some (some (.agg #[.int .i64 0, .int .i64 0, .int .i64 0, .int .i64 0, .bool false, .int .u64 0]), 6, 48) := by kernel_rfl

theorem rdB_nil (w : World) (B : Nat) : RdB w B none [] := Rd.nil_
theorem exL_len : exL.length = 4 := rfl
theorem rd_new' {w : World} {cs : List Value} {l : List Bk} {t : TypeId} (h : cs = l.flatMap Bk.cells) : RdB (w.alloc (.cells cs.toArray t)) (w.alloc (.cells cs.toArray t)).heap.size (some ⟨w.heap.size, 0, none⟩) l := by
  subst h
  rw [World.size_alloc]
  exact rd_new w _ t
end Go.Proofs.Ytpmfiibndiecpaa
