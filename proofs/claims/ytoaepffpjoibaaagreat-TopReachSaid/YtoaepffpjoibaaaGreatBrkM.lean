/- End and Gaps of rows, and the chapter's example of layer 26: for a seat that has not this layer's reference. -/
import Derived.Test.YtoaepffpjoibaaaGreatKPlace
import Derived.Test.YtoaepffpjoibaaaGreatKPlain
import Derived.Test.YtoaepffpjoibaaaGreatKMove
namespace Go.Proofs.YtoaepffpjoibaaaGreat
open Go.RowKit Go.Shelf
section
attribute [local go_sem] Oper.semAt_some
theorem gapsOf_take1 {l : List Bk} {k : Nat} (h : k < l.length) {u : Int} {x : Bk} (hx : l[k] = x) (hu : gapsOf (l.take k) = u) (hl : liveB x = true) : gapsOf (l.take (k + 1)) = u := by
  rw [gapsOf_take h, hx, if_pos hl, hu]
theorem gapsOf_take0 {l : List Bk} {k : Nat} (h : k < l.length) {u : Int} {x : Bk} (hx : l[k] = x) (hu : gapsOf (l.take k) = u) (hl : liveB x = false) : gapsOf (l.take (k + 1)) = u + x.size := by
  rw [gapsOf_take h, hx, if_neg (by rw [hl]; exact Bool.false_ne_true), hu]

/-- What End gives: the end and the error. -/
def endRes (l : List Bk) (s : Int) : Value := .tuple #[.int .i64 (if stErr l s = 0 then endOf l s else 0), .int .i64 (stErr l s)]
theorem endRes_ok {l : List Bk} {s : Int} (h : stErr l s = 0) : endRes l s = .tuple #[.int .i64 (endOf l s), .int .i64 0] := by simp [endRes, h]
theorem endRes_no {l : List Bk} {s : Int} (h : stErr l s ≠ 0) : endRes l s = .tuple #[.int .i64 0, .int .i64 (stErr l s)] := by simp [endRes, h]

set_option maxRecDepth 100000 in
set_option maxHeartbeats 2000000 in
theorem end_in (A : Option Addr) (l : List Bk) (c n : Nat) (s : Int) (w : World) (hn : l.length = n) (hm : n ≤ 4294967296) (hr : RdB w w.heap.size A l) (hs : -9223372036854775808 ≤ s ∧ s ≤ 9223372036854775807) :
    CallsIn Fence.wide 6 Tryz.prog 16 #[.slice A n c, .int .i64 s] w fun e w' => e = .returned (endRes l s) ∧ Below w.heap.size w w' := by
  subst hn
  have HR := Lib.hid hr
  clear hr
  refine callsIn_of_wp_marks Tryz.func16 rfl trivial ?_ rfl
  simp only [Tryz.ntmps16, List.size_toArray, List.length_cons, List.length_nil, Nat.reduceAdd, Nat.reduceSub, Array.replicate_succ, Array.replicate_zero, List.push_toArray, List.append_toArray, List.nil_append, List.cons_append]
  gi_wp2
  refine ⟨trivial, (callsIn_wide.2 (started_c A l c l.length s _ rfl (by omega) ((HR.out.alloc (Nat.le_refl _) _).more (by simp)) hs)).mono ?_⟩
  rintro e w1 ⟨rfl, hB1⟩
  rw [World.size_alloc] at hB1
  have b0 := Bx.of_new hB1
  have hb1 := below_call hB1
  have hz1 := hb1.size
  by_cases h0 : stErr l s = 0
  · obtain ⟨hre, hs1, hs2, _⟩ := stErr_zero h0
    have HRE := Lib.hid hre
    have HE := Lib.hid (endRes_ok h0)
    have hmb := most_bd hre
    have hlen := (rowErr_zero hre).1
    rw [h0]
    have hfin := szSum_lp (l := l) (Nat.le_refl l.length) s
    rw [List.take_length] at hfin
    have HFIN := Lib.hid hfin
    clear h0 hre hfin
    obtain ⟨q1, q2, q3⟩ := b0.c1
    gi_wp2
    refine ⟨trivial, (live_in Fence.wide _ trivial rfl A l.length c w1).mono ?_⟩
    rintro e w2 ⟨rfl, rfl⟩
    have hrd1 := Lib.hid ((HR.out.up hb1 hz1).alloc (Nat.le_refl _) (.cells #[.slice A l.length c] 37))
    have c0 := b0.alloc (.cells #[.slice A l.length c] 37)
    have c1 := Bx.new w1 37 #[.slice A l.length c]
    have hb2 := hb1.alloc hz1 (.cells #[.slice A l.length c] 37)
    have hsz : (w1.alloc (.cells #[.slice A l.length c] 37)).heap.size = w1.heap.size + 1 := by simp
    obtain ⟨W0, hW0⟩ : ∃ W0, w1.alloc (.cells #[.slice A l.length c] 37) = W0 := ⟨_, rfl⟩
    rw [hW0] at hrd1 c0 c1 hb2 hsz ⊢
    clear hW0
    have hw0 : w.heap.size < W0.heap.size := by omega
    gi_wp2
    refine wpIn_rangeFunc_ownH rfl (show 1 ≤ 6 by omega) (gf := 52) (lb := #[.pointer (some ⟨w1.heap.size, 0, none⟩)]) rfl trivial (enters_of Tryz.func52 (by kernel_rfl) rfl)
      (live_stops Fence.wide 5 trivial rfl (by omega) w1.heap.size w.heap.size A l c (by omega) W0 (by omega) (by omega) (c1.c1).1 ((HR.out).below hb2)) belowK_t (belowK_b (by omega)) (Below.refl _ _) (fun _ => rfl)
      (fun pre W => Bx W w.heap.size 3 #[.int .i64 (s + szSum l pre)] ∧ Below w.heap.size w W)
      (fun _ _ _ => False)
      (OwnFrom.and (Own.from (bx_own _ _ _) _) (ownFrom_below (Nat.le_refl _) (by omega)))
      (fun _ _ _ _ _ hs _ _ => hs)
      ⟨by simp only [szSum, Int.add_zero]; exact c0, hb2⟩
      (fun x a' W => ∃ Bx', w.heap.size < Bx' ∧ Bx W Bx' 48 (gk l x.1).arr ∧ a' = { tmps := #[.slice A l.length c, .int .i64 s, undef, .pointer (some ⟨w.heap.size, 0, none⟩), .int .i64 0, .int .i64 0, .int .i64 0, undef, .pointer (some ⟨Bx', 0, none⟩), .slice A l.length c, .int .i64 s, .int .i64 0, .int .i64 0, .bool false, undef, .slice A l.length c, .func (.func 52) #[] #[.pointer (some ⟨w1.heap.size, 0, none⟩)], .int .i64 (x.1 : Int), (gk l x.1).val, undef, undef, undef, undef, undef], defers := [] })
      (fun x a' _ X Y row hs hg hr => by obtain ⟨B', h1, h2, h3⟩ := hs; exact ⟨B', h1, bx_own B' 48 (fun (_ : Unit) => (gk l x.1).arr) () X Y row h2 hg (fun r e => (hr r e).2), h3⟩)
      ?assign ?body ?done ?stop
    case assign =>
      rintro l' pre x W K ⟨bS, hB⟩ hK
      have hz := hB.size
      obtain ⟨y, hy⟩ : ∃ y, gk l x.1 = y := ⟨_, rfl⟩
      rw [hy] at hK ⊢
      obtain ⟨xa, xs, xk, xt, xm, xn⟩ := y
      unfold Bk.arr Bk.val at hK
      unfold Bk.val
      dsimp only at hK ⊢
      have HK := Lib.hid hK
      clear hK hy
      gi_wp2
      exact HK.out _ _ ((KeepsOthers.alloc _ _).from _) ((Below.refl _ W).alloc hz _) ⟨bS.alloc _, hB.alloc hz _⟩ ⟨W.heap.size, bS.lt, Bx.new W _ _, rfl⟩
    case body =>
      rintro l' pre x a' W hl ⟨r, hr⟩ ⟨bS, hB⟩ ⟨B', hB', bX, rfl⟩ hlt
      have hsb := szSum_bd HRE.out pre
      have hxb := size_bd HRE.out x
      have hsn := Lib.hid (szSum_snoc l pre x)
      have g1 : W.cell? ⟨B', 1, none⟩ = some (.int .i64 (gk l x.1).size) := bX.cell 1
      obtain ⟨s1, s2, s3⟩ := bS.c1
      obtain ⟨u, hu⟩ : ∃ u, (gk l x.1).size = u := ⟨_, rfl⟩
      obtain ⟨m, hm⟩ : ∃ m, s + szSum l pre = m := ⟨_, rfl⟩
      have hm1 : 0 ≤ m ∧ m ≤ 2200000 := by omega
      have HM := Lib.hid (show s + szSum l (pre ++ [x]) = m + u by rw [hsn.out, ← hm, hu]; omega)
      rw [hu] at g1 hxb
      rw [hm] at s1
      obtain ⟨hm1, hm2⟩ := hm1
      obtain ⟨hx1, hx2⟩ := hxb
      have bS2 := Lib.hid bS
      clear hsb bS hm hu hlt
      gi_wp2
      exact ⟨(KeepsOthers.setCell _ _ _).from _, (Below.refl _ W).setCell (p := ⟨w.heap.size, 0, none⟩) (Nat.le_refl _) _, by rw [HM.out]; exact bS2.out.set_ 0 _, hB.setCell (p := ⟨w.heap.size, 0, none⟩) (Nat.le_refl _) _⟩
    case done =>
      rintro D zs W hD rfl ⟨bS, hB⟩ hK
      obtain ⟨s1, s2, s3⟩ := bS.c1
      rw [HFIN.out] at s1
      gi_wp2
      refine ⟨by simp, .inl ⟨_, _, rfl, run_takeDeferred hK, ?_⟩⟩
      exact ⟨_, results_tmp2 rfl _ _ _, by rw [HE.out]; rfl, hB.trans (belowK_b (w := w) (Nat.le_refl _) W D _ _ (by omega) hK rfl rfl)⟩
    case stop =>
      rintro D c pre W _ _ h _
      exact h.elim
  · have hn1 : (stErr l s == 0) = false := by rw [beq_eq_false_iff_ne]; exact h0
    have hn2 : (stErr l s != 0) = true := by rw [bne_iff_ne]; exact h0
    have HE := Lib.hid (endRes_no h0)
    clear h0
    gi_wp2
    exact ⟨_, results_tmp2 rfl _ _ _, by rw [HE.out]; rfl, hb1⟩

theorem end_c (A : Option Addr) (l : List Bk) (c n : Nat) (s : Int) (w : World) (hn : l.length = n) (hm : n ≤ 4294967296) (hr : RdB w w.heap.size A l) (hs : -9223372036854775808 ≤ s ∧ s ≤ 9223372036854775807) :
    Calls Tryz.prog 16 #[.slice A n c, .int .i64 s] w fun e w' => e = .returned (endRes l s) ∧ Below w.heap.size w w' :=
  callsIn_wide.1 (end_in A l c n s w hn hm hr hs)

def gapRes (l : List Bk) : Value := .tuple #[.int .i64 (if rowErr l = 0 then gapsOf l else 0), .int .i64 (rowErr l)]
theorem gapRes_ok {l : List Bk} (h : rowErr l = 0) : gapRes l = .tuple #[.int .i64 (gapsOf l), .int .i64 0] := by simp [gapRes, h]
theorem gapRes_no {l : List Bk} (h : rowErr l ≠ 0) : gapRes l = .tuple #[.int .i64 0, .int .i64 (rowErr l)] := by simp [gapRes, h]
/-- The sizes of the first k blocks, together. -/
def totSz (l : List Bk) : Nat → Int
  | 0 => 0
  | k + 1 => totSz l k + (gk l k).size
theorem totSz_eq {l : List Bk} {k : Nat} (hk : k ≤ l.length) : totSz l k = gapsOf (l.take k) + szSum l (lp l k) := by
  induction k with
  | zero => simp [totSz, gapsOf, lp, szSum]
  | succ k ih =>
    have := ih (by omega)
    simp only [totSz]
    rw [gapsOf_take (by omega), ← gk_get l k (by omega), this]
    cases hb : liveB (gk l k)
    · rw [lp_no hb]; simp; omega
    · rw [lp_yes (by omega) hb, szSum_snoc]; simp; omega
theorem totSz_bd {l : List Bk} (h : rowErr l = 0) {k : Nat} (hk : k ≤ l.length) : 0 ≤ totSz l k ∧ totSz l k ≤ 2048 * k := by
  induction k with
  | zero => simp [totSz]
  | succ k ih =>
    have := ih (by omega)
    have := size_bd h ⟨k, by omega⟩
    dsimp only at this
    simp only [totSz]; omega

end
def exL : List Bk := [⟨128, 4, 1, 0, false, 0⟩, ⟨132, 2, 1, 0, true, 0⟩, ⟨134, 6, 2, 0, false, 0⟩, ⟨140, 4, 1, 0, true, 0⟩]

theorem rd_new (w : World) (cs : List Value) (t : TypeId) : Rd (w.alloc (.cells cs.toArray t)) (w.heap.size + 1) (some ⟨w.heap.size, 0, none⟩) cs := fun _ =>
  ⟨w.heap.size, 0, rfl, by omega, fun j hj => by
    have := (Bx.new w t cs.toArray).cell j
    rw [Nat.zero_add, this]
    simp [hj]⟩

theorem exL_st : stErr exL 128 = 0 := by decide +kernel
theorem exL_row : rowErr exL = 0 := by decide +kernel
theorem exL_pl : plOut exL 128 = [0, 128, 0, 130] := by decide +kernel
theorem exL_end : endRes exL 128 = .tuple #[.int .i64 134, .int .i64 0] := by simp only [endRes, exL_st, show endOf exL 128 = 134 from by decide +kernel]; rfl
theorem exL_gap : gapRes exL = .tuple #[.int .i64 10, .int .i64 0] := by simp only [gapRes, exL_row, show gapsOf exL = 10 from by decide +kernel]; rfl
theorem exL_rd (w : World) : RdB (w.alloc (.cells (exL.flatMap Bk.cells).toArray 48)) (w.alloc (.cells (exL.flatMap Bk.cells).toArray 48)).heap.size (some ⟨w.heap.size, 0, none⟩) exL := by
  have := rd_new w (exL.flatMap Bk.cells) 48
  rw [World.size_alloc]; exact this

end Go.Proofs.YtoaepffpjoibaaaGreat
