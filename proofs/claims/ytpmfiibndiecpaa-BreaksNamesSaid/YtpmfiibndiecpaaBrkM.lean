/- End and Gaps of rows, and the chapter's example of layer 26: for a seat that has not this layer's reference. -/
import Derived.Test.YtpmfiibndiecpaaKPlace
import Derived.Test.YtpmfiibndiecpaaKPlain
import Derived.Test.YtpmfiibndiecpaaKMove
namespace Go.Proofs.Ytpmfiibndiecpaa
open Go.RowKit Go.Shelf
section
attribute [local go_sem] Oper.semAt_some
theorem gapsOf_take1 {l : List Bk} {k : Nat} (h : k < l.length) {u : Int} {x : Bk} (hx : l[k] = x) (hu : gapsOf (l.take k) = u) (hl : liveB x = true) : gapsOf (l.take (k + 1)) = u := by
  rw [gapsOf_take h, hx, if_pos hl, hu]
theorem gapsOf_take0 {l : List Bk} {k : Nat} (h : k < l.length) {u : Int} {x : Bk} (hx : l[k] = x) (hu : gapsOf (l.take k) = u) (hl : liveB x = false) : gapsOf (l.take (k + 1)) = u + x.size := by
  rw [gapsOf_take h, hx, if_neg (by rw [hl]; exact Bool.false_ne_true), hu]

/-- What End gives: the end and the error. -/
def endRes (l : List Bk) (s : Int) : Value := .tuple #[.int .i64 (if stErr l s = 0 then endOf l s else 0), .int .i64 (stErr l s)]
theorem endRes_ok {l : List Bk} {s : Int} (h : stErr l s = 0) : endRes l s = .tuple #[.int .i64 (endOf l s), .int .i64 0] := by simp [endRes, h]
theorem endRes_no {l : List Bk} {s : Int} (h : stErr l s ≠ 0) : endRes l s = .tuple #[.int .i64 0, .int .i64 (stErr l s)] := by simp [endRes, h]

set_option maxRecDepth 100000 in
set_option maxHeartbeats 2000000 in
theorem end_in (A : Option Addr) (l : List Bk) (c n : Nat) (s : Int) (w : World) (hn : l.length = n) (hm : n ≤ 4294967296) (hr : RdB w w.heap.size A l) (hs : -9223372036854775808 ≤ s ∧ s ≤ 9223372036854775807) :
    CallsIn Fence.wide 6 Try.prog 15 #[.slice A n c, .int .i64 s] w fun e w' => e = .returned (endRes l s) ∧ Below w.heap.size w w' := by
  subst hn
  have HR := Lib.hid hr
  clear hr
  refine callsIn_of_wp_marks Try.func15 rfl trivial ?_ rfl
  simp only [Try.ntmps15, List.size_toArray, List.length_cons, List.length_nil, Nat.reduceAdd, Nat.reduceSub, Array.replicate_succ, Array.replicate_zero, List.push_toArray, List.append_toArray, List.nil_append, List.cons_append]
  gi_wp2
  refine ⟨trivial, (callsIn_wide.2 (started_c A l c l.length s _ rfl (by omega) ((HR.out.alloc (Nat.le_refl _) _).more (by simp)) hs)).mono ?_⟩
  rintro e w1 ⟨rfl, hB1⟩
  rw [World.size_alloc] at hB1
  have b0 := Bx.of_new hB1
  have hb1 := below_call hB1
  have hz1 := hb1.size
  by_cases h0 : stErr l s = 0
  · obtain ⟨hre, hs1, hs2, _⟩ := stErr_zero h0
    have HRE := Lib.hid hre
    have HE := Lib.hid (endRes_ok h0)
    have hmb := most_bd hre
    have hlen := (rowErr_zero hre).1
    rw [h0]
    have hfin := szSum_lp (l := l) (Nat.le_refl l.length) s
    rw [List.take_length] at hfin
    have HFIN := Lib.hid hfin
    clear h0 hre hfin
    obtain ⟨q1, q2, q3⟩ := b0.c1
    gi_wp2
    refine ⟨trivial, (live_in Fence.wide _ trivial rfl A l.length c w1).mono ?_⟩
    rintro e w2 ⟨rfl, rfl⟩
    have hrd1 := Lib.hid ((HR.out.up hb1 hz1).alloc (Nat.le_refl _) (.cells #[.slice A l.length c] 25))
    have c0 := b0.alloc (.cells #[.slice A l.length c] 25)
    have c1 := Bx.new w1 25 #[.slice A l.length c]
    have hb2 := hb1.alloc hz1 (.cells #[.slice A l.length c] 25)
    have hsz : (w1.alloc (.cells #[.slice A l.length c] 25)).heap.size = w1.heap.size + 1 := by simp
    obtain ⟨W0, hW0⟩ : ∃ W0, w1.alloc (.cells #[.slice A l.length c] 25) = W0 := ⟨_, rfl⟩
    rw [hW0] at hrd1 c0 c1 hb2 hsz ⊢
    clear hW0
    have hw0 : w.heap.size < W0.heap.size := by omega
    gi_wp2
    refine wpIn_rangeFunc_ownH rfl (show 1 ≤ 6 by omega) (gf := 104) (lb := #[.pointer (some ⟨w1.heap.size, 0, none⟩)]) rfl trivial (enters_of Try.func104 (by kernel_rfl) rfl)
      (live_stops Fence.wide 5 trivial rfl (by omega) w1.heap.size w.heap.size A l c (by omega) W0 (by omega) (by omega) (c1.c1).1 ((HR.out).below hb2)) belowK_t (belowK_b (by omega)) (Below.refl _ _) (fun _ => rfl)
      (fun pre W => Bx W w.heap.size 3 #[.int .i64 (s + szSum l pre)] ∧ Below w.heap.size w W)
      (fun _ _ _ => False)
      (OwnFrom.and (Own.from (bx_own _ _ _) _) (ownFrom_below (Nat.le_refl _) (by omega)))
      (fun _ _ _ _ _ hs _ _ => hs)
      ⟨by simp only [szSum, Int.add_zero]; exact c0, hb2⟩
      (fun x a' W => ∃ Bx', w.heap.size < Bx' ∧ Bx W Bx' 24 (gk l x.1).arr ∧ a' = { tmps := #[.slice A l.length c, .int .i64 s, undef, .pointer (some ⟨w.heap.size, 0, none⟩), .int .i64 0, .int .i64 0, .int .i64 0, undef, .pointer (some ⟨Bx', 0, none⟩), .slice A l.length c, .int .i64 s, .int .i64 0, .int .i64 0, .bool false, undef, .slice A l.length c, .func (.func 104) #[] #[.pointer (some ⟨w1.heap.size, 0, none⟩)], .int .i64 (x.1 : Int), (gk l x.1).val, undef, undef, undef, undef, undef], defers := [] })
      (fun x a' _ X Y row hs hg hr => by obtain ⟨B', h1, h2, h3⟩ := hs; exact ⟨B', h1, bx_own B' 24 (fun (_ : Unit) => (gk l x.1).arr) () X Y row h2 hg (fun r e => (hr r e).2), h3⟩)
      ?assign ?body ?done ?stop
    case assign =>
      rintro l' pre x W K ⟨bS, hB⟩ hK
      have hz := hB.size
      obtain ⟨y, hy⟩ : ∃ y, gk l x.1 = y := ⟨_, rfl⟩
      rw [hy] at hK ⊢
      obtain ⟨xa, xs, xk, xt, xm, xn⟩ := y
      unfold Bk.arr Bk.val at hK
      unfold Bk.val
      dsimp only at hK ⊢
      have HK := Lib.hid hK
      clear hK hy
      gi_wp2
      exact HK.out _ _ ((KeepsOthers.alloc _ _).from _) ((Below.refl _ W).alloc hz _) ⟨bS.alloc _, hB.alloc hz _⟩ ⟨W.heap.size, bS.lt, Bx.new W _ _, rfl⟩
    case body =>
      rintro l' pre x a' W hl ⟨r, hr⟩ ⟨bS, hB⟩ ⟨B', hB', bX, rfl⟩ hlt
      have hsb := szSum_bd HRE.out pre
      have hxb := size_bd HRE.out x
      have hsn := Lib.hid (szSum_snoc l pre x)
      have g1 : W.cell? ⟨B', 1, none⟩ = some (.int .i64 (gk l x.1).size) := bX.cell 1
      obtain ⟨s1, s2, s3⟩ := bS.c1
      obtain ⟨u, hu⟩ : ∃ u, (gk l x.1).size = u := ⟨_, rfl⟩
      obtain ⟨m, hm⟩ : ∃ m, s + szSum l pre = m := ⟨_, rfl⟩
      have hm1 : 0 ≤ m ∧ m ≤ 2200000 := by omega
      have HM := Lib.hid (show s + szSum l (pre ++ [x]) = m + u by rw [hsn.out, ← hm, hu]; omega)
      rw [hu] at g1 hxb
      rw [hm] at s1
      obtain ⟨hm1, hm2⟩ := hm1
      obtain ⟨hx1, hx2⟩ := hxb
      have bS2 := Lib.hid bS
      clear hsb bS hm hu hlt
      gi_wp2
      exact ⟨(KeepsOthers.setCell _ _ _).from _, (Below.refl _ W).setCell (p := ⟨w.heap.size, 0, none⟩) (Nat.le_refl _) _, by rw [HM.out]; exact bS2.out.set_ 0 _, hB.setCell (p := ⟨w.heap.size, 0, none⟩) (Nat.le_refl _) _⟩
    case done =>
      rintro D zs W hD rfl ⟨bS, hB⟩ hK
      obtain ⟨s1, s2, s3⟩ := bS.c1
      rw [HFIN.out] at s1
      gi_wp2
      refine ⟨by simp, .inl ⟨_, _, rfl, run_takeDeferred hK, ?_⟩⟩
      exact ⟨_, results_tmp2 rfl _ _ _, by rw [HE.out]; rfl, hB.trans (belowK_b (w := w) (Nat.le_refl _) W D _ _ (by omega) hK rfl rfl)⟩
    case stop =>
      rintro D c pre W _ _ h _
      exact h.elim
  · have hn1 : (stErr l s == 0) = false := by rw [beq_eq_false_iff_ne]; exact h0
    have hn2 : (stErr l s != 0) = true := by rw [bne_iff_ne]; exact h0
    have HE := Lib.hid (endRes_no h0)
    clear h0
    gi_wp2
    exact ⟨_, results_tmp2 rfl _ _ _, by rw [HE.out]; rfl, hb1⟩

theorem end_c (A : Option Addr) (l : List Bk) (c n : Nat) (s : Int) (w : World) (hn : l.length = n) (hm : n ≤ 4294967296) (hr : RdB w w.heap.size A l) (hs : -9223372036854775808 ≤ s ∧ s ≤ 9223372036854775807) :
    Calls Try.prog 15 #[.slice A n c, .int .i64 s] w fun e w' => e = .returned (endRes l s) ∧ Below w.heap.size w w' :=
  callsIn_wide.1 (end_in A l c n s w hn hm hr hs)

def gapRes (l : List Bk) : Value := .tuple #[.int .i64 (if rowErr l = 0 then gapsOf l else 0), .int .i64 (rowErr l)]
theorem gapRes_ok {l : List Bk} (h : rowErr l = 0) : gapRes l = .tuple #[.int .i64 (gapsOf l), .int .i64 0] := by simp [gapRes, h]
theorem gapRes_no {l : List Bk} (h : rowErr l ≠ 0) : gapRes l = .tuple #[.int .i64 0, .int .i64 (rowErr l)] := by simp [gapRes, h]
/-- The sizes of the first k blocks, together. -/
def totSz (l : List Bk) : Nat → Int
  | 0 => 0
  | k + 1 => totSz l k + (gk l k).size
theorem totSz_eq {l : List Bk} {k : Nat} (hk : k ≤ l.length) : totSz l k = gapsOf (l.take k) + szSum l (lp l k) := by
  induction k with
  | zero => simp [totSz, gapsOf, lp, szSum]
  | succ k ih =>
    have := ih (by omega)
    simp only [totSz]
    rw [gapsOf_take (by omega), ← gk_get l k (by omega), this]
    cases hb : liveB (gk l k)
    · rw [lp_no hb]; simp; omega
    · rw [lp_yes (by omega) hb, szSum_snoc]; simp; omega
theorem totSz_bd {l : List Bk} (h : rowErr l = 0) {k : Nat} (hk : k ≤ l.length) : 0 ≤ totSz l k ∧ totSz l k ≤ 2048 * k := by
  induction k with
  | zero => simp [totSz]
  | succ k ih =>
    have := ih (by omega)
    have := size_bd h ⟨k, by omega⟩
    dsimp only at this
    simp only [totSz]; omega

set_option maxRecDepth 100000 in
set_option maxHeartbeats 2000000 in
theorem gaps_in (A : Option Addr) (l : List Bk) (c n : Nat) (w : World) (hn : l.length = n) (hm : n ≤ 4294967296) (hr : RdB w w.heap.size A l) :
    CallsIn Fence.wide 6 Try.prog 16 #[.slice A n c] w fun e w' => e = .returned (gapRes l) ∧ Below w.heap.size w w' := by
  subst hn
  have HR := Lib.hid hr
  clear hr
  refine callsIn_of_wp_marks Try.func16 rfl trivial ?_ rfl
  simp only [Try.ntmps16, List.size_toArray, List.length_cons, List.length_nil, Nat.reduceAdd, Nat.reduceSub, Array.replicate_succ, Array.replicate_zero, List.push_toArray, List.append_toArray, List.nil_append, List.cons_append]
  gi_wp2
  refine ⟨trivial, (callsIn_wide.2 (check_c A l c l.length _ rfl (by omega) HR.out)).mono ?_⟩
  rintro e w1 ⟨rfl, hB1⟩
  have hz1 := hB1.size
  by_cases h0 : rowErr l = 0
  · have HRE := Lib.hid h0
    have HE := Lib.hid (gapRes_ok h0)
    have hlen := (rowErr_zero h0).1
    rw [h0]
    have hfin := totSz_eq (l := l) (Nat.le_refl l.length)
    rw [List.take_length] at hfin
    have HFIN := Lib.hid hfin
    clear h0 hfin
    gi_wp2
    gi_loopw [17] (fun i wr => ∃ k : Nat, k ≤ l.length ∧ i = .int .i64 k ∧ Bx wr w1.heap.size 3 #[.int .i64 (totSz l k)] ∧ Below w.heap.size w wr ∧ w1.heap.size < wr.heap.size) (fun i _ => l.length - (intOf i).toNat)
    case atStart => exact ⟨0, Nat.zero_le _, rfl, Bx.new w1 _ _, hB1.alloc hz1 _, by simp⟩
    case round =>
      obtain ⟨k, hk, rfl, bT, hB, hzr⟩ := hrel
      have hz := hB.size
      by_cases hlt : k < l.length
      · obtain ⟨b, off, rfl, hb, h0, h1, h2, h3, h4, h5⟩ := HR.out.at_ hlt
        replace h0 := (hB.cell (p := ⟨b, off + k * 6, none⟩) hb).trans h0
        replace h1 := (hB.cell (p := ⟨b, off + k * 6 + 1, none⟩) hb).trans h1
        replace h2 := (hB.cell (p := ⟨b, off + k * 6 + 2, none⟩) hb).trans h2
        replace h3 := (hB.cell (p := ⟨b, off + k * 6 + 3, none⟩) hb).trans h3
        replace h4 := (hB.cell (p := ⟨b, off + k * 6 + 4, none⟩) hb).trans h4
        replace h5 := (hB.cell (p := ⟨b, off + k * 6 + 5, none⟩) hb).trans h5
        have hbd := totSz_bd HRE.out hk
        have hxb := size_bd HRE.out ⟨k, hlt⟩
        dsimp only at hxb
        obtain ⟨s1, s2, s3⟩ := bT.c1
        have hnx : totSz l (k + 1) = totSz l k + (gk l k).size := rfl
        rw [← gk_get l k hlt] at h0 h1 h2 h3 h4 h5
        generalize gk l k = x at *
        obtain ⟨xa, xs, xk, xt, xm, xn⟩ := x
        dsimp only at *
        have bT2 := Lib.hid bT
        obtain ⟨m, hm⟩ : ∃ m, totSz l k = m := ⟨_, rfl⟩
        rw [hm] at s1 hbd hnx
        have hm2 : m ≤ 2200000 := by omega
        have hm3 := hbd.1
        obtain ⟨x1, x2⟩ := hxb
        have HNX := Lib.hid hnx
        clear hnx hm hbd bT
        gi_wp2
        go_roundw
        case rel => exact ⟨k + 1, by omega, by go_num, by rw [HNX.out]; exact (bT2.out.set_ 0 _).alloc _, (hB.setCell (p := ⟨w1.heap.size, 0, none⟩) hz1 _).alloc (by simp; omega) _, by simp; omega⟩
        case measure => simp [intOf]; omega
      · have : k = l.length := by omega
        subst this
        gi_wp2
        refine ⟨trivial, (live_in Fence.wide _ trivial rfl A l.length c wr).mono ?_⟩
        rintro e w2 ⟨rfl, rfl⟩
        have c0 := bT.alloc (.cells #[.slice A l.length c] 25)
        have c1 := Bx.new wr 25 #[.slice A l.length c]
        have hb2 := hB.alloc hz (.cells #[.slice A l.length c] 25)
        have hsz : (wr.alloc (.cells #[.slice A l.length c] 25)).heap.size = wr.heap.size + 1 := by simp
        have htb := totSz_bd HRE.out (Nat.le_refl l.length)
        obtain ⟨tt, htt⟩ : ∃ t, totSz l l.length = t := ⟨_, rfl⟩
        have HF2 := Lib.hid HFIN.out
        rw [htt] at HF2 htb c0
        clear htt
        obtain ⟨W0, hW0⟩ : ∃ W0, wr.alloc (.cells #[.slice A l.length c] 25) = W0 := ⟨_, rfl⟩
        rw [hW0] at c0 c1 hb2 hsz ⊢
        clear hW0
        have hw0 : w1.heap.size < W0.heap.size := by omega
        gi_wp2
        refine wpIn_rangeFunc_ownH rfl (show 1 ≤ 6 by omega) (gf := 104) (lb := #[.pointer (some ⟨wr.heap.size, 0, none⟩)]) rfl trivial (enters_of Try.func104 (by kernel_rfl) rfl)
          (live_stops Fence.wide 5 trivial rfl (by omega) wr.heap.size w.heap.size A l c (by omega) W0 (by omega) (by omega) (c1.c1).1 ((HR.out).below hb2)) belowK_t (belowK_b (by omega)) (Below.refl _ _) (fun _ => rfl)
          (fun pre W => Bx W w1.heap.size 3 #[.int .i64 (tt - szSum l pre)] ∧ Below w.heap.size w W)
          (fun _ _ _ => False)
          (OwnFrom.and (Own.from (bx_own _ _ _) _) (ownFrom_below (Nat.le_refl _) (by omega)))
          (fun _ _ _ _ _ hs _ _ => hs)
          ⟨by simp only [szSum, Int.sub_zero]; exact c0, hb2⟩
          (fun x a' W => ∃ Bx', w1.heap.size < Bx' ∧ Bx W Bx' 24 (gk l x.1).arr ∧ a' = { tmps := #[.slice A l.length c, undef, .int .i64 0, .int .i64 0, .int .i64 0, .pointer (some ⟨w1.heap.size, 0, none⟩), undef, u7, undef, .pointer (some ⟨Bx', 0, none⟩), .slice A l.length c, .int .i64 0, .int .i64 0, .bool false, undef, .slice A l.length c, .int .i64 (l.length : Int), .int .i64 (l.length : Int), .bool false, u19, u20, u21, u22, u23, u24, u25, .slice A l.length c, .func (.func 104) #[] #[.pointer (some ⟨wr.heap.size, 0, none⟩)], .int .i64 (x.1 : Int), (gk l x.1).val, undef, undef, undef, undef, undef], defers := [] })
          (fun x a' _ X Y row hs hg hr => by obtain ⟨B', h1, h2, h3⟩ := hs; exact ⟨B', h1, bx_own B' 24 (fun (_ : Unit) => (gk l x.1).arr) () X Y row h2 hg (fun r e => (hr r e).2), h3⟩)
          ?assign ?body ?done ?stop
        case assign =>
          rintro l' pre x W K ⟨bS, hB⟩ hK
          have hz := hB.size
          obtain ⟨y, hy⟩ : ∃ y, gk l x.1 = y := ⟨_, rfl⟩
          rw [hy] at hK ⊢
          obtain ⟨xa, xs, xk, xt, xm, xn⟩ := y
          unfold Bk.arr Bk.val at hK
          unfold Bk.val
          dsimp only at hK ⊢
          have HK := Lib.hid hK
          clear hK hy
          gi_wp2
          exact HK.out _ _ ((KeepsOthers.alloc _ _).from _) ((Below.refl _ W).alloc hz _) ⟨bS.alloc _, hB.alloc hz _⟩ ⟨W.heap.size, bS.lt, Bx.new W _ _, rfl⟩
        case body =>
          rintro l' pre x a' W hl ⟨r, hr⟩ ⟨bS, hB⟩ ⟨B', hB', bX, rfl⟩ hlt
          have hsb := szSum_bd HRE.out pre
          have hxb := size_bd HRE.out x
          have hsn := Lib.hid (szSum_snoc l pre x)
          have g1 : W.cell? ⟨B', 1, none⟩ = some (.int .i64 (gk l x.1).size) := bX.cell 1
          obtain ⟨s1, s2, s3⟩ := bS.c1
          obtain ⟨u, hu⟩ : ∃ u, (gk l x.1).size = u := ⟨_, rfl⟩
          obtain ⟨m, hm⟩ : ∃ m, tt - szSum l pre = m := ⟨_, rfl⟩
          have hm1 : -2200000 ≤ m ∧ m ≤ 2200000 := by omega
          have HM := Lib.hid (show tt - szSum l (pre ++ [x]) = m - u by rw [hsn.out, ← hm, hu]; omega)
          rw [hu] at g1 hxb
          rw [hm] at s1
          obtain ⟨hm1, hm2⟩ := hm1
          obtain ⟨hx1, hx2⟩ := hxb
          have bS2 := Lib.hid bS
          clear hsb bS hm hu hlt htb
          gi_wp2
          exact ⟨(KeepsOthers.setCell _ _ _).from _, (Below.refl _ W).setCell (p := ⟨w1.heap.size, 0, none⟩) hz1 _, by rw [HM.out]; exact bS2.out.set_ 0 _, hB.setCell (p := ⟨w1.heap.size, 0, none⟩) hz1 _⟩
        case done =>
          rintro D zs W hD rfl ⟨bS, hB⟩ hK
          obtain ⟨s1, s2, s3⟩ := bS.c1
          rw [show tt - szSum l (lp l l.length) = gapsOf l from by have := HF2.out; omega] at s1
          gi_wp2
          refine ⟨by simp, .inl ⟨_, _, rfl, run_takeDeferred hK, ?_⟩⟩
          exact ⟨_, results_tmp2 rfl _ _ _, by rw [HE.out]; rfl, hB.trans (belowK_b (w := w) (Nat.le_refl _) W D _ _ (by omega) hK rfl rfl)⟩
        case stop =>
          rintro D c pre W _ _ h _
          exact h.elim
  · have hn1 : (rowErr l == 0) = false := by rw [beq_eq_false_iff_ne]; exact h0
    have hn2 : (rowErr l != 0) = true := by rw [bne_iff_ne]; exact h0
    have HE := Lib.hid (gapRes_no h0)
    clear h0
    gi_wp2
    exact ⟨_, results_tmp2 rfl _ _ _, by rw [HE.out]; rfl, hB1⟩

theorem gaps_c (A : Option Addr) (l : List Bk) (c n : Nat) (w : World) (hn : l.length = n) (hm : n ≤ 4294967296) (hr : RdB w w.heap.size A l) :
    Calls Try.prog 16 #[.slice A n c] w fun e w' => e = .returned (gapRes l) ∧ Below w.heap.size w w' :=
  callsIn_wide.1 (gaps_in A l c n w hn hm hr)
end
def exL : List Bk := [⟨128, 4, 1, 0, false, 0⟩, ⟨132, 2, 1, 0, true, 0⟩, ⟨134, 6, 2, 0, false, 0⟩, ⟨140, 4, 1, 0, true, 0⟩]

theorem rd_new (w : World) (cs : List Value) (t : TypeId) : Rd (w.alloc (.cells cs.toArray t)) (w.heap.size + 1) (some ⟨w.heap.size, 0, none⟩) cs := fun _ =>
  ⟨w.heap.size, 0, rfl, by omega, fun j hj => by
    have := (Bx.new w t cs.toArray).cell j
    rw [Nat.zero_add, this]
    simp [hj]⟩

set_option maxHeartbeats 400000 in
theorem example_c (w : World) :
    Calls Try.prog 20 #[] w fun e w' => e = .returned (.slice (some ⟨w.heap.size, 0, none⟩) 4 4) ∧ w' = w.alloc (.cells (exL.flatMap Bk.cells).toArray 24) := by
  go_enter Try.func20, Try.ntmps20
  go_wp2_with fail
  go_ret
  exact ⟨rfl, rfl⟩

theorem exL_st : stErr exL 128 = 0 := by decide +kernel
theorem exL_row : rowErr exL = 0 := by decide +kernel
theorem exL_pl : plOut exL 128 = [0, 128, 0, 130] := by decide +kernel
theorem exL_end : endRes exL 128 = .tuple #[.int .i64 134, .int .i64 0] := by simp only [endRes, exL_st, show endOf exL 128 = 134 from by decide +kernel]; rfl
theorem exL_gap : gapRes exL = .tuple #[.int .i64 10, .int .i64 0] := by simp only [gapRes, exL_row, show gapsOf exL = 10 from by decide +kernel]; rfl
theorem exL_rd (w : World) : RdB (w.alloc (.cells (exL.flatMap Bk.cells).toArray 24)) (w.alloc (.cells (exL.flatMap Bk.cells).toArray 24)).heap.size (some ⟨w.heap.size, 0, none⟩) exL := by
  have := rd_new w (exL.flatMap Bk.cells) 24
  rw [World.size_alloc]; exact this

set_option maxRecDepth 100000 in
set_option maxHeartbeats 800000 in
theorem alive26_c (w : World) :
    Calls Try.prog 18 #[] w fun e w' => e = .returned (.bool true) ∧ Below w.heap.size w w' := by
  go_enter Try.func18, Try.ntmps18
  go_wp2_with fail
  refine (example_c _).mono ?_
  rintro e w1 ⟨rfl, rfl⟩
  have hr1 := Lib.hid (exL_rd w)
  have hb1 : Below w.heap.size w (w.alloc (.cells (exL.flatMap Bk.cells).toArray 24)) := (Below.refl _ _).alloc (Nat.le_refl _) _
  obtain ⟨wa, hwa⟩ : ∃ wa, w.alloc (.cells (exL.flatMap Bk.cells).toArray 24) = wa := ⟨_, rfl⟩
  rw [hwa] at hr1 hb1 ⊢
  clear hwa
  go_wp2_with fail
  refine (places_c _ exL 4 4 128 _ rfl (by omega) hr1.out (by omega)).mono ?_
  rintro e w2 ⟨⟨A, c, rfl, hp, hcc⟩, hB2⟩
  rw [exL_pl, exL_st]
  rw [exL_pl] at hp hcc
  have hb2 := hb1.trans (hB2.mono hb1.size)
  have hz2 := hb2.size
  have HP := Lib.hid hp
  clear hp hr1
  go_wp2_with fail
  refine (example_c _).mono ?_
  rintro e w3 ⟨rfl, rfl⟩
  have hr3 := Lib.hid (exL_rd w2)
  have hb3 := hb2.alloc hz2 (.cells (exL.flatMap Bk.cells).toArray 24)
  have HP3 := Lib.hid (show RdI (w2.alloc (.cells (exL.flatMap Bk.cells).toArray 24)) w2.heap.size A [0, 128, 0, 130] from Rd.alloc HP.out (Nat.le_refl _) _)
  have hq3 : w2.heap.size ≤ (w2.alloc (.cells (exL.flatMap Bk.cells).toArray 24)).heap.size := by simp
  obtain ⟨wb, hwb⟩ : ∃ wb, w2.alloc (.cells (exL.flatMap Bk.cells).toArray 24) = wb := ⟨_, rfl⟩
  rw [hwb] at hr3 hb3 HP3 hq3 ⊢
  clear hwb HP
  go_wp2_with fail
  refine (end_c _ exL 4 4 128 _ rfl (by omega) hr3.out (by omega)).mono ?_
  rintro e w4 ⟨rfl, hB4⟩
  rw [exL_end]
  have hb4 := hb3.trans (hB4.mono hb3.size)
  have hz4 := hb4.size
  have hz34 := hB4.size
  have HP4 := Lib.hid (show RdI w4 w2.heap.size A [0, 128, 0, 130] from Rd.below HP3.out (hB4.mono hq3))
  clear HP3 hr3
  go_wp2_with fail
  refine (example_c _).mono ?_
  rintro e w5 ⟨rfl, rfl⟩
  have hr5 := Lib.hid (exL_rd w4)
  have hb5 := hb4.alloc hz4 (.cells (exL.flatMap Bk.cells).toArray 24)
  have HP5 := Lib.hid (show RdI (w4.alloc (.cells (exL.flatMap Bk.cells).toArray 24)) w2.heap.size A [0, 128, 0, 130] from Rd.alloc HP4.out (by omega) _)
  have hq5 : w2.heap.size ≤ (w4.alloc (.cells (exL.flatMap Bk.cells).toArray 24)).heap.size := by simp; omega
  obtain ⟨wc, hwc⟩ : ∃ wc, w4.alloc (.cells (exL.flatMap Bk.cells).toArray 24) = wc := ⟨_, rfl⟩
  rw [hwc] at hr5 hb5 HP5 hq5 ⊢
  clear hwc HP4
  go_wp2_with fail
  refine (gaps_c _ exL 4 4 _ rfl (by omega) hr5.out).mono ?_
  rintro e w6 ⟨rfl, hB6⟩
  rw [exL_gap]
  have hb6 := hb5.trans (hB6.mono hb5.size)
  have hz6 := hb6.size
  have hz56 := hB6.size
  have HP6 := Lib.hid (show RdI w6 w2.heap.size A [0, 128, 0, 130] from Rd.below HP5.out (hB6.mono hq5))
  clear HP5 hr5
  go_wp2_with fail
  have hr7 := rd_new w6 [.int .i64 0, .int .i64 128, .int .i64 0, .int .i64 130] 3
  refine (sameInts_c _ _ [0, 128, 0, 130] [0, 128, 0, 130] 4 4 _ _ _ _ rfl rfl (by omega) ((Rd.alloc HP6.out (by omega) _).more (by simp; omega)) (by rw [World.size_alloc]; exact hr7) (Nat.le_refl _)).mono ?_
  rintro e w7 ⟨rfl, hB7⟩
  rw [show decide (([0, 128, 0, 130] : List Int) = [0, 128, 0, 130]) = true by decide]
  have hb7 := (hb6.alloc hz6 _).trans (hB7.mono (by simp; omega))
  clear hr7
  go_wp2_with fail
  go_ret
  exact ⟨rfl, hb7⟩
end Go.Proofs.Ytpmfiibndiecpaa
