/- Gaps of rows: what the program returns. -/
import Derived.Test.YtiaddipbjigaiaaBrkE
namespace Go.Proofs.Ytiaddipbjigaiaa
open Go.RowKit Go.Shelf
attribute [local go_sem] Oper.semAt_some

theorem end_c (A : Option Addr) (l : List Bk) (c n : Nat) (s : Int) (w : World) (hn : l.length = n) (hm : n ≤ 4294967296) (hr : RdB w w.heap.size A l) (hs : -9223372036854775808 ≤ s ∧ s ≤ 9223372036854775807) :
    Calls Try.prog 21 #[.slice A n c, .int .i64 s] w fun e w' => e = .returned (endRes l s) ∧ Below w.heap.size w w' :=
  callsIn_wide.1 (end_in A l c n s w hn hm hr hs)

def gapRes (l : List Bk) : Value := .tuple #[.int .i64 (if rowErr l = 0 then gapsOf l else 0), .int .i64 (rowErr l)]
theorem gapRes_ok {l : List Bk} (h : rowErr l = 0) : gapRes l = .tuple #[.int .i64 (gapsOf l), .int .i64 0] := by simp [gapRes, h]
theorem gapRes_no {l : List Bk} (h : rowErr l ≠ 0) : gapRes l = .tuple #[.int .i64 0, .int .i64 (rowErr l)] := by simp [gapRes, h]
/-- The sizes of the first k blocks, together. -/
def totSz (l : List Bk) : Nat → Int
  | 0 => 0
  | k + 1 => totSz l k + (gk l k).size
theorem totSz_eq {l : List Bk} {k : Nat} (hk : k ≤ l.length) : totSz l k = gapsOf (l.take k) + szSum l (lp l k) := by
  induction k with
  | zero => simp [totSz, gapsOf, lp, szSum]
  | succ k ih =>
    have := ih (by omega)
    simp only [totSz]
    rw [gapsOf_take (by omega), ← gk_get l k (by omega), this]
    cases hb : liveB (gk l k)
    · rw [lp_no hb]; simp; omega
    · rw [lp_yes (by omega) hb, szSum_snoc]; simp; omega
theorem totSz_bd {l : List Bk} (h : rowErr l = 0) {k : Nat} (hk : k ≤ l.length) : 0 ≤ totSz l k ∧ totSz l k ≤ 2048 * k := by
  induction k with
  | zero => simp [totSz]
  | succ k ih =>
    have := ih (by omega)
    have := size_bd h ⟨k, by omega⟩
    dsimp only at this
    simp only [totSz]; omega

set_option maxRecDepth 100000 in
set_option maxHeartbeats 2000000 in
theorem gaps_in (A : Option Addr) (l : List Bk) (c n : Nat) (w : World) (hn : l.length = n) (hm : n ≤ 4294967296) (hr : RdB w w.heap.size A l) :
    CallsIn Fence.wide 6 Try.prog 23 #[.slice A n c] w fun e w' => e = .returned (gapRes l) ∧ Below w.heap.size w w' := by
  subst hn
  have HR := Lib.hid hr
  clear hr
  refine callsIn_of_wp_marks Try.func23 rfl trivial ?_ rfl
  simp only [Try.ntmps23, List.size_toArray, List.length_cons, List.length_nil, Nat.reduceAdd, Nat.reduceSub, Array.replicate_succ, Array.replicate_zero, List.push_toArray, List.append_toArray, List.nil_append, List.cons_append]
  gi_wp2
  refine ⟨trivial, (callsIn_wide.2 (check_c A l c l.length _ rfl (by omega) HR.out)).mono ?_⟩
  rintro e w1 ⟨rfl, hB1⟩
  have hz1 := hB1.size
  by_cases h0 : rowErr l = 0
  · have HRE := Lib.hid h0
    have HE := Lib.hid (gapRes_ok h0)
    have hlen := (rowErr_zero h0).1
    rw [h0]
    have hfin := totSz_eq (l := l) (Nat.le_refl l.length)
    rw [List.take_length] at hfin
    have HFIN := Lib.hid hfin
    clear h0 hfin
    gi_wp2
    gi_loopw [17] (fun i wr => ∃ k : Nat, k ≤ l.length ∧ i = .int .i64 k ∧ Bx wr w1.heap.size 3 #[.int .i64 (totSz l k)] ∧ Below w.heap.size w wr ∧ w1.heap.size < wr.heap.size) (fun i _ => l.length - (intOf i).toNat)
    case atStart => exact ⟨0, Nat.zero_le _, rfl, Bx.new w1 _ _, hB1.alloc hz1 _, by simp⟩
    case round =>
      obtain ⟨k, hk, rfl, bT, hB, hzr⟩ := hrel
      have hz := hB.size
      by_cases hlt : k < l.length
      · obtain ⟨b, off, rfl, hb, h0, h1, h2, h3, h4, h5⟩ := HR.out.at_ hlt
        replace h0 := (hB.cell (p := ⟨b, off + k * 6, none⟩) hb).trans h0
        replace h1 := (hB.cell (p := ⟨b, off + k * 6 + 1, none⟩) hb).trans h1
        replace h2 := (hB.cell (p := ⟨b, off + k * 6 + 2, none⟩) hb).trans h2
        replace h3 := (hB.cell (p := ⟨b, off + k * 6 + 3, none⟩) hb).trans h3
        replace h4 := (hB.cell (p := ⟨b, off + k * 6 + 4, none⟩) hb).trans h4
        replace h5 := (hB.cell (p := ⟨b, off + k * 6 + 5, none⟩) hb).trans h5
        have hbd := totSz_bd HRE.out hk
        have hxb := size_bd HRE.out ⟨k, hlt⟩
        dsimp only at hxb
        obtain ⟨s1, s2, s3⟩ := bT.c1
        have hnx : totSz l (k + 1) = totSz l k + (gk l k).size := rfl
        rw [← gk_get l k hlt] at h0 h1 h2 h3 h4 h5
        generalize gk l k = x at *
        obtain ⟨xa, xs, xk, xt, xm, xn⟩ := x
        dsimp only at *
        have bT2 := Lib.hid bT
        obtain ⟨m, hm⟩ : ∃ m, totSz l k = m := ⟨_, rfl⟩
        rw [hm] at s1 hbd hnx
        have hm2 : m ≤ 2200000 := by omega
        have hm3 := hbd.1
        obtain ⟨x1, x2⟩ := hxb
        have HNX := Lib.hid hnx
        clear hnx hm hbd bT
        gi_wp2
        go_roundw
        case rel => exact ⟨k + 1, by omega, by go_num, by rw [HNX.out]; exact (bT2.out.set_ 0 _).alloc _, (hB.setCell (p := ⟨w1.heap.size, 0, none⟩) hz1 _).alloc (by simp; omega) _, by simp; omega⟩
        case measure => simp [intOf]; omega
      · have : k = l.length := by omega
        subst this
        gi_wp2
        refine ⟨trivial, (live_in Fence.wide _ trivial rfl A l.length c wr).mono ?_⟩
        rintro e w2 ⟨rfl, rfl⟩
        have c0 := bT.alloc (.cells #[.slice A l.length c] 41)
        have c1 := Bx.new wr 41 #[.slice A l.length c]
        have hb2 := hB.alloc hz (.cells #[.slice A l.length c] 41)
        have hsz : (wr.alloc (.cells #[.slice A l.length c] 41)).heap.size = wr.heap.size + 1 := by simp
        have htb := totSz_bd HRE.out (Nat.le_refl l.length)
        obtain ⟨tt, htt⟩ : ∃ t, totSz l l.length = t := ⟨_, rfl⟩
        have HF2 := Lib.hid HFIN.out
        rw [htt] at HF2 htb c0
        clear htt
        obtain ⟨W0, hW0⟩ : ∃ W0, wr.alloc (.cells #[.slice A l.length c] 41) = W0 := ⟨_, rfl⟩
        rw [hW0] at c0 c1 hb2 hsz ⊢
        clear hW0
        have hw0 : w1.heap.size < W0.heap.size := by omega
        gi_wp2
        refine wpIn_rangeFunc_ownH rfl (show 1 ≤ 6 by omega) (gf := 49) (lb := #[.pointer (some ⟨wr.heap.size, 0, none⟩)]) rfl trivial (enters_of Try.func49 (by kernel_rfl) rfl)
          (live_stops Fence.wide 5 trivial rfl (by omega) wr.heap.size w.heap.size A l c (by omega) W0 (by omega) (by omega) (c1.c1).1 ((HR.out).below hb2)) belowK_t (belowK_b (by omega)) (Below.refl _ _) (fun _ => rfl)
          (fun pre W => Bx W w1.heap.size 3 #[.int .i64 (tt - szSum l pre)] ∧ Below w.heap.size w W)
          (fun _ _ _ => False)
          (OwnFrom.and (Own.from (bx_own _ _ _) _) (ownFrom_below (Nat.le_refl _) (by omega)))
          (fun _ _ _ _ _ hs _ _ => hs)
          ⟨by simp only [szSum, Int.sub_zero]; exact c0, hb2⟩
          (fun x a' W => ∃ Bx', w1.heap.size < Bx' ∧ Bx W Bx' 59 (gk l x.1).arr ∧ a' = { tmps := #[.slice A l.length c, undef, .int .i64 0, .int .i64 0, .int .i64 0, .pointer (some ⟨w1.heap.size, 0, none⟩), undef, u7, undef, .pointer (some ⟨Bx', 0, none⟩), .slice A l.length c, .int .i64 0, .int .i64 0, .bool false, undef, .slice A l.length c, .int .i64 (l.length : Int), .int .i64 (l.length : Int), .bool false, u19, u20, u21, u22, u23, u24, u25, .slice A l.length c, .func (.func 49) #[] #[.pointer (some ⟨wr.heap.size, 0, none⟩)], .int .i64 (x.1 : Int), (gk l x.1).val, undef, undef, undef, undef, undef], defers := [] })
          (fun x a' _ X Y row hs hg hr => by obtain ⟨B', h1, h2, h3⟩ := hs; exact ⟨B', h1, bx_own B' 59 (fun (_ : Unit) => (gk l x.1).arr) () X Y row h2 hg (fun r e => (hr r e).2), h3⟩)
          ?assign ?body ?done ?stop
        case assign =>
          rintro l' pre x W K ⟨bS, hB⟩ hK
          have hz := hB.size
          obtain ⟨y, hy⟩ : ∃ y, gk l x.1 = y := ⟨_, rfl⟩
          rw [hy] at hK ⊢
          obtain ⟨xa, xs, xk, xt, xm, xn⟩ := y
          unfold Bk.arr Bk.val at hK
          unfold Bk.val
          dsimp only at hK ⊢
          have HK := Lib.hid hK
          clear hK hy
          gi_wp2
          exact HK.out _ _ ((KeepsOthers.alloc _ _).from _) ((Below.refl _ W).alloc hz _) ⟨bS.alloc _, hB.alloc hz _⟩ ⟨W.heap.size, bS.lt, Bx.new W _ _, rfl⟩
        case body =>
          rintro l' pre x a' W hl ⟨r, hr⟩ ⟨bS, hB⟩ ⟨B', hB', bX, rfl⟩ hlt
          have hsb := szSum_bd HRE.out pre
          have hxb := size_bd HRE.out x
          have hsn := Lib.hid (szSum_snoc l pre x)
          have g1 : W.cell? ⟨B', 1, none⟩ = some (.int .i64 (gk l x.1).size) := bX.cell 1
          obtain ⟨s1, s2, s3⟩ := bS.c1
          obtain ⟨u, hu⟩ : ∃ u, (gk l x.1).size = u := ⟨_, rfl⟩
          obtain ⟨m, hm⟩ : ∃ m, tt - szSum l pre = m := ⟨_, rfl⟩
          have hm1 : -2200000 ≤ m ∧ m ≤ 2200000 := by omega
          have HM := Lib.hid (show tt - szSum l (pre ++ [x]) = m - u by rw [hsn.out, ← hm, hu]; omega)
          rw [hu] at g1 hxb
          rw [hm] at s1
          obtain ⟨hm1, hm2⟩ := hm1
          obtain ⟨hx1, hx2⟩ := hxb
          have bS2 := Lib.hid bS
          clear hsb bS hm hu hlt htb
          gi_wp2
          exact ⟨(KeepsOthers.setCell _ _ _).from _, (Below.refl _ W).setCell (p := ⟨w1.heap.size, 0, none⟩) hz1 _, by rw [HM.out]; exact bS2.out.set_ 0 _, hB.setCell (p := ⟨w1.heap.size, 0, none⟩) hz1 _⟩
        case done =>
          rintro D zs W hD rfl ⟨bS, hB⟩ hK
          obtain ⟨s1, s2, s3⟩ := bS.c1
          rw [show tt - szSum l (lp l l.length) = gapsOf l from by have := HF2.out; omega] at s1
          gi_wp2
          refine ⟨by simp, .inl ⟨_, _, rfl, run_takeDeferred hK, ?_⟩⟩
          exact ⟨_, results_tmp2 rfl _ _ _, by rw [HE.out]; rfl, hB.trans (belowK_b (w := w) (Nat.le_refl _) W D _ _ (by omega) hK rfl rfl)⟩
        case stop =>
          rintro D c pre W _ _ h _
          exact h.elim
  · have hn1 : (rowErr l == 0) = false := by rw [beq_eq_false_iff_ne]; exact h0
    have hn2 : (rowErr l != 0) = true := by rw [bne_iff_ne]; exact h0
    have HE := Lib.hid (gapRes_no h0)
    clear h0
    gi_wp2
    exact ⟨_, results_tmp2 rfl _ _ _, by rw [HE.out]; rfl, hB1⟩

theorem gaps_c (A : Option Addr) (l : List Bk) (c n : Nat) (w : World) (hn : l.length = n) (hm : n ≤ 4294967296) (hr : RdB w w.heap.size A l) :
    Calls Try.prog 23 #[.slice A n c] w fun e w' => e = .returned (gapRes l) ∧ Below w.heap.size w w' :=
  callsIn_wide.1 (gaps_in A l c n w hn hm hr)
end Go.Proofs.Ytiaddipbjigaiaa
