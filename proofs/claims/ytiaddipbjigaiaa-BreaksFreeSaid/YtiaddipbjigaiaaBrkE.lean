/- End and Gaps of rows: what the program returns. -/
import Derived.Test.YtiaddipbjigaiaaBrkI
import Derived.Test.YtiaddipbjigaiaaBrkT
import Derived.Test.YtiaddipbjigaiaaBrkS
namespace Go.Proofs.Ytiaddipbjigaiaa
open Go.RowKit Go.Shelf
attribute [local go_sem] Oper.semAt_some

def Bk.arr (b : Bk) : Array Value := #[.int .i64 b.at_, .int .i64 b.size, .int .i64 b.kind, .int .i64 b.typ, .bool b.mark, .int .u64 (b.next : Int)]
theorem bx_own {β : Type} (B : Nat) (t : TypeId) (f : β → Array Value) : Own (fun s W => Bx W B t (f s)) := fun s X Y row hs hg hrow =>
  Bx.grown hs hg (fun e' => by obtain ⟨o, ho, hc⟩ := hrow B e'.symm; rw [show X.heap[B]? = _ from hs] at ho; cases ho; cases hc)

/-- The sizes of some blocks of a row, together. -/
def szSum (l : List Bk) : List (Idx l) → Int
  | [] => 0
  | x :: p => szSum l p + (gk l x.1).size
theorem szSum_snoc (l : List Bk) (p : List (Idx l)) (x : Idx l) : szSum l (p ++ [x]) = szSum l p + (gk l x.1).size := by
  induction p with
  | nil => simp [szSum]
  | cons y p ih => simp only [List.cons_append, szSum, ih]; omega
theorem szSum_bd {l : List Bk} (h : rowErr l = 0) (p : List (Idx l)) : 0 ≤ szSum l p ∧ szSum l p ≤ 2048 * p.length := by
  induction p with
  | nil => simp [szSum]
  | cons y p ih =>
    have := (bkOk_iff _).1 (rowPre_at (rowErr_zero h).2 y.2).1
    simp only [szSum, List.length_cons]; omega
theorem szSum_lp {l : List Bk} {k : Nat} (hk : k ≤ l.length) (s : Int) : s + szSum l (lp l k) = endOf (l.take k) s := by
  induction k with
  | zero => simp [lp, szSum, endOf]
  | succ k ih =>
    have := ih (by omega)
    rw [endOf_take (by omega), ← gk_get l k (by omega)]
    cases hb : liveB (gk l k)
    · rw [lp_no hb, this]; simp
    · rw [lp_yes (by omega) hb, szSum_snoc]; simp; omega
theorem size_bd {l : List Bk} (h : rowErr l = 0) (x : Idx l) : 2 ≤ (gk l x.1).size ∧ (gk l x.1).size ≤ 2048 := by
  have := (bkOk_iff _).1 (rowPre_at (rowErr_zero h).2 x.2).1
  omega

/-- What End gives: the end and the error. -/
def endRes (l : List Bk) (s : Int) : Value := .tuple #[.int .i64 (if stErr l s = 0 then endOf l s else 0), .int .i64 (stErr l s)]
theorem endRes_ok {l : List Bk} {s : Int} (h : stErr l s = 0) : endRes l s = .tuple #[.int .i64 (endOf l s), .int .i64 0] := by simp [endRes, h]
theorem endRes_no {l : List Bk} {s : Int} (h : stErr l s ≠ 0) : endRes l s = .tuple #[.int .i64 0, .int .i64 (stErr l s)] := by simp [endRes, h]

set_option maxRecDepth 100000 in
set_option maxHeartbeats 2000000 in
theorem end_in (A : Option Addr) (l : List Bk) (c n : Nat) (s : Int) (w : World) (hn : l.length = n) (hm : n ≤ 4294967296) (hr : RdB w w.heap.size A l) (hs : -9223372036854775808 ≤ s ∧ s ≤ 9223372036854775807) :
    CallsIn Fence.wide 6 Try.prog 21 #[.slice A n c, .int .i64 s] w fun e w' => e = .returned (endRes l s) ∧ Below w.heap.size w w' := by
  subst hn
  have HR := Lib.hid hr
  clear hr
  refine callsIn_of_wp_marks Try.func21 rfl trivial ?_ rfl
  simp only [Try.ntmps21, List.size_toArray, List.length_cons, List.length_nil, Nat.reduceAdd, Nat.reduceSub, Array.replicate_succ, Array.replicate_zero, List.push_toArray, List.append_toArray, List.nil_append, List.cons_append]
  gi_wp2
  refine ⟨trivial, (callsIn_wide.2 (started_c A l c l.length s _ rfl (by omega) ((HR.out.alloc (Nat.le_refl _) _).more (by simp)) hs)).mono ?_⟩
  rintro e w1 ⟨rfl, hB1⟩
  rw [World.size_alloc] at hB1
  have b0 := Bx.of_new hB1
  have hb1 := below_call hB1
  have hz1 := hb1.size
  by_cases h0 : stErr l s = 0
  · obtain ⟨hre, hs1, hs2, _⟩ := stErr_zero h0
    have HRE := Lib.hid hre
    have HE := Lib.hid (endRes_ok h0)
    have hmb := most_bd hre
    have hlen := (rowErr_zero hre).1
    rw [h0]
    have hfin := szSum_lp (l := l) (Nat.le_refl l.length) s
    rw [List.take_length] at hfin
    have HFIN := Lib.hid hfin
    clear h0 hre hfin
    obtain ⟨q1, q2, q3⟩ := b0.c1
    gi_wp2
    refine ⟨trivial, (live_in Fence.wide _ trivial rfl A l.length c w1).mono ?_⟩
    rintro e w2 ⟨rfl, rfl⟩
    have hrd1 := Lib.hid ((HR.out.up hb1 hz1).alloc (Nat.le_refl _) (.cells #[.slice A l.length c] 41))
    have c0 := b0.alloc (.cells #[.slice A l.length c] 41)
    have c1 := Bx.new w1 41 #[.slice A l.length c]
    have hb2 := hb1.alloc hz1 (.cells #[.slice A l.length c] 41)
    have hsz : (w1.alloc (.cells #[.slice A l.length c] 41)).heap.size = w1.heap.size + 1 := by simp
    obtain ⟨W0, hW0⟩ : ∃ W0, w1.alloc (.cells #[.slice A l.length c] 41) = W0 := ⟨_, rfl⟩
    rw [hW0] at hrd1 c0 c1 hb2 hsz ⊢
    clear hW0
    have hw0 : w.heap.size < W0.heap.size := by omega
    gi_wp2
    refine wpIn_rangeFunc_ownH rfl (show 1 ≤ 6 by omega) (gf := 49) (lb := #[.pointer (some ⟨w1.heap.size, 0, none⟩)]) rfl trivial (enters_of Try.func49 (by kernel_rfl) rfl)
      (live_stops Fence.wide 5 trivial rfl (by omega) w1.heap.size w.heap.size A l c (by omega) W0 (by omega) (by omega) (c1.c1).1 ((HR.out).below hb2)) belowK_t (belowK_b (by omega)) (Below.refl _ _) (fun _ => rfl)
      (fun pre W => Bx W w.heap.size 3 #[.int .i64 (s + szSum l pre)] ∧ Below w.heap.size w W)
      (fun _ _ _ => False)
      (OwnFrom.and (Own.from (bx_own _ _ _) _) (ownFrom_below (Nat.le_refl _) (by omega)))
      (fun _ _ _ _ _ hs _ _ => hs)
      ⟨by simp only [szSum, Int.add_zero]; exact c0, hb2⟩
      (fun x a' W => ∃ Bx', w.heap.size < Bx' ∧ Bx W Bx' 59 (gk l x.1).arr ∧ a' = { tmps := #[.slice A l.length c, .int .i64 s, undef, .pointer (some ⟨w.heap.size, 0, none⟩), .int .i64 0, .int .i64 0, .int .i64 0, undef, .pointer (some ⟨Bx', 0, none⟩), .slice A l.length c, .int .i64 s, .int .i64 0, .int .i64 0, .bool false, undef, .slice A l.length c, .func (.func 49) #[] #[.pointer (some ⟨w1.heap.size, 0, none⟩)], .int .i64 (x.1 : Int), (gk l x.1).val, undef, undef, undef, undef, undef], defers := [] })
      (fun x a' _ X Y row hs hg hr => by obtain ⟨B', h1, h2, h3⟩ := hs; exact ⟨B', h1, bx_own B' 59 (fun (_ : Unit) => (gk l x.1).arr) () X Y row h2 hg (fun r e => (hr r e).2), h3⟩)
      ?assign ?body ?done ?stop
    case assign =>
      rintro l' pre x W K ⟨bS, hB⟩ hK
      have hz := hB.size
      obtain ⟨y, hy⟩ : ∃ y, gk l x.1 = y := ⟨_, rfl⟩
      rw [hy] at hK ⊢
      obtain ⟨xa, xs, xk, xt, xm, xn⟩ := y
      unfold Bk.arr Bk.val at hK
      unfold Bk.val
      dsimp only at hK ⊢
      have HK := Lib.hid hK
      clear hK hy
      gi_wp2
      exact HK.out _ _ ((KeepsOthers.alloc _ _).from _) ((Below.refl _ W).alloc hz _) ⟨bS.alloc _, hB.alloc hz _⟩ ⟨W.heap.size, bS.lt, Bx.new W _ _, rfl⟩
    case body =>
      rintro l' pre x a' W hl ⟨r, hr⟩ ⟨bS, hB⟩ ⟨B', hB', bX, rfl⟩ hlt
      have hsb := szSum_bd HRE.out pre
      have hxb := size_bd HRE.out x
      have hsn := Lib.hid (szSum_snoc l pre x)
      have g1 : W.cell? ⟨B', 1, none⟩ = some (.int .i64 (gk l x.1).size) := bX.cell 1
      obtain ⟨s1, s2, s3⟩ := bS.c1
      obtain ⟨u, hu⟩ : ∃ u, (gk l x.1).size = u := ⟨_, rfl⟩
      obtain ⟨m, hm⟩ : ∃ m, s + szSum l pre = m := ⟨_, rfl⟩
      have hm1 : 0 ≤ m ∧ m ≤ 2200000 := by omega
      have HM := Lib.hid (show s + szSum l (pre ++ [x]) = m + u by rw [hsn.out, ← hm, hu]; omega)
      rw [hu] at g1 hxb
      rw [hm] at s1
      obtain ⟨hm1, hm2⟩ := hm1
      obtain ⟨hx1, hx2⟩ := hxb
      have bS2 := Lib.hid bS
      clear hsb bS hm hu hlt
      gi_wp2
      exact ⟨(KeepsOthers.setCell _ _ _).from _, (Below.refl _ W).setCell (p := ⟨w.heap.size, 0, none⟩) (Nat.le_refl _) _, by rw [HM.out]; exact bS2.out.set_ 0 _, hB.setCell (p := ⟨w.heap.size, 0, none⟩) (Nat.le_refl _) _⟩
    case done =>
      rintro D zs W hD rfl ⟨bS, hB⟩ hK
      obtain ⟨s1, s2, s3⟩ := bS.c1
      rw [HFIN.out] at s1
      gi_wp2
      refine ⟨by simp, .inl ⟨_, _, rfl, run_takeDeferred hK, ?_⟩⟩
      exact ⟨_, results_tmp2 rfl _ _ _, by rw [HE.out]; rfl, hB.trans (belowK_b (w := w) (Nat.le_refl _) W D _ _ (by omega) hK rfl rfl)⟩
    case stop =>
      rintro D c pre W _ _ h _
      exact h.elim
  · have hn1 : (stErr l s == 0) = false := by rw [beq_eq_false_iff_ne]; exact h0
    have hn2 : (stErr l s != 0) = true := by rw [bne_iff_ne]; exact h0
    have HE := Lib.hid (endRes_no h0)
    clear h0
    gi_wp2
    exact ⟨_, results_tmp2 rfl _ _ _, by rw [HE.out]; rfl, hb1⟩
end Go.Proofs.Ytiaddipbjigaiaa
