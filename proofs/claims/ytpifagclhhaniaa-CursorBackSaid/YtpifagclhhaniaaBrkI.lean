/- The iterator over the marked objects of a row: what it hands to a loop's body, for every row. -/
import Derived.Test.YtpifagclhhaniaaBrkQ
import Derived.RangeFuncNested
import Derived.RangeFuncBound
import Derived.RangeFuncCalls
import Derived.RangeFuncLeaves
import Derived.Shelf.Abstract
import Derived.Shelf.RegionOpen
import Derived.OwnWalkIn
import Derived.TacticsInMore
import Derived.LoopNIn
import Derived.LoopIn
namespace Go.Proofs.Ytpifagclhhaniaa
open Go.RowKit Go.Shelf
attribute [local go_sem] Oper.semAt_some

/-- An index of a row. -/
abbrev Idx (l : List Bk) := { k : Nat // k < l.length }
/-- The indices of the marked objects among the first k blocks. -/
def lp (l : List Bk) : Nat → List (Idx l)
  | 0 => []
  | k + 1 => if h : k < l.length ∧ liveB (gk l k) = true then lp l k ++ [⟨k, h.1⟩] else lp l k
theorem lp_len (l : List Bk) (k : Nat) : (lp l k).length ≤ k := by
  induction k with
  | zero => simp [lp]
  | succ k ih => simp only [lp]; split <;> (try simp only [List.length_append, List.length_cons, List.length_nil]) <;> omega
theorem lp_yes {l : List Bk} {k : Nat} (h : k < l.length) (hb : liveB (gk l k) = true) : lp l (k + 1) = lp l k ++ [⟨k, h⟩] := by
  simp only [lp]; rw [dif_pos ⟨h, hb⟩]
theorem lp_no {l : List Bk} {k : Nat} (hb : liveB (gk l k) = false) : lp l (k + 1) = lp l k := by
  simp only [lp]; rw [dif_neg (fun h => by rw [hb] at h; exact Bool.false_ne_true h.2)]

set_option maxRecDepth 100000 in
set_option maxHeartbeats 2000000 in
theorem live1_in (F : Fence) (n : Nat) (hf : F.fn 110) (hro : F.round = none) (hn : 1 ≤ n) (l Bs n₀ : Nat) (A : Option Addr) (bl : List Bk) (cap : Nat) (hlen : bl.length ≤ 4294967296) (J Jx : List (Idx bl) → World → Prop)
    (hJ : ∀ s W o, J s W → J s (W.alloc o))
    (hY : ∀ pre x W, J pre W → pre.length < bl.length → YieldAt F (n - 1) Try.prog l #[.int .i64 (x.1 : Int), (gk bl x.1).val] W fun e W' =>
      (e = .returned (.bool true) ∧ J (pre ++ [x]) W' ∧ Below n₀ W W') ∨ (e = .returned (.bool false) ∧ Jx (pre ++ [x]) W'))
    (W : World) (hn0 : n₀ ≤ W.heap.size) (hBs : W.cell? ⟨Bs, 0, none⟩ = some (.slice A bl.length cap)) (hc : RdB W n₀ A bl) (h0 : J [] W) :
    CallsIn F n Try.prog 110 #[.func (.yield l) #[] #[], .pointer (some ⟨Bs, 0, none⟩)] W fun e W' => (∃ v, e = .returned v) ∧
      ((∃ ys, ys = lp bl bl.length ∧ J ys W') ∨ (∃ pre, (∃ k, pre = lp bl k) ∧ Jx pre W')) := by
  have HC := Lib.hid hc
  have HY := Lib.hid hY
  have HJ := Lib.hid hJ
  clear hc hY hJ
  refine callsIn_of_wp Try.func110 rfl hf ?_ hro
  simp only [Try.ntmps110, List.size_toArray, List.length_cons, List.length_nil, Nat.reduceAdd, Nat.reduceSub, Array.replicate_succ, Array.replicate_zero, List.push_toArray, List.append_toArray, List.nil_append, List.cons_append]
  gi_wp2
  gi_loopw [7] (fun i wr => ∃ k : Nat, k ≤ bl.length ∧ i = .int .i64 k ∧ J (lp bl k) wr ∧ Below n₀ W wr)
    (fun i _ => bl.length - (intOf i).toNat)
  case atStart => exact ⟨0, Nat.zero_le _, rfl, h0, Below.refl _ _⟩
  case round =>
    obtain ⟨k, hk, rfl, hJs, hnx⟩ := hrel
    have hz := hnx.size
    by_cases hlt : k < bl.length
    · obtain ⟨b, off, rfl, hb, h0, h1, h2, h3, h4, h5⟩ := HC.out.at_ hlt
      replace h0 := (hnx.cell (p := ⟨b, off + k * 6, none⟩) hb).trans h0
      replace h1 := (hnx.cell (p := ⟨b, off + k * 6 + 1, none⟩) hb).trans h1
      replace h2 := (hnx.cell (p := ⟨b, off + k * 6 + 2, none⟩) hb).trans h2
      replace h3 := (hnx.cell (p := ⟨b, off + k * 6 + 3, none⟩) hb).trans h3
      replace h4 := (hnx.cell (p := ⟨b, off + k * 6 + 4, none⟩) hb).trans h4
      replace h5 := (hnx.cell (p := ⟨b, off + k * 6 + 5, none⟩) hb).trans h5
      have hyk := HY.out (lp bl k) ⟨k, hlt⟩
      dsimp only at hyk
      rw [← gk_get bl k hlt] at h0 h1 h2 h3 h4 h5
      have HLP1 : Hid (liveB (gk bl k) = true → lp bl (k + 1) = lp bl k ++ [⟨k, hlt⟩]) := lp_yes hlt
      have HLP0 : Hid (liveB (gk bl k) = false → lp bl (k + 1) = lp bl k) := lp_no
      have HYK := Lib.hid hyk
      have hpl := lp_len bl k
      clear hyk
      generalize gk bl k = x at *
      obtain ⟨xa, xs, xk, xt, xm, xn⟩ := x
      dsimp only at *
      cases hlb : liveB ⟨xa, xs, xk, xt, xm, xn⟩
      · have HLX := Lib.hid (HLP0.out hlb)
        by_cases hk1 : xk = 1
        · have hm0 : xm = false := by subst hk1; simpa [liveB] using hlb
          subst hk1 hm0
          clear hlb
          gi_wp2
          refine ⟨fun _ h => (by cases h), ?_⟩
          gi_wp2
          go_roundw
          case rel => exact ⟨k + 1, by omega, by go_num, by rw [HLX.out]; exact HJ.out _ _ _ hJs, hnx.alloc (by omega) _⟩
          case measure => simp [intOf]; omega
        · have hkb : (xk == 1) = false := by rw [beq_eq_false_iff_ne]; exact hk1
          clear hlb hk1
          gi_wp2
          refine ⟨fun _ h => (by cases h), ?_⟩
          gi_wp2
          go_roundw
          case rel => exact ⟨k + 1, by omega, by go_num, by rw [HLX.out]; exact HJ.out _ _ _ hJs, hnx.alloc (by omega) _⟩
          case measure => simp [intOf]; omega
      · have h12 : xk = 1 ∧ xm = true := by simpa [liveB] using hlb
        obtain ⟨rfl, rfl⟩ := h12
        obtain ⟨fn, tmps, assign, body, hy, hR⟩ := HYK.out (wr.alloc (.cells #[.int .i64 xa, .int .i64 xs, .int .i64 1, .int .i64 xt, .bool true, .int .u64 (xn : Int)] 47)) (HJ.out _ _ _ hJs) (by omega)
        unfold Bk.val at hy
        dsimp only at hy
        gi_wp2
        refine hR.mono ?_
        rintro e W3 (⟨rfl, hJ3, hk3⟩ | ⟨rfl, hJx3⟩)
        · gi_wp2
          go_roundw
          case rel => exact ⟨k + 1, by omega, by go_num, by rw [HLP1.out hlb]; exact hJ3, (hnx.alloc (by omega) _).trans hk3⟩
          case measure => simp [intOf]; omega
        · gi_wp2
          refine bodyPost_ret (results_none rfl _ _ _) rfl ?_
          exact ⟨⟨_, rfl⟩, .inr ⟨_, ⟨k + 1, (HLP1.out hlb).symm⟩, hJx3⟩⟩
    · obtain rfl : k = bl.length := by omega
      gi_wp2
      go_end0
      exact ⟨⟨_, rfl⟩, .inl ⟨_, rfl, hJs⟩⟩

set_option maxHeartbeats 1000000 in
theorem live_in (F : Fence) (n : Nat) (h : F.fn 93) (hro : F.round = none) (A : Option Addr) (len cap : Nat) (w : World) :
    CallsIn F n Try.prog 93 #[.slice A len cap] w fun e w' => e = .returned (.func (.func 110) #[] #[.pointer (some ⟨w.heap.size, 0, none⟩)]) ∧ w' = w.alloc (.cells #[.slice A len cap] 54) := by
  refine callsIn_of_wp Try.func93 rfl h ?_ hro
  simp only [Try.ntmps93, List.size_toArray, List.length_cons, List.length_nil, Nat.reduceAdd, Nat.reduceSub, Array.replicate_succ, Array.replicate_zero, List.push_toArray, List.append_toArray, List.nil_append, List.cons_append]
  gi_wp2
  go_ret
  exact ⟨rfl, rfl⟩

theorem live_stops (F : Fence) (n : Nat) (hf : F.fn 110) (hro : F.round = none) (hn : 1 ≤ n) (Bs n₀ : Nat) (A : Option Addr) (bl : List Bk) (cap : Nat) (hlen : bl.length ≤ 4294967296) (w : World) (hBs : Bs < w.heap.size) (hn₀ : n₀ ≤ w.heap.size)
    (hc : w.cell? ⟨Bs, 0, none⟩ = some (.slice A bl.length cap)) (hI : RdB w n₀ A bl) :
    SeqStopsK F n Try.prog 110 #[.pointer (some ⟨Bs, 0, none⟩)] (fun x : Idx bl => #[.int .i64 (x.1 : Int), (gk bl x.1).val]) (Below n₀) (fun ys => ys = lp bl bl.length) (fun pre => ∃ k, pre = lp bl k) bl.length w := fun l J Jx W hW hJ _ hY h0 =>
  live1_in F n hf hro hn l Bs n₀ A bl cap hlen J Jx (fun s W o hs => hJ s W _ none hs (World.grownBy_alloc W o none) (fun r e => by cases e)) hY W (Nat.le_trans hn₀ hW.size) ((hW.cell (p := ⟨Bs, 0, none⟩) hBs).trans hc) (hI.below (hW.mono hn₀)) h0
end Go.Proofs.Ytpifagclhhaniaa
