/- The chapter's examples of efforts hold: what 'alive' of law 34 returns. -/
import Derived.Test.YtpfbppjjegialaaEff
namespace Go.Proofs.Ytpfbppjjegialaa
open Go.RowKit

theorem infoEntry : (Try.prog.info? 50).map (fun i => (i.zero, i.size, i.bytes)) = some (some (.agg #[.int .i64 0, .int .u64 0]), 2, 16) := by kernel_rfl

def rowL (a : Int) (n : Nat) : List En := (List.range n).map fun (i : Nat) => ⟨a + (i : Int), 0⟩
theorem rowL_succ (a : Int) (n : Nat) : rowL a (n + 1) = rowL a n ++ [⟨a + (n : Int), 0⟩] := by simp [rowL, List.range_succ]
theorem rowL_len (a : Int) (n : Nat) : (rowL a n).length = n := by simp [rowL]

set_option maxHeartbeats 400000 in
theorem row_c (a : Int) (n : Nat) (w : World) (ha : -10000 ≤ a) (ha2 : a ≤ 10000) (hn : n ≤ 2000) :
    Calls Try.prog 18 #[.int .i64 a, .int .i64 (n : Int)] w fun e w' => ∃ v, e = .returned v ∧ w'.ownsRow w.heap.size 50 2 v n ((rowL a n).flatMap En.cells) ∧ Below w.heap.size w w' := by
  obtain ⟨i0, hi, hz0, hz1, hz2⟩ := info_parts infoEntry
  have HI := Lib.hid hi
  have HZ0 := Lib.hid hz0
  have HZ1 := Lib.hid hz1
  have HZ2 := Lib.hid hz2
  clear hi hz0 hz1 hz2
  go_enter Try.func18, Try.ntmps18
  go_wp2_with fail
  go_loopw [5, 6] (fun v i wr => ∃ k : Nat, k ≤ n ∧ i = .int .i64 k ∧ wr.ownsRow w.heap.size 50 2 v k ((rowL a k).flatMap En.cells) ∧ Below w.heap.size w wr) (fun _ i _ => n - (intOf i).toNat)
  case atStart => exact ⟨0, Nat.zero_le _, rfl, World.ownsRow_nil _ _ _ _, Below.refl _ _⟩
  case round =>
    rename_i v5 _
    obtain ⟨k, hk, rfl, hown, hB⟩ := hrel
    by_cases hlt : k < n
    · go_wp2_with (at_builtin; refine wpList_append_own _ rfl _ _ 24 rfl w.heap.size 50 i0 _ 2 16 Try.underlying24 HI.out HZ0.out HZ1.out HZ2.out rfl (by decide) _ _ _ rfl (hown.alloc _) ⟨_, 0, none⟩ 1 1 [.int .i64 (a + k), .int .u64 0] rfl rfl (news_new _ _ _) (by simp [Value.oneCell']) (by unfold maxLen; omega) (by omega) (le_alloc_ hB.size) ?_; intro v1 w1 hown1 hg1 _; have hB1 := below_append hB hB.size hown hg1)
      go_roundw
      case rel => exact ⟨k + 1, by omega, by go_num, by rw [rowL_succ, flat_snoc]; exact hown1, hB1⟩
      case measure => simp [intOf]; omega
    · have : k = n := by omega
      subst this
      go_wp2_with fail
      go_ret
      exact ⟨_, rfl, hown, hB⟩

set_option maxHeartbeats 400000 in
theorem takes_yes (A : Option Addr) (l : List En) (c : Nat) (s f n : Int) (w : World) (hm : l.length ≤ 9223372036854775807) (hr : RdE w w.heap.size A l)
    (h : effRes (addrs l) = .tuple #[effV s f n, .int .i64 0]) :
    Calls Try.prog 25 #[.slice A l.length c, .int .i64 s, .int .i64 f, .int .i64 n] w fun e w' => e = .returned (.bool true) ∧ Below w.heap.size w w' := by
  have HR := Lib.hid hr
  have HE := Lib.hid h
  clear hr h
  go_enter Try.func25, Try.ntmps25
  go_wp2_with fail
  refine (of_c A l c _ hm HR.out).mono ?_
  rintro e w1 ⟨rfl, hB1⟩
  rw [HE.out]
  unfold effV
  have hz := hB1.size
  go_wp2_with fail
  go_ret
  refine ⟨rfl, ?_⟩
  (repeat' (first | with_reducible assumption | with_reducible exact Below.refl _ _ | (with_reducible refine below_drewN ?_ _) | (with_reducible refine Below.drew ?_) | (with_reducible refine Below.alloc ?_ ?_ _) | (with_reducible refine Below.setCell ?_ ?_ _))) <;> (first | exact Nat.le_refl _ | exact Nat.le_succ _ | omega | (dsimp only; omega) | ((repeat (first | (with_reducible refine le_alloc_ ?_) | (with_reducible refine le_set_ ?_) | (with_reducible refine le_drewN_ ?_))); first | exact Nat.le_refl _ | omega))

set_option maxHeartbeats 400000 in
theorem alive34_c (w : World) : Calls Try.prog 24 #[] w fun e w' => e = .returned (.bool true) ∧ Below w.heap.size w w' := by
  have H1 := Lib.hid (show effRes (addrs (rowL 16 1)) = .tuple #[effV 5 4 4, .int .i64 0] by kernel_rfl)
  have H2 := Lib.hid (show effRes (addrs (rowL 128 32)) = .tuple #[effV 98 14 4, .int .i64 0] by kernel_rfl)
  go_enter Try.func24, Try.ntmps24
  go_wp2_with fail
  refine (row_c 16 1 _ (by omega) (by omega) (by omega)).mono ?_
  rintro e w1 ⟨v, rfl, hown, hB1⟩
  obtain ⟨A, c, rfl⟩ := own_slice hown
  go_wp2_with fail
  refine (takes_yes A (rowL 16 1) c 5 4 4 _ (by simp [rowL_len]) (Rd.of_own hown) H1.out).mono ?_
  rintro e w2 ⟨rfl, hB2⟩
  go_wp2_with fail
  refine (row_c 128 32 _ (by omega) (by omega) (by omega)).mono ?_
  rintro e w3 ⟨v, rfl, hown3, hB3⟩
  obtain ⟨A3, c3, rfl⟩ := own_slice hown3
  go_wp2_with fail
  refine (takes_yes A3 (rowL 128 32) c3 98 14 4 _ (by simp [rowL_len]) (Rd.of_own hown3) H2.out).mono ?_
  rintro e w4 ⟨rfl, hB4⟩
  have hb2 := hB1.trans (hB2.mono hB1.size)
  have hb3 := hb2.trans (hB3.mono hb2.size)
  have hb4 := hb3.trans (hB4.mono hb3.size)
  go_wp2_with fail
  go_ret
  exact ⟨rfl, hb4⟩
end Go.Proofs.Ytpfbppjjegialaa
