/- The error of a heap, and its marked objects: what the program returns. -/
import Derived.Test.YtpifagclhhaniaaMrk
import Derived.Test.YtpifagclhhaniaaPlA
namespace Go.Proofs.Ytpifagclhhaniaa
open Go.RowKit

set_option maxRecDepth 100000 in
set_option maxHeartbeats 1000000 in
theorem mCheck_c (A : Option Addr) (ws : List Nat) (c n : Nat) (w : World) (hn : ws.length = n) (hm : n ≤ 9223372036854775807) (hr : RdW w w.heap.size A ws) (ho : ∀ x ∈ ws, x < 18446744073709551616) :
    Calls Try.prog 46 #[.slice A n c] w fun e w' => e = .returned (.int .i64 (hpErr ws)) ∧ Below w.heap.size w w' := by
  have HC := Lib.hid (mHeap_c A ws c n w hn hm hr ho)
  clear hr ho hn
  obtain ⟨r, hr⟩ : ∃ r, hpErr ws = r := ⟨_, rfl⟩
  have HE := Lib.hid hr
  rw [hr]
  clear hr
  go_enter Try.func46, Try.ntmps46
  go_wp2_with fail
  refine HC.out.mono ?_
  rintro e w1 ⟨⟨A1, c1, rfl, -, -⟩, hB1⟩
  go_wp2_with fail
  go_ret
  exact ⟨by rw [← HE.out]; rfl, hB1⟩

/-- The marked objects that are given. -/
def MdRes (ws : List Nat) (e : Ending) (w' : World) : Prop := ∃ A c, e = .returned (.tuple #[.slice A (mkdL (hpOut ws)).length c, .int .i64 (hpErr ws)]) ∧ RdI w' w'.heap.size A (mkdL (hpOut ws)) ∧ (mkdL (hpOut ws)).length ≤ c
theorem mkdL_snoc {l : List Bk} {k : Nat} (hk : k < l.length) : mkdL (l.take (k + 1)) = mkdL (l.take k) ++ (if l[k].mark = true then [l[k].at_] else []) := by
  rw [List.take_succ_eq_append_getElem hk]
  unfold mkdL
  rw [List.filter_append, List.map_append]
  cases h : l[k].mark <;> simp [h]
theorem mkdL_len (l : List Bk) : (mkdL l).length ≤ l.length := by unfold mkdL; rw [List.length_map]; exact List.length_filter_le _ _
theorem hpOut_len (ws : List Nat) : (hpOut ws).length ≤ 1024 := by
  unfold hpOut
  split
  · rename_i h
    obtain ⟨h1, l, h2, -⟩ := hpErr_zero h
    have hb := (sizeOk_iff _).1 h1
    have := (blocks_chain (by omega) _ _ h2 (by omega) (by omega) (by omega)).1
    rw [h2]; simp only [Option.getD_some]; omega
  · simp
theorem slice_of {H n : Nat} {e : TypeId} {sz : Nat} {v : Value} {w' : World} {xs : List Value} (h : w'.ownsRow H e sz v n xs) : ∃ A c, v = .slice A n c ∧ n ≤ c ∧ Rd w' w'.heap.size A xs := by
  have hc : ∃ A c, v = .slice A n c ∧ n ≤ c := by
    rcases h.2 with ⟨rfl, hnil⟩ | ⟨g, cap, cur, rfl, _, _, hle, _⟩
    · have h0 : n = 0 ∨ 0 < n := by omega
      exact ⟨none, 0, by
        have := own_slice h
        obtain ⟨A, c, e⟩ := this
        injection e with _ e2 _
        rw [← e2], by
        have := own_slice h
        obtain ⟨A, c, e⟩ := this
        injection e with _ e2 _
        omega⟩
    · exact ⟨_, _, rfl, hle⟩
  obtain ⟨A, c, rfl, hle⟩ := hc
  exact ⟨A, c, rfl, hle, Rd.of_own h⟩

set_option maxRecDepth 100000 in
set_option maxHeartbeats 2000000 in
theorem mMarked_c (A : Option Addr) (ws : List Nat) (c n : Nat) (w : World) (hn : ws.length = n) (hm : n ≤ 9223372036854775807) (hr : RdW w w.heap.size A ws) (ho : ∀ x ∈ ws, x < 18446744073709551616) :
    Calls Try.prog 23 #[.slice A n c] w fun e w' => MdRes ws e w' ∧ Below w.heap.size w w' := by
  have HC := Lib.hid (mHeap_c A ws c n w hn hm hr ho)
  have hlen := hpOut_len ws
  have HNO : Hid (hpErr ws ≠ 0 → hpOut ws = []) := Lib.hid (fun h => by simp [hpOut, h])
  clear hr ho hn
  obtain ⟨r, hr⟩ : ∃ r, hpErr ws = r := ⟨_, rfl⟩
  have HE := Lib.hid hr
  rw [hr] at HNO
  obtain ⟨l, hl⟩ : ∃ l, hpOut ws = l := ⟨_, rfl⟩
  have HL := Lib.hid hl
  rw [hl] at hlen HNO
  unfold MhRes at HC
  rw [hr, hl] at HC
  clear hr hl
  by_cases hr0 : r = 0
  · subst hr0
    obtain ⟨i0, hi, hz0, hz1, hz2⟩ := info_parts infoInt
    have HI := Lib.hid hi
    have HZ0 := Lib.hid hz0
    have HZ1 := Lib.hid hz1
    have HZ2 := Lib.hid hz2
    clear hi hz0 hz1 hz2
    go_enter Try.func23, Try.ntmps23
    go_wp2_with fail
    refine HC.out.mono ?_
    rintro e w1 ⟨⟨A1, c1, rfl, hrd, -⟩, hB1⟩
    have hz1 := hB1.size
    have HRD := Lib.hid hrd
    clear hrd
    go_wp2_with fail
    go_loopw [6, 19] (fun v i wr => ∃ k : Nat, k ≤ l.length ∧ i = .int .i64 k ∧ wr.ownsRow w1.heap.size 3 1 v (mkdL (l.take k)).length ((mkdL (l.take k)).flatMap intCells) ∧ Below w1.heap.size w1 wr) (fun _ i _ => l.length - (intOf i).toNat)
    case atStart => exact ⟨0, Nat.zero_le _, rfl, World.ownsRow_nil _ _ _ _, Below.refl _ _⟩
    case round =>
      obtain ⟨k, hk, rfl, hown, hB⟩ := hrel
      have hz := hB.size
      by_cases hlt : k < l.length
      · obtain ⟨b, off, rfl, hbw, q0, q1, q2, q3, q4, q5⟩ := RdB.at_ (HRD.out.below hB) hlt
        have HSN := Lib.hid (mkdL_snoc hlt)
        have hml := mkdL_len (l.take k)
        rw [List.length_take] at hml
        obtain ⟨m, hm2⟩ : ∃ m, mkdL (l.take k) = m := ⟨_, rfl⟩
        rw [hm2] at hown HSN hml
        obtain ⟨x, hx⟩ : ∃ x, l[k] = x := ⟨_, rfl⟩
        rw [hx] at q0 q1 q2 q3 q4 q5 HSN
        obtain ⟨xa, xs, xk, xt, xm, xn⟩ := x
        dsimp only at q0 q1 q2 q3 q4 q5 HSN
        have hlm : (k : Int) < (l.length : Int) := by omega
        have hml2 : m.length ≤ 1024 := by omega
        clear hx hm2 hml
        cases xm
        · have HS2 := Lib.hid (show mkdL (l.take (k + 1)) = m by rw [HSN.out]; simp)
          clear HSN
          go_wp2_with fail
          go_roundw
          case rel => exact ⟨k + 1, by omega, by go_num, by rw [HS2.out]; exact hown.alloc _, hB.alloc hz _⟩
          case measure => simp [intOf]; omega
        · have HS2 := Lib.hid (show mkdL (l.take (k + 1)) = m ++ [xa] by rw [HSN.out]; rfl)
          clear HSN
          go_wp2_with (at_builtin; refine wpList_append_own _ rfl _ _ 25 rfl w1.heap.size 3 i0 _ 1 8 Try.underlying25 HI.out HZ0.out HZ1.out HZ2.out rfl (by decide) _ _ _ rfl ((hown.alloc _).alloc _) ⟨_, 0, none⟩ 1 1 [.int .i64 xa] rfl rfl (news_at _ _ _ (World.size_alloc _ _)) (by simp [Value.oneCell']) (by unfold maxLen; omega) (by omega) (by simp; omega) ?_; intro v1 w2 hown1 hg1 _; have hB2 := below_append (hB.alloc hz (.cells #[.int .i64 xa, .int .i64 xs, .int .i64 xk, .int .i64 xt, .bool true, .int .u64 (xn : Int)] 47)) (by simp; omega) (hown.alloc _) hg1)
          go_roundw
          case rel => exact ⟨k + 1, by omega, by go_num, by rw [HS2.out, List.length_append, flat_snoc]; exact hown1, hB2⟩
          case measure => simp [intOf]; omega
      · rw [List.take_of_length_le (by omega)] at hown
        obtain ⟨A2, c2, rfl, hle, hrd2⟩ := slice_of hown
        have HRD2 := Lib.hid hrd2
        have HLE := Lib.hid hle
        clear hrd2 hown
        go_wp2_with fail
        go_ret2
        exact ⟨⟨A2, c2, by rw [HL.out, HE.out]; rfl, by rw [HL.out]; exact HRD2.out, by rw [HL.out]; exact HLE.out⟩, hB1.trans (hB.mono hz1)⟩
  · have hn1 : (r != 0) = true := by rw [bne_iff_ne]; exact hr0
    have HN := Lib.hid (HNO.out hr0)
    clear hr0 HNO
    go_enter Try.func23, Try.ntmps23
    go_wp2_with fail
    refine HC.out.mono ?_
    rintro e w1 ⟨⟨A1, c1, rfl, hrd, -⟩, hB1⟩
    clear hrd
    go_wp2_with fail
    go_ret2
    exact ⟨⟨none, 0, by rw [HL.out, HN.out, HE.out]; rfl, by rw [HL.out, HN.out]; exact Rd.nil_, by rw [HL.out, HN.out]; exact Nat.le_refl _⟩, hB1⟩
end Go.Proofs.Ytpifagclhhaniaa
