/- Right images: small functions of the reference. -/
import Derived.Test.YtoaepffpjoibaaaGreatLyP
namespace Go.Proofs.YtoaepffpjoibaaaGreat
open Go.RowKit

set_option maxRecDepth 100000 in
set_option maxHeartbeats 1000000 in
theorem r19Float_c (v : Nat) (w : World) : Calls Tryz.prog 90 #[.int .u64 (v : Int)] w fun e w' => e = .returned (.bool (flOk v)) ∧ w = w' := by
  have h0 : (0 : Int) ≤ (v : Int) := by omega
  by_cases h : v = 9221120237041090561
  · subst h
    go_enter Tryz.func90, Tryz.ntmps90
    go_wp2_with fail
    go_ret
    exact ⟨rfl, rfl⟩
  · have HV := Lib.hid (flOk_no h)
    have e1 : ((v : Int) == 9221120237041090561) = false := by rw [beq_eq_false_iff_ne]; omega
    have e2 : decide ((v : Int) % 9223372036854775808 ≤ 9218868437227405312) = decide (v % 9223372036854775808 ≤ 9218868437227405312) := by rw [decide_eq_decide]; omega
    obtain ⟨q, hq⟩ : ∃ q, decide (v % 9223372036854775808 ≤ 9218868437227405312) = q := ⟨_, rfl⟩
    rw [hq] at HV e2
    clear h hq
    go_enter Tryz.func90, Tryz.ntmps90
    go_wp2_with fail
    go_ret
    exact ⟨by rw [HV.out]; rfl, rfl⟩
set_option maxRecDepth 100000 in
set_option maxHeartbeats 1000000 in
theorem r13Words_c (n : Nat) (w : World) (hn : n ≤ 1000000) : Calls Tryz.prog 89 #[.int .i64 (n : Int)] w fun e w' => e = .returned (.int .i64 ((objSz n : Nat) : Int)) ∧ w = w' := by
  by_cases h : n % 2 = 1
  · have e1 : ((n : Int) % 2 == 1) = true := by rw [beq_iff_eq]; omega
    have HV := Lib.hid (show ((objSz n : Nat) : Int) = (n : Int) + 1 + 2 by unfold objSz; omega)
    have w1 : IntKind.i64.wrap ((n : Int) + 1) = (n : Int) + 1 := IntWalk.i64_in _ (by omega)
    have w2 : IntKind.i64.wrap ((n : Int) + 1 + 2) = (n : Int) + 1 + 2 := IntWalk.i64_in _ (by omega)
    clear h
    go_enter Tryz.func89, Tryz.ntmps89
    go_wp2_with fail
    go_ret
    exact ⟨by rw [HV.out]; go_num, rfl⟩
  · have e1 : ((n : Int) % 2 == 1) = false := by rw [beq_eq_false_iff_ne]; omega
    have HV := Lib.hid (show ((objSz n : Nat) : Int) = (n : Int) + 2 by unfold objSz; omega)
    have w2 : IntKind.i64.wrap ((n : Int) + 2) = (n : Int) + 2 := IntWalk.i64_in _ (by omega)
    clear h
    go_enter Tryz.func89, Tryz.ntmps89
    go_wp2_with fail
    go_ret
    exact ⟨by rw [HV.out]; go_num, rfl⟩
set_option maxRecDepth 100000 in
set_option maxHeartbeats 2000000 in
theorem r19Empty_c (A : Option Addr) (ws : List Nat) (c n a : Nat) (w : World) (hn : ws.length = n) (ha : a + 8 ≤ n) (hm : n ≤ 2048) (hr : RdW w w.heap.size A ws) :
    Calls Tryz.prog 63 #[.slice A n c, .int .i64 (a : Int)] w fun e w' => e = .returned (.bool (zeroL ws a)) ∧ w = w' := by
  subst hn
  have HR := Lib.hid hr
  have HT := Lib.hid (zeroL_iff ws a)
  go_enter Tryz.func63, Tryz.ntmps63
  go_wp2_with fail
  go_loop [5] (fun i => ∃ k : Nat, k ≤ 8 ∧ i = .int .i64 k ∧ Hid (zeroTo ws a k)) (fun i => 8 - (intOf i).toNat)
  case atStart => exact ⟨0, Nat.zero_le _, rfl, Lib.hid fun i h => absurd h (by omega)⟩
  case round =>
    obtain ⟨k, hk, rfl, HZ⟩ := hrel
    by_cases hlt : k < 8
    · obtain ⟨b, off, rfl, hb, h0⟩ := RdW.at_ HR.out (show a + k < ws.length by omega)
      rw [← wd_get] at h0
      have HN : Hid (wd ws (a + k) = 0 → zeroTo ws a (k + 1)) := Lib.hid fun h i hi => by
        rcases Nat.lt_or_ge i k with h2 | h2
        · exact HZ.out i h2
        · have : i = k := by omega
          subst this; exact h
      have HB : Hid (wd ws (a + k) ≠ 0 → zeroL ws a = false) := Lib.hid fun h => by
        cases hq : zeroL ws a with
        | false => rfl
        | true => exact absurd (HT.out.1 hq k hlt) h
      have i1 : IntKind.i64.wrap ((a : Int) + (k : Int)) = ((a + k : Nat) : Int) := by rw [IntWalk.i64_in _ (by omega)]; omega
      have j1 : ((a + k : Nat) : Int) < (ws.length : Int) := by omega
      have j2 : (0 : Int) ≤ ((a + k : Nat) : Int) := by omega
      obtain ⟨p, hp⟩ : ∃ p, a + k = p := ⟨_, rfl⟩
      rw [hp] at h0 HN HB i1 j1 j2
      obtain ⟨x, hx⟩ : ∃ x, wd ws p = x := ⟨_, rfl⟩
      rw [hx] at h0 HN HB
      clear hp hx
      by_cases hx0 : x = 0
      · have HN2 := Lib.hid (HN.out hx0)
        subst hx0
        go_wp2_with fail
        go_round
        case rel => exact ⟨k + 1, by omega, by go_num, HN2⟩
        case measure => simp [intOf]; omega
      · have HV := Lib.hid (HB.out hx0)
        have e1 : ((x : Int) != 0) = true := by rw [bne_iff_ne]; omega
        have e1n : (x != 0) = true := by rw [bne_iff_ne]; exact hx0
        clear hx0
        go_wp2_with fail
        go_ret
        exact ⟨by rw [HV.out]; rfl, rfl⟩
    · have HV : Hid (zeroL ws a = true) := Lib.hid (HT.out.2 fun i hi => HZ.out i (by omega))
      obtain rfl : k = 8 := by omega
      go_wp2_with fail
      go_ret
      exact ⟨by rw [HV.out]; rfl, rfl⟩
set_option maxRecDepth 100000 in
set_option maxHeartbeats 2000000 in
theorem r19Index_c (A : Option Addr) (O : List Bk) (c n v : Nat) (w : World) (hn : O.length = n) (hm : n ≤ 1000000) (hr : RdB w w.heap.size A O) (ho : ∀ b ∈ O, 0 ≤ b.at_ ∧ b.at_ ≤ 1000000) :
    Calls Tryz.prog 69 #[.slice A n c, .int .u64 (v : Int)] w fun e w' => (∃ r : Int, e = .returned (.int .i64 r) ∧ decide (r < 0) = !hasO O v) ∧ w = w' := by
  subst hn
  have HR := Lib.hid hr
  have HO := Lib.hid ho
  clear hr ho
  go_enter Tryz.func69, Tryz.ntmps69
  go_wp2_with fail
  go_loop [5] (fun i => ∃ k : Nat, k ≤ O.length ∧ i = .int .i64 k ∧ Hid (∀ j (hj : j < O.length), j < k → O[j].at_ ≠ (v : Int))) (fun i => O.length - (intOf i).toNat)
  case atStart => exact ⟨0, Nat.zero_le _, rfl, Lib.hid fun j hj h => absurd h (by omega)⟩
  case round =>
    obtain ⟨k, hk, rfl, HZ⟩ := hrel
    by_cases hlt : k < O.length
    · obtain ⟨b, off, rfl, hb, h0, -⟩ := RdB.at_ HR.out hlt
      obtain ⟨o1, o2⟩ := HO.out _ (List.getElem_mem hlt)
      have HN : Hid (O[k].at_ ≠ (v : Int) → ∀ j (hj : j < O.length), j < k + 1 → O[j].at_ ≠ (v : Int)) := Lib.hid fun h j hj h2 => by
        rcases Nat.lt_or_ge j k with h3 | h3
        · exact HZ.out j hj h3
        · have : j = k := by omega
          subst this; exact h
      have HY := Lib.hid (fun h => hasO_at (v := v) hlt h)
      obtain ⟨x, hx⟩ : ∃ x, O[k].at_ = x := ⟨_, rfl⟩
      rw [hx] at h0 HN HY o1 o2
      have i1 : IntKind.u64.wrap x = x := IntWalk.u64_in _ (by omega)
      have hki : (k : Int) < (O.length : Int) := by omega
      have hk0 : (0 : Int) ≤ (k : Int) := by omega
      clear hx
      by_cases hxv : x = (v : Int)
      · have HV := Lib.hid (HY.out hxv)
        have e1 : (x == (v : Int)) = true := by rw [beq_iff_eq]; exact hxv
        clear hxv HN
        go_wp2_with fail
        go_ret
        exact ⟨⟨k, rfl, by rw [HV.out]; rw [decide_eq_false]; rfl; omega⟩, rfl⟩
      · have HN2 := Lib.hid (HN.out hxv)
        have e1 : (x == (v : Int)) = false := by rw [beq_eq_false_iff_ne]; exact hxv
        clear hxv HN
        go_wp2_with fail
        go_round
        case rel => exact ⟨k + 1, by omega, by go_num, HN2⟩
        case measure => simp [intOf]; omega
    · have HV : Hid (hasO O v = false) := Lib.hid (hasO_no fun j hj => HZ.out j hj (by omega))
      obtain rfl : k = O.length := by omega
      go_wp2_with fail
      go_ret
      exact ⟨⟨-1, rfl, by rw [HV.out]; rfl⟩, rfl⟩
set_option maxRecDepth 100000 in
set_option maxHeartbeats 4000000 in
theorem r19Objects_c (A : Option Addr) (l : List Bk) (c n : Nat) (w : World) (hn : l.length = n) (hm : n ≤ 1000000) (hr : RdB w w.heap.size A l) :
    Calls Tryz.prog 67 #[.slice A n c] w fun e w' => (∃ A k c, e = .returned (.slice A k c) ∧ k = (objs l).length ∧ k ≤ c ∧ RdB w' w'.heap.size A (objs l)) ∧ Below w.heap.size w w' := by
  subst hn
  have HR := Lib.hid hr
  clear hr
  obtain ⟨i2, hi, hz0, hz1, hz2⟩ := info_parts infoBlkW
  have HJ := Lib.hid hi
  have HJ0 := Lib.hid hz0
  have HJ1 := Lib.hid hz1
  have HJ2 := Lib.hid hz2
  clear hi hz0 hz1 hz2
  go_enter Tryz.func67, Tryz.ntmps67
  go_wp2_with fail
  go_loopw [3, 4] (fun v i wr => ∃ k : Nat, k ≤ l.length ∧ i = .int .i64 k ∧ wr.ownsRow w.heap.size 48 6 v (objs (l.take k)).length ((objs (l.take k)).flatMap Bk.cells) ∧ Below w.heap.size w wr) (fun _ i _ => l.length - (intOf i).toNat)
  case atStart => exact ⟨0, Nat.zero_le _, rfl, World.ownsRow_nil _ _ _ _, Below.refl _ _⟩
  case round =>
    obtain ⟨k, hk, rfl, hown, hB⟩ := hrel
    have hz := hB.size
    by_cases hlt : k < l.length
    · obtain ⟨b, off, rfl, hb, p0, p1, p2, p3, p4, p5⟩ := RdB.at_ (Rd.below HR.out hB) hlt
      have HTK := Lib.hid (objs_take hlt)
      have hlen : (objs (l.take k)).length ≤ k := by
        unfold objs
        have := List.length_filter_le (fun b : Bk => b.kind == 1) (l.take k)
        rw [List.length_take] at this
        omega
      obtain ⟨x, hx⟩ : ∃ x, l[k] = x := ⟨_, rfl⟩
      rw [hx] at p0 p1 p2 p3 p4 p5 HTK
      obtain ⟨xa, xs, xk, xt, xm, xn⟩ := x
      dsimp only at p0 p1 p2 p3 p4 p5 HTK
      obtain ⟨L, hL⟩ : ∃ L, objs (l.take k) = L := ⟨_, rfl⟩
      rw [hL] at hown HTK hlen
      have hki : (k : Int) < (l.length : Int) := by omega
      have hk0 : (0 : Int) ≤ (k : Int) := by omega
      clear hx hL
      by_cases hk1 : xk = 1
      · have HTN : Hid (objs (l.take (k + 1)) = L ++ [⟨xa, xs, xk, xt, xm, xn⟩]) := Lib.hid (by rw [HTK.out, if_pos hk1])
        subst hk1
        clear HTK
        go_wp2_with (at_builtin; refine wpList_append_own _ rfl _ _ 37 rfl w.heap.size 48 i2 _ 6 48 Tryz.underlying37 HJ.out HJ0.out HJ1.out HJ2.out rfl (by decide) _ _ _ rfl (hown.alloc _) ⟨_, 0, none⟩ 1 1 [.int .i64 xa, .int .i64 xs, .int .i64 1, .int .i64 xt, .bool xm, .int .u64 (xn : Int)] rfl rfl (news_new _ _ _) (by simp [Value.oneCell']) (by unfold maxLen; omega) (by omega) (le_alloc_ hz) ?_; intro v1 w6 hown1 hg1 _; have HB6 := Lib.hid (below_append hB hz hown hg1); have HN6 := Lib.hid hown1; clear hown1 hg1)
        go_roundw
        case rel => exact ⟨k + 1, by omega, by go_num, by rw [HTN.out, flat_snoc, List.length_append]; exact HN6.out, HB6.out⟩
        case measure => simp [intOf]; omega
      · have HTN : Hid (objs (l.take (k + 1)) = L) := Lib.hid (by rw [HTK.out, if_neg hk1, List.append_nil])
        have e1 : (xk == 1) = false := by rw [beq_eq_false_iff_ne]; exact hk1
        clear HTK hk1
        go_wp2_with fail
        go_roundw
        case rel => exact ⟨k + 1, by omega, by go_num, by rw [HTN.out]; exact hown, hB⟩
        case measure => simp [intOf]; omega
    · obtain rfl : k = l.length := by omega
      rw [List.take_length] at hown
      obtain ⟨A1, c1, rfl⟩ := own_slice hown
      have HC1 := Lib.hid (show (objs l).length ≤ c1 by
        rcases hown.2 with ⟨h1, h2⟩ | ⟨g, cap, cur, h1, -, -, h2, -⟩
        · simp only [Value.slice.injEq] at h1; omega
        · simp only [Value.slice.injEq] at h1; omega)
      have HRD := Lib.hid (Rd.of_own hown)
      clear hown
      go_wp2_with fail
      go_ret
      exact ⟨⟨A1, _, c1, rfl, rfl, HC1.out, HRD.out⟩, hB⟩
end Go.Proofs.YtoaepffpjoibaaaGreat
