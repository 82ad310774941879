/- The reference's Live and Put. -/
import Derived.Test.YtiaddipbjigaiaaBrkQ
namespace Go.Proofs.Ytiaddipbjigaiaa
open Go.RowKit

set_option maxHeartbeats 400000 in
theorem live_c (b : Bk) (w : World) : Calls Try.prog 32 #[b.val] w fun e w' => e = .returned (.bool (liveB b)) ∧ Below w.heap.size w w' := by
  obtain ⟨xa, xs, xk, xt, xm, xn⟩ := b
  have h1 : Hid (xk = 1 → liveB ⟨xa, xs, xk, xt, xm, xn⟩ = xm) := fun h => by simp [liveB, h]
  have h2 : Hid (xk ≠ 1 → liveB ⟨xa, xs, xk, xt, xm, xn⟩ = false) := fun h => by simp [liveB, h]
  unfold Bk.val
  by_cases hk : xk = 1
  · have HK := Lib.hid (h1.out hk)
    subst hk
    go_enter Try.func32, Try.ntmps32
    go_wp2_with fail
    go_ret
    exact ⟨by rw [HK.out]; rfl, (Below.refl _ _).alloc (Nat.le_refl _) _⟩
  · have HK := Lib.hid (h2.out hk)
    have hb : (xk == 1) = false := by rw [beq_eq_false_iff_ne]; exact hk
    clear hk
    go_enter Try.func32, Try.ntmps32
    go_wp2_with fail
    go_ret
    exact ⟨by rw [HK.out]; rfl, (Below.refl _ _).alloc (Nat.le_refl _) _⟩

theorem infoInt : (Try.prog.info? 3).map (fun i => (i.zero, i.size, i.bytes)) = some (some (.int .i64 0), 1, 8) := by kernel_rfl
theorem placesOf_take1 {l : List Bk} {k : Nat} (h : k < l.length) {s u : Int} {x : Bk} (hx : l[k] = x) (hu : endOf (l.take k) s = u) (hl : liveB x = true) : (placesOf (l.take (k + 1)) s).flatMap intCells = (placesOf (l.take k) s).flatMap intCells ++ [.int .i64 u] := by
  rw [placesOf_take h, flat_snoc, hx, hl, hu]; rfl
theorem placesOf_take0 {l : List Bk} {k : Nat} (h : k < l.length) {s : Int} {x : Bk} (hx : l[k] = x) (hl : liveB x = false) : (placesOf (l.take (k + 1)) s).flatMap intCells = (placesOf (l.take k) s).flatMap intCells ++ [.int .i64 0] := by
  rw [placesOf_take h, flat_snoc, hx, hl]; rfl
theorem endOf_take1 {l : List Bk} {k : Nat} (h : k < l.length) {s u : Int} {x : Bk} (hx : l[k] = x) (hu : endOf (l.take k) s = u) (hl : liveB x = true) : endOf (l.take (k + 1)) s = u + x.size := by
  rw [endOf_take h, hx, if_pos hl, hu]
theorem endOf_take0 {l : List Bk} {k : Nat} (h : k < l.length) {s u : Int} {x : Bk} (hx : l[k] = x) (hu : endOf (l.take k) s = u) (hl : liveB x = false) : endOf (l.take (k + 1)) s = u := by
  rw [endOf_take h, hx, if_neg (by rw [hl]; exact Bool.false_ne_true), hu]
theorem gapsOf_take1 {l : List Bk} {k : Nat} (h : k < l.length) {u : Int} {x : Bk} (hx : l[k] = x) (hu : gapsOf (l.take k) = u) (hl : liveB x = true) : gapsOf (l.take (k + 1)) = u := by
  rw [gapsOf_take h, hx, if_pos hl, hu]
theorem gapsOf_take0 {l : List Bk} {k : Nat} (h : k < l.length) {u : Int} {x : Bk} (hx : l[k] = x) (hu : gapsOf (l.take k) = u) (hl : liveB x = false) : gapsOf (l.take (k + 1)) = u + x.size := by
  rw [gapsOf_take h, hx, if_neg (by rw [hl]; exact Bool.false_ne_true), hu]

set_option maxRecDepth 100000 in
set_option maxHeartbeats 800000 in
theorem refPut_c (A : Option Addr) (l : List Bk) (c n : Nat) (s : Int) (w : World) (hn : l.length = n) (hm : n ≤ 4294967296) (hr : RdB w w.heap.size A l) (hb : ∀ k, k ≤ l.length → 0 ≤ endOf (l.take k) s ∧ endOf (l.take k) s ≤ 1000000) :
    Calls Try.prog 43 #[.slice A n c, .int .i64 s] w fun e w' => ∃ v, e = .returned (.tuple #[v, .int .i64 (endOf l s)]) ∧ w'.ownsRow w.heap.size 3 1 v n ((placesOf l s).flatMap intCells) ∧ Below w.heap.size w w' := by
  subst hn
  have HR := Lib.hid hr
  have HB := Lib.hid hb
  clear hr hb
  obtain ⟨i0, hi, hz0, hz1, hz2⟩ := info_parts infoInt
  have HI := Lib.hid hi
  have HZ0 := Lib.hid hz0
  have HZ1 := Lib.hid hz1
  have HZ2 := Lib.hid hz2
  clear hi hz0 hz1 hz2
  go_enter Try.func43, Try.ntmps43
  go_wp2_with fail
  go_loopw [1, 6, 7] (fun s' v i wr => ∃ k : Nat, k ≤ l.length ∧ i = .int .i64 k ∧ s' = .int .i64 (endOf (l.take k) s) ∧ wr.ownsRow w.heap.size 3 1 v k ((placesOf (l.take k) s).flatMap intCells) ∧ Below w.heap.size w wr) (fun _ _ i _ => l.length - (intOf i).toNat)
  case atStart => exact ⟨0, Nat.zero_le _, rfl, rfl, World.ownsRow_nil _ _ _ _, Below.refl _ _⟩
  case round =>
    obtain ⟨k, hk, rfl, rfl, hown, hB⟩ := hrel
    have hz := hB.size
    obtain ⟨sb1, sb2⟩ := HB.out k hk
    by_cases hlt : k < l.length
    · obtain ⟨b, off, rfl, hb, h0, h1, h2, h3, h4, h5⟩ := HR.out.at_ hlt
      have G1 := Lib.hid h1
      replace h0 := (hB.cell (p := ⟨b, off + k * 6, none⟩) hb).trans h0
      replace h1 := (hB.cell (p := ⟨b, off + k * 6 + 1, none⟩) hb).trans h1
      replace h2 := (hB.cell (p := ⟨b, off + k * 6 + 2, none⟩) hb).trans h2
      replace h3 := (hB.cell (p := ⟨b, off + k * 6 + 3, none⟩) hb).trans h3
      replace h4 := (hB.cell (p := ⟨b, off + k * 6 + 4, none⟩) hb).trans h4
      replace h5 := (hB.cell (p := ⟨b, off + k * 6 + 5, none⟩) hb).trans h5
      obtain ⟨x, hx⟩ : ∃ x, l[k] = x := ⟨_, rfl⟩
      obtain ⟨u, hu⟩ : ∃ u, endOf (l.take k) s = u := ⟨_, rfl⟩
      rw [hx] at h0 h1 h2 h3 h4 h5 G1
      rw [hu] at sb1 sb2 ⊢
      have hnx := HB.out (k + 1) hlt
      have HP1 : Hid (liveB x = true → (placesOf (l.take (k + 1)) s).flatMap intCells = (placesOf (l.take k) s).flatMap intCells ++ [.int .i64 u]) := placesOf_take1 hlt hx hu
      have HP0 : Hid (liveB x = false → (placesOf (l.take (k + 1)) s).flatMap intCells = (placesOf (l.take k) s).flatMap intCells ++ [.int .i64 0]) := placesOf_take0 hlt hx
      have HE1 : Hid (liveB x = true → endOf (l.take (k + 1)) s = u + x.size) := endOf_take1 hlt hx hu
      have HE0 : Hid (liveB x = false → endOf (l.take (k + 1)) s = u) := endOf_take0 hlt hx hu
      clear hx hu
      have hlv := live_c x wr
      unfold Bk.val at hlv
      have HL := Lib.hid hlv
      clear hlv
      obtain ⟨xa, xs, xk, xt, xm, xn⟩ := x
      dsimp only at h0 h1 h2 h3 h4 h5 HL HE1 G1
      go_wp2_with fail
      refine HL.out.mono ?_
      rintro e w1 ⟨rfl, hB1⟩
      have hz1 := hB1.size
      have hBw := hB.trans (hB1.mono hz)
      have hownw := own_below hown hB1 (Nat.le_refl _)
      have hbw : b < wr.heap.size := by omega
      replace h1 := (hB1.cell (p := ⟨b, off + k * 6 + 1, none⟩) hbw).trans h1
      clear h0 h2 h3 h4 h5
      cases hlb : liveB ⟨xa, xs, xk, xt, xm, xn⟩
      · have HPX := Lib.hid (HP0.out hlb)
        have HEX := Lib.hid (HE0.out hlb)
        clear hlb hnx
        go_wp2_with (at_builtin; refine wpList_append_own _ rfl _ _ 43 rfl w.heap.size 3 i0 _ 1 8 Try.underlying43 HI.out HZ0.out HZ1.out HZ2.out rfl (by decide) _ _ _ rfl (hownw.alloc _) ⟨_, 0, none⟩ 1 1 [.int .i64 0] rfl rfl (news_new _ _ _) (by simp [Value.oneCell']) (by unfold maxLen; omega) (by omega) (le_alloc_ hBw.size) ?_; intro v1 w2 hown1 hg1 _; have hB2 := below_append hBw hBw.size hownw hg1)
        go_roundw
        case rel => exact ⟨k + 1, hlt, by go_num, by rw [HEX.out], by rw [HPX.out]; exact hown1, hB2⟩
        case measure => simp [intOf]; omega
      · have HPX := Lib.hid (HP1.out hlb)
        have HEX := Lib.hid (HE1.out hlb)
        rw [HEX.out] at hnx
        obtain ⟨nx1, nx2⟩ := hnx
        clear hlb
        go_wp2_with ((at_builtin; refine wpList_append_own _ rfl _ _ 43 rfl w.heap.size 3 i0 _ 1 8 Try.underlying43 HI.out HZ0.out HZ1.out HZ2.out rfl (by decide) _ _ _ rfl (hownw.alloc _) ⟨_, 0, none⟩ 1 1 [.int .i64 u] rfl rfl (news_new _ _ _) (by simp [Value.oneCell']) (by unfold maxLen; omega) (by omega) (le_alloc_ hBw.size) ?_; intro v1 w2 hown1 hg1 _; have hB2 := below_append hBw hBw.size hownw hg1); have h1' := (hB2.cell (p := ⟨b, off + k * 6 + 1, none⟩) hb).trans G1.out)
        go_roundw
        case rel => exact ⟨k + 1, hlt, by go_num, by rw [HEX.out], by rw [HPX.out]; exact hown1, hB2⟩
        case measure => simp [intOf]; omega
    · have : k = l.length := by omega
      subst this
      rw [List.take_length] at hown ⊢
      go_wp2_with fail
      go_ret2
      exact ⟨_, rfl, hown, hB⟩
end Go.Proofs.Ytiaddipbjigaiaa
