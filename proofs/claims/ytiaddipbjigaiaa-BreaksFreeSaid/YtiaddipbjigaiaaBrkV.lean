/- Comparing lists of numbers; whether a row is great; what the reference returns for places, ends and gaps. -/
import Derived.Test.YtiaddipbjigaiaaBrkT
import Derived.Test.YtiaddipbjigaiaaBrkS
import Derived.Test.YtiaddipbjigaiaaBrkG
namespace Go.Proofs.Ytiaddipbjigaiaa
open Go.RowKit

def eqPre (a b : List Int) : Nat → Bool
  | 0 => true
  | k + 1 => eqPre a b k && (a[k]?.getD 0 == b[k]?.getD 0)
def sameI (a b : List Int) : Bool := decide (a = b)
theorem eqPre_all {a b : List Int} (hl : a.length = b.length) (h : eqPre a b a.length = true) : sameI a b = true := by
  have key : ∀ n, eqPre a b n = true → ∀ k, k < n → a[k]?.getD 0 = b[k]?.getD 0 := by
    intro n
    induction n with
    | zero => intro _ k hk; omega
    | succ n ih =>
      intro h k hk
      simp only [eqPre, Bool.and_eq_true, beq_iff_eq] at h
      rcases Nat.lt_or_ge k n with h1 | h1
      · exact ih h.1 k h1
      · have : k = n := by omega
        subst this; exact h.2
  have : a = b := by
    apply List.ext_getElem hl
    intro i h1 h2
    have := key _ h i h1
    simpa [h1, h2] using this
  simp [sameI, this]
theorem sameI_ne {a b : List Int} {k : Nat} (h : a[k]?.getD 0 ≠ b[k]?.getD 0) : sameI a b = false := by
  unfold sameI
  rw [decide_eq_false_iff_not]
  intro e; subst e; exact h rfl
theorem sameI_len {a b : List Int} (h : a.length ≠ b.length) : sameI a b = false := by
  unfold sameI
  rw [decide_eq_false_iff_not]
  intro e; subst e; exact h rfl
theorem sameI_refl (a : List Int) : sameI a a = true := by simp [sameI]

set_option maxHeartbeats 400000 in
theorem sameInts_c (A B : Option Addr) (a b : List Int) (c d n m : Nat) (w : World) (hn : a.length = n) (hm : b.length = m) (hn1 : n ≤ 4294967296) (hm1 : m ≤ 4294967296) (ha : RdI w w.heap.size A a) (hb : RdI w w.heap.size B b) :
    Calls Try.prog 25 #[.slice A n c, .slice B m d] w fun e w' => e = .returned (.bool (sameI a b)) ∧ Below w.heap.size w w' := by
  subst hn hm
  have HA := Lib.hid ha
  have HB := Lib.hid hb
  clear ha hb
  by_cases hl : a.length = b.length
  · have HL := Lib.hid hl
    obtain ⟨n, hn⟩ : ∃ n, b.length = n := ⟨_, rfl⟩
    have HN := Lib.hid hn
    rw [hl, hn]
    rw [hn] at hl hm1
    have HN1 := Lib.hid hl
    clear hn hl hn1
    have hne : ((n : Int) != (n : Int)) = false := by simp
    go_enter Try.func25, Try.ntmps25
    go_wp2_with fail
    go_loopw [5] (fun i wr => ∃ k : Nat, k ≤ n ∧ i = .int .i64 k ∧ eqPre a b k = true ∧ Below w.heap.size w wr) (fun i _ => n - (intOf i).toNat)
    case atStart => exact ⟨0, Nat.zero_le _, rfl, rfl, Below.refl _ _⟩
    case round =>
      obtain ⟨k, hk, rfl, hok, hB⟩ := hrel
      have HOK := Lib.hid hok
      clear hok
      by_cases hlt : k < n
      · obtain ⟨g, off, rfl, hg, h0⟩ := HA.out.at_ (k := k) (by rw [HN1.out]; exact hlt)
        obtain ⟨g', off', rfl, hg', h0'⟩ := HB.out.at_ (k := k) (by rw [HN.out]; exact hlt)
        replace h0 := (hB.cell (p := ⟨g, off + k, none⟩) hg).trans h0
        replace h0' := (hB.cell (p := ⟨g', off' + k, none⟩) hg').trans h0'
        have e1 : a[k]?.getD 0 = a[k]'(by rw [HN1.out]; exact hlt) := by rw [List.getElem?_eq_getElem (by rw [HN1.out]; exact hlt)]; rfl
        have e2 : b[k]?.getD 0 = b[k]'(by rw [HN.out]; exact hlt) := by rw [List.getElem?_eq_getElem (by rw [HN.out]; exact hlt)]; rfl
        rw [← e1] at h0
        rw [← e2] at h0'
        clear e1 e2
        obtain ⟨x, hx⟩ : ∃ x, a[k]?.getD 0 = x := ⟨_, rfl⟩
        obtain ⟨y, hy⟩ : ∃ y, b[k]?.getD 0 = y := ⟨_, rfl⟩
        have HX := Lib.hid hx
        have HY := Lib.hid hy
        rw [hx] at h0
        rw [hy] at h0'
        clear hx hy
        have hi1 : (0 : Int) ≤ (k : Int) := by omega
        have hi2 : (k : Int) < (n : Int) := by omega
        by_cases hxy : x = y
        · have hq : (x != y) = false := by rw [bne_eq_false_iff_eq]; exact hxy
          have HS : Hid (eqPre a b (k + 1) = true) := Lib.hid (by simp only [eqPre, HOK.out, HX.out, HY.out, hxy]; simp)
          clear hxy
          go_wp2_with fail
          go_quiet (fail)
          go_wp2_with fail
          go_roundw
          case rel => exact ⟨k + 1, by omega, by go_num, HS.out, below_drewN hB _⟩
          case measure => simp [intOf]; omega
        · have hq : (x != y) = true := by rw [bne_iff_ne]; exact hxy
          have HS : Hid (sameI a b = false) := Lib.hid (sameI_ne (k := k) (by rw [HX.out, HY.out]; exact hxy))
          clear hxy
          go_wp2_with fail
          go_quiet (fail)
          go_wp2_with fail
          go_ret
          exact ⟨by rw [HS.out]; rfl, below_drewN hB _⟩
      · obtain rfl : k = n := by omega
        have HS : Hid (sameI a b = true) := Lib.hid (eqPre_all HL.out (by rw [HN1.out]; exact HOK.out))
        go_wp2_with fail
        go_ret
        exact ⟨by rw [HS.out]; rfl, hB⟩
  · have HS : Hid (sameI a b = false) := Lib.hid (sameI_len hl)
    have hq : ((a.length : Int) != (b.length : Int)) = true := by rw [bne_iff_ne]; omega
    clear hl
    go_enter Try.func25, Try.ntmps25
    go_wp2_with fail
    go_ret
    exact ⟨by rw [HS.out]; rfl, Below.refl _ _⟩

/-- Whether a row of so many blocks is great. -/
def greatB (n : Nat) : Bool := (decide (60 < n) && decide (n < 1020)) || decide (1030 < n)
theorem greatB_no {n : Nat} (h : greatB n = false) : n ≤ 60 ∨ 1020 ≤ n ∧ n ≤ 1030 := by
  simp only [greatB, Bool.or_eq_false_iff, Bool.and_eq_false_iff, decide_eq_false_iff_not] at h
  omega
theorem ret_bool {a b : Bool} (h : a = b) : Ending.returned (.bool a) = .returned (.bool b) := by rw [h]
set_option maxHeartbeats 400000 in
theorem great26_c (A : Option Addr) (n c : Nat) (w : World) (hm : n ≤ 9223372036854775807) :
    Calls Try.prog 18 #[.slice A n c] w fun e w' => e = .returned (.bool (greatB n)) ∧ w = w' := by
  rcases Nat.lt_or_ge 60 n with h1 | h1
  · rcases Nat.lt_or_ge n 1020 with h2 | h2
    · have HS : Hid (greatB n = true) := Lib.hid (by simp [greatB, h1, h2])
      go_enter Try.func18, Try.ntmps18
      go_wp2_with fail
      go_ret
      exact ⟨by rw [HS.out]; rfl, rfl⟩
    · have HS : Hid (greatB n = decide ((1030 : Int) < (n : Int))) := Lib.hid (by unfold greatB; rw [show decide (n < 1020) = false from by rw [decide_eq_false_iff_not]; omega, Bool.and_false, Bool.false_or]; exact decide_eq_decide.2 (by omega))
      go_enter Try.func18, Try.ntmps18
      go_wp2_with fail
      go_ret
      exact ⟨by rw [HS.out]; refine ret_bool (a := decide ((n : Int) < 1020) || decide ((1030 : Int) < (n : Int))) ?_; rw [show decide ((n : Int) < 1020) = false from by rw [decide_eq_false_iff_not]; omega, Bool.false_or], rfl⟩
  · have HS : Hid (greatB n = decide ((1030 : Int) < (n : Int))) := Lib.hid (by unfold greatB; rw [show decide (60 < n) = false from by rw [decide_eq_false_iff_not]; omega, Bool.false_and, Bool.false_or]; exact decide_eq_decide.2 (by omega))
    go_enter Try.func18, Try.ntmps18
    go_wp2_with fail
    go_ret
    exact ⟨by rw [HS.out]; rfl, rfl⟩

/-- What Places gives, as a list. -/
def plOut (l : List Bk) (s : Int) : List Int := if stErr l s = 0 then placesOf l s else []
/-- What Places gives: a slice that reads as that list, in memory of the call's own, and the error. -/
def PlRes (l : List Bk) (s : Int) (e : Ending) (w' : World) : Prop := ∃ A c, e = .returned (.tuple #[.slice A (plOut l s).length c, .int .i64 (stErr l s)]) ∧ RdI w' w'.heap.size A (plOut l s) ∧ (plOut l s).length ≤ c
theorem stErr_bd {l : List Bk} {s : Int} (h : stErr l s = 0) {k : Nat} (hk : k ≤ l.length) : 0 ≤ endOf (l.take k) s ∧ endOf (l.take k) s ≤ 1000000 := by
  obtain ⟨h1, h2, h3, _⟩ := stErr_zero h
  have := endOf_bd h1 hk h2 h3
  omega
theorem plRes_of_own {H n : Nat} {l : List Bk} {s : Int} {v : Value} {w' : World} (h0 : stErr l s = 0) (hn : l.length = n) (h : w'.ownsRow H 3 1 v n ((placesOf l s).flatMap intCells)) : PlRes l s (.returned (.tuple #[v, .int .i64 0])) w' := by
  subst hn
  have hl : (plOut l s).length = l.length := by simp [plOut, h0, placesOf_len]
  have hc : ∃ A c, v = .slice A l.length c ∧ l.length ≤ c := by
    rcases h.2 with ⟨rfl, hnil⟩ | ⟨g, cap, cur, rfl, _, _, hle, _⟩
    · exact ⟨none, 0, by rw [hnil], by omega⟩
    · exact ⟨_, _, rfl, hle⟩
  obtain ⟨A, c, rfl, hle⟩ := hc
  refine ⟨A, c, by rw [hl, h0], ?_, by rw [hl]; exact hle⟩
  have := Rd.of_own h
  simpa [RdI, plOut, h0] using this
theorem plRes_no {l : List Bk} {s r : Int} {w' : World} (hr : stErr l s = r) (h0 : r ≠ 0) : PlRes l s (.returned (.tuple #[.slice none 0 0, .int .i64 r])) w' := by
  subst hr
  have : plOut l s = [] := by simp [plOut, h0]
  exact ⟨none, 0, by rw [this]; rfl, by rw [this]; exact Rd.nil_, by rw [this]; simp⟩

set_option maxHeartbeats 800000 in
theorem refPlaces_c (A : Option Addr) (l : List Bk) (c n : Nat) (s : Int) (w : World) (hn : l.length = n) (hm : n ≤ 4294967296) (hr : RdB w w.heap.size A l) (hs : -9223372036854775808 ≤ s ∧ s ≤ 9223372036854775807) :
    Calls Try.prog 20 #[.slice A n c, .int .i64 s] w fun e w' => PlRes l s e w' ∧ Below w.heap.size w w' := by
  subst hn
  have HR := Lib.hid hr
  clear hr
  go_enter Try.func20, Try.ntmps20
  go_wp2_with fail
  refine (asked_c A l c l.length s _ rfl (by omega) HR.out hs).mono ?_
  rintro e w1 ⟨rfl, hB1⟩
  have hz1 := hB1.size
  by_cases h0 : stErr l s = 0
  · have H0 := Lib.hid h0
    rw [h0]
    clear h0
    go_wp2_with fail
    refine (refPut_c A l c l.length s _ rfl hm (HR.out.up hB1 hz1) (fun k hk => stErr_bd H0.out hk)).mono ?_
    rintro e w2 ⟨v, rfl, hown, hB2⟩
    have hB := hB1.trans (hB2.mono hz1)
    have HO := Lib.hid (own_mono hown hz1)
    clear hown
    go_wp2_with fail
    go_ret2
    exact ⟨plRes_of_own H0.out rfl HO.out, hB⟩
  · have hn1 : (stErr l s == 0) = false := by rw [beq_eq_false_iff_ne]; exact h0
    have hn2 : (stErr l s != 0) = true := by rw [bne_iff_ne]; exact h0
    have HX := Lib.hid h0
    clear h0
    go_wp2_with fail
    go_ret2
    exact ⟨plRes_no rfl HX.out, hB1⟩

set_option maxHeartbeats 800000 in
theorem refEnd_c (A : Option Addr) (l : List Bk) (c n : Nat) (s : Int) (w : World) (hn : l.length = n) (hm : n ≤ 4294967296) (hr : RdB w w.heap.size A l) (hs : -9223372036854775808 ≤ s ∧ s ≤ 9223372036854775807) :
    Calls Try.prog 22 #[.slice A n c, .int .i64 s] w fun e w' => e = .returned (endRes l s) ∧ Below w.heap.size w w' := by
  subst hn
  have HR := Lib.hid hr
  clear hr
  go_enter Try.func22, Try.ntmps22
  go_wp2_with fail
  refine (asked_c A l c l.length s _ rfl (by omega) HR.out hs).mono ?_
  rintro e w1 ⟨rfl, hB1⟩
  have hz1 := hB1.size
  by_cases h0 : stErr l s = 0
  · have HE := Lib.hid (endRes_ok h0)
    have H0 := Lib.hid h0
    rw [h0]
    clear h0
    go_wp2_with fail
    refine (refPut_c A l c l.length s _ rfl hm (HR.out.up hB1 hz1) (fun k hk => stErr_bd H0.out hk)).mono ?_
    rintro e w2 ⟨v, rfl, hown, hB2⟩
    have hB := hB1.trans (hB2.mono hz1)
    clear hown
    go_wp2_with fail
    go_ret2
    exact ⟨by rw [HE.out]; rfl, hB⟩
  · have hn1 : (stErr l s == 0) = false := by rw [beq_eq_false_iff_ne]; exact h0
    have hn2 : (stErr l s != 0) = true := by rw [bne_iff_ne]; exact h0
    have HE := Lib.hid (endRes_no h0)
    clear h0
    go_wp2_with fail
    go_ret2
    exact ⟨by rw [HE.out]; rfl, hB1⟩

set_option maxRecDepth 100000 in
set_option maxHeartbeats 800000 in
theorem refGaps_c (A : Option Addr) (l : List Bk) (c n : Nat) (w : World) (hn : l.length = n) (hm : n ≤ 4294967296) (hr : RdB w w.heap.size A l) :
    Calls Try.prog 24 #[.slice A n c] w fun e w' => e = .returned (gapRes l) ∧ Below w.heap.size w w' := by
  subst hn
  have HR := Lib.hid hr
  clear hr
  go_enter Try.func24, Try.ntmps24
  go_wp2_with fail
  refine (refCheck_c A l c l.length _ rfl (by omega) HR.out).mono ?_
  rintro e w1 ⟨rfl, hB1⟩
  have hz1 := hB1.size
  by_cases h0 : rowErr l = 0
  · have HRE := Lib.hid h0
    have HE := Lib.hid (gapRes_ok h0)
    have hlen := (rowErr_zero h0).1
    rw [h0]
    clear h0
    go_wp2_with fail
    go_loopw [5, 6] (fun g i wr => ∃ k : Nat, k ≤ l.length ∧ i = .int .i64 k ∧ g = .int .i64 (gapsOf (l.take k)) ∧ Below w.heap.size w wr) (fun _ i _ => l.length - (intOf i).toNat)
    case atStart => exact ⟨0, Nat.zero_le _, rfl, rfl, hB1⟩
    case round =>
      obtain ⟨k, hk, rfl, rfl, hB⟩ := hrel
      have hz := hB.size
      obtain ⟨sb1, sb2⟩ := gapsOf_bd HRE.out hk
      by_cases hlt : k < l.length
      · obtain ⟨b, off, rfl, hb, h0, h1, h2, h3, h4, h5⟩ := HR.out.at_ hlt
        have G1 := Lib.hid h1
        replace h0 := (hB.cell (p := ⟨b, off + k * 6, none⟩) hb).trans h0
        replace h1 := (hB.cell (p := ⟨b, off + k * 6 + 1, none⟩) hb).trans h1
        replace h2 := (hB.cell (p := ⟨b, off + k * 6 + 2, none⟩) hb).trans h2
        replace h3 := (hB.cell (p := ⟨b, off + k * 6 + 3, none⟩) hb).trans h3
        replace h4 := (hB.cell (p := ⟨b, off + k * 6 + 4, none⟩) hb).trans h4
        replace h5 := (hB.cell (p := ⟨b, off + k * 6 + 5, none⟩) hb).trans h5
        have hxb := size_bd HRE.out ⟨k, hlt⟩
        dsimp only at hxb
        rw [gk_get l k hlt] at hxb
        obtain ⟨x, hx⟩ : ∃ x, l[k] = x := ⟨_, rfl⟩
        obtain ⟨u, hu⟩ : ∃ u, gapsOf (l.take k) = u := ⟨_, rfl⟩
        rw [hx] at h0 h1 h2 h3 h4 h5 G1 hxb
        rw [hu] at sb1 sb2 ⊢
        have HE1 : Hid (liveB x = true → gapsOf (l.take (k + 1)) = u) := gapsOf_take1 hlt hx hu
        have HE0 : Hid (liveB x = false → gapsOf (l.take (k + 1)) = u + x.size) := gapsOf_take0 hlt hx hu
        clear hx hu
        have hlv := live_c x wr
        unfold Bk.val at hlv
        have HL := Lib.hid hlv
        clear hlv
        obtain ⟨xa, xs, xk, xt, xm, xn⟩ := x
        dsimp only at h0 h1 h2 h3 h4 h5 HL HE0 G1 hxb
        obtain ⟨x1, x2⟩ := hxb
        go_wp2_with fail
        refine HL.out.mono ?_
        rintro e w2 ⟨rfl, hB2⟩
        have hBw := hB.trans (hB2.mono hz)
        have hbw : b < wr.heap.size := by omega
        replace h1 := (hB2.cell (p := ⟨b, off + k * 6 + 1, none⟩) hbw).trans h1
        clear h0 h2 h3 h4 h5
        cases hlb : liveB ⟨xa, xs, xk, xt, xm, xn⟩
        · have HEX := Lib.hid (HE0.out hlb)
          clear hlb
          go_wp2_with fail
          go_roundw
          case rel => exact ⟨k + 1, hlt, by go_num, by rw [HEX.out], hBw⟩
          case measure => simp [intOf]; omega
        · have HEX := Lib.hid (HE1.out hlb)
          clear hlb
          go_wp2_with fail
          go_roundw
          case rel => exact ⟨k + 1, hlt, by go_num, by rw [HEX.out], hBw⟩
          case measure => simp [intOf]; omega
      · have : k = l.length := by omega
        subst this
        rw [List.take_length]
        go_wp2_with fail
        go_ret2
        exact ⟨by rw [HE.out]; rfl, hB⟩
  · have hn1 : (rowErr l == 0) = false := by rw [beq_eq_false_iff_ne]; exact h0
    have hn2 : (rowErr l != 0) = true := by rw [bne_iff_ne]; exact h0
    have HE := Lib.hid (gapRes_no h0)
    clear h0
    go_wp2_with fail
    go_ret2
    exact ⟨by rw [HE.out]; rfl, hB1⟩
end Go.Proofs.Ytiaddipbjigaiaa
