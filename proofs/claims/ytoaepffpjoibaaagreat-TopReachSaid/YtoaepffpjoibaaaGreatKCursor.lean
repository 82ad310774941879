/- Texts laid together: PhP Ph Cur1 Mvd Ck Left. -/
import Derived.Test.YtoaepffpjoibaaaGreatKHead
import Derived.Test.YtoaepffpjoibaaaGreatKPlain
import Derived.Test.YtoaepffpjoibaaaGreatKHeap
import Derived.Deep.RegionHeld3
import Derived.Deep.DrawnRows
import Derived.Laws.BitsLemmas
import Derived.Test.YtoaepffpjoibaaaGreatKMove
namespace Go.Proofs.YtoaepffpjoibaaaGreat

def inHp (n : Nat) : Bool := decide (128 ≤ n) && (decide (n ≤ 2048) && n % 2 == 0)
theorem inHp_iff (n : Nat) : inHp n = true ↔ 128 ≤ n ∧ n ≤ 2048 ∧ n % 2 = 0 := by simp [inHp]
/-- Whether three numbers are a phase. -/
def phOk (p f t : Nat) : Bool := if p = 4 then inHp f && (inHp t && decide (t ≤ f)) else if t ≠ 0 then false else if p = 3 then f == 0 || inHp f else decide (p < 3) && f == 0
theorem phOk_iff (p f t : Nat) : phOk p f t = true ↔ p = 4 ∧ inHp f = true ∧ inHp t = true ∧ t ≤ f ∨ p = 3 ∧ t = 0 ∧ (f = 0 ∨ inHp f = true) ∨ p < 3 ∧ t = 0 ∧ f = 0 := by
  unfold phOk
  split
  · rename_i h
    subst h
    simp
  · rename_i h4
    split
    · rename_i h
      simp [h4, h]
    · rename_i h
      have h0 : t = 0 := by omega
      subst h0
      split
      · rename_i h3
        subst h3
        simp
      · rename_i h3
        simp [h4, h3]
/-- The words of a phase line: those that may be numbers, and those that may not. -/
def lineW (ws : List Nat) : Bool := (decide (wd ws 16 ≤ ws.length) && (decide (wd ws 17 ≤ ws.length) && decide (wd ws 18 ≤ ws.length))) && (wd ws 19 == 0 && (wd ws 20 == 0 && (wd ws 21 == 0 && (wd ws 22 == 0 && wd ws 23 == 0))))
def prErr (ws : List Nat) : Int := if sizeOk (ws.length : Int) = true then (if (lineW ws && phOk (wd ws 16) (wd ws 17) (wd ws 18)) = true then 0 else 50) else 8
def phV (p f t : Nat) : Value := .agg #[.int .i64 (p : Int), .int .i64 (f : Int), .int .i64 (t : Int)]
def prV (ws : List Nat) : Value := if prErr ws = 0 then phV (wd ws 16) (wd ws 17) (wd ws 18) else phV 0 0 0
theorem prErr_img {ws : List Nat} (h : sizeOk (ws.length : Int) = false) : prErr ws = 8 ∧ prV ws = phV 0 0 0 := by simp [prV, prErr, h]
theorem prErr_bad {ws : List Nat} (h : sizeOk (ws.length : Int) = true) (h2 : (lineW ws && phOk (wd ws 16) (wd ws 17) (wd ws 18)) = false) : prErr ws = 50 ∧ prV ws = phV 0 0 0 := by simp [prV, prErr, h, h2]
theorem prErr_ok {ws : List Nat} (h : sizeOk (ws.length : Int) = true) (h2 : (lineW ws && phOk (wd ws 16) (wd ws 17) (wd ws 18)) = true) : prErr ws = 0 ∧ prV ws = phV (wd ws 16) (wd ws 17) (wd ws 18) := by simp [prV, prErr, h, h2]
theorem prErr_zero {ws : List Nat} (h : prErr ws = 0) : sizeOk (ws.length : Int) = true ∧ lineW ws = true ∧ phOk (wd ws 16) (wd ws 17) (wd ws 18) = true := by
  unfold prErr at h
  split at h
  · split at h
    · rename_i h1 h2
      simp only [Bool.and_eq_true] at h2
      exact ⟨h1, h2⟩
    · simp at h
  · simp at h
theorem prErr_val (ws : List Nat) : prErr ws = 0 ∨ prErr ws = 8 ∨ prErr ws = 50 := by
  unfold prErr
  split
  · split <;> simp
  · simp
theorem lineW_iff (ws : List Nat) : lineW ws = true ↔ (wd ws 16 ≤ ws.length ∧ wd ws 17 ≤ ws.length ∧ wd ws 18 ≤ ws.length) ∧ wd ws 19 = 0 ∧ wd ws 20 = 0 ∧ wd ws 21 = 0 ∧ wd ws 22 = 0 ∧ wd ws 23 = 0 := by simp [lineW]
theorem line_bad {ws : List Nat} {i : Nat} (hi : i < 8) (h : i < 3 ∧ ws.length < wd ws (16 + i) ∨ 3 ≤ i ∧ wd ws (16 + i) ≠ 0) : lineW ws = false := by
  cases hq : lineW ws with
  | false => rfl
  | true =>
    obtain ⟨⟨a0, a1, a2⟩, a3, a4, a5, a6, a7⟩ := (lineW_iff ws).1 hq
    exfalso
    match i, hi with
    | 0, _ => simp only [Nat.add_zero] at h; omega
    | 1, _ => simp only [Nat.reduceAdd] at h; omega
    | 2, _ => simp only [Nat.reduceAdd] at h; omega
    | 3, _ => simp only [Nat.reduceAdd] at h; omega
    | 4, _ => simp only [Nat.reduceAdd] at h; omega
    | 5, _ => simp only [Nat.reduceAdd] at h; omega
    | 6, _ => simp only [Nat.reduceAdd] at h; omega
    | 7, _ => simp only [Nat.reduceAdd] at h; omega

/-! Whether an address is a block's, or the end -/
def bdAt (ws : List Nat) (f : Nat) : Bool := match blocks ws 128 with
  | none => false
  | some l => l.any (fun b => b.at_ == (f : Int)) || f == ws.length
def lnErr (ws : List Nat) : Int := if prErr ws = 0 then (if wd ws 16 = 3 ∧ wd ws 17 ≠ 0 ∧ bdAt ws (wd ws 17) = false then 50 else 0) else prErr ws
def lnV (ws : List Nat) : Value := if lnErr ws = 0 then phV (wd ws 16) (wd ws 17) (wd ws 18) else phV 0 0 0
theorem lnErr_zero {ws : List Nat} (h : lnErr ws = 0) : prErr ws = 0 ∧ (wd ws 16 = 3 → wd ws 17 ≠ 0 → bdAt ws (wd ws 17) = true) := by
  unfold lnErr at h
  split at h
  · rename_i h1
    refine ⟨h1, fun h2 h3 => ?_⟩
    split at h
    · simp at h
    · rename_i h4
      cases hq : bdAt ws (wd ws 17) with
      | true => rfl
      | false => exact absurd ⟨h2, h3, hq⟩ h4
  · rename_i h1; exact absurd h h1
theorem lnErr_val (ws : List Nat) : lnErr ws = 0 ∨ lnErr ws = 8 ∨ lnErr ws = 50 := by
  unfold lnErr
  split
  · split <;> simp
  · exact prErr_val ws

/-! Whether the words up to an address are objects that are not marked -/
def mdOk (ws : List Nat) (i : Nat) : Bool := splitOk (wd ws i) && ((rawBk (wd ws i)).kind == 1 && (!(rawBk (wd ws i)).mark && typedB ws (rawBk (wd ws i))))
def mvdL (ws : List Nat) : Nat → Nat → Nat → Bool
  | 0, i, t => i == t
  | f + 1, i, t => if i < t then mdOk ws i && mvdL ws f (i + szAt ws i) t else i == t
theorem mdOk_sz {ws : List Nat} {i : Nat} (h : mdOk ws i = true) : 2 ≤ szAt ws i ∧ szAt ws i % 2 = 0 ∧ szAt ws i ≤ 10 := by
  unfold mdOk splitOk at h
  simp only [Bool.and_eq_true, beq_iff_eq] at h
  obtain ⟨⟨h1, -⟩, h2, -⟩ := h
  have h3 := (hdOk_iff _).1 h1
  have e : (rawBk (wd ws i)).size = ((szAt ws i : Nat) : Int) := rfl
  omega
theorem mvdL_more {ws : List Nat} {t : Nat} : ∀ {f i g : Nat}, t - i ≤ f → t - i ≤ g → mvdL ws f i t = mvdL ws g i t := by
  intro f
  induction f with
  | zero =>
    intro i g h hg
    cases g with
    | zero => rfl
    | succ g => simp only [mvdL]; rw [if_neg (by omega)]
  | succ f ih =>
    intro i g h hg
    cases g with
    | zero => simp only [mvdL]; rw [if_neg (by omega)]
    | succ g =>
      simp only [mvdL]
      split
      · cases hs : mdOk ws i with
        | false => simp
        | true =>
          have := mdOk_sz hs
          rw [ih (i := i + szAt ws i) (by omega) (g := g) (by omega)]
      · rfl
def mvd (ws : List Nat) (i t : Nat) : Bool := mvdL ws t i t
theorem mvd_end {ws : List Nat} {i t : Nat} (h : t ≤ i) : mvd ws i t = (i == t) := by
  unfold mvd
  rw [mvdL_more (g := 0) (by omega) (by omega)]; rfl
theorem mvd_step {ws : List Nat} {i t : Nat} (h : i < t) (h2 : mdOk ws i = true) : mvd ws i t = mvd ws (i + szAt ws i) t := by
  unfold mvd
  have := mdOk_sz h2
  rw [mvdL_more (g := t + 1) (by omega) (by omega), mvdL, if_pos h, h2, Bool.true_and]
theorem mvd_bad {ws : List Nat} {i t : Nat} (h : i < t) (h2 : mdOk ws i = false) : mvd ws i t = false := by
  unfold mvd
  rw [mvdL_more (g := t + 1) (by omega) (by omega), mvdL, if_pos h, h2, Bool.false_and]

/-! The error of a view, and how many are left -/
def ckErr (ws : List Nat) : Int := if lnErr ws = 0 then (if wd ws 16 = 4 then (if mvd ws 128 (wd ws 18) = true then rdErr ws (wd ws 17 : Nat) (wd ws 18 : Nat) else 50) else if wd ws 16 = 3 then rdErr ws 128 128 else hpErr ws) else lnErr ws
def lfFrom (ws : List Nat) : Int := if (wd ws 17 : Int) < 128 then 128 else (wd ws 17 : Int)
def lfN (ws : List Nat) : Nat := if ckErr ws = 0 then (if wd ws 16 < 3 then 0 else (mkdL (frOut ws (lfFrom ws))).length) else 0

theorem nxt_agree {ws xs : List Nat} (hn : xs.length = ws.length) {a : Int} (h : ∀ j : Nat, a ≤ (j : Int) → wd xs j = wd ws j) : nxtErr xs a = nxtErr ws a ∧ nxtB xs a = nxtB ws a := by
  have h1 : frErr xs a = frErr ws a ∧ frOut xs a = frOut ws a := by
    have hb : frArg ws.length a = false → blocks xs a.toNat = blocks ws a.toNat := fun h2 => by
      have h3 := frArg_no h2
      exact blocks_agree hn _ fun j hj => h j (by omega)
    have e1 : frErr xs a = frErr ws a := by
      unfold frErr
      rw [hn]
      cases h2 : frArg ws.length a with
      | true => rfl
      | false => rw [hb h2]
    refine ⟨e1, ?_⟩
    unfold frOut
    rw [e1]
    split
    · rename_i h0
      cases h2 : frArg ws.length a with
      | true =>
        unfold frErr at h0
        rw [h2] at h0
        simp only [if_true] at h0
        split at h0 <;> simp at h0
      | false => rw [hb h2]
    · rfl
  unfold nxtErr nxtB
  rw [h1.1, h1.2]
  exact ⟨rfl, rfl⟩
end Go.Proofs.YtoaepffpjoibaaaGreat

namespace Go.Proofs.YtoaepffpjoibaaaGreat
open Go.RowKit

theorem i64_and1 (n : Int) : bits .and .i64 n 1 = n % 2 := by
  have h1 : (BitVec.ofInt 64 1).toNat = 2 ^ 1 - 1 := by decide
  have key : (BitVec.ofInt 64 n &&& BitVec.ofInt 64 1).toNat = (n % ((2 ^ 64 : Nat) : Int)).toNat % 2 ^ 1 := by
    rw [BitVec.toNat_and, BitVec.toNat_ofInt, h1, Nat.and_two_pow_sub_one_eq_mod]
  show IntKind.i64.wrap ((BitVec.ofInt 64 n &&& BitVec.ofInt 64 1).toNat : Nat) = n % 2
  rw [key, IntKind.wrap_i64]
  omega
theorem pHeap_c (n : Nat) (w : World) (hn : n ≤ 4611686018427387904) : Calls Tryz.prog 116 #[.int .i64 (n : Int)] w fun e w' => e = .returned (.bool (inHp n)) ∧ w = w' := by
  have H : Hid (∀ b : Bool, (b = true ↔ 128 ≤ n ∧ n ≤ 2048 ∧ n % 2 = 0) → b = inHp n) := Lib.hid fun b h => by rw [Bool.eq_iff_iff, inHp_iff, h]
  have ha := i64_and1 (n : Int)
  go_enter Tryz.func116, Tryz.ntmps116
  go_wp2_with fail
  all_goals
    go_ret
    exact ⟨ret_bool' (H.out _ (by simp; omega)), rfl⟩
def phErr (p f t : Nat) : Int := if phOk p f t = true then 0 else 8

set_option maxRecDepth 100000 in
set_option maxHeartbeats 2000000 in
theorem pCheck_c (p f t : Nat) (w : World) (hp : p ≤ 4611686018427387904) (hf : f ≤ 4611686018427387904) (ht : t ≤ 4611686018427387904) :
    Calls Tryz.prog 106 #[phV p f t] w fun e w' => e = .returned (.int .i64 (phErr p f t)) ∧ Below w.heap.size w w' := by
  have HF := Lib.hid (fun W => pHeap_c f W hf)
  have HT := Lib.hid (fun W => pHeap_c t W ht)
  have HE : Hid (∀ r : Int, r = (if (if p = 4 then inHp f && (inHp t && decide (t ≤ f)) else if t ≠ 0 then false else if p = 3 then f == 0 || inHp f else decide (p < 3) && f == 0) = true then 0 else 8) → phErr p f t = r) := Lib.hid fun r h => by rw [h]; rfl
  have hB := (Below.refl w.heap.size w).alloc (Nat.le_refl _) (.cells #[.int .i64 (p : Int), .int .i64 (f : Int), .int .i64 (t : Int)] 78)
  have HB := Lib.hid hB
  unfold phV
  clear hB
  by_cases p4 : p = 4
  · subst p4
    cases hif : inHp f
    · rw [hif] at HF
      have HV := Lib.hid (HE.out 8 (by rw [if_pos rfl, hif]; rfl))
      clear HE HT hif
      (try simp only [Int.cast_ofNat_Int] at HB ⊢)
      go_enter Tryz.func106, Tryz.ntmps106
      go_wp2_with fail
      refine (HF.out _).mono ?_
      rintro e w1 ⟨rfl, rfl⟩
      go_wp2_with fail
      go_ret
      exact ⟨by rw [HV.out]; rfl, HB.out⟩
    · cases hit : inHp t
      · rw [hif] at HF
        rw [hit] at HT
        have HV := Lib.hid (HE.out 8 (by rw [if_pos rfl, hif, hit]; rfl))
        clear HE hif hit
        (try simp only [Int.cast_ofNat_Int] at HB ⊢)
        go_enter Tryz.func106, Tryz.ntmps106
        go_wp2_with fail
        refine (HF.out _).mono ?_
        rintro e w1 ⟨rfl, rfl⟩
        go_wp2_with fail
        refine (HT.out _).mono ?_
        rintro e w1 ⟨rfl, rfl⟩
        go_wp2_with fail
        go_ret
        exact ⟨by rw [HV.out]; rfl, HB.out⟩
      · rw [hif] at HF
        rw [hit] at HT
        by_cases htf : t ≤ f
        · have hd : decide ((t : Int) ≤ (f : Int)) = true := by rw [decide_eq_true_iff]; omega
          have hdn : decide (t ≤ f) = true := by rw [decide_eq_true_iff]; omega
          have HV := Lib.hid (HE.out 0 (by rw [if_pos rfl, hif, hit, hdn]; rfl))
          clear HE hif hit htf
          (try simp only [Int.cast_ofNat_Int] at HB ⊢)
          go_enter Tryz.func106, Tryz.ntmps106
          go_wp2_with fail
          refine (HF.out _).mono ?_
          rintro e w1 ⟨rfl, rfl⟩
          go_wp2_with fail
          refine (HT.out _).mono ?_
          rintro e w1 ⟨rfl, rfl⟩
          go_wp2_with fail
          go_ret
          exact ⟨by rw [HV.out]; rfl, HB.out⟩
        · have hd : decide ((t : Int) ≤ (f : Int)) = false := by rw [decide_eq_false_iff_not]; omega
          have hdn : decide (t ≤ f) = false := by rw [decide_eq_false_iff_not]; omega
          have HV := Lib.hid (HE.out 8 (by rw [if_pos rfl, hif, hit, hdn]; rfl))
          clear HE hif hit htf
          (try simp only [Int.cast_ofNat_Int] at HB ⊢)
          go_enter Tryz.func106, Tryz.ntmps106
          go_wp2_with fail
          refine (HF.out _).mono ?_
          rintro e w1 ⟨rfl, rfl⟩
          go_wp2_with fail
          refine (HT.out _).mono ?_
          rintro e w1 ⟨rfl, rfl⟩
          go_wp2_with fail
          go_ret
          exact ⟨by rw [HV.out]; rfl, HB.out⟩
  · have e4 : ((p : Int) == 4) = false := by rw [beq_eq_false_iff_ne]; omega
    have e4n : (p == 4) = false := by rw [beq_eq_false_iff_ne]; omega
    by_cases t0 : t = 0
    · subst t0
      by_cases p3 : p = 3
      · subst p3
        by_cases f0 : f = 0
        · subst f0
          have HV := Lib.hid (HE.out 0 (by simp))
          clear HE HF HT p4
          (try simp only [Int.cast_ofNat_Int] at HB ⊢)
          go_enter Tryz.func106, Tryz.ntmps106
          go_wp2_with fail
          go_ret
          exact ⟨by rw [HV.out]; rfl, HB.out⟩
        · have ef : ((f : Int) == 0) = false := by rw [beq_eq_false_iff_ne]; omega
          have efn : (f == 0) = false := by rw [beq_eq_false_iff_ne]; omega
          cases hif : inHp f
          · rw [hif] at HF
            have HV := Lib.hid (HE.out 8 (by simp [hif, f0]))
            clear HE HT hif p4 f0
            (try simp only [Int.cast_ofNat_Int] at HB ⊢)
            go_enter Tryz.func106, Tryz.ntmps106
            go_wp2_with fail
            refine (HF.out _).mono ?_
            rintro e w1 ⟨rfl, rfl⟩
            go_wp2_with fail
            go_ret
            exact ⟨by rw [HV.out]; rfl, HB.out⟩
          · rw [hif] at HF
            have HV := Lib.hid (HE.out 0 (by simp [hif]))
            clear HE HT hif p4 f0
            (try simp only [Int.cast_ofNat_Int] at HB ⊢)
            go_enter Tryz.func106, Tryz.ntmps106
            go_wp2_with fail
            refine (HF.out _).mono ?_
            rintro e w1 ⟨rfl, rfl⟩
            go_wp2_with fail
            go_ret
            exact ⟨by rw [HV.out]; rfl, HB.out⟩
      · have e3 : ((p : Int) == 3) = false := by rw [beq_eq_false_iff_ne]; omega
        have e3n : (p == 3) = false := by rw [beq_eq_false_iff_ne]; omega
        have p0 : (0 : Int) ≤ (p : Int) := by omega
        by_cases pl : p < 3
        · have hd : decide ((p : Int) < 3) = true := by rw [decide_eq_true_iff]; omega
          have hdn : decide (p < 3) = true := by rw [decide_eq_true_iff]; omega
          by_cases f0 : f = 0
          · subst f0
            have HV := Lib.hid (HE.out 0 (by simp [p4, p3, pl]))
            clear HE HF HT p4 p3 pl
            (try simp only [Int.cast_ofNat_Int] at HB ⊢)
            go_enter Tryz.func106, Tryz.ntmps106
            go_wp2_with fail
            go_ret
            exact ⟨by rw [HV.out]; rfl, HB.out⟩
          · have ef : ((f : Int) == 0) = false := by rw [beq_eq_false_iff_ne]; omega
            have efn : (f == 0) = false := by rw [beq_eq_false_iff_ne]; omega
            have HV := Lib.hid (HE.out 8 (by simp [p4, p3, pl, f0]))
            clear HE HF HT p4 p3 pl f0
            (try simp only [Int.cast_ofNat_Int] at HB ⊢)
            go_enter Tryz.func106, Tryz.ntmps106
            go_wp2_with fail
            go_ret
            exact ⟨by rw [HV.out]; rfl, HB.out⟩
        · have hd : decide ((p : Int) < 3) = false := by rw [decide_eq_false_iff_not]; omega
          have hdn : decide (p < 3) = false := by rw [decide_eq_false_iff_not]; omega
          have HV := Lib.hid (HE.out 8 (by simp [p4, p3, pl]))
          clear HE HF HT p4 p3 pl
          (try simp only [Int.cast_ofNat_Int] at HB ⊢)
          go_enter Tryz.func106, Tryz.ntmps106
          go_wp2_with fail
          go_ret
          exact ⟨by rw [HV.out]; rfl, HB.out⟩
    · have et : ((t : Int) != 0) = true := by rw [bne_iff_ne]; omega
      have etn : (t != 0) = true := by rw [bne_iff_ne]; omega
      have HV := Lib.hid (HE.out 8 (by rw [if_neg p4, if_pos t0]; rfl))
      clear HE HF HT p4 t0
      (try simp only [Int.cast_ofNat_Int] at HB ⊢)
      go_enter Tryz.func106, Tryz.ntmps106
      go_wp2_with fail
      go_ret
      exact ⟨by rw [HV.out]; rfl, HB.out⟩

/-- The numbers of a line, the first k of them laid. -/
def lnPre (ws : List Nat) (k : Nat) : Array Value := #[.int .i64 (if 0 < k then (wd ws 16 : Int) else 0), .int .i64 (if 1 < k then (wd ws 17 : Int) else 0), .int .i64 (if 2 < k then (wd ws 18 : Int) else 0)]
theorem lnPre_set (ws : List Nat) {k : Nat} (hk : k < 3) : (lnPre ws k).setIfInBounds k (.int .i64 (wd ws (16 + k) : Int)) = lnPre ws (k + 1) := by
  match k, hk with
  | 0, _ => rfl
  | 1, _ => rfl
  | 2, _ => rfl
theorem lnPre_more (ws : List Nat) {k : Nat} (hk : 3 ≤ k) : lnPre ws (k + 1) = lnPre ws k := by
  unfold lnPre
  rw [if_pos (by omega), if_pos (by omega), if_pos (by omega), if_pos (by omega), if_pos (by omega), if_pos (by omega)]
theorem lnPre_cell (ws : List Nat) {k : Nat} (hk : k < 3) : ∃ u, (lnPre ws k)[k]? = some u := by
  match k, hk with
  | 0, _ => exact ⟨_, rfl⟩
  | 1, _ => exact ⟨_, rfl⟩
  | 2, _ => exact ⟨_, rfl⟩
def okTo (ws : List Nat) (k : Nat) : Prop := ∀ i, i < k → (i < 3 → wd ws (16 + i) ≤ ws.length) ∧ (3 ≤ i → wd ws (16 + i) = 0)
theorem okTo_zero (ws : List Nat) : okTo ws 0 := fun i h => absurd h (by omega)
theorem okTo_succ {ws : List Nat} {k : Nat} (h : okTo ws k) (h1 : (k < 3 → wd ws (16 + k) ≤ ws.length) ∧ (3 ≤ k → wd ws (16 + k) = 0)) : okTo ws (k + 1) := fun i hi => by
  rcases Nat.lt_or_ge i k with h2 | h2
  · exact h i h2
  · have : i = k := by omega
    subst this; exact h1
theorem okTo_line {ws : List Nat} (h : okTo ws 8) : lineW ws = true := by
  rw [lineW_iff]
  exact ⟨⟨(h 0 (by omega)).1 (by omega), (h 1 (by omega)).1 (by omega), (h 2 (by omega)).1 (by omega)⟩, (h 3 (by omega)).2 (by omega), (h 4 (by omega)).2 (by omega), (h 5 (by omega)).2 (by omega), (h 6 (by omega)).2 (by omega), (h 7 (by omega)).2 (by omega)⟩
theorem prErr_line {ws : List Nat} (h : sizeOk (ws.length : Int) = true) (h2 : lineW ws = false) : prErr ws = 50 ∧ prV ws = phV 0 0 0 := prErr_bad h (by rw [h2, Bool.false_and])
theorem prErr_ck {ws : List Nat} (h : sizeOk (ws.length : Int) = true) (h2 : phErr (wd ws 16) (wd ws 17) (wd ws 18) ≠ 0) : prErr ws = 50 ∧ prV ws = phV 0 0 0 := prErr_bad h (by
  unfold phErr at h2
  cases hq : phOk (wd ws 16) (wd ws 17) (wd ws 18) with
  | false => rw [Bool.and_false]
  | true => rw [hq] at h2; exact absurd rfl h2)
theorem prErr_good {ws : List Nat} (h : sizeOk (ws.length : Int) = true) (h1 : lineW ws = true) (h2 : phErr (wd ws 16) (wd ws 17) (wd ws 18) = 0) : prErr ws = 0 ∧ prV ws = phV (wd ws 16) (wd ws 17) (wd ws 18) := prErr_ok h (by
  unfold phErr at h2
  cases hq : phOk (wd ws 16) (wd ws 17) (wd ws 18) with
  | true => rw [h1]; rfl
  | false => rw [hq] at h2; cases h2)
theorem results_ph {fn : Func} {p q : Tmp} (h : fn.results = #[.cell p 78, .tmp q]) (tmps : Array Value) {W : World} {g : Nat} {t : TypeId} {v0 v1 v2 u : Value} (hb : Bx W g t #[v0, v1, v2]) (hp : tmps.getD p undef = .pointer (some ⟨g, 0, none⟩)) (hq : tmps.getD q undef = u) :
    (results fn tmps).run Tryz.prog W = .ok (.tuple #[.agg #[v0, v1, v2], u]) W := by
  obtain ⟨c0, c1, c2, -⟩ := hb.c3
  rw [Array.getD_eq_getD_getElem?] at hp hq
  simp [results, h, hp, hq, go_sem, c0, c1, c2]

set_option maxRecDepth 100000 in
set_option maxHeartbeats 2000000 in
theorem pRead_c (A : Option Addr) (ws : List Nat) (c n : Nat) (w : World) (hn : ws.length = n) (hm : n ≤ 9223372036854775807) (hc : n ≤ c) (hr : RdW w w.heap.size A ws) (ho : ∀ x ∈ ws, x < 18446744073709551616) :
    Calls Tryz.prog 94 #[.slice A n c] w fun e w' => e = .returned (.tuple #[prV ws, .int .i64 (prErr ws)]) ∧ Below w.heap.size w w' := by
  subst hn
  have HR := Lib.hid hr
  have HO := Lib.hid ho
  clear hr ho
  have b0 := Bx.new w 78 #[.int .i64 0, .int .i64 0, .int .i64 0]
  cases hs : sizeOk (ws.length : Int)
  · have HI := Lib.hid (imgErr_no hs)
    have HV := Lib.hid (prErr_img hs)
    have HB0 := Lib.hid b0
    clear hs b0
    go_enter Tryz.func94, Tryz.ntmps94
    go_wp2_with fail
    refine (imCheck_c A ws.length c _ hm).mono ?_
    rintro e w1 ⟨rfl, rfl⟩
    rw [HI.out]
    go_wp2_with fail
    refine bodyPost_ret (v := .tuple #[.agg #[.int .i64 0, .int .i64 0, .int .i64 0], .int .i64 8]) (results_ph Tryz.results94 _ HB0.out rfl rfl) rfl ⟨by rw [HV.out.1, HV.out.2]; rfl, (Below.refl _ _).alloc (Nat.le_refl _) _⟩
  · have HI := Lib.hid (imgErr_ok hs)
    obtain ⟨hb1, hb2, -⟩ := fr_bd ws hs
    have HS := Lib.hid hs
    have HB0 := Lib.hid b0
    obtain ⟨b, off, rfl, hb, -⟩ := RdW.at_ HR.out (show 0 < ws.length by omega)
    have HC : Hid (∀ k (h : k < 8) (W : World), Below w.heap.size w W → W.cell? ⟨b, off + 16 + k, none⟩ = some (.int .u64 (wd ws (16 + k) : Int))) := Lib.hid fun k h W hB => by
      obtain ⟨b', off', e', -, h0⟩ := RdW.at_ (Rd.below HR.out hB) (show 16 + k < ws.length by omega)
      cases e'
      rw [← wd_get, ← Nat.add_assoc] at h0
      exact h0
    have HLT : Hid (∀ k, wd ws k < 18446744073709551616) := Lib.hid (wd_lt HO.out)
    have hc24 : (24 : Int) ≤ (c : Int) := by omega
    have hc16 : ((c : Int) == 16) = false := by rw [beq_eq_false_iff_ne]; omega
    have hc16n : (c == 16) = false := by rw [beq_eq_false_iff_ne]; omega
    have hne : ¬ c = 16 := by omega
    clear hs b0
    go_enter Tryz.func94, Tryz.ntmps94
    go_wp2_with fail
    refine (imCheck_c _ ws.length c _ hm).mono ?_
    rintro e w1 ⟨rfl, rfl⟩
    rw [HI.out]
    go_wp2_with fail
    go_loopw [20] (fun i wr => ∃ k : Nat, k ≤ 8 ∧ i = .int .i64 k ∧ Hid (okTo ws k) ∧ Bx wr w.heap.size 78 #[.int .i64 0, .int .i64 0, .int .i64 0] ∧ Bx wr (w.heap.size + 1) 172 (lnPre ws k) ∧ Below w.heap.size w wr) (fun i _ => 8 - (intOf i).toNat)
    case atStart =>
      have x1 := Bx.new (w.alloc (.cells #[.int .i64 0, .int .i64 0, .int .i64 0] 78)) 172 #[.int .i64 0, .int .i64 0, .int .i64 0]
      rw [World.size_alloc] at x1
      exact ⟨0, Nat.zero_le _, rfl, okTo_zero ws, HB0.out.alloc _, x1, ((Below.refl _ _).alloc (Nat.le_refl _) _).alloc (by simp) _⟩
    case round =>
      obtain ⟨k, hk, rfl, HOK, b0, b1, hB⟩ := hrel
      have hz := hB.size
      by_cases hlt : k < 8
      · have h0 := HC.out k hlt _ hB
        have hx0 := HLT.out (16 + k)
        have HSU := Lib.hid (fun h => okTo_succ HOK.out h)
        have HBD := Lib.hid (fun h => prErr_line HS.out (line_bad hlt h))
        have HSET := Lib.hid (fun h => lnPre_set ws (k := k) h)
        have HMO := Lib.hid (fun h => lnPre_more ws (k := k) h)
        have HCE := Lib.hid (fun h => lnPre_cell ws (k := k) h)
        obtain ⟨x, hx⟩ : ∃ x, wd ws (16 + k) = x := ⟨_, rfl⟩
        rw [hx] at h0 hx0 HSU HBD HSET
        have hk1 : (k : Int) < 8 := by omega
        have hk0 : (0 : Int) ≤ (k : Int) := by omega
        have hx1 : (0 : Int) ≤ (x : Int) := by omega
        clear hx
        by_cases hk3 : k < 3
        · have hd3 : decide ((k : Int) < 3) = true := by rw [decide_eq_true_iff]; omega
          have hd3n : decide (k < 3) = true := by rw [decide_eq_true_iff]; omega
          obtain ⟨u, hu⟩ := HCE.out hk3
          by_cases hle : x ≤ ws.length
          · have hdl : decide ((x : Int) ≤ (ws.length : Int)) = true := by rw [decide_eq_true_iff]; omega
            have hdln : decide (x ≤ ws.length) = true := by rw [decide_eq_true_iff]; omega
            have HY := Lib.hid (HSU.out ⟨fun _ => hle, fun h => absurd h (by omega)⟩)
            have HZ := Lib.hid (HSET.out hk3)
            have c1 := (b1.cell k).trans hu
            have f1 := b1.frozen k
            have B0 := Lib.hid b0
            have B1 := Lib.hid b1
            have hxw : IntKind.i64.wrap (x : Int) = (x : Int) := IntWalk.i64_in _ (by omega)
            clear HSU HBD HSET HMO HCE b0 b1 hu hle
            go_wp2_with fail
            go_roundw
            case rel => exact ⟨k + 1, by omega, by go_num, HY.out, B0.out.far (by simp) _, by rw [← HZ.out]; exact B1.out.set_ k _, hB.setCell (by simp) _⟩
            case measure => simp [intOf]; omega
          · have hdl : decide ((x : Int) ≤ (ws.length : Int)) = false := by rw [decide_eq_false_iff_not]; omega
            have hdln : decide (x ≤ ws.length) = false := by rw [decide_eq_false_iff_not]; exact hle
            have HV := Lib.hid (HBD.out (.inl ⟨hk3, by omega⟩))
            have B0 := Lib.hid b0
            obtain ⟨c0, c1, c2, f0, f1, f2, hgl⟩ := b0.c3
            clear HSU HBD HSET HMO HCE b0 b1 hu hle
            go_wp2_with fail
            refine bodyPost_ret (v := .tuple #[.agg #[.int .i64 0, .int .i64 0, .int .i64 0], .int .i64 50]) (results_ph Tryz.results94 _ (((B0.out.set_ 0 _).set_ 1 _).set_ 2 _) rfl rfl) rfl ⟨by rw [HV.out.1, HV.out.2]; rfl, ((hB.setCell (by simp) _).setCell (by simp) _).setCell (by simp) _⟩
        · have hd3 : decide ((k : Int) < 3) = false := by rw [decide_eq_false_iff_not]; omega
          have hd3n : decide (k < 3) = false := by rw [decide_eq_false_iff_not]; omega
          by_cases hx0' : x = 0
          · have hxe : ((x : Int) != 0) = false := by rw [bne_eq_false_iff_eq]; omega
            have hxen : (x != 0) = false := by rw [bne_eq_false_iff_eq]; exact hx0'
            have HY := Lib.hid (HSU.out ⟨fun h => absurd h hk3, fun _ => hx0'⟩)
            have HZ := Lib.hid (HMO.out (by omega))
            have B0 := Lib.hid b0
            have B1 := Lib.hid b1
            clear HSU HBD HSET HMO HCE b0 b1 hx0'
            go_wp2_with fail
            go_roundw
            case rel => exact ⟨k + 1, by omega, by go_num, HY.out, B0.out, by rw [HZ.out]; exact B1.out, hB⟩
            case measure => simp [intOf]; omega
          · have hxe : ((x : Int) != 0) = true := by rw [bne_iff_ne]; omega
            have hxen : (x != 0) = true := by rw [bne_iff_ne]; exact hx0'
            have HV := Lib.hid (HBD.out (.inr ⟨by omega, hx0'⟩))
            have B0 := Lib.hid b0
            obtain ⟨c0, c1, c2, f0, f1, f2, hgl⟩ := b0.c3
            clear HSU HBD HSET HMO HCE b0 b1 hx0'
            go_wp2_with fail
            refine bodyPost_ret (v := .tuple #[.agg #[.int .i64 0, .int .i64 0, .int .i64 0], .int .i64 50]) (results_ph Tryz.results94 _ (((B0.out.set_ 0 _).set_ 1 _).set_ 2 _) rfl rfl) rfl ⟨by rw [HV.out.1, HV.out.2]; rfl, ((hB.setCell (by simp) _).setCell (by simp) _).setCell (by simp) _⟩
      · obtain rfl : k = 8 := by omega
        have HLN := Lib.hid (okTo_line HOK.out)
        obtain ⟨⟨l0, l1, l2⟩, -⟩ := (lineW_iff ws).1 HLN.out
        have HCK := Lib.hid (fun W => pCheck_c (wd ws 16) (wd ws 17) (wd ws 18) W (by omega) (by omega) (by omega))
        have HG1 := Lib.hid (fun h => prErr_ck HS.out h)
        have HG2 := Lib.hid (fun h => prErr_good HS.out HLN.out h)
        have b1' : Bx wr (w.heap.size + 1) 172 #[.int .i64 (wd ws 16 : Int), .int .i64 (wd ws 17 : Int), .int .i64 (wd ws 18 : Int)] := b1
        obtain ⟨c0, c1, c2, -⟩ := b1'.c3
        obtain ⟨q0, q1, q2, f0, f1, f2, hgl⟩ := b0.c3
        unfold phV at HCK HG2
        obtain ⟨x, hx⟩ : ∃ x, wd ws 16 = x := ⟨_, rfl⟩
        obtain ⟨y, hy⟩ : ∃ y, wd ws 17 = y := ⟨_, rfl⟩
        obtain ⟨z, hz'⟩ : ∃ z, wd ws 18 = z := ⟨_, rfl⟩
        rw [hx, hy, hz'] at HCK HG1 HG2
        rw [hx] at c0
        rw [hy] at c1
        rw [hz'] at c2
        have B0 := Lib.hid b0
        have HB := Lib.hid hB
        clear b0 b1 b1' l0 l1 l2 hx hy hz'
        obtain ⟨r, hr⟩ : ∃ r, phErr x y z = r := ⟨_, rfl⟩
        rw [hr] at HCK HG1 HG2
        clear hr
        go_wp2_with fail
        refine (HCK.out _).mono ?_
        rintro e w2 ⟨rfl, hB2⟩
        rw [World.size_alloc] at hB2
        have hb2 := below_call hB2
        have b3 := Lib.hid (B0.out.up hb2 hgl)
        have n3 := Bx.of_new hB2
        obtain ⟨q0, q1, q2, f0, f1, f2, hgl2⟩ := b3.out.c3
        obtain ⟨n0, n1, n2, -⟩ := n3.c3
        have HB2 := Lib.hid (HB.out.trans (hb2.mono HB.out.size))
        clear hB2 hb2 n3
        by_cases hr0 : r = 0
        · have HV := Lib.hid (HG2.out hr0)
          subst hr0
          go_wp2_with fail
          refine bodyPost_ret (v := .tuple #[.agg #[.int .i64 (x : Int), .int .i64 (y : Int), .int .i64 (z : Int)], .int .i64 0]) (results_ph Tryz.results94 _ (((b3.out.set_ 0 _).set_ 1 _).set_ 2 _) rfl rfl) rfl ⟨by rw [HV.out.1, HV.out.2], ((HB2.out.setCell (by simp) _).setCell (by simp) _).setCell (by simp) _⟩
        · have HV := Lib.hid (HG1.out hr0)
          have hrn : (r != 0) = true := by rw [bne_iff_ne]; exact hr0
          clear hr0
          go_wp2_with fail
          refine bodyPost_ret (v := .tuple #[.agg #[.int .i64 0, .int .i64 0, .int .i64 0], .int .i64 50]) (results_ph Tryz.results94 _ (((b3.out.set_ 0 _).set_ 1 _).set_ 2 _) rfl rfl) rfl ⟨by rw [HV.out.1, HV.out.2]; rfl, ((HB2.out.setCell (by simp) _).setCell (by simp) _).setCell (by simp) _⟩
end Go.Proofs.YtoaepffpjoibaaaGreat

namespace Go.Proofs.YtoaepffpjoibaaaGreat
open Go.RowKit

def noAt (l : List Bk) (f : Nat) (k : Nat) : Prop := ∀ j, j < k → (gk l j).at_ ≠ (f : Int)
theorem noAt_zero (l : List Bk) (f : Nat) : noAt l f 0 := fun j h => absurd h (by omega)
theorem noAt_succ {l : List Bk} {f k : Nat} (h : noAt l f k) (h2 : (gk l k).at_ ≠ (f : Int)) : noAt l f (k + 1) := fun j hj => by
  rcases Nat.lt_or_ge j k with h3 | h3
  · exact h j h3
  · have : j = k := by omega
    subst this; exact h2
theorem bd_no {ws : List Nat} (hs : sizeOk (ws.length : Int) = true) (h : frErr ws 128 ≠ 0) (f : Nat) : bdAt ws f = false := by
  unfold bdAt
  cases hb : blocks ws 128 with
  | none => rfl
  | some l => exact absurd (frErr_some hs (frErr_128 hs) hb).1 h
theorem bd_at {ws : List Nat} {l : List Bk} (hb : blocks ws 128 = some l) {k f : Nat} (hk : k < l.length) (h : (gk l k).at_ = (f : Int)) : bdAt ws f = true := by
  unfold bdAt
  rw [hb]
  simp only [Bool.or_eq_true, List.any_eq_true]
  refine .inl ⟨l[k], List.getElem_mem hk, ?_⟩
  rw [gk_get l k hk] at h
  rw [beq_iff_eq]; exact h
theorem bd_end {ws : List Nat} {l : List Bk} (hb : blocks ws 128 = some l) {f : Nat} (h : noAt l f l.length) : bdAt ws f = (f == ws.length) := by
  unfold bdAt
  rw [hb]
  have : l.any (fun b => b.at_ == (f : Int)) = false := by
    rw [List.any_eq_false]
    intro b hm
    obtain ⟨k, hk, rfl⟩ := List.getElem_of_mem hm
    have := h k hk
    rw [gk_get l k hk] at this
    rw [beq_iff_eq]; exact this
  show (l.any (fun b => b.at_ == (f : Int)) || f == ws.length) = _
  rw [this, Bool.false_or]

set_option maxRecDepth 100000 in
set_option maxHeartbeats 2000000 in
theorem boundary_c (A : Option Addr) (ws : List Nat) (c n f : Nat) (w : World) (hn : ws.length = n) (hs : sizeOk (n : Int) = true) (hr : RdW w w.heap.size A ws) (ho : ∀ x ∈ ws, x < 18446744073709551616) :
    Calls Tryz.prog 95 #[.slice A n c, .int .i64 (f : Int)] w fun e w' => e = .returned (.bool (bdAt ws f)) ∧ Below w.heap.size w w' := by
  subst hn
  have hbd := fr_bd ws hs
  have HC := Lib.hid (from_c A ws c ws.length 128 w rfl (by omega) hr ho)
  unfold FrRes at HC
  have HNO := Lib.hid (fun h => bd_no hs h f)
  have HOK : Hid (frErr ws 128 = 0 → blocks ws 128 = some (frOut ws 128)) := Lib.hid fun h => (fr_128 h).2
  have hlen := frOut_len ws 128
  obtain ⟨r, hr'⟩ : ∃ r, frErr ws 128 = r := ⟨_, rfl⟩
  obtain ⟨l, hl⟩ : ∃ l, frOut ws 128 = l := ⟨_, rfl⟩
  rw [hr', hl] at HC HOK
  rw [hl] at hlen
  rw [hr'] at HNO
  clear hr' hl hr ho hs hbd
  by_cases hr0 : r = 0
  · subst hr0
    have HAT := Lib.hid (fun k (h : k < l.length) h2 => bd_at (HOK.out rfl) h h2 (f := f))
    have HEN := Lib.hid (fun h => bd_end (HOK.out rfl) (f := f) h)
    clear HNO HOK
    go_enter Tryz.func95, Tryz.ntmps95
    go_wp2_with fail
    refine HC.out.mono ?_
    rintro e w1 ⟨⟨A1, c1, rfl, hrd, -⟩, hB1⟩
    have hz1 := hB1.size
    have HRD := Lib.hid hrd
    clear hrd
    go_wp2_with fail
    go_loopw [18] (fun i wr => ∃ k : Nat, k ≤ l.length ∧ i = .int .i64 k ∧ Hid (noAt l f k) ∧ Below w1.heap.size w1 wr) (fun i _ => l.length - (intOf i).toNat)
    case atStart => exact ⟨0, Nat.zero_le _, rfl, noAt_zero l f, Below.refl _ _⟩
    case round =>
      obtain ⟨k, hk, rfl, HN, hB⟩ := hrel
      have hz := hB.size
      by_cases hlt : k < l.length
      · obtain ⟨b, off, rfl, hbw, q0, q1, q2, q3, q4, q5⟩ := RdB.at_ (HRD.out.below hB) hlt
        have HS := Lib.hid (fun h => noAt_succ HN.out h)
        have HA := Lib.hid (fun h => HAT.out k hlt h)
        rw [gk_get l k hlt] at HS HA
        obtain ⟨x, hx⟩ : ∃ x, l[k] = x := ⟨_, rfl⟩
        rw [hx] at q0 q1 q2 q3 q4 q5 HS HA
        obtain ⟨xa, xs, xk, xt, xm, xn⟩ := x
        dsimp only at q0 q1 q2 q3 q4 q5 HS HA
        have hlm : (k : Int) < (l.length : Int) := by omega
        clear hx
        by_cases hxa : xa = (f : Int)
        · have e1 : (xa == (f : Int)) = true := by rw [beq_iff_eq]; exact hxa
          have HY := Lib.hid (HA.out hxa)
          clear hxa
          go_wp2_with fail
          go_ret
          exact ⟨by rw [HY.out]; rfl, hB1.trans ((hB.alloc hz _).mono hz1)⟩
        · have e1 : (xa == (f : Int)) = false := by rw [beq_eq_false_iff_ne]; exact hxa
          have HY := Lib.hid (HS.out hxa)
          clear hxa
          go_wp2_with fail
          go_roundw
          case rel => exact ⟨k + 1, by omega, by go_num, HY.out, hB.alloc hz _⟩
          case measure => simp [intOf]; omega
      · have HY := Lib.hid (HEN.out (by have := HN.out; rwa [show k = l.length by omega] at this))
        have hfi : ((f : Int) == (ws.length : Int)) = (f == ws.length) := by rw [Bool.eq_iff_iff, beq_iff_eq, beq_iff_eq]; omega
        have HFI := Lib.hid hfi
        clear hfi
        go_wp2_with fail
        go_ret
        exact ⟨by rw [HY.out, ← HFI.out]; rfl, hB1.trans (hB.mono hz1)⟩
  · have hn1 : (r != 0) = true := by rw [bne_iff_ne]; exact hr0
    have HY := Lib.hid (HNO.out hr0)
    clear hr0 HNO HOK
    go_enter Tryz.func95, Tryz.ntmps95
    go_wp2_with fail
    refine HC.out.mono ?_
    rintro e w1 ⟨⟨A1, c1, rfl, -, -⟩, hB1⟩
    go_wp2_with fail
    go_ret
    exact ⟨by rw [HY.out]; rfl, hB1⟩

theorem lnErr_of {ws : List Nat} {r : Int} (h : prErr ws = r) (h0 : r ≠ 0) : lnErr ws = r ∧ lnV ws = phV 0 0 0 := by
  subst h
  simp [lnErr, lnV, h0]
theorem lnErr_bd {ws : List Nat} (h : prErr ws = 0) (h1 : wd ws 16 = 3) (h2 : wd ws 17 ≠ 0) (h3 : bdAt ws (wd ws 17) = false) : lnErr ws = 50 ∧ lnV ws = phV 0 0 0 := by
  simp [lnErr, lnV, h, h1, h2, h3]
theorem lnErr_ok {ws : List Nat} (h : prErr ws = 0) (h3 : wd ws 16 = 3 → wd ws 17 ≠ 0 → bdAt ws (wd ws 17) = true) : lnErr ws = 0 ∧ lnV ws = phV (wd ws 16) (wd ws 17) (wd ws 18) := by
  have : lnErr ws = 0 := by
    unfold lnErr
    rw [if_pos h, if_neg]
    rintro ⟨a, b, c⟩
    rw [h3 a b] at c; cases c
  simp [lnV, this]

set_option maxRecDepth 100000 in
set_option maxHeartbeats 2000000 in
theorem line_c (A : Option Addr) (ws : List Nat) (c n : Nat) (w : World) (hn : ws.length = n) (hm : n ≤ 9223372036854775807) (hc : n ≤ c) (hr : RdW w w.heap.size A ws) (ho : ∀ x ∈ ws, x < 18446744073709551616) :
    Calls Tryz.prog 78 #[.slice A n c] w fun e w' => e = .returned (.tuple #[lnV ws, .int .i64 (lnErr ws)]) ∧ Below w.heap.size w w' := by
  subst hn
  have HR := Lib.hid hr
  have HO := Lib.hid ho
  clear hr ho
  have b0 := Bx.new w 78 #[.int .i64 0, .int .i64 0, .int .i64 0]
  cases hs : sizeOk (ws.length : Int)
  · have HI := Lib.hid (imgErr_no hs)
    have HV := Lib.hid (lnErr_of (prErr_img hs).1 (by omega))
    have HB0 := Lib.hid b0
    clear hs b0
    go_enter Tryz.func78, Tryz.ntmps78
    go_wp2_with fail
    refine (imCheck_c A ws.length c _ hm).mono ?_
    rintro e w1 ⟨rfl, rfl⟩
    rw [HI.out]
    go_wp2_with fail
    refine bodyPost_ret (v := .tuple #[.agg #[.int .i64 0, .int .i64 0, .int .i64 0], .int .i64 8]) (results_ph Tryz.results78 _ HB0.out rfl rfl) rfl ⟨by rw [HV.out.1, HV.out.2]; rfl, (Below.refl _ _).alloc (Nat.le_refl _) _⟩
  · have HI := Lib.hid (imgErr_ok hs)
    have HS := Lib.hid hs
    have HC := Lib.hid (pRead_c A ws c ws.length (w.alloc (.cells #[.int .i64 0, .int .i64 0, .int .i64 0] 78)) rfl hm hc ((HR.out.alloc (Nat.le_refl _) _).more (by simp)) HO.out)
    rw [World.size_alloc] at HC
    have HL1 : Hid (∀ r, prErr ws = r → r ≠ 0 → lnErr ws = r ∧ lnV ws = phV 0 0 0) := Lib.hid fun r h h0 => lnErr_of h h0
    have hval := prErr_val ws
    clear hs b0
    by_cases hp0 : prErr ws = 0
    · have HL2 := Lib.hid (fun h1 h2 h3 => lnErr_bd hp0 h1 h2 h3)
      have HL3 := Lib.hid (fun h1 => lnErr_ok hp0 h1)
      obtain ⟨g1, g2⟩ := prErr_ok HS.out (by have := (prErr_zero hp0).2; rw [this.1, this.2]; rfl)
      rw [g1, g2] at HC
      have HBC := Lib.hid (fun W (h : RdW W W.heap.size A ws) => boundary_c A ws c ws.length (wd ws 17) W rfl HS.out h HO.out)
      unfold phV at HC HL3
      obtain ⟨x, hx⟩ : ∃ x, wd ws 16 = x := ⟨_, rfl⟩
      obtain ⟨y, hy⟩ : ∃ y, wd ws 17 = y := ⟨_, rfl⟩
      obtain ⟨z, hz⟩ : ∃ z, wd ws 18 = z := ⟨_, rfl⟩
      obtain ⟨bd, hbd⟩ : ∃ bd, bdAt ws y = bd := ⟨_, rfl⟩
      rw [hx, hy, hz] at HC HL3
      rw [hx, hy] at HL2
      rw [hy] at HBC
      rw [hbd] at HBC HL2 HL3
      clear hp0 g1 g2 hx hy hz hbd HL1 hval
      have hB0 : ∀ (w1 : World), Below (w.heap.size + 1) (w.alloc (.cells #[.int .i64 0, .int .i64 0, .int .i64 0] 78)) w1 → RdW (w1.alloc (.cells #[.int .i64 (x : Int), .int .i64 (y : Int), .int .i64 (z : Int)] 78)) (w1.alloc (.cells #[.int .i64 (x : Int), .int .i64 (y : Int), .int .i64 (z : Int)] 78)).heap.size A ws := fun w1 h => by
        have h2 := below_call h
        exact ((HR.out.up h2 h2.size).alloc (Nat.le_refl _) _).more (by simp)
      have HB0 := Lib.hid hB0
      clear hB0
      by_cases x3 : x = 3
      · have e1 : ((x : Int) == 3) = true := by rw [beq_iff_eq]; omega
        have e1n : (x == 3) = true := by rw [beq_iff_eq]; exact x3
        by_cases y0 : y = 0
        · have e2 : ((y : Int) != 0) = false := by rw [bne_eq_false_iff_eq]; omega
          have e2n : (y != 0) = false := by rw [bne_eq_false_iff_eq]; exact y0
          have HV := Lib.hid (HL3.out (fun _ h => absurd y0 h))
          clear HL2 HL3 x3 y0
          go_enter Tryz.func78, Tryz.ntmps78
          go_wp2_with fail
          refine (imCheck_c A ws.length c _ hm).mono ?_
          rintro e w1 ⟨rfl, rfl⟩
          rw [HI.out]
          go_wp2_with fail
          refine HC.out.mono ?_
          rintro e w1 ⟨rfl, hB1⟩
          have HRW := Lib.hid (HB0.out _ hB1)
          have b1 := Bx.of_new hB1
          have hb1 := below_call hB1
          have B1 := Lib.hid b1
          have HB1 := Lib.hid hb1
          obtain ⟨q0, q1, q2, f0, f1, f2, hgl⟩ := b1.c3
          clear hB1 hb1 b1
          go_wp2_with fail
          exact bodyPost_ret (v := .tuple #[.agg #[.int .i64 (x : Int), .int .i64 (y : Int), .int .i64 (z : Int)], .int .i64 0]) (results_ph Tryz.results78 _ ((((B1.out.set_ 0 _).set_ 1 _).set_ 2 _).alloc _) rfl rfl) rfl ⟨by rw [HV.out.1, HV.out.2], (((HB1.out.setCell (Nat.le_refl _) _).setCell (Nat.le_refl _) _).setCell (Nat.le_refl _) _).alloc (by simp; exact HB1.out.size) _⟩
        · have e2 : ((y : Int) != 0) = true := by rw [bne_iff_ne]; omega
          have e2n : (y != 0) = true := by rw [bne_iff_ne]; exact y0
          cases bd
          · have HV := Lib.hid (HL2.out x3 y0 rfl)
            clear HL2 HL3 x3 y0
            go_enter Tryz.func78, Tryz.ntmps78
            go_wp2_with fail
            refine (imCheck_c A ws.length c _ hm).mono ?_
            rintro e w1 ⟨rfl, rfl⟩
            rw [HI.out]
            go_wp2_with fail
            refine HC.out.mono ?_
            rintro e w1 ⟨rfl, hB1⟩
            have HRW := Lib.hid (HB0.out _ hB1)
            have b1 := Bx.of_new hB1
            have hb1 := below_call hB1
            have B1 := Lib.hid b1
            have HB1 := Lib.hid hb1
            obtain ⟨q0, q1, q2, f0, f1, f2, hgl⟩ := b1.c3
            clear hB1 hb1 b1
            go_wp2_with fail
            refine (HBC.out _ HRW.out).mono ?_
            rintro e w2 ⟨rfl, hB2⟩
            rw [World.size_alloc] at hB2
            have n2 := Bx.of_new hB2
            have hb2 := below_call hB2
            have B2 := Lib.hid (B1.out.up hb2 hgl)
            have HB2 := Lib.hid (HB1.out.trans (hb2.mono HB1.out.size))
            obtain ⟨q0, q1, q2, f0, f1, f2, hgl2⟩ := B2.out.c3
            obtain ⟨n0, n1, n2', -⟩ := n2.c3
            clear hB2 hb2 n2
            go_wp2_with fail
            exact bodyPost_ret (v := .tuple #[.agg #[.int .i64 0, .int .i64 0, .int .i64 0], .int .i64 50]) (results_ph Tryz.results78 _ (((B2.out.set_ 0 _).set_ 1 _).set_ 2 _) rfl rfl) rfl ⟨by rw [HV.out.1, HV.out.2]; rfl, ((HB2.out.setCell (Nat.le_refl _) _).setCell (Nat.le_refl _) _).setCell (Nat.le_refl _) _⟩
          · have HV := Lib.hid (HL3.out (fun _ _ => rfl))
            clear HL2 HL3 x3 y0
            go_enter Tryz.func78, Tryz.ntmps78
            go_wp2_with fail
            refine (imCheck_c A ws.length c _ hm).mono ?_
            rintro e w1 ⟨rfl, rfl⟩
            rw [HI.out]
            go_wp2_with fail
            refine HC.out.mono ?_
            rintro e w1 ⟨rfl, hB1⟩
            have HRW := Lib.hid (HB0.out _ hB1)
            have b1 := Bx.of_new hB1
            have hb1 := below_call hB1
            have B1 := Lib.hid b1
            have HB1 := Lib.hid hb1
            obtain ⟨q0, q1, q2, f0, f1, f2, hgl⟩ := b1.c3
            clear hB1 hb1 b1
            go_wp2_with fail
            refine (HBC.out _ HRW.out).mono ?_
            rintro e w2 ⟨rfl, hB2⟩
            rw [World.size_alloc] at hB2
            have n2 := Bx.of_new hB2
            have hb2 := below_call hB2
            have B2 := Lib.hid (B1.out.up hb2 hgl)
            have HB2 := Lib.hid (HB1.out.trans (hb2.mono HB1.out.size))
            obtain ⟨q0, q1, q2, f0, f1, f2, hgl2⟩ := B2.out.c3
            obtain ⟨n0, n1, n2', -⟩ := n2.c3
            clear hB2 hb2 n2
            go_wp2_with fail
            exact bodyPost_ret (v := .tuple #[.agg #[.int .i64 (x : Int), .int .i64 (y : Int), .int .i64 (z : Int)], .int .i64 0]) (results_ph Tryz.results78 _ (((B2.out.set_ 0 _).set_ 1 _).set_ 2 _) rfl rfl) rfl ⟨by rw [HV.out.1, HV.out.2], ((HB2.out.setCell (Nat.le_refl _) _).setCell (Nat.le_refl _) _).setCell (Nat.le_refl _) _⟩
      · have e1 : ((x : Int) == 3) = false := by rw [beq_eq_false_iff_ne]; omega
        have e1n : (x == 3) = false := by rw [beq_eq_false_iff_ne]; exact x3
        have HV := Lib.hid (HL3.out (fun h => absurd h x3))
        clear HL2 HL3 x3
        go_enter Tryz.func78, Tryz.ntmps78
        go_wp2_with fail
        refine (imCheck_c A ws.length c _ hm).mono ?_
        rintro e w1 ⟨rfl, rfl⟩
        rw [HI.out]
        go_wp2_with fail
        refine HC.out.mono ?_
        rintro e w1 ⟨rfl, hB1⟩
        have HRW := Lib.hid (HB0.out _ hB1)
        have b1 := Bx.of_new hB1
        have hb1 := below_call hB1
        have B1 := Lib.hid b1
        have HB1 := Lib.hid hb1
        obtain ⟨q0, q1, q2, f0, f1, f2, hgl⟩ := b1.c3
        clear hB1 hb1 b1
        go_wp2_with fail
        exact bodyPost_ret (v := .tuple #[.agg #[.int .i64 (x : Int), .int .i64 (y : Int), .int .i64 (z : Int)], .int .i64 0]) (results_ph Tryz.results78 _ ((((B1.out.set_ 0 _).set_ 1 _).set_ 2 _).alloc _) rfl rfl) rfl ⟨by rw [HV.out.1, HV.out.2], (((HB1.out.setCell (Nat.le_refl _) _).setCell (Nat.le_refl _) _).setCell (Nat.le_refl _) _).alloc (by simp; exact HB1.out.size) _⟩
    · obtain ⟨r, hr⟩ : ∃ r, prErr ws = r := ⟨_, rfl⟩
      have HV := Lib.hid (HL1.out r hr (by rw [← hr]; exact hp0))
      have hv : prV ws = phV 0 0 0 := by simp [prV, hp0]
      rw [hr, hv] at HC
      rw [hr] at hp0 hval
      have hn1 : (r != 0) = true := by rw [bne_iff_ne]; exact hp0
      unfold phV at HC
      have HB0 : Hid (∀ w1 : World, Below (w.heap.size + 1) (w.alloc (.cells #[.int .i64 0, .int .i64 0, .int .i64 0] 78)) w1 → True) := Lib.hid fun _ _ => trivial
      clear hp0 hr HL1 hv
      go_enter Tryz.func78, Tryz.ntmps78
      go_wp2_with fail
      refine (imCheck_c A ws.length c _ hm).mono ?_
      rintro e w1 ⟨rfl, rfl⟩
      rw [HI.out]
      go_wp2_with fail
      refine HC.out.mono ?_
      rintro e w1 ⟨rfl, hB1⟩
      have HRW := Lib.hid (HB0.out _ hB1)
      have b1 := Bx.of_new hB1
      have hb1 := below_call hB1
      have B1 := Lib.hid b1
      have HB1 := Lib.hid hb1
      obtain ⟨q0, q1, q2, f0, f1, f2, hgl⟩ := b1.c3
      clear hB1 hb1 b1
      go_wp2_with fail
      exact bodyPost_ret (v := .tuple #[.agg #[.int .i64 0, .int .i64 0, .int .i64 0], .int .i64 r]) (results_ph Tryz.results78 _ ((((B1.out.set_ 0 _).set_ 1 _).set_ 2 _).alloc _) rfl rfl) rfl ⟨by rw [HV.out.1, HV.out.2]; rfl, (((HB1.out.setCell (Nat.le_refl _) _).setCell (Nat.le_refl _) _).setCell (Nat.le_refl _) _).alloc (by simp; exact HB1.out.size) _⟩
end Go.Proofs.YtoaepffpjoibaaaGreat

namespace Go.Proofs.YtoaepffpjoibaaaGreat
open Go.RowKit

theorem mdOk_no {ws : List Nat} {i : Nat} (h : splitOk (wd ws i) = false) : mdOk ws i = false := by unfold mdOk; rw [h, Bool.false_and]
theorem mdOk_raw {ws : List Nat} {i : Nat} (h : splitOk (wd ws i) = true) : mdOk ws i = ((rawBk (wd ws i)).kind == 1 && (!(rawBk (wd ws i)).mark && typedB ws (rawBk (wd ws i)))) := by unfold mdOk; rw [h, Bool.true_and]
theorem raw_typ {x : Nat} (h : splitOk x = true) (hk : (rawBk x).kind = 1) : (rawBk x).typ < 8 := by
  unfold splitOk at h
  simp only [Bool.and_eq_true] at h
  have := (hdOk_iff _).1 h.1
  omega

set_option maxRecDepth 100000 in
set_option maxHeartbeats 4000000 in
theorem moved_c (A : Option Addr) (ws : List Nat) (c n t : Nat) (w : World) (hn : ws.length = n) (hm : n ≤ 1000000) (h2 : 256 ≤ n) (ht : t ≤ n) (hr : RdW w w.heap.size A ws) (ho : ∀ x ∈ ws, x < 18446744073709551616) :
    Calls Tryz.prog 79 #[.slice A n c, .int .i64 (t : Int)] w fun e w' => e = .returned (.bool (mvd ws 128 t)) ∧ Below w.heap.size w w' := by
  subst hn
  have HR := Lib.hid hr
  have HLT : Hid (∀ k, wd ws k < 18446744073709551616) := Lib.hid (wd_lt ho)
  obtain ⟨b, off, rfl, hb, -⟩ := RdW.at_ hr (show 0 < ws.length by omega)
  have HCL : Hid (∀ k (h : k < ws.length) (W : World), Below w.heap.size w W → W.cell? ⟨b, off + k, none⟩ = some (.int .u64 (wd ws k : Int))) := Lib.hid fun k h W hB => by
    obtain ⟨b', off', e', -, h0⟩ := RdW.at_ (Rd.below HR.out hB) h
    cases e'
    rw [← wd_get] at h0
    exact h0
  have HTD := Lib.hid (fun xa xs xk (t : Nat) xm xn => typed_eq ws xa xs xk t xm xn)
  clear hr ho
  obtain ⟨V, hV⟩ : ∃ V, mvd ws 128 t = V := ⟨_, rfl⟩
  have HV := Lib.hid hV
  rw [hV]
  clear hV
  go_enter Tryz.func79, Tryz.ntmps79
  go_wp2_with fail
  go_loopw [5] (fun a wr => ∃ i : Nat, 128 ≤ i ∧ i ≤ 1000020 ∧ a = .int .i64 i ∧ Hid (V = mvd ws i t) ∧ Below w.heap.size w wr) (fun a _ => t - (intOf a).toNat)
  case atStart => exact ⟨128, by omega, by omega, rfl, Lib.hid HV.out.symm, Below.refl _ _⟩
  case round =>
    obtain ⟨i, hi, hi2, rfl, HI, hB⟩ := hrel
    have hz := hB.size
    by_cases hlt : i < t
    · have HNO := Lib.hid (fun h => mvd_bad (ws := ws) (t := t) hlt h)
      have HST := Lib.hid (fun h => mvd_step (ws := ws) (t := t) hlt h)
      have HMN := Lib.hid (fun h => mdOk_no (ws := ws) (i := i) h)
      have HMR := Lib.hid (fun h => mdOk_raw (ws := ws) (i := i) h)
      have HTY := Lib.hid (fun h hk => raw_typ (x := wd ws i) h hk)
      have HSP := Lib.hid (fun W => hdSplit_c (wd ws i) W (HLT.out i))
      have p0 := HCL.out i (by omega) _ hB
      have hit : (i : Int) < (t : Int) := by omega
      have hi0 : (0 : Int) ≤ (i : Int) := by omega
      have hin : (i : Int) < (ws.length : Int) := by omega
      have HSZ : Hid (szAt ws i = (rawBk (wd ws i)).size.toNat) := Lib.hid rfl
      have HRW : Hid (0 ≤ (rawBk (wd ws i)).size ∧ (rawBk (wd ws i)).size ≤ 65535 ∧ 0 ≤ (rawBk (wd ws i)).typ) := Lib.hid (by
        have h1 : wd ws i / 65536 % 65536 < 65536 := Nat.mod_lt _ (by omega)
        unfold rawBk; dsimp only; omega)
      have HS2 := Lib.hid (fun h => mdOk_sz (ws := ws) (i := i) h)
      obtain ⟨x, hx⟩ : ∃ x, wd ws i = x := ⟨_, rfl⟩
      rw [hx] at p0 HMN HMR HTY HSP HSZ HRW
      clear hx
      cases hs : splitOk x
      · rw [(spl_no hs).1, (spl_no hs).2] at HSP
        unfold noBk Bk.val at HSP
        dsimp only at HSP
        have HY := Lib.hid (HI.out.trans (HNO.out (HMN.out hs)))
        clear hs HNO HST HMN HMR HTY
        go_wp2_with fail
        refine (HSP.out _).mono ?_
        rintro e w1 ⟨rfl, hB1⟩
        have hb1 := hB.trans (hB1.mono hz)
        go_wp2_with fail
        go_ret
        exact ⟨by rw [HY.out]; rfl, hb1.alloc hb1.size _⟩
      · have HSO := Lib.hid hs
        rw [(spl_ok hs).1, (spl_ok hs).2] at HSP
        have HMQ := Lib.hid (HMR.out hs)
        have HTY2 := Lib.hid (fun hk => HTY.out hs hk)
        clear hs HMN HMR HTY
        obtain ⟨y, hy⟩ : ∃ y, rawBk x = y := ⟨_, rfl⟩
        have hya : y.at_ = 0 ∧ y.next = 0 := by rw [← hy]; exact ⟨rfl, rfl⟩
        rw [hy] at HSP HMQ HTY2 HSZ HRW
        clear hy
        obtain ⟨xa, xs, xk, xt, xm, xn⟩ := y
        dsimp only at hya HMQ HTY2 HSZ HRW
        obtain ⟨rfl, rfl⟩ := hya
        unfold Bk.val at HSP
        dsimp only at HSP
        by_cases hk1 : xk = 1
        · have ek : (xk != 1) = false := by rw [bne_eq_false_iff_eq]; exact hk1
          have ek2 : (xk == 1) = true := by rw [beq_iff_eq]; exact hk1
          have ht8 := HTY2.out hk1
          obtain ⟨r1, r2, r3⟩ := HRW.out
          obtain ⟨u, rfl⟩ := Int.eq_ofNat_of_zero_le r3
          obtain ⟨sz, rfl⟩ := Int.eq_ofNat_of_zero_le r1
          rw [Int.toNat_natCast] at HSZ
          rw [ek2, Bool.true_and] at HMQ
          clear hk1 HTY2 r1 r3
          cases xm
          · rw [Bool.not_false, Bool.true_and, HTD.out] at HMQ
            have hx1 := HLT.out (96 + 2 * u)
            have hy1 := HLT.out (96 + 2 * u + 1)
            have HC := Lib.hid (fun W => kRead_c (wd ws (96 + 2 * u)) (wd ws (96 + 2 * u + 1)) W hx1 hy1)
            have HK := Lib.hid (krErr_eq (wd ws (96 + 2 * u)) (wd ws (96 + 2 * u + 1)))
            have hmx := krOut_le (wd ws (96 + 2 * u)) (wd ws (96 + 2 * u + 1))
            have HKN := Lib.hid (krOut_knd (wd ws (96 + 2 * u)) (wd ws (96 + 2 * u + 1)))
            have HP0 := Lib.hid (HCL.out (96 + 2 * u) (by omega))
            have HP1 := Lib.hid (HCL.out (96 + 2 * u + 1) (by omega))
            obtain ⟨tx, hx2⟩ : ∃ x, wd ws (96 + 2 * u) = x := ⟨_, rfl⟩
            obtain ⟨ty, hy2⟩ : ∃ y, wd ws (96 + 2 * u + 1) = y := ⟨_, rfl⟩
            rw [hx2] at HP0 HC HK HKN hmx HMQ
            rw [hy2] at HP1 HC HK HKN hmx HMQ
            clear hx2 hy2 hx1 hy1
            have t0 : (0 : Int) ≤ (u : Int) := by omega
            have w1 : IntKind.i64.wrap (2 * (u : Int)) = 2 * (u : Int) := IntWalk.i64_in _ (by omega)
            have w2 : IntKind.i64.wrap (96 + 2 * (u : Int)) = 96 + 2 * (u : Int) := IntWalk.i64_in _ (by omega)
            have w3 : IntKind.i64.wrap (96 + 2 * (u : Int) + 1) = 96 + 2 * (u : Int) + 1 := IntWalk.i64_in _ (by omega)
            have i1 : (0 : Int) ≤ 96 + 2 * (u : Int) := by omega
            have i2 : (96 : Int) + 2 * (u : Int) < (ws.length : Int) := by omega
            have i3 : (0 : Int) ≤ 96 + 2 * (u : Int) + 1 := by omega
            have i4 : (96 : Int) + 2 * (u : Int) + 1 < (ws.length : Int) := by omega
            have n1 : ((96 : Int) + 2 * (u : Int)).toNat = 96 + 2 * u := by omega
            have n2 : ((96 : Int) + 2 * (u : Int) + 1).toNat = 96 + 2 * u + 1 := by omega
            go_wp2_with fail
            refine (HSP.out _).mono ?_
            rintro e w1 ⟨rfl, hB1⟩
            have hb1 := hB.trans (hB1.mono hz)
            have hbw := hb1.alloc hb1.size (.cells #[.int .i64 0, .int .i64 (sz : Int), .int .i64 xk, .int .i64 (u : Int), .bool false, .int .u64 ((0 : Nat) : Int)] 48)
            have bx := Bx.new w1 48 #[.int .i64 0, .int .i64 (sz : Int), .int .i64 xk, .int .i64 (u : Int), .bool false, .int .u64 ((0 : Nat) : Int)]
            have hsw : (w1.alloc (.cells #[.int .i64 0, .int .i64 (sz : Int), .int .i64 xk, .int .i64 (u : Int), .bool false, .int .u64 ((0 : Nat) : Int)] 48)).heap.size = w1.heap.size + 1 := by simp
            have hw1 := hb1.size
            simp only [Int.cast_ofNat_Int] at bx hbw hsw
            clear p0 hB1 hb1
            go_wp2_with fail
            obtain ⟨W0, hW0⟩ : ∃ W0, w1.alloc (.cells #[.int .i64 0, .int .i64 (sz : Int), .int .i64 xk, .int .i64 (u : Int), .bool false, .int .u64 0] 48) = W0 := ⟨_, rfl⟩
            rw [hW0] at bx hbw hsw ⊢
            clear hW0
            have h0 := HP0.out _ hbw
            have h1 := HP1.out _ hbw
            have b3 : W0.cell? ⟨w1.heap.size, 3, none⟩ = some (.int .i64 (u : Int)) := bx.cell 3
            have hbb : b < W0.heap.size := by omega
            have hgg : w1.heap.size < W0.heap.size := by omega
            have BX := Lib.hid bx
            have HBW := Lib.hid hbw
            clear bx hbw hsw
            go_region_held3 (fun X : World => X.cell? ⟨b, off + (96 + 2 * u), none⟩ = some (.int .u64 (tx : Int)) ∧ X.cell? ⟨b, off + (96 + 2 * u + 1), none⟩ = some (.int .u64 (ty : Int)) ∧ X.cell? ⟨w1.heap.size, 3, none⟩ = some (.int .i64 (u : Int))) (go_keep)
              (first | (go_at_call 49; refine (HC.out _).mono ?_; rintro e w5 ⟨⟨A1, c1, rfl, hrd, hcl⟩, hB5⟩; have m0 := (hB5.cell (p := ⟨b, off + (96 + 2 * u), none⟩) hbb).trans h0; have m1 := (hB5.cell (p := ⟨b, off + (96 + 2 * u + 1), none⟩) hbb).trans h1; have m2 := (hB5.cell (p := ⟨w1.heap.size, 3, none⟩) hgg).trans b3; have HRD := Lib.hid hrd; have HB5 := Lib.hid hB5; clear hrd hcl))
            have hsz := kSize_c A1 (krOut tx ty) c1 (krOut tx ty).length w5.heap.size w5 rfl (by omega) HRD.out
            have hks : kSz (krOut tx ty) = objSz (krOut tx ty).length := by simp [kSz, HKN.out]
            rw [HKN.out, hks] at hsz
            have HSZ3 := Lib.hid hsz
            have c1x : w5.cell? ⟨w1.heap.size, 1, none⟩ = some (.int .i64 (sz : Int)) := (HB5.out.cell (p := ⟨w1.heap.size, 1, none⟩) hgg).trans (BX.out.cell 1)
            have HB6 := Lib.hid (HBW.out.trans ((Below.refl _ _).drew.trans (HB5.out.mono (by show _ ≤ W0.heap.size; omega))))
            obtain ⟨m, hm2⟩ : ∃ m, (krOut tx ty).length = m := ⟨_, rfl⟩
            rw [hm2] at HMQ HSZ3 hmx ⊢
            have hob : objSz m ≤ 10 := by unfold objSz; omega
            obtain ⟨z, hz3⟩ : ∃ z, objSz m = z := ⟨_, rfl⟩
            rw [hz3] at HSZ3 HMQ hob
            have HKR : Hid (krErr tx ty = if typOk tx ty = true then 0 else 50) := Lib.hid rfl
            obtain ⟨r, hr⟩ : ∃ r, krErr tx ty = r := ⟨_, rfl⟩
            obtain ⟨ok, hok⟩ : ∃ ok, typOk tx ty = ok := ⟨_, rfl⟩
            rw [hr] at HKR HK ⊢
            rw [hok] at HKR HMQ HK
            clear hr hok hsz hks hm2 hz3 m0 m1 m2 h0 h1 b3
            cases ok
            · obtain rfl : r = 50 := HKR.out
              have HY := Lib.hid (HI.out.trans (HNO.out (by rw [HMQ.out, Bool.false_and])))
              go_wp2_with fail
              refine HSZ3.out.mono ?_
              rintro e w6 ⟨rfl, rfl⟩
              go_wp2_with fail
              go_ret
              exact ⟨by rw [HY.out]; rfl, HB6.out⟩
            · obtain rfl : r = 0 := HKR.out
              rw [Bool.true_and] at HMQ
              by_cases hzz : sz = z
              · have ez : ((sz : Int) != (z : Int)) = false := by rw [bne_eq_false_iff_eq]; omega
                have ezn : (sz != z) = false := by rw [bne_eq_false_iff_eq]; exact hzz
                have hmq : mdOk ws i = true := by rw [HMQ.out, beq_iff_eq]; omega
                have HY := Lib.hid (HI.out.trans (HST.out hmq))
                obtain ⟨s2, -, s10⟩ := HS2.out hmq
                rw [HSZ.out] at HY s2 s10
                have hwr : IntKind.i64.wrap ((i : Int) + (sz : Int)) = (i : Int) + (sz : Int) := IntWalk.i64_in _ (by omega)
                clear hzz hmq
                go_wp2_with fail
                refine HSZ3.out.mono ?_
                rintro e w6 ⟨rfl, rfl⟩
                go_wp2_with fail
                go_roundw
                case rel => exact ⟨i + sz, by omega, by omega, by rw [Int.natCast_add], HY.out, HB6.out⟩
                case measure => simp [intOf]; omega
              · have ez : ((sz : Int) != (z : Int)) = true := by rw [bne_iff_ne]; omega
                have ezn : (sz != z) = true := by rw [bne_iff_ne]; exact hzz
                have HY := Lib.hid (HI.out.trans (HNO.out (by rw [HMQ.out, beq_eq_false_iff_ne]; omega)))
                clear hzz
                go_wp2_with fail
                refine HSZ3.out.mono ?_
                rintro e w6 ⟨rfl, rfl⟩
                go_wp2_with fail
                go_ret
                exact ⟨by rw [HY.out]; rfl, HB6.out⟩
          · rw [Bool.not_true, Bool.false_and] at HMQ
            have HY := Lib.hid (HI.out.trans (HNO.out HMQ.out))
            clear HMQ HNO HST
            go_wp2_with fail
            refine (HSP.out _).mono ?_
            rintro e w1 ⟨rfl, hB1⟩
            have hb1 := hB.trans (hB1.mono hz)
            go_wp2_with fail
            go_ret
            exact ⟨by rw [HY.out]; rfl, hb1.alloc hb1.size _⟩
        · have ek : (xk != 1) = true := by rw [bne_iff_ne]; exact hk1
          have ek2 : (xk == 1) = false := by rw [beq_eq_false_iff_ne]; exact hk1
          rw [ek2, Bool.false_and] at HMQ
          have HY := Lib.hid (HI.out.trans (HNO.out HMQ.out))
          clear HMQ HNO HST hk1
          go_wp2_with fail
          refine (HSP.out _).mono ?_
          rintro e w1 ⟨rfl, hB1⟩
          have hb1 := hB.trans (hB1.mono hz)
          go_wp2_with fail
          go_ret
          exact ⟨by rw [HY.out]; rfl, hb1.alloc hb1.size _⟩
    · have HE := Lib.hid (HI.out.trans (mvd_end (ws := ws) (i := i) (t := t) (by omega)))
      have hdl : decide ((i : Int) < (t : Int)) = false := by rw [decide_eq_false_iff_not]; omega
      have hdln : decide (i < t) = false := by rw [decide_eq_false_iff_not]; exact hlt
      have HEQ : Hid (((i : Int) == (t : Int)) = (i == t)) := Lib.hid (by rw [Bool.eq_iff_iff, beq_iff_eq, beq_iff_eq]; omega)
      clear hlt
      go_wp2_with fail
      go_ret
      exact ⟨by rw [HE.out, ← HEQ.out]; rfl, hB⟩
end Go.Proofs.YtoaepffpjoibaaaGreat

namespace Go.Proofs.YtoaepffpjoibaaaGreat
open Go.RowKit

theorem ckErr_ln {ws : List Nat} {r : Int} (h : lnErr ws = r) (h0 : r ≠ 0) : ckErr ws = r := by
  subst h
  simp [ckErr, h0]
theorem lnV_no {ws : List Nat} (h0 : lnErr ws ≠ 0) : lnV ws = phV 0 0 0 := by simp [lnV, h0]
theorem ckErr_mv {ws : List Nat} (h : lnErr ws = 0) (h4 : wd ws 16 = 4) (hm : mvd ws 128 (wd ws 18) = false) : ckErr ws = 50 := by simp [ckErr, h, h4, hm]
theorem ckErr_sl {ws : List Nat} (h : lnErr ws = 0) (h4 : wd ws 16 = 4) (hm : mvd ws 128 (wd ws 18) = true) : ckErr ws = rdErr ws (wd ws 17 : Nat) (wd ws 18 : Nat) := by simp [ckErr, h, h4, hm]
theorem ckErr_fx {ws : List Nat} (h : lnErr ws = 0) (h3 : wd ws 16 = 3) : ckErr ws = rdErr ws 128 128 := by simp [ckErr, h, h3]
theorem ckErr_mk {ws : List Nat} (h : lnErr ws = 0) (h3 : wd ws 16 < 3) : ckErr ws = hpErr ws := by
  unfold ckErr
  rw [if_pos h, if_neg (by omega), if_neg (by omega)]

set_option maxRecDepth 100000 in
set_option maxHeartbeats 4000000 in
theorem cCheck_c (A : Option Addr) (ws : List Nat) (c n : Nat) (w : World) (hn : ws.length = n) (hm : n ≤ 9223372036854775807) (hc : n ≤ c) (hr : RdW w w.heap.size A ws) (ho : ∀ x ∈ ws, x < 18446744073709551616) :
    Calls Tryz.prog 58 #[.slice A n c] w fun e w' => e = .returned (.tuple #[lnV ws, .int .i64 (ckErr ws)]) ∧ Below w.heap.size w w' := by
  subst hn
  have HR := Lib.hid hr
  have HO := Lib.hid ho
  clear hr ho
  have b0 := Bx.new w 78 #[.int .i64 0, .int .i64 0, .int .i64 0]
  have HC := Lib.hid (line_c A ws c ws.length (w.alloc (.cells #[.int .i64 0, .int .i64 0, .int .i64 0] 78)) rfl hm hc ((HR.out.alloc (Nat.le_refl _) _).more (by simp)) HO.out)
  rw [World.size_alloc] at HC
  by_cases h0 : lnErr ws = 0
  · obtain ⟨h1, h2⟩ := lnErr_zero h0
    obtain ⟨hs, h3, h4⟩ := prErr_zero h1
    obtain ⟨⟨l0, l1, l2⟩, -⟩ := (lineW_iff ws).1 h3
    have hbd := fr_bd ws hs
    have hlv : lnV ws = phV (wd ws 16) (wd ws 17) (wd ws 18) := by simp [lnV, h0]
    have hp4 : wd ws 16 ≤ 4 := by rcases (phOk_iff _ _ _).1 h4 with h | h | h <;> omega
    have HMV := Lib.hid (fun W (h : RdW W W.heap.size A ws) => moved_c A ws c ws.length (wd ws 18) W rfl (by omega) (by omega) l2 h HO.out)
    have HRD := Lib.hid (fun (f s : Int) hf hs W (h : RdW W W.heap.size A ws) => fwRead_c A ws c ws.length f s W rfl hm hf hs h HO.out)
    have HMC := Lib.hid (fun W (h : RdW W W.heap.size A ws) => mCheck_c A ws c ws.length W rfl hm h HO.out)
    have HL0 := Lib.hid h0
    have HE1 := Lib.hid (fun h4 hm => ckErr_mv HL0.out h4 hm)
    have HE2 := Lib.hid (fun h4 hm => ckErr_sl HL0.out h4 hm)
    have HE3 := Lib.hid (fun h3 => ckErr_fx HL0.out h3)
    have HE4 := Lib.hid (fun h3 => ckErr_mk HL0.out h3)
    have HRU : Hid (∀ w1 : World, Below w.heap.size w w1 → RdW (w1.alloc (.cells #[.int .i64 (wd ws 16 : Int), .int .i64 (wd ws 17 : Int), .int .i64 (wd ws 18 : Int)] 78)) (w1.alloc (.cells #[.int .i64 (wd ws 16 : Int), .int .i64 (wd ws 17 : Int), .int .i64 (wd ws 18 : Int)] 78)).heap.size A ws) := Lib.hid fun w1 h2 => ((HR.out.up h2 h2.size).alloc (Nat.le_refl _) _).more (by simp)
    rw [h0, hlv] at HC
    rw [hlv]
    unfold phV at HC ⊢
    have hlen2 : ws.length ≤ 2048 := hbd.2.1
    clear h0 h1 h2 hs h3 h4 hlv b0 hbd
    obtain ⟨x, hx⟩ : ∃ x, wd ws 16 = x := ⟨_, rfl⟩
    obtain ⟨y, hy⟩ : ∃ y, wd ws 17 = y := ⟨_, rfl⟩
    obtain ⟨z, hz⟩ : ∃ z, wd ws 18 = z := ⟨_, rfl⟩
    rw [hx] at hp4
    rw [hx, hy, hz] at HC HRU ⊢
    rw [hx, hz] at HE1
    rw [hx, hy, hz] at HE2
    rw [hx] at HE3 HE4
    rw [hz] at HMV l2
    rw [hy] at l1
    clear hx hy hz l0
    by_cases x4 : x = 4
    · have e4 : ((x : Int) == 4) = true := by rw [beq_iff_eq]; omega
      have e4n : (x == 4) = true := by rw [beq_iff_eq]; exact x4
      obtain ⟨m, hm2⟩ : ∃ m, mvd ws 128 z = m := ⟨_, rfl⟩
      rw [hm2] at HMV HE1 HE2
      cases m
      · have HV := Lib.hid (HE1.out x4 rfl)
        clear HE1 HE2 HE3 HE4 x4 hm2
        go_enter Tryz.func58, Tryz.ntmps58
        go_wp2_with fail
        refine HC.out.mono ?_
        rintro e w1 ⟨rfl, hB1⟩
        have hb1 := below_call hB1
        have HRW := Lib.hid (HRU.out _ hb1)
        have b1 := Bx.of_new hB1
        have B1 := Lib.hid b1
        have HB1 := Lib.hid hb1
        obtain ⟨q0, q1, q2, f0, f1, f2, hgl⟩ := b1.c3
        clear hB1 hb1 b1
        go_wp2_with fail
        have bw := Bx.new w1 78 #[.int .i64 (x : Int), .int .i64 (y : Int), .int .i64 (z : Int)]
        have hbw := HB1.out.alloc HB1.out.size (.cells #[.int .i64 (x : Int), .int .i64 (y : Int), .int .i64 (z : Int)] 78)
        have hgw := B1.out.alloc (.cells #[.int .i64 (x : Int), .int .i64 (y : Int), .int .i64 (z : Int)] 78)
        obtain ⟨W0, hW0⟩ : ∃ W0, w1.alloc (.cells #[.int .i64 (x : Int), .int .i64 (y : Int), .int .i64 (z : Int)] 78) = W0 := ⟨_, rfl⟩
        rw [hW0] at bw hbw hgw HRW ⊢
        clear hW0 q0 q1 q2 f0 f1 f2
        have hg1 := bw.lt
        have hg0 := hgw.lt
        obtain ⟨p0, p1, p2, -⟩ := bw.c3
        have BW := Lib.hid bw
        have HBW := Lib.hid hbw
        have HGW := Lib.hid hgw
        clear bw hbw hgw
        go_quiet (fail)
        go_wp2_with fail
        refine (HMV.out _ (show RdW (W0.drewN _) (W0.drewN _).heap.size A ws from HRW.out)).mono ?_
        rintro e w2 ⟨rfl, hB2⟩
        have hb2 := (below_drewN (Below.refl W0.heap.size W0) _).trans hB2
        have BW2 := Lib.hid (BW.out.up hb2 BW.out.lt)
        have HG2 := Lib.hid (HGW.out.up hb2 HGW.out.lt)
        have HB2 := Lib.hid (HBW.out.trans (hb2.mono HBW.out.size))
        have HR2 := Lib.hid (HRW.out.up hb2 hb2.size)
        obtain ⟨p0, p1, p2, -⟩ := BW2.out.c3
        obtain ⟨q0, q1, q2, f0, f1, f2, hgl⟩ := HG2.out.c3
        clear hB2 hb2
        go_wp2_with fail
        exact bodyPost_ret (v := .tuple #[.agg #[.int .i64 (x : Int), .int .i64 (y : Int), .int .i64 (z : Int)], .int .i64 50]) (results_ph Tryz.results58 _ (((HG2.out.set_ 0 _).set_ 1 _).set_ 2 _) rfl rfl) rfl ⟨by rw [HV.out], ((HB2.out.setCell (Nat.le_refl _) _).setCell (Nat.le_refl _) _).setCell (Nat.le_refl _) _⟩
      · have HV := Lib.hid (HE2.out x4 rfl)
        have HRQ := Lib.hid (fun W h => HRD.out (y : Int) (z : Int) (by omega) (by omega) W h)
        unfold RdRes at HRQ
        obtain ⟨r, hr⟩ : ∃ r, rdErr ws (y : Int) (z : Int) = r := ⟨_, rfl⟩
        obtain ⟨q, hq⟩ : ∃ q, rdMv ws (y : Int) (z : Int) = q := ⟨_, rfl⟩
        rw [hr, hq] at HRQ
        rw [hr] at HV
        clear HE1 HE2 HE3 HE4 x4 hm2 hr hq
        go_enter Tryz.func58, Tryz.ntmps58
        go_wp2_with fail
        refine HC.out.mono ?_
        rintro e w1 ⟨rfl, hB1⟩
        have hb1 := below_call hB1
        have HRW := Lib.hid (HRU.out _ hb1)
        have b1 := Bx.of_new hB1
        have B1 := Lib.hid b1
        have HB1 := Lib.hid hb1
        obtain ⟨q0, q1, q2, f0, f1, f2, hgl⟩ := b1.c3
        clear hB1 hb1 b1
        go_wp2_with fail
        have bw := Bx.new w1 78 #[.int .i64 (x : Int), .int .i64 (y : Int), .int .i64 (z : Int)]
        have hbw := HB1.out.alloc HB1.out.size (.cells #[.int .i64 (x : Int), .int .i64 (y : Int), .int .i64 (z : Int)] 78)
        have hgw := B1.out.alloc (.cells #[.int .i64 (x : Int), .int .i64 (y : Int), .int .i64 (z : Int)] 78)
        obtain ⟨W0, hW0⟩ : ∃ W0, w1.alloc (.cells #[.int .i64 (x : Int), .int .i64 (y : Int), .int .i64 (z : Int)] 78) = W0 := ⟨_, rfl⟩
        rw [hW0] at bw hbw hgw HRW ⊢
        clear hW0 q0 q1 q2 f0 f1 f2
        have hg1 := bw.lt
        have hg0 := hgw.lt
        obtain ⟨p0, p1, p2, -⟩ := bw.c3
        have BW := Lib.hid bw
        have HBW := Lib.hid hbw
        have HGW := Lib.hid hgw
        clear bw hbw hgw
        go_quiet (fail)
        go_wp2_with fail
        refine (HMV.out _ (show RdW (W0.drewN _) (W0.drewN _).heap.size A ws from HRW.out)).mono ?_
        rintro e w2 ⟨rfl, hB2⟩
        have hb2 := (below_drewN (Below.refl W0.heap.size W0) _).trans hB2
        have BW2 := Lib.hid (BW.out.up hb2 BW.out.lt)
        have HG2 := Lib.hid (HGW.out.up hb2 HGW.out.lt)
        have HB2 := Lib.hid (HBW.out.trans (hb2.mono HBW.out.size))
        have HR2 := Lib.hid (HRW.out.up hb2 hb2.size)
        obtain ⟨p0, p1, p2, -⟩ := BW2.out.c3
        obtain ⟨q0, q1, q2, f0, f1, f2, hgl⟩ := HG2.out.c3
        clear hB2 hb2
        go_wp2_with fail
        refine (HRQ.out _ HR2.out).mono ?_
        rintro e w3 ⟨⟨A1, c1, rfl, -, -⟩, hB3⟩
        have hb3 := (Below.refl w2.heap.size w2).trans hB3
        have BW3 := Lib.hid (BW2.out.up hb3 BW2.out.lt)
        have HG3 := Lib.hid (HG2.out.up hb3 HG2.out.lt)
        have HB3 := Lib.hid (HB2.out.trans (hb3.mono HB2.out.size))
        obtain ⟨p0, p1, p2, -⟩ := BW3.out.c3
        obtain ⟨q0, q1, q2, f0, f1, f2, hgl⟩ := HG3.out.c3
        clear hB3 hb3
        by_cases hr0 : r = 0
        · subst hr0
          go_wp2_with fail
          exact bodyPost_ret (v := .tuple #[.agg #[.int .i64 (x : Int), .int .i64 (y : Int), .int .i64 (z : Int)], .int .i64 0]) (results_ph Tryz.results58 _ (((HG3.out.set_ 0 _).set_ 1 _).set_ 2 _) rfl rfl) rfl ⟨by rw [HV.out], ((HB3.out.setCell (Nat.le_refl _) _).setCell (Nat.le_refl _) _).setCell (Nat.le_refl _) _⟩
        · have hrn : (r != 0) = true := by rw [bne_iff_ne]; exact hr0
          clear hr0
          go_wp2_with fail
          exact bodyPost_ret (v := .tuple #[.agg #[.int .i64 (x : Int), .int .i64 (y : Int), .int .i64 (z : Int)], .int .i64 r]) (results_ph Tryz.results58 _ (((HG3.out.set_ 0 _).set_ 1 _).set_ 2 _) rfl rfl) rfl ⟨by rw [HV.out], ((HB3.out.setCell (Nat.le_refl _) _).setCell (Nat.le_refl _) _).setCell (Nat.le_refl _) _⟩
    · have e4 : ((x : Int) == 4) = false := by rw [beq_eq_false_iff_ne]; omega
      have e4n : (x == 4) = false := by rw [beq_eq_false_iff_ne]; exact x4
      by_cases x3 : x = 3
      · have e3 : ((x : Int) == 3) = true := by rw [beq_iff_eq]; omega
        have e3n : (x == 3) = true := by rw [beq_iff_eq]; exact x3
        have HV := Lib.hid (HE3.out x3)
        have HRQ := Lib.hid (fun W h => HRD.out 128 128 (by omega) (by omega) W h)
        unfold RdRes at HRQ
        obtain ⟨r, hr⟩ : ∃ r, rdErr ws 128 128 = r := ⟨_, rfl⟩
        obtain ⟨q, hq⟩ : ∃ q, rdMv ws 128 128 = q := ⟨_, rfl⟩
        rw [hr, hq] at HRQ
        rw [hr] at HV
        clear HE1 HE2 HE3 HE4 x4 x3 hr hq
        go_enter Tryz.func58, Tryz.ntmps58
        go_wp2_with fail
        refine HC.out.mono ?_
        rintro e w1 ⟨rfl, hB1⟩
        have hb1 := below_call hB1
        have HRW := Lib.hid (HRU.out _ hb1)
        have b1 := Bx.of_new hB1
        have B1 := Lib.hid b1
        have HB1 := Lib.hid hb1
        obtain ⟨q0, q1, q2, f0, f1, f2, hgl⟩ := b1.c3
        clear hB1 hb1 b1
        go_wp2_with fail
        have bw := Bx.new w1 78 #[.int .i64 (x : Int), .int .i64 (y : Int), .int .i64 (z : Int)]
        have hbw := HB1.out.alloc HB1.out.size (.cells #[.int .i64 (x : Int), .int .i64 (y : Int), .int .i64 (z : Int)] 78)
        have hgw := B1.out.alloc (.cells #[.int .i64 (x : Int), .int .i64 (y : Int), .int .i64 (z : Int)] 78)
        obtain ⟨W0, hW0⟩ : ∃ W0, w1.alloc (.cells #[.int .i64 (x : Int), .int .i64 (y : Int), .int .i64 (z : Int)] 78) = W0 := ⟨_, rfl⟩
        rw [hW0] at bw hbw hgw HRW ⊢
        clear hW0 q0 q1 q2 f0 f1 f2
        have hg1 := bw.lt
        have hg0 := hgw.lt
        obtain ⟨p0, p1, p2, -⟩ := bw.c3
        have BW := Lib.hid bw
        have HBW := Lib.hid hbw
        have HGW := Lib.hid hgw
        clear bw hbw hgw
        refine (HRQ.out _ HRW.out).mono ?_
        rintro e w3 ⟨⟨A1, c1, rfl, -, -⟩, hB3⟩
        have hb3 := (Below.refl W0.heap.size W0).trans hB3
        have BW3 := Lib.hid (BW.out.up hb3 BW.out.lt)
        have HG3 := Lib.hid (HGW.out.up hb3 HGW.out.lt)
        have HB3 := Lib.hid (HBW.out.trans (hb3.mono HBW.out.size))
        obtain ⟨p0, p1, p2, -⟩ := BW3.out.c3
        obtain ⟨q0, q1, q2, f0, f1, f2, hgl⟩ := HG3.out.c3
        clear hB3 hb3
        by_cases hr0 : r = 0
        · subst hr0
          go_wp2_with fail
          exact bodyPost_ret (v := .tuple #[.agg #[.int .i64 (x : Int), .int .i64 (y : Int), .int .i64 (z : Int)], .int .i64 0]) (results_ph Tryz.results58 _ (((HG3.out.set_ 0 _).set_ 1 _).set_ 2 _) rfl rfl) rfl ⟨by rw [HV.out], ((HB3.out.setCell (Nat.le_refl _) _).setCell (Nat.le_refl _) _).setCell (Nat.le_refl _) _⟩
        · have hrn : (r != 0) = true := by rw [bne_iff_ne]; exact hr0
          clear hr0
          go_wp2_with fail
          exact bodyPost_ret (v := .tuple #[.agg #[.int .i64 (x : Int), .int .i64 (y : Int), .int .i64 (z : Int)], .int .i64 r]) (results_ph Tryz.results58 _ (((HG3.out.set_ 0 _).set_ 1 _).set_ 2 _) rfl rfl) rfl ⟨by rw [HV.out], ((HB3.out.setCell (Nat.le_refl _) _).setCell (Nat.le_refl _) _).setCell (Nat.le_refl _) _⟩
      · have e3 : ((x : Int) == 3) = false := by rw [beq_eq_false_iff_ne]; omega
        have e3n : (x == 3) = false := by rw [beq_eq_false_iff_ne]; exact x3
        have HV := Lib.hid (HE4.out (by omega))
        obtain ⟨r, hr⟩ : ∃ r, hpErr ws = r := ⟨_, rfl⟩
        rw [hr] at HMC HV
        clear HE1 HE2 HE3 HE4 x4 x3 hr
        go_enter Tryz.func58, Tryz.ntmps58
        go_wp2_with fail
        refine HC.out.mono ?_
        rintro e w1 ⟨rfl, hB1⟩
        have hb1 := below_call hB1
        have HRW := Lib.hid (HRU.out _ hb1)
        have b1 := Bx.of_new hB1
        have B1 := Lib.hid b1
        have HB1 := Lib.hid hb1
        obtain ⟨q0, q1, q2, f0, f1, f2, hgl⟩ := b1.c3
        clear hB1 hb1 b1
        go_wp2_with fail
        have bw := Bx.new w1 78 #[.int .i64 (x : Int), .int .i64 (y : Int), .int .i64 (z : Int)]
        have hbw := HB1.out.alloc HB1.out.size (.cells #[.int .i64 (x : Int), .int .i64 (y : Int), .int .i64 (z : Int)] 78)
        have hgw := B1.out.alloc (.cells #[.int .i64 (x : Int), .int .i64 (y : Int), .int .i64 (z : Int)] 78)
        obtain ⟨W0, hW0⟩ : ∃ W0, w1.alloc (.cells #[.int .i64 (x : Int), .int .i64 (y : Int), .int .i64 (z : Int)] 78) = W0 := ⟨_, rfl⟩
        rw [hW0] at bw hbw hgw HRW ⊢
        clear hW0 q0 q1 q2 f0 f1 f2
        have hg1 := bw.lt
        have hg0 := hgw.lt
        obtain ⟨p0, p1, p2, -⟩ := bw.c3
        have BW := Lib.hid bw
        have HBW := Lib.hid hbw
        have HGW := Lib.hid hgw
        clear bw hbw hgw
        have hne : w1.heap.size ≠ w.heap.size := by omega
        go_region_held3 (fun X : World => X.cell? ⟨w1.heap.size, 0, none⟩ = some (.int .i64 (x : Int)) ∧ X.cell? ⟨w1.heap.size, 1, none⟩ = some (.int .i64 (y : Int)) ∧ X.cell? ⟨w1.heap.size, 2, none⟩ = some (.int .i64 (z : Int))) (first | exact ⟨(((BW3.out.far hne _).far hne _).far hne _).cell 0, (((BW3.out.far hne _).far hne _).far hne _).cell 1, (((BW3.out.far hne _).far hne _).far hne _).cell 2⟩ | go_keep)
          (first | (go_at_call 27; refine (HMC.out _ (show RdW W0.drew W0.drew.heap.size A ws from HRW.out)).mono ?_; rintro e w3 ⟨rfl, hB3⟩; have m0 := (hB3.cell (p := ⟨w1.heap.size, 0, none⟩) hg1).trans p0; have m1 := (hB3.cell (p := ⟨w1.heap.size, 1, none⟩) hg1).trans p1; have m2 := (hB3.cell (p := ⟨w1.heap.size, 2, none⟩) hg1).trans p2; have hb3 : Below W0.heap.size W0 w3 := (Below.refl W0.heap.size W0).drew.trans hB3; have HG3 := Lib.hid (HGW.out.up hb3 hg0); have BW3 := Lib.hid (BW.out.up hb3 hg1); have HB3 := Lib.hid (HBW.out.trans (hb3.mono HBW.out.size)); clear hB3 hb3; obtain ⟨q0, q1, q2, f0, f1, f2, hgl⟩ := HG3.out.c3))
        go_wp2_with fail
        exact bodyPost_ret (v := .tuple #[.agg #[.int .i64 (x : Int), .int .i64 (y : Int), .int .i64 (z : Int)], .int .i64 r]) (results_ph Tryz.results58 _ (((HG3.out.set_ 0 _).set_ 1 _).set_ 2 _) rfl rfl) rfl ⟨by rw [HV.out], ((HB3.out.setCell (Nat.le_refl _) _).setCell (Nat.le_refl _) _).setCell (Nat.le_refl _) _⟩
  · have HV := Lib.hid (fun r h => ckErr_ln (ws := ws) (r := r) h)
    rw [lnV_no h0] at HC ⊢
    obtain ⟨r, hr⟩ : ∃ r, lnErr ws = r := ⟨_, rfl⟩
    rw [hr] at HC h0
    have HV := Lib.hid (HV.out r hr h0)
    have hrn : (r != 0) = true := by rw [bne_iff_ne]; exact h0
    unfold phV at HC ⊢
    simp only [Int.cast_ofNat_Int] at HC ⊢
    have HRU : Hid (∀ w1 : World, Below w.heap.size w w1 → True) := Lib.hid fun _ _ => trivial
    clear h0 hr b0
    go_enter Tryz.func58, Tryz.ntmps58
    go_wp2_with fail
    refine HC.out.mono ?_
    rintro e w1 ⟨rfl, hB1⟩
    have hb1 := below_call hB1
    have HRW := Lib.hid (HRU.out _ hb1)
    have b1 := Bx.of_new hB1
    have B1 := Lib.hid b1
    have HB1 := Lib.hid hb1
    obtain ⟨q0, q1, q2, f0, f1, f2, hgl⟩ := b1.c3
    clear hB1 hb1 b1
    go_wp2_with fail
    exact bodyPost_ret (v := .tuple #[.agg #[.int .i64 0, .int .i64 0, .int .i64 0], .int .i64 r]) (results_ph Tryz.results58 _ ((((B1.out.set_ 0 _).set_ 1 _).set_ 2 _).alloc _) rfl rfl) rfl ⟨by rw [HV.out], (((HB1.out.setCell (Nat.le_refl _) _).setCell (Nat.le_refl _) _).setCell (Nat.le_refl _) _).alloc (by simp; exact HB1.out.size) _⟩

end Go.Proofs.YtoaepffpjoibaaaGreat

namespace Go.Proofs.YtoaepffpjoibaaaGreat
open Go.RowKit

theorem lfN_no {ws : List Nat} (h : ckErr ws ≠ 0) : lfN ws = 0 := by simp [lfN, h]
theorem lfN_few {ws : List Nat} (h : wd ws 16 < 3) : lfN ws = 0 := by
  simp [lfN, h]
theorem lfN_all {ws : List Nat} (h : ckErr ws = 0) (h2 : ¬ wd ws 16 < 3) : lfN ws = (mkdL (frOut ws (lfFrom ws))).length := by
  unfold lfN
  rw [if_pos h, if_neg h2]
theorem ck_ln {ws : List Nat} (h : ckErr ws = 0) : lnErr ws = 0 := by
  unfold ckErr at h
  split at h
  · assumption
  · exact h
theorem mkdL_count {l : List Bk} {k : Nat} (hk : k < l.length) : (mkdL (l.take (k + 1))).length = (mkdL (l.take k)).length + (if l[k].mark = true then 1 else 0) := by
  rw [mkdL_snoc hk, List.length_append]
  split <;> rfl

set_option maxRecDepth 100000 in
set_option maxHeartbeats 4000000 in
theorem cLeft_c (A : Option Addr) (ws : List Nat) (c n : Nat) (w : World) (hn : ws.length = n) (hm : n ≤ 9223372036854775807) (hc : n ≤ c) (hr : RdW w w.heap.size A ws) (ho : ∀ x ∈ ws, x < 18446744073709551616) :
    Calls Tryz.prog 37 #[.slice A n c] w fun e w' => e = .returned (.tuple #[.int .i64 (lfN ws : Nat), .int .i64 (ckErr ws)]) ∧ Below w.heap.size w w' := by
  subst hn
  have HC := Lib.hid (cCheck_c A ws c ws.length w rfl hm hc hr ho)
  have HR := Lib.hid hr
  have HO := Lib.hid ho
  clear hr ho
  by_cases h0 : ckErr ws = 0
  · obtain ⟨h1, -⟩ := lnErr_zero (ck_ln h0)
    obtain ⟨hs, h3, h4⟩ := prErr_zero h1
    obtain ⟨⟨l0, l1, l2⟩, -⟩ := (lineW_iff ws).1 h3
    have hbd := fr_bd ws hs
    have hlv : lnV ws = phV (wd ws 16) (wd ws 17) (wd ws 18) := by simp [lnV, ck_ln h0]
    have HN1 := Lib.hid (fun h => lfN_few (ws := ws) h)
    have HN2 := Lib.hid (fun h => lfN_all h0 h)
    have HFR := Lib.hid (fun W (h : RdW W W.heap.size A ws) => from_c A ws c ws.length (lfFrom ws) W rfl hm h HO.out)
    unfold FrRes at HFR
    have hlen := frOut_len ws (lfFrom ws)
    have HFD : Hid (lfFrom ws = if (wd ws 17 : Int) < 128 then 128 else (wd ws 17 : Int)) := Lib.hid rfl
    have HRU : Hid (∀ w1 : World, Below w.heap.size w w1 → RdW (w1.alloc (.cells #[.int .i64 (wd ws 16 : Int), .int .i64 (wd ws 17 : Int), .int .i64 (wd ws 18 : Int)] 78)) (w1.alloc (.cells #[.int .i64 (wd ws 16 : Int), .int .i64 (wd ws 17 : Int), .int .i64 (wd ws 18 : Int)] 78)).heap.size A ws) := Lib.hid fun w1 h2 => ((HR.out.up h2 h2.size).alloc (Nat.le_refl _) _).more (by simp)
    rw [h0, hlv] at HC
    rw [h0]
    unfold phV at HC
    have hlen2 : ws.length ≤ 2048 := hbd.2.1
    clear h0 h1 hs h3 h4 hlv hbd
    obtain ⟨x, hx⟩ : ∃ x, wd ws 16 = x := ⟨_, rfl⟩
    obtain ⟨y, hy⟩ : ∃ y, wd ws 17 = y := ⟨_, rfl⟩
    obtain ⟨z, hz⟩ : ∃ z, wd ws 18 = z := ⟨_, rfl⟩
    obtain ⟨g, hg⟩ : ∃ g, lfFrom ws = g := ⟨_, rfl⟩
    obtain ⟨l, hl⟩ : ∃ l, frOut ws g = l := ⟨_, rfl⟩
    obtain ⟨r, hr⟩ : ∃ r, frErr ws g = r := ⟨_, rfl⟩
    obtain ⟨N, hN⟩ : ∃ N, lfN ws = N := ⟨_, rfl⟩
    rw [hg, hl, hr] at HFR
    rw [hN] at HN1 HN2 ⊢
    rw [hg, hl] at HN2
    rw [hg, hl] at hlen
    rw [hg, hy] at HFD
    rw [hx, hy, hz] at HC HRU
    rw [hx] at HN1 HN2
    rw [hy] at l1
    clear hx hy hz hg hl hr hN l0 l2
    by_cases x3 : x < 3
    · have hd : decide ((x : Int) < 3) = true := by rw [decide_eq_true_iff]; omega
      have hdn : decide (x < 3) = true := by rw [decide_eq_true_iff]; exact x3
      have HV := Lib.hid (HN1.out x3)
      clear HN1 HN2 x3 HFD
      go_enter Tryz.func37, Tryz.ntmps37
      go_wp2_with fail
      refine HC.out.mono ?_
      rintro e w1 ⟨rfl, hB1⟩
      go_wp2_with fail
      go_ret2
      exact ⟨by rw [HV.out]; rfl, hB1.alloc hB1.size _⟩
    · have hd : decide ((x : Int) < 3) = false := by rw [decide_eq_false_iff_not]; omega
      have hdn : decide (x < 3) = false := by rw [decide_eq_false_iff_not]; exact x3
      have HV := Lib.hid (HN2.out x3)
      clear HN1 HN2 x3
      go_enter Tryz.func37, Tryz.ntmps37
      go_wp2_with fail
      refine HC.out.mono ?_
      rintro e w1 ⟨rfl, hB1⟩
      have HRW := Lib.hid (HRU.out _ hB1)
      have HB1 := Lib.hid hB1
      clear hB1
      go_wp2_with fail
      all_goals
        have HF2 : Hid (∀ q, g = q → ∀ W : World, RdW W W.heap.size A ws → Calls Tryz.prog 13 #[.slice A ws.length c, .int .i64 q] W fun e w' => (∃ A c, e = Ending.returned (.tuple #[.slice A l.length c, .int .i64 r]) ∧ RdB w' w'.heap.size A l ∧ l.length ≤ c) ∧ Below W.heap.size W w') := Lib.hid (fun q hq => by rw [← hq]; exact HFR.out)
        refine (HF2.out _ (by rw [HFD.out]; first | rw [if_pos (by assumption)] | rw [if_neg (by omega)]) _ HRW.out).mono ?_
        rintro e w2 ⟨⟨A1, c1, rfl, hrd, -⟩, hB2⟩
        rw [World.size_alloc] at hB2
        have HB2 := Lib.hid (HB1.out.trans ((below_call hB2).mono HB1.out.size))
        have HRD := Lib.hid hrd
        have hw2 := HB2.out.size
        clear hrd hB2 HF2
        go_wp2_with fail
        go_loopw [8, 32] (fun m i wr => ∃ k : Nat, k ≤ l.length ∧ i = .int .i64 k ∧ m = .int .i64 ((mkdL (l.take k)).length : Nat) ∧ Below w2.heap.size w2 wr) (fun _ i _ => l.length - (intOf i).toNat)
        case atStart => exact ⟨0, Nat.zero_le _, rfl, rfl, Below.refl _ _⟩
        case round =>
          obtain ⟨k, hk, rfl, rfl, hB⟩ := hrel
          have hz := hB.size
          by_cases hlt : k < l.length
          · obtain ⟨b, off, rfl, hbw, q0, q1, q2, q3, q4, q5⟩ := RdB.at_ (HRD.out.below hB) hlt
            have HSN := Lib.hid (mkdL_count hlt)
            have hml := mkdL_len (l.take k)
            rw [List.length_take] at hml
            obtain ⟨m, hm2⟩ : ∃ m, (mkdL (l.take k)).length = m := ⟨_, rfl⟩
            rw [hm2] at HSN hml ⊢
            obtain ⟨x', hx⟩ : ∃ x, l[k] = x := ⟨_, rfl⟩
            rw [hx] at q0 q1 q2 q3 q4 q5 HSN
            obtain ⟨xa, xs, xk, xt, xm, xn⟩ := x'
            dsimp only at q0 q1 q2 q3 q4 q5 HSN
            have hlm : (k : Int) < (l.length : Int) := by omega
            have hmk : (m : Int) ≤ 4611686018427387904 := by omega
            clear hx hm2
            cases xm
            · have HS2 := Lib.hid (HSN.out.trans (Nat.add_zero m))
              clear HSN
              go_wp2_with fail
              go_roundw
              case rel => exact ⟨k + 1, by omega, by go_num, by rw [HS2.out], hB.alloc hz _⟩
              case measure => simp [intOf]; omega
            · have HS2 := Lib.hid (show (mkdL (l.take (k + 1))).length = m + 1 from HSN.out)
              clear HSN
              go_wp2_with fail
              go_roundw
              case rel => exact ⟨k + 1, by omega, by go_num, by rw [HS2.out]; go_num, hB.alloc hz _⟩
              case measure => simp [intOf]; omega
          · rw [List.take_of_length_le (by omega)]
            rw [← HV.out]
            go_wp2_with fail
            go_ret2
            exact ⟨rfl, HB2.out.trans (hB.mono hw2)⟩
  · have HV := Lib.hid (lfN_no h0)
    have hv : ∃ x y z : Nat, lnV ws = phV x y z := by
      unfold lnV
      split
      · exact ⟨_, _, _, rfl⟩
      · exact ⟨0, 0, 0, rfl⟩
    obtain ⟨x, y, z, hv⟩ := hv
    rw [hv] at HC
    unfold phV at HC
    obtain ⟨r, hr2⟩ : ∃ r, ckErr ws = r := ⟨_, rfl⟩
    rw [hr2] at HC h0 ⊢
    have hrn : (r != 0) = true := by rw [bne_iff_ne]; exact h0
    clear hr2 hv h0
    go_enter Tryz.func37, Tryz.ntmps37
    go_wp2_with fail
    refine HC.out.mono ?_
    rintro e w1 ⟨rfl, hB1⟩
    go_wp2_with fail
    go_ret2
    exact ⟨by rw [HV.out]; rfl, hB1.alloc hB1.size _⟩
end Go.Proofs.YtoaepffpjoibaaaGreat
