/- Texts laid together: FinP RsP RsQ RsE RsPh. -/
import Derived.Test.YtoaepffpjoibaaaGreatKStg1
import Derived.Test.YtoaepffpjoibaaaGreatKImage
import Derived.Test.YtoaepffpjoibaaaGreatKStg3
import Derived.Test.YtoaepffpjoibaaaGreatKStg2
namespace Go.Proofs.YtoaepffpjoibaaaGreat

def enErr (ws : List Nat) : Int := if ckErr ws = 0 then (if wd ws 16 = 4 ∧ lfN ws = 0 then 0 else 6) else ckErr ws
def enTo (ws : List Nat) : Nat := if enErr ws = 0 then wd ws 18 else 0
theorem enErr_ck {ws : List Nat} {r : Int} (h : ckErr ws = r) (h0 : r ≠ 0) : enErr ws = r := by subst h; simp [enErr, h0]
theorem enErr_no {ws : List Nat} (h : ckErr ws = 0) (h2 : ¬ (wd ws 16 = 4 ∧ lfN ws = 0)) : enErr ws = 6 := by
  unfold enErr
  rw [if_pos h, if_neg h2]
theorem enErr_ok {ws : List Nat} (h : ckErr ws = 0) (h2 : wd ws 16 = 4) (h3 : lfN ws = 0) : enErr ws = 0 ∧ enTo ws = wd ws 18 := by simp [enTo, enErr, h, h2, h3]
theorem enErr_zero {ws : List Nat} (h : enErr ws = 0) : ckErr ws = 0 ∧ wd ws 16 = 4 ∧ lfN ws = 0 := by
  unfold enErr at h
  split at h
  · split at h
    · rename_i h1 h2; exact ⟨h1, h2⟩
    · simp at h
  · rename_i h1; exact absurd h h1
/-- What the end of a compaction finds. -/
theorem en_facts {ws : List Nat} (h : enErr ws = 0) : sizeOk (ws.length : Int) = true ∧ lnErr ws = 0 ∧ lineW ws = true ∧ wd ws 16 = 4 ∧ inHp (wd ws 18) = true ∧ wd ws 18 ≤ ws.length ∧ mvd ws 128 (wd ws 18) = true ∧ enTo ws = wd ws 18 := by
  obtain ⟨h1, h2, h3⟩ := enErr_zero h
  have h4 := ck_ln h1
  obtain ⟨h5, -⟩ := lnErr_zero h4
  obtain ⟨hs, h6, h7⟩ := prErr_zero h5
  obtain ⟨⟨l0, l1, l2⟩, -⟩ := (lineW_iff ws).1 h6
  rcases (phOk_iff _ _ _).1 h7 with ⟨-, i1, i2, i3⟩ | ⟨p3, -⟩ | ⟨p0, -⟩
  · refine ⟨hs, h4, h6, h2, i2, l2, ?_, by simp [enTo, h]⟩
    unfold ckErr at h1
    rw [if_pos h4, if_pos h2] at h1
    split at h1
    · assumption
    · simp at h1
  · omega
  · omega
def chOut (ws : List Nat) : List En := if enErr ws = 0 then phE 0 0 0 ++ (if enTo ws = ws.length then [] else [⟨(enTo ws : Int), headW (freeBk (ws.length - enTo ws))⟩, ⟨((enTo ws + 1 : Nat) : Int), 0⟩]) else []
def frN (ws : List Nat) : Nat := if enErr ws = 0 then ws.length - enTo ws else 0
theorem free_ok {n : Nat} (h2 : 2 ≤ n) (he : n % 2 = 0) (h : n ≤ 1920) : hdOk (freeBk n) = true := by
  rw [hdOk_iff]
  exact ⟨⟨by show (2 : Int) ≤ (n : Int); omega, by show (n : Int) % 2 = 0; omega⟩, .inr ⟨rfl, rfl, rfl, by show (n : Int) ≤ 1920; omega⟩⟩
theorem free_hd {ws : List Nat} (h : enErr ws = 0) (hne : enTo ws ≠ ws.length) : hdOk (freeBk (ws.length - enTo ws)) = true := by
  obtain ⟨hs, -, -, -, h5, h6, -, h8⟩ := en_facts h
  have hb := (sizeOk_iff _).1 hs
  have hi := (inHp_iff _).1 h5
  rw [h8] at hne ⊢
  exact free_ok (by omega) (by omega) (by omega)

/-! The view behind the last change -/
def endOf' : List Bk → Int → Int
  | [], s => s
  | b :: l, s => endOf' l (s + b.size)
theorem mvd_objs {ws : List Nat} {t : Nat} : ∀ n i, t - i ≤ n → mvd ws i t = true → ∃ os : List Bk, (∀ b ∈ os, b.kind = 1 ∧ b.mark = false ∧ typedB ws b = true ∧ 2 ≤ b.size ∧ b.size ≤ 10 ∧ 0 ≤ b.typ ∧ b.typ < 8) ∧ endOf' os i = (t : Int) ∧ os.length ≤ t - i ∧
    ∀ xs l, (∀ j, i ≤ j → j < t → wd xs j = wd ws j) → t ≤ xs.length → blocks xs t = some l → blocks xs i = some (os ++ l) := by
  intro n
  induction n with
  | zero =>
    intro i h hm
    rw [mvd_end (by omega), beq_iff_eq] at hm
    subst hm
    exact ⟨[], (fun b hb => by cases hb), rfl, Nat.zero_le _, fun xs l _ _ hl => hl⟩
  | succ n ih =>
    intro i h hm
    by_cases hi : t ≤ i
    · rw [mvd_end hi, beq_iff_eq] at hm
      subst hm
      exact ⟨[], (fun b hb => by cases hb), rfl, Nat.zero_le _, fun xs l _ _ hl => hl⟩
    · cases hmd : mdOk ws i with
      | false => rw [mvd_bad (by omega) hmd] at hm; cases hm
      | true =>
        rw [mvd_step (by omega) hmd] at hm
        have hsz := mdOk_sz hmd
        have hle : i + szAt ws i ≤ t := by
          rcases Nat.lt_or_ge t (i + szAt ws i) with h1 | h1
          · rw [mvd_end (by omega), beq_iff_eq] at hm; omega
          · exact h1
        obtain ⟨os, o1, o2, o3, o4⟩ := ih (i + szAt ws i) (by omega) hm
        unfold mdOk at hmd
        simp only [Bool.and_eq_true, beq_iff_eq, Bool.not_eq_true'] at hmd
        obtain ⟨hsp, hk, hmk, hty⟩ := hmd
        have hhd := (hdOk_iff _).1 (show hdOk (rawBk (wd ws i)) = true by unfold splitOk at hsp; simp only [Bool.and_eq_true] at hsp; exact hsp.1)
        refine ⟨bkAt ws i :: os, fun b hb => ?_, ?_, by rw [List.length_cons]; omega, fun xs l hw hxl hl => ?_⟩
        · rcases List.mem_cons.1 hb with rfl | hb
          · have e : (bkAt ws i).size = ((szAt ws i : Nat) : Int) := rfl
            have e2 : (bkAt ws i).typ = (rawBk (wd ws i)).typ := rfl
            refine ⟨hk, hmk, ?_, by omega, by omega, by omega, by omega⟩
            unfold typedB at hty ⊢
            exact hty
          · exact o1 b hb
        · show endOf' os (i + (szAt ws i : Nat)) = _
          rw [← o2]
          congr 1
        · have ex : wd xs i = wd ws i := hw i (Nat.le_refl _) (by omega)
          have ex1 : wd xs (i + 1) = wd ws (i + 1) := hw (i + 1) (by omega) (by omega)
          have e1 : szAt xs i = szAt ws i := by unfold szAt; rw [ex]
          have e2 : bkAt xs i = bkAt ws i := by unfold bkAt; rw [ex, ex1]
          have hst : stands xs i = true := by
            unfold stands
            rw [ex, hsp, Bool.true_and, decide_eq_true_eq]
            have : (rawBk (wd ws i)).size = ((szAt ws i : Nat) : Int) := rfl
            omega
          rw [blocks_step (by omega) hst, e1, e2, o4 xs l (fun j h1 h2 => hw j (by omega) h2) hxl hl]
          rfl
/-- A view with the last change put into it. -/
theorem put_ch {ws : List Nat} (h : enErr ws = 0) : ∀ j, wd (putE ws (chOut ws)) j = if j = 16 ∨ j = 17 ∨ j = 18 then 0 else if enTo ws < ws.length ∧ j = enTo ws then headW (freeBk (ws.length - enTo ws)) else if enTo ws < ws.length ∧ j = enTo ws + 1 then 0 else wd ws j := by
  obtain ⟨hs, -, -, -, h5, h6, -, h8⟩ := en_facts h
  have hb := (sizeOk_iff _).1 hs
  have hi := (inHp_iff _).1 h5
  rw [← h8] at hi h6
  intro j
  have hw3 : ∀ j, wd (putE ws (phE 0 0 0)) j = if j = 16 ∨ j = 17 ∨ j = 18 then 0 else wd ws j := by
    intro j
    unfold phE
    rw [show (16 : Int) = ((16 : Nat) : Int) from rfl, show (17 : Int) = ((17 : Nat) : Int) from rfl, show (18 : Int) = ((18 : Nat) : Int) from rfl]
    rw [putE_in 16 _ _ (by omega), putE_in 17 _ _ (by rw [List.length_set]; omega), putE_in 18 _ _ (by rw [List.length_set, List.length_set]; omega)]
    show wd (((ws.set 16 0).set 17 0).set 18 0) j = _
    rw [wd_set, wd_set, wd_set]
    simp only [List.length_set]
    by_cases h18 : j = 18
    · subst h18; rw [if_pos ⟨rfl, by omega⟩, if_pos (by omega)]
    · rw [if_neg (by omega)]
      by_cases h17 : j = 17
      · subst h17; rw [if_pos ⟨rfl, by omega⟩, if_pos (by omega)]
      · rw [if_neg (by omega)]
        by_cases h16 : j = 16
        · subst h16; rw [if_pos ⟨rfl, by omega⟩, if_pos (by omega)]
        · rw [if_neg (by omega), if_neg (by omega)]
  have hch : chOut ws = phE 0 0 0 ++ (if enTo ws = ws.length then [] else [⟨(enTo ws : Int), headW (freeBk (ws.length - enTo ws))⟩, ⟨((enTo ws + 1 : Nat) : Int), 0⟩]) := by simp [chOut, h]
  rw [hch, putE_append]
  have hl3 : (putE ws (phE 0 0 0)).length = ws.length := putE_len _ _
  by_cases hne : enTo ws = ws.length
  · rw [if_pos hne]
    show wd (putE ws (phE 0 0 0)) j = _
    rw [hw3]
    by_cases hq : j = 16 ∨ j = 17 ∨ j = 18
    · rw [if_pos hq, if_pos hq]
    · rw [if_neg hq, if_neg hq, if_neg (fun h => absurd h.1 (by omega)), if_neg (fun h => absurd h.1 (by omega))]
  · rw [if_neg hne, putE_in _ _ _ (by rw [hl3]; omega), putE_in _ _ _ (by rw [List.length_set, hl3]; omega)]
    show wd (((putE ws (phE 0 0 0)).set _ _).set _ _) j = _
    rw [wd_set, wd_set, hw3, List.length_set, hl3]
    by_cases h1 : j = enTo ws + 1
    · subst h1
      rw [if_pos ⟨rfl, by omega⟩, if_neg (by omega), if_neg (by omega), if_pos ⟨by omega, rfl⟩]
    · rw [if_neg (by omega)]
      by_cases h2 : j = enTo ws
      · subst h2
        rw [if_pos ⟨rfl, by omega⟩, if_neg (by omega), if_pos ⟨by omega, rfl⟩]
      · rw [if_neg (by omega)]
        by_cases hq : j = 16 ∨ j = 17 ∨ j = 18
        · rw [if_pos hq, if_pos hq]
        · rw [if_neg hq, if_neg hq, if_neg (fun h => h2 h.2), if_neg (fun h => h1 h.2)]
def finB (ws : List Nat) : List Bk := if enTo ws = ws.length then [] else [{ freeBk (ws.length - enTo ws) with at_ := (enTo ws : Int) }]
/-- FinishOne: what is found behind the last change. -/
theorem fin_plain {ws : List Nat} (h : enErr ws = 0) : ∃ os : List Bk, (∀ b ∈ os, b.kind = 1 ∧ b.mark = false ∧ 2 ≤ b.size ∧ b.size ≤ 10) ∧ endOf' os 128 = (enTo ws : Int) ∧ os.length ≤ 2048 ∧ hpErr (putE ws (chOut ws)) = 0 ∧
    hpOut (putE ws (chOut ws)) = os ++ finB ws ∧ blocks (putE ws (chOut ws)) 128 = some (os ++ finB ws) ∧ lnErr (putE ws (chOut ws)) = 0 ∧ lnV (putE ws (chOut ws)) = phV 0 0 0 ∧ mkdL (os ++ finB ws) = [] ∧ (putE ws (chOut ws)).length = ws.length := by
  obtain ⟨hs, -, hlw, -, h5, h6, hmv, h8⟩ := en_facts h
  have hb := (sizeOk_iff _).1 hs
  have hi := (inHp_iff _).1 h5
  have hput := put_ch h
  have hxl : (putE ws (chOut ws)).length = ws.length := putE_len _ _
  have hfh := free_hd h
  rw [← h8] at h6 hi hmv
  obtain ⟨os, o1, o2, o3, o4⟩ := mvd_objs _ 128 (Nat.le_refl _) hmv
  generalize putE ws (chOut ws) = x at hput hxl ⊢
  have hbt : blocks x (enTo ws) = some (finB ws) := by
    unfold finB
    by_cases hne : enTo ws = ws.length
    · rw [if_pos hne, blocks_end (by omega)]
    · rw [if_neg hne]
      have hfr := hfh hne
      have e0 : wd x (enTo ws) = headW (freeBk (ws.length - enTo ws)) := by
        rw [hput, if_neg (by omega), if_pos ⟨by omega, rfl⟩]
      have e1 : wd x (enTo ws + 1) = 0 := by
        rw [hput, if_neg (by omega), if_neg (fun h => absurd h.2 (by omega)), if_pos ⟨by omega, rfl⟩]
      have hraw := raw_head hfr
      have hsz : szAt x (enTo ws) = ws.length - enTo ws := by
        have e2 : (rawBk (wd x (enTo ws))).size = ((szAt x (enTo ws) : Nat) : Int) := rfl
        rw [e0, hraw] at e2
        have e3 : (freeBk (ws.length - enTo ws)).size = ((ws.length - enTo ws : Nat) : Int) := rfl
        dsimp only at e2
        omega
      have hst : stands x (enTo ws) = true := by
        unfold stands
        rw [e0, split_head hfr, Bool.true_and, decide_eq_true_eq, hraw]
        show ((ws.length - enTo ws : Nat) : Int) ≤ _
        omega
      rw [blocks_step (by omega) hst, hsz, blocks_end (by omega)]
      have hbk : bkAt x (enTo ws) = { freeBk (ws.length - enTo ws) with at_ := (enTo ws : Int) } := by
        unfold bkAt
        rw [e0, hraw, e1]; rfl
      rw [hbk]; rfl
  have hb128 := o4 x (finB ws) (fun j h1 h2 => by rw [hput, if_neg (by omega), if_neg (fun h => absurd h.2 (by omega)), if_neg (fun h => absurd h.2 (by omega))]) (by omega) hbt
  have hfit : (os ++ finB ws).all (fitB x) = true := by
    rw [List.all_eq_true]
    intro b hbm
    rcases List.mem_append.1 hbm with hbm | hbm
    · obtain ⟨g1, g2, g3, g4, g5, g6, g7⟩ := o1 b hbm
      unfold fitB typedB
      unfold typedB at g3
      have hty : tyA b + 1 < 128 := by unfold tyA; omega
      rw [hput (tyA b), hput (tyA b + 1)]
      have hty2 : 96 ≤ tyA b := by unfold tyA; omega
      rw [if_neg (by omega), if_neg (fun h => absurd h.2 (by omega)), if_neg (fun h => absurd h.2 (by omega)), if_neg (by omega), if_neg (fun h => absurd h.2 (by omega)), if_neg (fun h => absurd h.2 (by omega)), g3, Bool.or_true]
    · unfold finB at hbm
      split at hbm
      · cases hbm
      · rw [List.mem_singleton] at hbm
        subst hbm
        rfl
  obtain ⟨p1, p2⟩ := hpErr_ok (by rw [hxl]; exact hs) hb128 hfit
  obtain ⟨-, w19, w20, w21, w22, w23⟩ := (lineW_iff ws).1 hlw
  have hx : ∀ j, j < 24 → (j = 16 ∨ j = 17 ∨ j = 18) ∧ wd x j = 0 ∨ wd x j = wd ws j := by
    intro j hj
    rw [hput]
    by_cases hq : j = 16 ∨ j = 17 ∨ j = 18
    · left; exact ⟨hq, by rw [if_pos hq]⟩
    · right; rw [if_neg hq, if_neg (fun h => absurd h.2 (by omega)), if_neg (fun h => absurd h.2 (by omega))]
  have x16 : wd x 16 = 0 := by rw [hput, if_pos (by omega)]
  have x17 : wd x 17 = 0 := by rw [hput, if_pos (by omega)]
  have x18 : wd x 18 = 0 := by rw [hput, if_pos (by omega)]
  have x19 : wd x 19 = 0 := by rcases hx 19 (by omega) with h | h; exact h.2; rw [h]; exact w19
  have x20 : wd x 20 = 0 := by rcases hx 20 (by omega) with h | h; exact h.2; rw [h]; exact w20
  have x21 : wd x 21 = 0 := by rcases hx 21 (by omega) with h | h; exact h.2; rw [h]; exact w21
  have x22 : wd x 22 = 0 := by rcases hx 22 (by omega) with h | h; exact h.2; rw [h]; exact w22
  have x23 : wd x 23 = 0 := by rcases hx 23 (by omega) with h | h; exact h.2; rw [h]; exact w23
  have hlx : lineW x = true := by rw [lineW_iff, x16, x17, x18]; exact ⟨⟨by omega, by omega, by omega⟩, x19, x20, x21, x22, x23⟩
  have hpr := (prErr_ok (ws := x) (by rw [hxl]; exact hs) (by rw [hlx, x16, x17, x18]; rfl)).1
  have hln : lnErr x = 0 := by
    unfold lnErr
    rw [if_pos hpr, if_neg (by rw [x16]; omega)]
  refine ⟨os, fun b hbm => ?_, o2, by omega, p1, p2, hb128, hln, by simp [lnV, hln, x16, x17, x18], ?_, hxl⟩
  · obtain ⟨g1, g2, g3, g4, g5, g6, g7⟩ := o1 b hbm
    exact ⟨g1, g2, g4, g5⟩
  · unfold mkdL
    rw [List.map_eq_nil_iff, List.filter_eq_nil_iff]
    intro b hbm
    rcases List.mem_append.1 hbm with hbm | hbm
    · rw [(o1 b hbm).2.1]; simp
    · unfold finB at hbm
      split at hbm
      · cases hbm
      · rw [List.mem_singleton] at hbm
        subst hbm
        simp [freeBk]
end Go.Proofs.YtoaepffpjoibaaaGreat

namespace Go.Proofs.YtoaepffpjoibaaaGreat
open Go.RowKit

/-- What comes next: the error, whether it is done, the change. -/
noncomputable def rsNx (x : List Nat) : Int × Bool × List En := if (sgOne x).1 = 6 then (if wd x 16 = 0 then (0, true, []) else (enErr x, false, chOut x)) else ((sgOne x).1, false, (sgOne x).2)
theorem rdErr_ne6 (ws : List Nat) (f s : Int) : rdErr ws f s ≠ 6 := by
  unfold rdErr heapErr
  split
  · split
    · decide
    · split
      · decide
      · split <;> decide
  · decide
theorem ckErr_ne6 (x : List Nat) : ckErr x ≠ 6 := by
  unfold ckErr
  split
  · split
    · split
      · exact rdErr_ne6 _ _ _
      · decide
    · split
      · exact rdErr_ne6 _ _ _
      · rcases hpErr_val x with h | h | h <;> rw [h] <;> decide
  · rcases lnErr_val x with h | h | h <;> rw [h] <;> decide
theorem six_ck {x : List Nat} (h : (sgOne x).1 = 6) : ckErr x = 0 := by
  by_cases h0 : ckErr x = 0
  · exact h0
  · unfold sgOne at h
    rw [if_neg h0] at h
    exact absurd h (ckErr_ne6 x)
theorem rs_ck {x : List Nat} (h : (rsNx x).1 = 0) : ckErr x = 0 := by
  by_cases h6 : (sgOne x).1 = 6
  · exact six_ck h6
  · unfold rsNx at h
    rw [if_neg h6] at h
    by_cases h0 : ckErr x = 0
    · exact h0
    · unfold sgOne at h
      rw [if_neg h0] at h
      exact absurd h h0

/-! How much is left -/
theorem hp_half (x : List Nat) (h : hpErr x = 0) : 2 * (hpOut x).length + 128 ≤ x.length := by
  obtain ⟨h1, l, h2, -, h4⟩ := hpErr_zero h
  have hb := (sizeOk_iff _).1 h1
  rw [h4]
  exact (blocks_chain (by omega) _ _ h2 (by omega) (by omega) (by omega)).1
theorem filter_lt2 {α : Type} {p q : α → Bool} : ∀ {l : List α}, (∀ b ∈ l, q b = true → p b = true) → ∀ {b1 b2 : α}, b1 ∈ l → b2 ∈ l → b1 ≠ b2 → p b1 = true → q b1 = false → p b2 = true → q b2 = false → (l.filter q).length + 2 ≤ (l.filter p).length := by
  intro l
  induction l with
  | nil => intro _ b1 b2 h; exact absurd h (by simp)
  | cons c l ih =>
    intro h b1 b2 m1 m2 hne p1 q1 p2 q2
    have hl := fun x hx => h x (List.mem_cons_of_mem _ hx)
    rw [List.filter_cons, List.filter_cons]
    rcases List.mem_cons.1 m1 with rfl | n1
    · rw [p1, q1]
      have m2' : b2 ∈ l := by
        rcases List.mem_cons.1 m2 with e | n2
        · exact absurd e.symm hne
        · exact n2
      have := (filter_lt hl).2 ⟨b2, m2', p2, q2⟩
      simp only [if_true, if_false, Bool.false_eq_true, List.length_cons]; omega
    · rcases List.mem_cons.1 m2 with rfl | n2
      · rw [p2, q2]
        have := (filter_lt hl).2 ⟨b1, n1, p1, q1⟩
        simp only [if_true, if_false, Bool.false_eq_true, List.length_cons]; omega
      · have := ih hl n1 n2 hne p1 q1 p2 q2
        have hc := h c (by simp)
        cases hq : q c with
        | true => rw [hc hq]; simp only [if_true, List.length_cons]; omega
        | false => cases hp : p c <;> simp only [if_true, if_false, Bool.false_eq_true, List.length_cons] <;> omega
theorem inc_uniqR {l : List Bk} (h : l.Pairwise (fun a b => a.at_ < b.at_)) {a b : Bk} (ha : a ∈ l) (hb : b ∈ l) (e : a.at_ = b.at_) : a = b := by
  obtain ⟨i, hi, rfl⟩ := List.getElem_of_mem ha
  obtain ⟨j, hj, rfl⟩ := List.getElem_of_mem hb
  rw [List.pairwise_iff_getElem] at h
  rcases Nat.lt_trichotomy i j with h1 | h1 | h1
  · have := h i j hi hj h1; omega
  · subst h1; rfl
  · have := h j i hj hi h1; omega
/-- The wanted marks that are left behind a change of 31: two fewer at least. -/
theorem mark_dec2 {ws : List Nat} (h : rcErr ws = 0) (h32 : 32 ≤ (wtOut ws).length) : (wtOut (putE ws ((wtOut ws).take 31))).length + 2 ≤ (wtOut ws).length := by
  have hsub : ((wtOut ws).take 31).Sublist (wtOut ws) := List.take_sublist _ _
  have hinc : ((wtOut ws).take 31).Pairwise (fun a b => a.a < b.a) := (wtOut_inc h).sublist hsub
  obtain ⟨g1, g2, g3, g4, g5⟩ := (puts_rm_sub h hsub).same h
  rw [wtOut_eq g1, g3, g5, List.length_map, wtOut_eq h, List.length_map]
  rw [← wtOut_eq h]
  obtain ⟨x, hx⟩ : ∃ x, putE ws ((wtOut ws).take 31) = x := ⟨_, rfl⟩
  rw [hx]
  unfold wntL
  rw [List.filter_map, List.length_map]
  have hrow := hp_row (rcErr_zero h).1
  have hmk : ∀ b ∈ hpOut ws, (∀ e ∈ (wtOut ws).take 31, e.a ≠ b.at_) → (mkB x b).mark = b.mark := by
    intro b hb hno
    obtain ⟨a, rfl, a1, a2, a3, a4⟩ := hrow.1 b hb
    show mkAt x (bkAt ws a).at_.toNat = _
    rw [bkAt_at, Int.toNat_natCast]
    unfold mkAt
    rw [← hx, putE_wd _ _ _ (fun e he => by have := hno e he; rwa [bkAt_at] at this)]
    rfl
  have hone : ∀ i, i < 31 → ∃ b ∈ hpOut ws, b.at_ = ((wtOut ws)[i]?.map En.a).getD 0 ∧ (!keepB (seenL ws) b) = true ∧ (!(keepB (seenL ws) (mkB x b))) = false := by
    intro i hi
    have hpos : i < ((wtOut ws).take 31).length := by rw [List.length_take]; omega
    have he := List.getElem_mem hpos
    have hge : (wtOut ws)[i]? = some ((wtOut ws).take 31)[i] := by
      rw [List.getElem_take, List.getElem?_eq_getElem (by omega)]
    obtain ⟨a, hm, b1, b2, b3, g1', g2', e1, hk'⟩ := wtOut_mem h (hsub.subset he)
    refine ⟨bkAt ws a, hm, by rw [hge, e1, bkAt_at]; rfl, by rw [hk']; rfl, ?_⟩
    have hit := putE_hit _ ws hinc _ he (by rw [e1]; dsimp only; omega) (by rw [e1]; dsimp only; omega)
    rw [e1] at hit
    dsimp only at hit
    rw [Int.toNat_natCast, hx] at hit
    unfold keepB
    show (!((mkB x (bkAt ws a)).mark == ((seenL ws)[(bkAt ws a).at_.toNat]?.getD false))) = false
    have hm2 : (mkB x (bkAt ws a)).mark = seenAt ws (bkAt ws a) := by
      show mkAt x (bkAt ws a).at_.toNat = _
      rw [bkAt_at, Int.toNat_natCast]
      unfold mkAt
      rw [hit, (mk_word g1' g2' _).2.1]
    rw [hm2]
    unfold seenAt
    simp
  obtain ⟨c0, m0, e0, p0, q0⟩ := hone 0 (by omega)
  obtain ⟨c1, m1, e1, p1, q1⟩ := hone 1 (by omega)
  have hne : c0 ≠ c1 := by
    rintro rfl
    have h2 := wtOut_inc h
    rw [List.pairwise_iff_getElem] at h2
    have := h2 0 1 (by omega) (by omega) (by omega)
    rw [List.getElem?_eq_getElem (by omega)] at e0 e1
    simp only [Option.map_some, Option.getD_some] at e0 e1
    omega
  refine filter_lt2 (p := fun b => !keepB (seenL ws) b) (q := (fun b => !keepB (seenL ws) b) ∘ mkB x) (fun b hb hq => ?_) m0 m1 hne p0 q0 p1 q1
  dsimp only [Function.comp_apply] at hq ⊢
  cases hk : keepB (seenL ws) b with
  | false => rfl
  | true =>
    exfalso
    have hm := hmk b hb (fun e he h2 => by
      obtain ⟨a, hm, b1, b2, b3, g1', g2', rfl, hk'⟩ := wtOut_mem h (hsub.subset he)
      dsimp only at h2
      have : bkAt ws a = b := inc_uniqR hrow.2 hm hb (by rw [bkAt_at]; exact h2)
      rw [this, hk] at hk'; cases hk')
    unfold keepB at hk hq
    rw [hm] at hq
    change (!(b.mark == ((seenL ws)[b.at_.toNat]?.getD false))) = true at hq
    rw [hk] at hq
    exact absurd hq (by decide)
/-- The same for next-words: as many fewer as have their value. -/
theorem wantE_cnt {xs : List Nat} : ∀ {l : List Bk} {s : Int}, l.Pairwise (fun a b => a.at_ < b.at_) → (∀ b ∈ l, 0 ≤ b.at_) → (∀ b ∈ l, b.kind = 1 → wd xs (b.at_.toNat + 1) = b.next ∨ ∃ e ∈ wantE l s, e.a = b.at_ + 1 ∧ wd xs (b.at_.toNat + 1) = e.v) →
    (wantE (l.map (nxB xs)) s).length + ((wantE l s).filter (fun e => wd xs e.a.toNat == e.v)).length ≤ (wantE l s).length := by
  intro l
  induction l with
  | nil => intro s _ _ _; exact Nat.le_refl _
  | cons b l ih =>
    intro s hp h0 hq
    rw [List.pairwise_cons] at hp
    have htail : ∀ c ∈ l, c.kind = 1 → wd xs (c.at_.toNat + 1) = c.next ∨ ∃ e ∈ wantE l (nextS b s), e.a = c.at_ + 1 ∧ wd xs (c.at_.toNat + 1) = e.v := by
      intro c hc hk
      rcases hq c (by simp [hc]) hk with h1 | ⟨e, he, h2, h3⟩
      · exact .inl h1
      · simp only [wantE, List.mem_append] at he
        rcases he with he | he
        · split at he
          · rw [List.mem_singleton] at he
            subst he
            dsimp only at h2
            have := hp.1 c hc
            omega
          · simp at he
        · exact .inr ⟨e, he, h2, h3⟩
    have i1 := ih (s := nextS b s) hp.2 (fun c hc => h0 c (by simp [hc])) htail
    have hb0 := h0 b (by simp)
    rw [List.map_cons]
    simp only [wantE]
    have e1 : nextS (nxB xs b) s = nextS b s := rfl
    have e2 : wantN (nxB xs b) s = wantN b s := rfl
    rw [e1, e2, List.filter_append, List.length_append, List.length_append, List.length_append]
    have hnx : (nxB xs b).next = wd xs (b.at_.toNat + 1) := rfl
    have hkk : (nxB xs b).kind = b.kind := rfl
    have hat : (nxB xs b).at_ = b.at_ := rfl
    have hhead : b.kind = 1 → wd xs (b.at_.toNat + 1) = b.next ∨ wd xs (b.at_.toNat + 1) = wantN b s := by
      intro hk
      rcases hq b (by simp) hk with h1 | ⟨e, he, h2, h3⟩
      · exact .inl h1
      · simp only [wantE, List.mem_append] at he
        rcases he with he | he
        · split at he
          · rw [List.mem_singleton] at he
            subst he
            exact .inr h3
          · simp at he
        · obtain ⟨c, hc, -, h4⟩ := wantE_memD he
          have := hp.1 c hc
          omega
    have hn : (b.at_ + 1).toNat = b.at_.toNat + 1 := by omega
    have hle : (if (nxB xs b).kind = 1 ∧ (nxB xs b).next ≠ wantN b s then [(⟨(nxB xs b).at_ + 1, wantN b s⟩ : En)] else []).length + ((if b.kind = 1 ∧ b.next ≠ wantN b s then [(⟨b.at_ + 1, wantN b s⟩ : En)] else []).filter (fun e => wd xs e.a.toNat == e.v)).length ≤ (if b.kind = 1 ∧ b.next ≠ wantN b s then [(⟨b.at_ + 1, wantN b s⟩ : En)] else []).length := by
      rw [hnx, hkk, hat]
      by_cases hk : b.kind = 1
      · by_cases hw : b.next = wantN b s
        · have hx : wd xs (b.at_.toNat + 1) = wantN b s := by
            rcases hhead hk with h1 | h1
            · rw [h1]; exact hw
            · exact h1
          rw [if_neg (show ¬ (b.kind = 1 ∧ b.next ≠ wantN b s) from fun h => h.2 hw), if_neg (show ¬ (b.kind = 1 ∧ wd xs (b.at_.toNat + 1) ≠ wantN b s) from fun h => h.2 hx)]; exact Nat.le_refl _
        · rw [if_pos (show b.kind = 1 ∧ b.next ≠ wantN b s from ⟨hk, hw⟩)]
          by_cases hv : wd xs (b.at_.toNat + 1) = wantN b s
          · rw [if_neg (fun h => h.2 hv)]
            simp [hn, hv]
          · rw [if_pos ⟨hk, hv⟩]
            have : (wd xs (b.at_ + 1).toNat == wantN b s) = false := by rw [hn, beq_eq_false_iff_ne]; exact hv
            simp [this]
      · rw [if_neg (fun h => hk h.1), if_neg (fun h => hk h.1)]; exact Nat.le_refl _
    omega
theorem fwd_dec2 {ws : List Nat} (h : hpErr ws = 0) (h32 : 32 ≤ (wnOut ws).length) : (wnOut (putE ws ((wnOut ws).take 31))).length + 2 ≤ (wnOut ws).length := by
  obtain ⟨i1, i2, i3⟩ := fw_ent h
  have hw : wnOut ws = wantE (hpOut ws) 128 := wn_eq h
  have hrow := hp_row h
  have hsub : ((wnOut ws).take 31).Sublist (wnOut ws) := List.take_sublist _ _
  have hinc : ((wnOut ws).take 31).Pairwise (fun a b => a.a < b.a) := i1.sublist hsub
  have hodd : ∀ e ∈ wnOut ws, ∃ a : Nat, e.a = ((a + 1 : Nat) : Int) ∧ a % 2 = 0 ∧ 128 ≤ a := by
    intro e he
    rw [hw] at he
    obtain ⟨b, hb, -, e2⟩ := wantE_memD he
    obtain ⟨a, rfl, a1, a2, -⟩ := hrow.1 b hb
    exact ⟨a, by rw [e2, bkAt_at]; rfl, a2, a1⟩
  have hev : Ev ws (putE ws ((wnOut ws).take 31)) := by
    refine ⟨putE_len _ _, fun i hi => putE_wd _ _ _ fun e he h2 => ?_⟩
    obtain ⟨a, e1, a1, a2⟩ := hodd e (hsub.subset he)
    omega
  obtain ⟨g1, g2⟩ := hev.heap h
  have hw2 : wnOut (putE ws ((wnOut ws).take 31)) = wantE ((hpOut ws).map (nxB (putE ws ((wnOut ws).take 31)))) 128 := by rw [wn_eq g1, g2]
  rw [hw2]
  have hit : ∀ e ∈ (wnOut ws).take 31, wd (putE ws ((wnOut ws).take 31)) e.a.toNat = e.v := fun e he => by
    have hin := i2 _ (hsub.subset he)
    exact putE_hit _ ws hinc _ he (by omega) (by omega)
  have key := wantE_cnt (xs := putE ws ((wnOut ws).take 31)) (l := hpOut ws) (s := 128) hrow.2 (fun b hb => by obtain ⟨a, rfl, -⟩ := hrow.1 b hb; rw [bkAt_at]; omega) (fun b hb hk => by
    obtain ⟨a, rfl, a1, a2, a3, a4⟩ := hrow.1 b hb
    have hsz := stands_sz a4
    rw [bkAt_at, Int.toNat_natCast]
    by_cases hx : ∃ e ∈ (wnOut ws).take 31, e.a = ((a + 1 : Nat) : Int)
    · obtain ⟨e, he, e1⟩ := hx
      refine .inr ⟨e, by rw [← hw]; exact hsub.subset he, by rw [e1]; omega, ?_⟩
      have := hit e he
      rw [e1, Int.toNat_natCast] at this
      exact this
    · exact .inl (by rw [putE_wd _ _ _ (fun e he h2 => hx ⟨e, he, h2⟩)]; rfl))
  rw [← hw] at key
  have hfl : 31 ≤ ((wnOut ws).filter (fun e => wd (putE ws ((wnOut ws).take 31)) e.a.toNat == e.v)).length := by
    have h1 : (wnOut ws).take 31 = ((wnOut ws).take 31).filter (fun e => wd (putE ws ((wnOut ws).take 31)) e.a.toNat == e.v) := by
      symm
      rw [List.filter_eq_self]
      intro e he
      rw [beq_iff_eq]
      exact hit e he
    have h2 := (hsub.filter (fun e => wd (putE ws ((wnOut ws).take 31)) e.a.toNat == e.v)).length_le
    rw [← h1, List.length_take] at h2
    omega
  omega
end Go.Proofs.YtoaepffpjoibaaaGreat

namespace Go.Proofs.YtoaepffpjoibaaaGreat
open Go.RowKit

/-- What a step of PhFix does to the phase line. -/
theorem fix_cur {x : List Nat} (hck : ckErr x = 0) (p3 : wd x 16 = 3) (h : (sgFix x).1 = 0) :
    (wd (putE x (sgFix x).2) 16 = 3 ∧ wd (putE x (sgFix x).2) 17 ≤ x.length ∧ (wd x 17 = 0 → wd (putE x (sgFix x).2) 17 = 128) ∧ (wd x 17 ≠ 0 → wd x 17 + 2 ≤ wd (putE x (sgFix x).2) 17)) ∨ (wd (putE x (sgFix x).2) 16 = 4 ∧ wd (putE x (sgFix x).2) 17 = 128 ∧ wd x 17 ≠ 0) := by
  obtain ⟨-, hs, hl, hph⟩ := ck_parts hck
  have hb := (sizeOk_iff _).1 hs
  obtain ⟨⟨l1, l2, l3⟩, -⟩ := (lineW_iff x).1 hl
  by_cases z : wd x 17 = 0
  · have hfs : fsErr x = 0 := by
      by_cases h0 : fsErr x = 0
      · exact h0
      · unfold sgFix at h; rw [if_pos z, if_neg h0] at h; exact absurd h h0
    have e2 : sgFix x = (0, ⟨17, 128⟩ :: fsOut x) := by unfold sgFix; rw [if_pos z, if_pos hfs]
    obtain ⟨-, -, -, -, -, -, -, q1, q2, q3, -⟩ := fs_plain hfs
    obtain ⟨g1, g2, g3, g4, g5, g6⟩ := cur_props (f := 128) (l := fsOut x) hck p3 (by decide) (by omega) (by omega) (by omega) q2 (fun e he => by have := (q1 e he).1; omega) (fun e he => (q1 e he).2)
    rw [e2]
    exact .inl ⟨g4, by rw [g5]; omega, fun _ => g5, fun h1 => absurd z h1⟩
  · have e2 : sgFix x = fixE x (wd x 17) := by unfold sgFix; rw [if_neg z]
    have h' : (fixE x (wd x 17)).1 = 0 := by rw [← e2]; exact h
    rcases fixE_cases x.length (wd x 17) (by omega) l2 h' with h1 | ⟨m, m1, m2, m3, m4, m5, m6, m7, m8⟩
    · rw [e2, h1]
      obtain ⟨g1, g2, g3, g4, g5, g6⟩ := slides_props hck p3
      exact .inr ⟨g4, g5, z⟩
    · obtain ⟨f, -, -, -, -, q5, -, -, -, q9⟩ := ob_plain m7
      have q6 := ob_ge m7
      obtain ⟨g1, g2, g3, g4, g5, g6⟩ := cur_props (f := m + szAt x m) (l := obOut x (m : Int)) hck p3 ((inHp_iff _).2 (by omega)) m6 (by omega) (by omega) q9 (fun e he => by have := q6 e he; omega) (fun e he => by have := q6 e he; omega)
      rw [e2, m8]
      exact .inl ⟨g4, by rw [g5]; exact m6, fun h1 => absurd h1 z, fun _ => by rw [g5]; omega⟩
/-- What a step of PhSlide does to the phase line. -/
theorem sld_cur {x : List Nat} (ho : ∀ v ∈ x, v < 18446744073709551616) (hck : ckErr x = 0) (p4 : wd x 16 = 4) (h : (sgSld x).1 = 0) :
    wd (putE x (sgSld x).2) 16 = 4 ∧ wd (putE x (sgSld x).2) 17 ≤ x.length ∧ wd x 17 + 2 ≤ wd (putE x (sgSld x).2) 17 := by
  obtain ⟨-, hs, hl, hph⟩ := ck_parts hck
  have hb := (sizeOk_iff _).1 hs
  obtain ⟨⟨l1, l2, l3⟩, -⟩ := (lineW_iff x).1 hl
  have hnx : nxtErr x ((wd x 17 : Nat) : Int) = 0 := by
    by_cases h0 : nxtErr x ((wd x 17 : Nat) : Int) = 0
    · exact h0
    · unfold sgSld at h; rw [if_neg h0] at h; exact absurd h (by decide)
  obtain ⟨-, a1, a2, m, em, m1, m2, m3, m4, m5, m6, m7, m8, -⟩ := nxt_at hnx
  have hmv : mvErr x (m : Int) ((wd x 18 : Nat) : Int) = 0 := by
    by_cases h0 : mvErr x (m : Int) ((wd x 18 : Nat) : Int) = 0
    · exact h0
    · unfold sgSld at h; rw [if_pos hnx, em, bkAt_at, if_neg h0] at h; exact absurd h h0
  have e2 : sgSld x = (0, ⟨17, m + szAt x m⟩ :: ⟨18, wd x 18 + szAt x m⟩ :: mvEn x m (wd x 18)) := by
    unfold sgSld
    rw [if_pos hnx, em, bkAt_at, if_pos hmv, bkAt_size, show ((m : Int) + ((szAt x m : Nat) : Int)).toNat = m + szAt x m by omega, show (((wd x 18 : Nat) : Int) + ((szAt x m : Nat) : Int)).toNat = wd x 18 + szAt x m by omega]
    unfold mvOut
    rw [if_pos hmv, Int.toNat_natCast, Int.toNat_natCast]
  obtain ⟨a, u, n, ea, eu, en, n2, n10, hu, hua, han, hst, hlv, -, -, hun⟩ := slide_plain hmv
  have ea : a = m := by omega
  have eu : u = wd x 18 := by omega
  subst ea eu
  subst en
  have hfp := (phOk_iff _ _ _).1 hph
  have hin : inHp (wd x 17) = true ∧ inHp (wd x 18) = true ∧ wd x 18 ≤ wd x 17 := by
    rcases hfp with h1 | h1 | h1
    · exact h1.2
    · omega
    · omega
  have i1 := (inHp_iff _).1 hin.1
  have i2 := (inHp_iff _).1 hin.2.1
  rw [e2]
  obtain ⟨g1, g2, g3, g4, g5, g6⟩ := sld_props (f := a + szAt x a) (t := wd x 18 + szAt x a) (l := mvEn x a (wd x 18)) hck p4 ((inHp_iff _).2 (by omega)) ((inHp_iff _).2 (by omega)) (by omega) (by omega) (by omega) (by omega) (by rw [mvEn_len]; omega) (by
      rw [List.pairwise_iff_getElem]
      intro i j hi hj hij
      rw [mvEn_at, mvEn_at]; omega) (fun e he => by
      obtain ⟨k, hk, rfl⟩ := List.getElem_of_mem he
      rw [mvEn_at]
      rw [mvEn_len] at hk
      omega) (mvEn_lt ho hun)
  exact ⟨g4, by rw [g5]; omega, by rw [g5]; omega⟩

/-- How many changes are left at most. -/
noncomputable def rzM (x : List Nat) : Nat :=
  if wd x 16 = 1 then (wtOut x).length / 2 + 1 + ((x.length - 128) / 2 / 2 + 1) + ((x.length - 128) / 2 + 2) + ((x.length - 128) / 2 + 1)
  else if wd x 16 = 2 then (wnOut x).length / 2 + 1 + ((x.length - 128) / 2 + 2) + ((x.length - 128) / 2 + 1)
  else if wd x 16 = 3 then (if wd x 17 = 0 then (x.length - 128) / 2 + 2 else (x.length - wd x 17) / 2 + 1) + ((x.length - 128) / 2 + 1)
  else if wd x 16 = 4 then (x.length - wd x 17) / 2 + 1 else 0
theorem wn_half (x : List Nat) (hs : 128 ≤ x.length) : (wnOut x).length ≤ (x.length - 128) / 2 := by
  by_cases h : hpErr x = 0
  · rw [wn_eq h]
    have h1 := wantE_len (hpOut x) 128
    have h2 := hp_half x h
    omega
  · unfold wnOut; rw [if_neg h]; simp
theorem wt_half (x : List Nat) (hs : 128 ≤ x.length) : (wtOut x).length ≤ (x.length - 128) / 2 := by
  by_cases h : rcErr x = 0
  · rw [wtOut_eq h, List.length_map]
    have h1 := wntL_len (seenL x) (hpOut x)
    have h2 := hp_half x (rcErr_zero h).1
    omega
  · unfold wtOut; rw [if_neg h]; simp
/-- A change of a phase leaves less. -/
theorem rz_stage {x : List Nat} (ho : ∀ v ∈ x, v < 18446744073709551616) (h : (sgOne x).1 = 0) : rzM (putE x (sgOne x).2) < rzM x := by
  obtain ⟨hck, -, -, -, -, k6, -, -⟩ := sg_ok ho h
  obtain ⟨-, hs, hl, hph⟩ := ck_parts hck
  have hb := (sizeOk_iff _).1 hs
  obtain ⟨⟨l1, l2, l3⟩, -⟩ := (lineW_iff x).1 hl
  have hfp := (phOk_iff _ _ _).1 hph
  have hlen : (putE x (sgOne x).2).length = x.length := putE_len _ _
  have hwn := wn_half (putE x (sgOne x).2) (by omega)
  rw [hlen] at hwn
  unfold rzM
  rw [hlen]
  by_cases p1 : wd x 16 = 1
  · have hrc : rcErr x = 0 := by
      by_cases h0 : rcErr x = 0
      · exact h0
      · unfold sgOne at h; rw [if_pos hck, if_pos p1, if_neg h0] at h; exact absurd h h0
    have e : sgOne x = (0, batE (wtOut x) 2) := by unfold sgOne; rw [if_pos hck, if_pos p1, if_pos hrc]
    obtain ⟨r1, r2⟩ := wt_rows hrc
    obtain ⟨g1, g2, g3, g4, g5, g6⟩ := bat_props hck p1 (.inl rfl) (wtOut_inc hrc) (fun y hy => by
      obtain ⟨i, hi⟩ := List.mem_iff_getElem?.1 hy
      exact r1 i y hi) (wtOut_v hrc)
    simp only [Nat.reduceAdd] at g4
    rw [e] at hwn ⊢
    dsimp only at hwn ⊢
    rw [if_pos p1, g4]
    by_cases h32 : 32 ≤ (wtOut x).length
    · have hd := mark_dec2 hrc h32
      rw [if_pos h32, if_pos rfl, batE_great h32]
      omega
    · rw [if_neg h32, if_neg (by decide), if_pos rfl]
      omega
  · by_cases p2 : wd x 16 = 2
    · have hhp : hpErr x = 0 := by
        by_cases h0 : hpErr x = 0
        · exact h0
        · unfold sgOne at h; rw [if_pos hck, if_neg p1, if_pos p2, if_neg h0] at h; exact absurd h h0
      have e : sgOne x = (0, batE (wnOut x) 3) := by unfold sgOne; rw [if_pos hck, if_neg p1, if_pos p2, if_pos hhp]
      obtain ⟨r1, r2, r3⟩ := fw_ent hhp
      obtain ⟨g1, g2, g3, g4, g5, g6⟩ := bat_props hck p2 (.inr rfl) r1 r2 r3
      simp only [Nat.reduceAdd] at g4 g5
      rw [e] at hwn ⊢
      dsimp only at hwn ⊢
      rw [if_neg p1, if_pos p2, g4, g5]
      by_cases h32 : 32 ≤ (wnOut x).length
      · have hd := fwd_dec2 hhp h32
        rw [if_pos h32, if_neg (by decide), if_pos rfl, batE_great h32]
        omega
      · rw [if_neg h32, if_neg (by decide), if_neg (by decide), if_pos rfl, if_pos rfl]
        omega
    · by_cases p3 : wd x 16 = 3
      · have e : sgOne x = sgFix x := by unfold sgOne; rw [if_pos hck, if_neg p1, if_neg p2, if_pos p3]
        rw [e] at h ⊢
        have hF : wd x 17 = 0 ∨ 128 ≤ wd x 17 := by
          rcases hfp with h1 | ⟨-, -, h1⟩ | h1
          · omega
          · rcases h1 with h1 | h1
            · exact .inl h1
            · exact .inr ((inHp_iff _).1 h1).1
          · omega
        rcases fix_cur hck p3 h with ⟨g4, g5, g6, g7⟩ | ⟨g4, g5, g6⟩
        · rw [g4, if_neg (by decide), if_neg (by decide), if_pos rfl, if_neg p1, if_neg p2, if_pos p3]
          by_cases z : wd x 17 = 0
          · rw [if_pos z, g6 z, if_neg (by decide)]
            omega
          · have := g7 z
            rw [if_neg z, if_neg (by omega)]
            omega
        · rw [g4, g5, if_neg (by decide), if_neg (by decide), if_neg (by decide), if_pos rfl, if_neg p1, if_neg p2, if_pos p3, if_neg g6]
          omega
      · have p4 : wd x 16 = 4 := by omega
        have e : sgOne x = sgSld x := by unfold sgOne; rw [if_pos hck, if_neg p1, if_neg p2, if_neg p3, if_pos p4]
        rw [e] at h ⊢
        obtain ⟨g4, g5, g6⟩ := sld_cur ho hck p4 h
        rw [g4, if_neg (by decide), if_neg (by decide), if_neg (by decide), if_pos rfl, if_neg p1, if_neg p2, if_neg p3, if_pos p4]
        omega
theorem rzM_le {x : List Nat} (hs : sizeOk (x.length : Int) = true) : rzM x ≤ (x.length - 128) / 2 * 3 + 5 := by
  have hb := (sizeOk_iff _).1 hs
  have h1 := wt_half x (by omega)
  have h2 := wn_half x (by omega)
  unfold rzM
  by_cases p1 : wd x 16 = 1
  · rw [if_pos p1]; omega
  · rw [if_neg p1]
    by_cases p2 : wd x 16 = 2
    · rw [if_pos p2]; omega
    · rw [if_neg p2]
      by_cases p3 : wd x 16 = 3
      · rw [if_pos p3]
        split
        · omega
        · have : (x.length - wd x 17) / 2 ≤ x.length / 2 := by omega
          omega
      · rw [if_neg p3]
        split <;> omega
end Go.Proofs.YtoaepffpjoibaaaGreat

namespace Go.Proofs.YtoaepffpjoibaaaGreat
open Go.RowKit

theorem ch_small {x : List Nat} (h : enErr x = 0) : Small x.length (chOut x) ∧ wd (putE x (chOut x)) 16 = 0 := by
  obtain ⟨hs, -, -, -, h5, h6, -, h8⟩ := en_facts h
  have hb := (sizeOk_iff _).1 hs
  have hi := (inHp_iff _).1 h5
  rw [← h8] at hi h6
  refine ⟨?_, by rw [put_ch h, if_pos (.inl rfl)]⟩
  unfold chOut
  rw [if_pos h]
  have hne := fun hne => headW_lt (free_hd h hne)
  generalize enTo x = t at hi h6 hne
  have hph : phE 0 0 0 = [⟨16, 0⟩, ⟨17, 0⟩, ⟨18, 0⟩] := rfl
  rw [hph]
  by_cases he : t = x.length
  · rw [if_pos he]
    refine ⟨by decide, by decide, by simp, fun e he => ?_, fun e he => ?_⟩ <;>
    · simp only [List.append_nil, List.mem_cons, List.not_mem_nil, or_false] at he
      rcases he with rfl | rfl | rfl <;> (dsimp only; omega)
  · have hv := hne he
    rw [if_neg he]
    refine ⟨by simp, by simp, ?_, fun e he => ?_, fun e he => ?_⟩
    · simp only [List.cons_append, List.nil_append, List.pairwise_cons, List.mem_cons, List.not_mem_nil, or_false, forall_eq_or_imp, forall_eq, List.Pairwise.nil, and_true, false_implies, implies_true]
      omega
    · simp only [List.cons_append, List.nil_append, List.mem_cons, List.not_mem_nil, or_false] at he
      rcases he with rfl | rfl | rfl | rfl | rfl <;> (dsimp only; omega)
    · simp only [List.cons_append, List.nil_append, List.mem_cons, List.not_mem_nil, or_false] at he
      rcases he with rfl | rfl | rfl | rfl | rfl <;> (dsimp only; omega)
/-- What comes next is small, and leaves less. -/
theorem rs_ok {x : List Nat} (ho : ∀ v ∈ x, v < 18446744073709551616) (h : (rsNx x).1 = 0) (hd : (rsNx x).2.1 = false) : Small x.length (rsNx x).2.2 ∧ (∀ v ∈ putE x (rsNx x).2.2, v < 18446744073709551616) ∧ rzM (putE x (rsNx x).2.2) < rzM x := by
  by_cases h6 : (sgOne x).1 = 6
  · by_cases h0 : wd x 16 = 0
    · unfold rsNx at hd
      rw [if_pos h6, if_pos h0] at hd
      cases hd
    · have e : rsNx x = (enErr x, false, chOut x) := by unfold rsNx; rw [if_pos h6, if_neg h0]
      rw [e] at h ⊢
      dsimp only at h ⊢
      obtain ⟨g1, g2⟩ := ch_small h
      refine ⟨g1, putE_lt _ _ ho g1.val, ?_⟩
      have h4 : wd x 16 = 4 := (en_facts h).2.2.2.1
      unfold rzM
      rw [g2, if_neg (by decide), if_neg (by decide), if_neg (by decide), if_neg (by decide), h4, if_neg (by decide), if_neg (by decide), if_neg (by decide), if_pos rfl]
      omega
  · have e : rsNx x = ((sgOne x).1, false, (sgOne x).2) := by unfold rsNx; rw [if_neg h6]
    rw [e] at h ⊢
    dsimp only at h ⊢
    exact ⟨(sg_ok ho h).2.1, putS_lt ho h, rz_stage ho h⟩
/-- Where it is done. -/
theorem rs_done {x : List Nat} (h : (rsNx x).1 = 0) (hd : (rsNx x).2.1 = true) : (sgOne x).1 = 6 ∧ wd x 16 = 0 ∧ wd x 17 = 0 ∧ wd x 18 = 0 ∧ lnErr x = 0 ∧ ckErr x = 0 ∧ sizeOk (x.length : Int) = true := by
  have hck := rs_ck h
  obtain ⟨-, hs, -, hph⟩ := ck_parts hck
  unfold rsNx at hd
  by_cases h6 : (sgOne x).1 = 6
  · rw [if_pos h6] at hd
    by_cases h0 : wd x 16 = 0
    · rcases (phOk_iff _ _ _).1 hph with h1 | h1 | h1
      · omega
      · omega
      · exact ⟨h6, h0, h1.2.2, h1.2.1, ck_ln hck, hck, hs⟩
    · rw [if_neg h0] at hd; cases hd
  · rw [if_neg h6] at hd; cases hd
noncomputable def rsG : Nat → List Nat → Int × List (List En) × List Nat
  | 0, x => (0, [], x)
  | f + 1, x => if (rsNx x).1 = 0 then (if (rsNx x).2.1 = true then (0, [], x)
      else if (rsG f (putE x (rsNx x).2.2)).1 = 0 then (0, (rsNx x).2.2 :: (rsG f (putE x (rsNx x).2.2)).2.1, (rsG f (putE x (rsNx x).2.2)).2.2) else ((rsG f (putE x (rsNx x).2.2)).1, [], []))
      else ((rsNx x).1, [], [])
theorem rsG_more : ∀ {f g : Nat} {x : List Nat}, (∀ v ∈ x, v < 18446744073709551616) → rzM x < f → rzM x < g → rsG f x = rsG g x := by
  intro f
  induction f with
  | zero => intro g x _ h; omega
  | succ f ih =>
    intro g x ho hf hg
    cases g with
    | zero => omega
    | succ g =>
      simp only [rsG]
      by_cases h0 : (rsNx x).1 = 0
      · cases hd : (rsNx x).2.1 with
        | true => simp only [if_true]
        | false =>
          obtain ⟨-, h2, h3⟩ := rs_ok ho h0 hd
          rw [ih (g := g) h2 (by omega) (by omega)]
      · simp only [h0, if_false]
noncomputable def rsE (x : List Nat) : Int × List (List En) × List Nat := rsG (rzM x + 1) x
theorem rsE_err {x : List Nat} (h : (rsNx x).1 ≠ 0) : rsE x = ((rsNx x).1, [], []) := by
  unfold rsE
  simp only [rsG]
  rw [if_neg h]
theorem rsE_done {x : List Nat} (h : (rsNx x).1 = 0) (hd : (rsNx x).2.1 = true) : rsE x = (0, [], x) := by
  unfold rsE
  simp only [rsG]
  rw [if_pos h, if_pos hd]
theorem rsE_step {x : List Nat} (ho : ∀ v ∈ x, v < 18446744073709551616) (h : (rsNx x).1 = 0) (hd : (rsNx x).2.1 = false) : rsE x = (if (rsE (putE x (rsNx x).2.2)).1 = 0 then (0, (rsNx x).2.2 :: (rsE (putE x (rsNx x).2.2)).2.1, (rsE (putE x (rsNx x).2.2)).2.2) else ((rsE (putE x (rsNx x).2.2)).1, [], [])) := by
  obtain ⟨-, h2, h3⟩ := rs_ok ho h hd
  have e : rsG (rzM x) (putE x (rsNx x).2.2) = rsE (putE x (rsNx x).2.2) := rsG_more h2 h3 (Nat.lt_succ_self _)
  conv => lhs; unfold rsE
  simp only [rsG]
  rw [if_pos h, if_neg (by rw [hd]; decide), e]
theorem rsE_nil {x : List Nat} (ho : ∀ v ∈ x, v < 18446744073709551616) (h : (rsE x).1 ≠ 0) : rsE x = ((rsE x).1, [], []) := by
  by_cases h0 : (rsNx x).1 = 0
  · cases hd : (rsNx x).2.1 with
    | true => rw [rsE_done h0 hd] at h; exact absurd rfl h
    | false =>
      rw [rsE_step ho h0 hd] at h ⊢
      by_cases h1 : (rsE (putE x (rsNx x).2.2)).1 = 0
      · rw [if_pos h1] at h; exact absurd rfl h
      · rw [if_neg h1]
  · rw [rsE_err h0]
/-- All changes of a view. -/
noncomputable def rsAll (ws : List Nat) : Int × List (List En) × List Nat := if ckErr ws = 0 then rsE ws else (ckErr ws, [], [])
/-- How going on goes on behind some changes. -/
def contR (ws : List Nat) (outs : List (List En)) (x : List Nat) : Prop := rsE ws = if (rsE x).1 = 0 then (0, outs ++ (rsE x).2.1, (rsE x).2.2) else ((rsE x).1, [], [])
theorem contR_start {ws : List Nat} (ho : ∀ v ∈ ws, v < 18446744073709551616) : contR ws [] ws := by
  unfold contR
  by_cases h : (rsE ws).1 = 0
  · rw [if_pos h, List.nil_append, ← h]
  · rw [if_neg h]; exact rsE_nil ho h
theorem contR_step {ws : List Nat} {outs : List (List En)} {x : List Nat} (h : contR ws outs x) (ho : ∀ v ∈ x, v < 18446744073709551616) (h0 : (rsNx x).1 = 0) (hd : (rsNx x).2.1 = false) : contR ws (outs ++ [(rsNx x).2.2]) (putE x (rsNx x).2.2) := by
  unfold contR at h ⊢
  rw [h, rsE_step ho h0 hd]
  by_cases h1 : (rsE (putE x (rsNx x).2.2)).1 = 0
  · rw [if_pos h1, if_pos rfl, if_pos h1]
    simp
  · rw [if_neg h1, if_neg (by exact h1), if_neg h1]
theorem contR_end {ws : List Nat} {outs : List (List En)} {x : List Nat} (h : contR ws outs x) (h0 : (rsNx x).1 = 0) (hd : (rsNx x).2.1 = true) : rsE ws = (0, outs, x) := by
  unfold contR at h
  rw [h, rsE_done h0 hd]
  simp
theorem contR_bad {ws : List Nat} {outs : List (List En)} {x : List Nat} (h : contR ws outs x) (h0 : (rsNx x).1 ≠ 0) : rsE ws = ((rsNx x).1, [], []) := by
  unfold contR at h
  rw [h, rsE_err h0, if_neg (by exact h0)]
theorem rs_cons {x y : List Nat} {E : List En} {outs : List (List En)} (ho : ∀ v ∈ x, v < 18446744073709551616) (h : rsE x = (0, E :: outs, y)) : rsNx x = (0, false, E) ∧ rsE (putE x E) = (0, outs, y) := by
  by_cases h0 : (rsNx x).1 = 0
  · cases hd : (rsNx x).2.1 with
    | true => rw [rsE_done h0 hd] at h; simp at h
    | false =>
      rw [rsE_step ho h0 hd] at h
      by_cases h1 : (rsE (putE x (rsNx x).2.2)).1 = 0
      · rw [if_pos h1] at h
        simp only [Prod.mk.injEq, List.cons.injEq, true_and] at h
        obtain ⟨⟨h2, h3⟩, h4⟩ := h
        refine ⟨by rw [← h0, ← hd, ← h2], ?_⟩
        rw [← h2, ← h3, ← h4, ← h1]
      · rw [if_neg h1] at h
        simp at h
  · rw [rsE_err h0] at h
    simp at h
theorem rs_at : ∀ {outs : List (List En)} {x y : List Nat}, (∀ v ∈ x, v < 18446744073709551616) → rsE x = (0, outs, y) → ∀ n, n ≤ outs.length → (∀ v ∈ stX x outs n, v < 18446744073709551616) ∧ (stX x outs n).length = x.length ∧ rsE (stX x outs n) = (0, outs.drop n, y) ∧ (rsNx (stX x outs n)).1 = 0 ∧ ∀ h : n < outs.length, rsNx (stX x outs n) = (0, false, outs[n]) ∧ Small x.length outs[n] := by
  intro outs
  induction outs with
  | nil =>
    intro x y ho h n hn
    have : n = 0 := by simpa using hn
    subst this
    refine ⟨ho, rfl, h, ?_, fun h => absurd h (by simp)⟩
    rw [stX_zero]
    by_cases h0 : (rsNx x).1 = 0
    · exact h0
    · rw [rsE_err h0] at h
      simp only [Prod.mk.injEq] at h
      exact h.1
  | cons E outs ih =>
    intro x y ho h n hn
    obtain ⟨h2, h3⟩ := rs_cons ho h
    have hok := rs_ok ho (by rw [h2]) (by rw [h2])
    rw [h2] at hok
    cases n with
    | zero => exact ⟨ho, rfl, h, by rw [stX_zero, h2], fun _ => ⟨h2, hok.1⟩⟩
    | succ n =>
      rw [stX_cons]
      obtain ⟨g1, g2, g3, g4, g5⟩ := ih hok.2.1 h3 n (by simpa using hn)
      refine ⟨g1, by rw [g2, putE_len], g3, g4, fun hh => ?_⟩
      obtain ⟨g6, g7⟩ := g5 (by simpa using hh)
      rw [putE_len] at g7
      exact ⟨g6, g7⟩
theorem rs_last {outs : List (List En)} {x y : List Nat} (ho : ∀ v ∈ x, v < 18446744073709551616) (h : rsE x = (0, outs, y)) : stX x outs outs.length = y ∧ (rsNx y).1 = 0 ∧ (rsNx y).2.1 = true := by
  obtain ⟨g1, g2, g3, g4, -⟩ := rs_at ho h outs.length (Nat.le_refl _)
  rw [List.drop_length] at g3
  cases hd : (rsNx (stX x outs outs.length)).2.1 with
  | true =>
    rw [rsE_done g4 hd] at g3
    simp only [Prod.mk.injEq, true_and] at g3
    rw [g3] at g4 hd
    exact ⟨g3, g4, hd⟩
  | false =>
    rw [rsE_step g1 g4 hd] at g3
    split at g3
    · simp at g3
    · rename_i h1
      simp only [Prod.mk.injEq] at g3
      exact absurd g3.1 h1
theorem rs_len : ∀ {outs : List (List En)} {x y : List Nat}, (∀ v ∈ x, v < 18446744073709551616) → rsE x = (0, outs, y) → outs.length ≤ rzM x := by
  intro outs
  induction outs with
  | nil => intro x y _ _; exact Nat.zero_le _
  | cons E outs ih =>
    intro x y ho h
    obtain ⟨h2, h3⟩ := rs_cons ho h
    have hok := rs_ok ho (by rw [h2]) (by rw [h2])
    rw [h2] at hok
    have := ih hok.2.1 h3
    rw [List.length_cons]
    have := hok.2.2
    dsimp only at this
    omega
/-- What is needed of going on. -/
theorem rsAll_on {ws y : List Nat} {outs : List (List En)} (ho : ∀ v ∈ ws, v < 18446744073709551616) (h : rsAll ws = (0, outs, y)) : ckErr ws = 0 ∧ rsE ws = (0, outs, y) ∧ outs.length ≤ (ws.length - 128) / 2 * 3 + 5 ∧ stX ws outs outs.length = y ∧ (∀ n, n ≤ outs.length → (∀ v ∈ stX ws outs n, v < 18446744073709551616) ∧ (stX ws outs n).length = ws.length ∧ rsAll (stX ws outs n) = (0, outs.drop n, y)) ∧ ∀ n (h : n < outs.length), Small ws.length outs[n] := by
  have hck : ckErr ws = 0 := by
    by_cases h0 : ckErr ws = 0
    · exact h0
    · unfold rsAll at h; rw [if_neg h0] at h
      simp only [Prod.mk.injEq] at h
      exact absurd h.1 h0
  have he : rsE ws = (0, outs, y) := by unfold rsAll at h; rw [if_pos hck] at h; exact h
  obtain ⟨-, hs, -⟩ := ck_parts hck
  refine ⟨hck, he, Nat.le_trans (rs_len ho he) (rzM_le hs), (rs_last ho he).1, fun n hn => ?_, fun n hn => ((rs_at ho he n (Nat.le_of_lt hn)).2.2.2.2 hn).2⟩
  obtain ⟨g1, g2, g3, g4, -⟩ := rs_at ho he n hn
  refine ⟨g1, g2, ?_⟩
  unfold rsAll
  rw [if_pos (rs_ck g4)]
  exact g3
theorem rsAll_bad {ws : List Nat} (ho : ∀ v ∈ ws, v < 18446744073709551616) (h : (rsAll ws).1 ≠ 0) : rsAll ws = ((rsAll ws).1, [], []) := by
  unfold rsAll at h ⊢
  by_cases h0 : ckErr ws = 0
  · rw [if_pos h0] at h ⊢
    exact rsE_nil ho h
  · rw [if_neg h0]
end Go.Proofs.YtoaepffpjoibaaaGreat

namespace Go.Proofs.YtoaepffpjoibaaaGreat
open Go.RowKit

theorem rs_stages {p : Nat} : ∀ n x, (∀ v ∈ x, v < 18446744073709551616) → mzS p x ≤ n → ((allE p x).1 ≠ 0 → rsE x = ((allE p x).1, [], [])) ∧ ((allE p x).1 = 0 → contR x (allE p x).2.1 (allE p x).2.2) := by
  intro n
  induction n with
  | zero =>
    intro x ho h
    have hp : wd x 16 ≠ p := fun hp => by unfold mzS at h; rw [if_pos hp] at h; omega
    rw [allE_other hp]
    exact ⟨fun h => absurd rfl h, fun _ => contR_start ho⟩
  | succ n ih =>
    intro x ho h
    by_cases hp : wd x 16 = p
    · by_cases h6 : (sgOne x).1 = 6
      · rw [allE_none hp h6]
        exact ⟨fun h => absurd rfl h, fun _ => contR_start ho⟩
      · have hnx : rsNx x = ((sgOne x).1, false, (sgOne x).2) := by unfold rsNx; rw [if_neg h6]
        by_cases h0 : (sgOne x).1 = 0
        · have hd := mzS_dec ho hp h0
          obtain ⟨i1, i2⟩ := ih (putE x (sgOne x).2) (putS_lt ho h0) (by omega)
          have hs := rsE_step ho (by rw [hnx]; exact h0) (by rw [hnx])
          rw [hnx] at hs
          dsimp only at hs
          rw [allE_step ho hp h0]
          by_cases h1 : (allE p (putE x (sgOne x).2)).1 = 0
          · rw [if_pos h1]
            refine ⟨fun h => absurd rfl h, fun _ => ?_⟩
            have hc := i2 h1
            unfold contR at hc ⊢
            rw [hs, hc]
            dsimp only
            by_cases h2 : (rsE (allE p (putE x (sgOne x).2)).2.2).1 = 0
            · rw [if_pos h2, if_pos rfl, if_pos h2]; rfl
            · rw [if_neg h2, if_neg (by exact h2), if_neg h2]
          · rw [if_neg h1]
            refine ⟨fun _ => ?_, fun h => absurd h h1⟩
            rw [hs, i1 h1, if_neg (by exact h1)]
        · rw [allE_err hp h6 h0]
          refine ⟨fun _ => ?_, fun h => absurd h h0⟩
          rw [rsE_err (by rw [hnx]; exact h0), hnx]
    · rw [allE_other hp]
      exact ⟨fun h => absurd rfl h, fun _ => contR_start ho⟩
theorem all_keeps {p : Nat} : ∀ n x, (∀ v ∈ x, v < 18446744073709551616) → mzS p x ≤ n → (allE p x).1 = 0 → (∀ v ∈ (allE p x).2.2, v < 18446744073709551616) ∧ (allE p x).2.2.length = x.length := by
  intro n
  induction n with
  | zero =>
    intro x ho h _
    have hp : wd x 16 ≠ p := fun hp => by unfold mzS at h; rw [if_pos hp] at h; omega
    rw [allE_other hp]
    exact ⟨ho, rfl⟩
  | succ n ih =>
    intro x ho h hz
    by_cases hp : wd x 16 = p
    · by_cases h6 : (sgOne x).1 = 6
      · rw [allE_none hp h6]
        exact ⟨ho, rfl⟩
      · by_cases h0 : (sgOne x).1 = 0
        · have hd := mzS_dec ho hp h0
          rw [allE_step ho hp h0] at hz ⊢
          by_cases h1 : (allE p (putE x (sgOne x).2)).1 = 0
          · rw [if_pos h1]
            obtain ⟨i1, i2⟩ := ih (putE x (sgOne x).2) (putS_lt ho h0) (by omega) h1
            exact ⟨i1, i2.trans (putE_len _ _)⟩
          · rw [if_neg h1] at hz
            exact absurd hz h1
        · rw [allE_err hp h6 h0] at hz
          exact absurd hz h0
    · rw [allE_other hp]
      exact ⟨ho, rfl⟩
theorem sg_keeps {ws : List Nat} (ho : ∀ v ∈ ws, v < 18446744073709551616) (h : (sgAll ws).1 = 0) : (∀ v ∈ (sgAll ws).2.2, v < 18446744073709551616) ∧ (sgAll ws).2.2.length = ws.length := by
  unfold sgAll at h ⊢
  by_cases hck : ckErr ws = 0
  · rw [if_pos hck] at h ⊢
    exact all_keeps _ ws ho (Nat.le_refl _) h
  · rw [if_neg hck] at h
    exact absurd h hck
theorem phases_plain {ws : List Nat} (ho : ∀ v ∈ ws, v < 18446744073709551616) : ((sgAll ws).1 ≠ 0 → (rsAll ws).1 = (sgAll ws).1) ∧ ((sgAll ws).1 = 0 → (rsAll ws).1 = 0 → ∃ outs2, rsAll ws = (0, (sgAll ws).2.1 ++ outs2, (rsAll ws).2.2) ∧ rsAll (sgAll ws).2.2 = (0, outs2, (rsAll ws).2.2)) := by
  unfold sgAll
  by_cases hck : ckErr ws = 0
  · have er : rsAll ws = rsE ws := by unfold rsAll; rw [if_pos hck]
    rw [if_pos hck, er]
    obtain ⟨h1, h2⟩ := rs_stages (p := wd ws 16) (mzS (wd ws 16) ws) ws ho (Nat.le_refl _)
    refine ⟨fun h => by rw [h1 h], fun h h0 => ?_⟩
    have hc := h2 h
    unfold contR at hc
    by_cases hz : (rsE (allE (wd ws 16) ws).2.2).1 = 0
    · rw [if_pos hz] at hc
      refine ⟨(rsE (allE (wd ws 16) ws).2.2).2.1, by rw [hc], ?_⟩
      have hn : (rsNx (allE (wd ws 16) ws).2.2).1 = 0 := by
        by_cases h9 : (rsNx (allE (wd ws 16) ws).2.2).1 = 0
        · exact h9
        · rw [rsE_err h9] at hz; exact hz
      unfold rsAll
      rw [if_pos (rs_ck hn), hc]
      dsimp only
      rw [← hz]
    · rw [if_neg hz] at hc
      rw [hc] at h0
      exact absurd h0 hz
  · have er : rsAll ws = (ckErr ws, [], []) := by unfold rsAll; rw [if_neg hck]
    rw [if_neg hck, er]
    exact ⟨fun _ => rfl, fun h => absurd h hck⟩
end Go.Proofs.YtoaepffpjoibaaaGreat
