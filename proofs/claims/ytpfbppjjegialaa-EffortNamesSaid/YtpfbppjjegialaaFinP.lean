/- The last change: plain functions, and what is found behind it. -/
import Derived.Test.YtpfbppjjegialaaCurP
import Derived.Test.YtpfbppjjegialaaKImage
namespace Go.Proofs.Ytpfbppjjegialaa

def enErr (ws : List Nat) : Int := if ckErr ws = 0 then (if wd ws 16 = 4 ∧ lfN ws = 0 then 0 else 6) else ckErr ws
def enTo (ws : List Nat) : Nat := if enErr ws = 0 then wd ws 18 else 0
theorem enErr_ck {ws : List Nat} {r : Int} (h : ckErr ws = r) (h0 : r ≠ 0) : enErr ws = r := by subst h; simp [enErr, h0]
theorem enErr_no {ws : List Nat} (h : ckErr ws = 0) (h2 : ¬ (wd ws 16 = 4 ∧ lfN ws = 0)) : enErr ws = 6 := by
  unfold enErr
  rw [if_pos h, if_neg h2]
theorem enErr_ok {ws : List Nat} (h : ckErr ws = 0) (h2 : wd ws 16 = 4) (h3 : lfN ws = 0) : enErr ws = 0 ∧ enTo ws = wd ws 18 := by simp [enTo, enErr, h, h2, h3]
theorem enErr_zero {ws : List Nat} (h : enErr ws = 0) : ckErr ws = 0 ∧ wd ws 16 = 4 ∧ lfN ws = 0 := by
  unfold enErr at h
  split at h
  · split at h
    · rename_i h1 h2; exact ⟨h1, h2⟩
    · simp at h
  · rename_i h1; exact absurd h h1
/-- What the end of a compaction finds. -/
theorem en_facts {ws : List Nat} (h : enErr ws = 0) : sizeOk (ws.length : Int) = true ∧ lnErr ws = 0 ∧ lineW ws = true ∧ wd ws 16 = 4 ∧ inHp (wd ws 18) = true ∧ wd ws 18 ≤ ws.length ∧ mvd ws 128 (wd ws 18) = true ∧ enTo ws = wd ws 18 := by
  obtain ⟨h1, h2, h3⟩ := enErr_zero h
  have h4 := ck_ln h1
  obtain ⟨h5, -⟩ := lnErr_zero h4
  obtain ⟨hs, h6, h7⟩ := prErr_zero h5
  obtain ⟨⟨l0, l1, l2⟩, -⟩ := (lineW_iff ws).1 h6
  rcases (phOk_iff _ _ _).1 h7 with ⟨-, i1, i2, i3⟩ | ⟨p3, -⟩ | ⟨p0, -⟩
  · refine ⟨hs, h4, h6, h2, i2, l2, ?_, by simp [enTo, h]⟩
    unfold ckErr at h1
    rw [if_pos h4, if_pos h2] at h1
    split at h1
    · assumption
    · simp at h1
  · omega
  · omega
def chOut (ws : List Nat) : List En := if enErr ws = 0 then phE 0 0 0 ++ (if enTo ws = ws.length then [] else [⟨(enTo ws : Int), headW (freeBk (ws.length - enTo ws))⟩, ⟨((enTo ws + 1 : Nat) : Int), 0⟩]) else []
def frN (ws : List Nat) : Nat := if enErr ws = 0 then ws.length - enTo ws else 0
theorem free_ok {n : Nat} (h2 : 2 ≤ n) (he : n % 2 = 0) (h : n ≤ 1920) : hdOk (freeBk n) = true := by
  rw [hdOk_iff]
  exact ⟨⟨by show (2 : Int) ≤ (n : Int); omega, by show (n : Int) % 2 = 0; omega⟩, .inr ⟨rfl, rfl, rfl, by show (n : Int) ≤ 1920; omega⟩⟩
theorem free_hd {ws : List Nat} (h : enErr ws = 0) (hne : enTo ws ≠ ws.length) : hdOk (freeBk (ws.length - enTo ws)) = true := by
  obtain ⟨hs, -, -, -, h5, h6, -, h8⟩ := en_facts h
  have hb := (sizeOk_iff _).1 hs
  have hi := (inHp_iff _).1 h5
  rw [h8] at hne ⊢
  exact free_ok (by omega) (by omega) (by omega)

/-! The view behind the last change -/
def endOf' : List Bk → Int → Int
  | [], s => s
  | b :: l, s => endOf' l (s + b.size)
theorem mvd_objs {ws : List Nat} {t : Nat} : ∀ n i, t - i ≤ n → mvd ws i t = true → ∃ os : List Bk, (∀ b ∈ os, b.kind = 1 ∧ b.mark = false ∧ typedB ws b = true ∧ 2 ≤ b.size ∧ b.size ≤ 10 ∧ 0 ≤ b.typ ∧ b.typ < 8) ∧ endOf' os i = (t : Int) ∧ os.length ≤ t - i ∧
    ∀ xs l, (∀ j, i ≤ j → j < t → wd xs j = wd ws j) → t ≤ xs.length → blocks xs t = some l → blocks xs i = some (os ++ l) := by
  intro n
  induction n with
  | zero =>
    intro i h hm
    rw [mvd_end (by omega), beq_iff_eq] at hm
    subst hm
    exact ⟨[], (fun b hb => by cases hb), rfl, Nat.zero_le _, fun xs l _ _ hl => hl⟩
  | succ n ih =>
    intro i h hm
    by_cases hi : t ≤ i
    · rw [mvd_end hi, beq_iff_eq] at hm
      subst hm
      exact ⟨[], (fun b hb => by cases hb), rfl, Nat.zero_le _, fun xs l _ _ hl => hl⟩
    · cases hmd : mdOk ws i with
      | false => rw [mvd_bad (by omega) hmd] at hm; cases hm
      | true =>
        rw [mvd_step (by omega) hmd] at hm
        have hsz := mdOk_sz hmd
        have hle : i + szAt ws i ≤ t := by
          rcases Nat.lt_or_ge t (i + szAt ws i) with h1 | h1
          · rw [mvd_end (by omega), beq_iff_eq] at hm; omega
          · exact h1
        obtain ⟨os, o1, o2, o3, o4⟩ := ih (i + szAt ws i) (by omega) hm
        unfold mdOk at hmd
        simp only [Bool.and_eq_true, beq_iff_eq, Bool.not_eq_true'] at hmd
        obtain ⟨hsp, hk, hmk, hty⟩ := hmd
        have hhd := (hdOk_iff _).1 (show hdOk (rawBk (wd ws i)) = true by unfold splitOk at hsp; simp only [Bool.and_eq_true] at hsp; exact hsp.1)
        refine ⟨bkAt ws i :: os, fun b hb => ?_, ?_, by rw [List.length_cons]; omega, fun xs l hw hxl hl => ?_⟩
        · rcases List.mem_cons.1 hb with rfl | hb
          · have e : (bkAt ws i).size = ((szAt ws i : Nat) : Int) := rfl
            have e2 : (bkAt ws i).typ = (rawBk (wd ws i)).typ := rfl
            refine ⟨hk, hmk, ?_, by omega, by omega, by omega, by omega⟩
            unfold typedB at hty ⊢
            exact hty
          · exact o1 b hb
        · show endOf' os (i + (szAt ws i : Nat)) = _
          rw [← o2]
          congr 1
        · have ex : wd xs i = wd ws i := hw i (Nat.le_refl _) (by omega)
          have ex1 : wd xs (i + 1) = wd ws (i + 1) := hw (i + 1) (by omega) (by omega)
          have e1 : szAt xs i = szAt ws i := by unfold szAt; rw [ex]
          have e2 : bkAt xs i = bkAt ws i := by unfold bkAt; rw [ex, ex1]
          have hst : stands xs i = true := by
            unfold stands
            rw [ex, hsp, Bool.true_and, decide_eq_true_eq]
            have : (rawBk (wd ws i)).size = ((szAt ws i : Nat) : Int) := rfl
            omega
          rw [blocks_step (by omega) hst, e1, e2, o4 xs l (fun j h1 h2 => hw j (by omega) h2) hxl hl]
          rfl
/-- A view with the last change put into it. -/
theorem put_ch {ws : List Nat} (h : enErr ws = 0) : ∀ j, wd (putE ws (chOut ws)) j = if j = 16 ∨ j = 17 ∨ j = 18 then 0 else if enTo ws < ws.length ∧ j = enTo ws then headW (freeBk (ws.length - enTo ws)) else if enTo ws < ws.length ∧ j = enTo ws + 1 then 0 else wd ws j := by
  obtain ⟨hs, -, -, -, h5, h6, -, h8⟩ := en_facts h
  have hb := (sizeOk_iff _).1 hs
  have hi := (inHp_iff _).1 h5
  rw [← h8] at hi h6
  intro j
  have hw3 : ∀ j, wd (putE ws (phE 0 0 0)) j = if j = 16 ∨ j = 17 ∨ j = 18 then 0 else wd ws j := by
    intro j
    unfold phE
    rw [show (16 : Int) = ((16 : Nat) : Int) from rfl, show (17 : Int) = ((17 : Nat) : Int) from rfl, show (18 : Int) = ((18 : Nat) : Int) from rfl]
    rw [putE_in 16 _ _ (by omega), putE_in 17 _ _ (by rw [List.length_set]; omega), putE_in 18 _ _ (by rw [List.length_set, List.length_set]; omega)]
    show wd (((ws.set 16 0).set 17 0).set 18 0) j = _
    rw [wd_set, wd_set, wd_set]
    simp only [List.length_set]
    by_cases h18 : j = 18
    · subst h18; rw [if_pos ⟨rfl, by omega⟩, if_pos (by omega)]
    · rw [if_neg (by omega)]
      by_cases h17 : j = 17
      · subst h17; rw [if_pos ⟨rfl, by omega⟩, if_pos (by omega)]
      · rw [if_neg (by omega)]
        by_cases h16 : j = 16
        · subst h16; rw [if_pos ⟨rfl, by omega⟩, if_pos (by omega)]
        · rw [if_neg (by omega), if_neg (by omega)]
  have hch : chOut ws = phE 0 0 0 ++ (if enTo ws = ws.length then [] else [⟨(enTo ws : Int), headW (freeBk (ws.length - enTo ws))⟩, ⟨((enTo ws + 1 : Nat) : Int), 0⟩]) := by simp [chOut, h]
  rw [hch, putE_append]
  have hl3 : (putE ws (phE 0 0 0)).length = ws.length := putE_len _ _
  by_cases hne : enTo ws = ws.length
  · rw [if_pos hne]
    show wd (putE ws (phE 0 0 0)) j = _
    rw [hw3]
    by_cases hq : j = 16 ∨ j = 17 ∨ j = 18
    · rw [if_pos hq, if_pos hq]
    · rw [if_neg hq, if_neg hq, if_neg (fun h => absurd h.1 (by omega)), if_neg (fun h => absurd h.1 (by omega))]
  · rw [if_neg hne, putE_in _ _ _ (by rw [hl3]; omega), putE_in _ _ _ (by rw [List.length_set, hl3]; omega)]
    show wd (((putE ws (phE 0 0 0)).set _ _).set _ _) j = _
    rw [wd_set, wd_set, hw3, List.length_set, hl3]
    by_cases h1 : j = enTo ws + 1
    · subst h1
      rw [if_pos ⟨rfl, by omega⟩, if_neg (by omega), if_neg (by omega), if_pos ⟨by omega, rfl⟩]
    · rw [if_neg (by omega)]
      by_cases h2 : j = enTo ws
      · subst h2
        rw [if_pos ⟨rfl, by omega⟩, if_neg (by omega), if_pos ⟨by omega, rfl⟩]
      · rw [if_neg (by omega)]
        by_cases hq : j = 16 ∨ j = 17 ∨ j = 18
        · rw [if_pos hq, if_pos hq]
        · rw [if_neg hq, if_neg hq, if_neg (fun h => h2 h.2), if_neg (fun h => h1 h.2)]
def finB (ws : List Nat) : List Bk := if enTo ws = ws.length then [] else [{ freeBk (ws.length - enTo ws) with at_ := (enTo ws : Int) }]
/-- FinishOne: what is found behind the last change. -/
theorem fin_plain {ws : List Nat} (h : enErr ws = 0) : ∃ os : List Bk, (∀ b ∈ os, b.kind = 1 ∧ b.mark = false ∧ 2 ≤ b.size ∧ b.size ≤ 10) ∧ endOf' os 128 = (enTo ws : Int) ∧ os.length ≤ 2048 ∧ hpErr (putE ws (chOut ws)) = 0 ∧
    hpOut (putE ws (chOut ws)) = os ++ finB ws ∧ blocks (putE ws (chOut ws)) 128 = some (os ++ finB ws) ∧ lnErr (putE ws (chOut ws)) = 0 ∧ lnV (putE ws (chOut ws)) = phV 0 0 0 ∧ mkdL (os ++ finB ws) = [] ∧ (putE ws (chOut ws)).length = ws.length := by
  obtain ⟨hs, -, hlw, -, h5, h6, hmv, h8⟩ := en_facts h
  have hb := (sizeOk_iff _).1 hs
  have hi := (inHp_iff _).1 h5
  have hput := put_ch h
  have hxl : (putE ws (chOut ws)).length = ws.length := putE_len _ _
  have hfh := free_hd h
  rw [← h8] at h6 hi hmv
  obtain ⟨os, o1, o2, o3, o4⟩ := mvd_objs _ 128 (Nat.le_refl _) hmv
  generalize putE ws (chOut ws) = x at hput hxl ⊢
  have hbt : blocks x (enTo ws) = some (finB ws) := by
    unfold finB
    by_cases hne : enTo ws = ws.length
    · rw [if_pos hne, blocks_end (by omega)]
    · rw [if_neg hne]
      have hfr := hfh hne
      have e0 : wd x (enTo ws) = headW (freeBk (ws.length - enTo ws)) := by
        rw [hput, if_neg (by omega), if_pos ⟨by omega, rfl⟩]
      have e1 : wd x (enTo ws + 1) = 0 := by
        rw [hput, if_neg (by omega), if_neg (fun h => absurd h.2 (by omega)), if_pos ⟨by omega, rfl⟩]
      have hraw := raw_head hfr
      have hsz : szAt x (enTo ws) = ws.length - enTo ws := by
        have e2 : (rawBk (wd x (enTo ws))).size = ((szAt x (enTo ws) : Nat) : Int) := rfl
        rw [e0, hraw] at e2
        have e3 : (freeBk (ws.length - enTo ws)).size = ((ws.length - enTo ws : Nat) : Int) := rfl
        dsimp only at e2
        omega
      have hst : stands x (enTo ws) = true := by
        unfold stands
        rw [e0, split_head hfr, Bool.true_and, decide_eq_true_eq, hraw]
        show ((ws.length - enTo ws : Nat) : Int) ≤ _
        omega
      rw [blocks_step (by omega) hst, hsz, blocks_end (by omega)]
      have hbk : bkAt x (enTo ws) = { freeBk (ws.length - enTo ws) with at_ := (enTo ws : Int) } := by
        unfold bkAt
        rw [e0, hraw, e1]; rfl
      rw [hbk]; rfl
  have hb128 := o4 x (finB ws) (fun j h1 h2 => by rw [hput, if_neg (by omega), if_neg (fun h => absurd h.2 (by omega)), if_neg (fun h => absurd h.2 (by omega))]) (by omega) hbt
  have hfit : (os ++ finB ws).all (fitB x) = true := by
    rw [List.all_eq_true]
    intro b hbm
    rcases List.mem_append.1 hbm with hbm | hbm
    · obtain ⟨g1, g2, g3, g4, g5, g6, g7⟩ := o1 b hbm
      unfold fitB typedB
      unfold typedB at g3
      have hty : tyA b + 1 < 128 := by unfold tyA; omega
      rw [hput (tyA b), hput (tyA b + 1)]
      have hty2 : 96 ≤ tyA b := by unfold tyA; omega
      rw [if_neg (by omega), if_neg (fun h => absurd h.2 (by omega)), if_neg (fun h => absurd h.2 (by omega)), if_neg (by omega), if_neg (fun h => absurd h.2 (by omega)), if_neg (fun h => absurd h.2 (by omega)), g3, Bool.or_true]
    · unfold finB at hbm
      split at hbm
      · cases hbm
      · rw [List.mem_singleton] at hbm
        subst hbm
        rfl
  obtain ⟨p1, p2⟩ := hpErr_ok (by rw [hxl]; exact hs) hb128 hfit
  obtain ⟨-, w19, w20, w21, w22, w23⟩ := (lineW_iff ws).1 hlw
  have hx : ∀ j, j < 24 → (j = 16 ∨ j = 17 ∨ j = 18) ∧ wd x j = 0 ∨ wd x j = wd ws j := by
    intro j hj
    rw [hput]
    by_cases hq : j = 16 ∨ j = 17 ∨ j = 18
    · left; exact ⟨hq, by rw [if_pos hq]⟩
    · right; rw [if_neg hq, if_neg (fun h => absurd h.2 (by omega)), if_neg (fun h => absurd h.2 (by omega))]
  have x16 : wd x 16 = 0 := by rw [hput, if_pos (by omega)]
  have x17 : wd x 17 = 0 := by rw [hput, if_pos (by omega)]
  have x18 : wd x 18 = 0 := by rw [hput, if_pos (by omega)]
  have x19 : wd x 19 = 0 := by rcases hx 19 (by omega) with h | h; exact h.2; rw [h]; exact w19
  have x20 : wd x 20 = 0 := by rcases hx 20 (by omega) with h | h; exact h.2; rw [h]; exact w20
  have x21 : wd x 21 = 0 := by rcases hx 21 (by omega) with h | h; exact h.2; rw [h]; exact w21
  have x22 : wd x 22 = 0 := by rcases hx 22 (by omega) with h | h; exact h.2; rw [h]; exact w22
  have x23 : wd x 23 = 0 := by rcases hx 23 (by omega) with h | h; exact h.2; rw [h]; exact w23
  have hlx : lineW x = true := by rw [lineW_iff, x16, x17, x18]; exact ⟨⟨by omega, by omega, by omega⟩, x19, x20, x21, x22, x23⟩
  have hpr := (prErr_ok (ws := x) (by rw [hxl]; exact hs) (by rw [hlx, x16, x17, x18]; rfl)).1
  have hln : lnErr x = 0 := by
    unfold lnErr
    rw [if_pos hpr, if_neg (by rw [x16]; omega)]
  refine ⟨os, fun b hbm => ?_, o2, by omega, p1, p2, hb128, hln, by simp [lnV, hln, x16, x17, x18], ?_, hxl⟩
  · obtain ⟨g1, g2, g3, g4, g5, g6, g7⟩ := o1 b hbm
    exact ⟨g1, g2, g4, g5⟩
  · unfold mkdL
    rw [List.map_eq_nil_iff, List.filter_eq_nil_iff]
    intro b hbm
    rcases List.mem_append.1 hbm with hbm | hbm
    · rw [(o1 b hbm).2.1]; simp
    · unfold finB at hbm
      split at hbm
      · cases hbm
      · rw [List.mem_singleton] at hbm
        subst hbm
        simp [freeBk]
end Go.Proofs.Ytpfbppjjegialaa
