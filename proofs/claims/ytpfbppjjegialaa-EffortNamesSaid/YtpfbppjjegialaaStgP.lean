/- The changes of a phase: plain functions. -/
import Derived.Test.YtpfbppjjegialaaKWnt
import Derived.Test.YtpfbppjjegialaaKFix
import Derived.Test.YtpfbppjjegialaaSldM
import Derived.Test.YtpfbppjjegialaaCurP
namespace Go.Proofs.Ytpfbppjjegialaa
open Go.RowKit

/-- The entries that are wanted, as far as there is room. -/
def batE (l : List En) (p : Nat) : List En := if 32 ≤ l.length then l.take 31 else ⟨16, p⟩ :: l
def slidesE : List En := [⟨16, 4⟩, ⟨17, 128⟩, ⟨18, 128⟩]
/-- Where the next marked object is. -/
theorem nxt_at {ws : List Nat} {a : Nat} (h : nxtErr ws (a : Int) = 0) : sizeOk (ws.length : Int) = true ∧ 128 ≤ a ∧ a % 2 = 0 ∧ ∃ m : Nat, nxtB ws (a : Int) = bkAt ws m ∧ a ≤ m ∧ m % 2 = 0 ∧ 2 ≤ szAt ws m ∧ szAt ws m % 2 = 0 ∧ m + szAt ws m ≤ ws.length ∧ stands ws m = true ∧ (bkAt ws m).mark = true ∧ (bkAt ws m).kind = 1 ∧ ∃ l, blocks ws a = some l ∧ frErr ws (a : Int) = 0 ∧ frOut ws (a : Int) = l ∧ ∃ k, k < l.length ∧ noMark l k ∧ blocks ws m = some (l.drop k) := by
  have h0 : frErr ws (a : Int) = 0 := by
    by_cases h1 : frErr ws (a : Int) = 0
    · exact h1
    · rw [(nx_err rfl h1).2] at h; exact absurd h h1
  have hs : sizeOk (ws.length : Int) = true := by
    cases hq : sizeOk (ws.length : Int) with
    | true => rfl
    | false => rw [frErr_img hq] at h0; cases h0
  have harg : frArg ws.length (a : Int) = false := by
    cases hq : frArg ws.length (a : Int) with
    | false => rfl
    | true => rw [frErr_arg hs hq] at h0; cases h0
  have ha := frArg_no harg
  cases hb : blocks ws a with
  | none => rw [frErr_none hs harg (by rw [Int.toNat_natCast]; exact hb)] at h0; cases h0
  | some l =>
    have hf := frErr_some (a := (a : Int)) hs harg (l := l) (by rw [Int.toNat_natCast]; exact hb)
    rcases first_mark l with ⟨k, hk, hn, hm⟩ | hn
    · obtain ⟨e1, -⟩ := nx_some h0 hf.2 hk hn hm
      obtain ⟨m, f1, f2, f3, f4, f5, f6⟩ := blocks_at _ _ hb (by omega) k hk
      have hz := stands_sz f5
      have hlv := fr_live h0 (k := k) (by rw [hf.2]; exact hk)
      rw [hf.2] at hlv
      rw [gk_get l k hk] at e1 hm hlv
      rw [f1] at hm hlv
      rw [hm] at hlv
      simp only [Bool.not_true, Bool.or_false, beq_iff_eq] at hlv
      exact ⟨hs, by omega, by omega, m, by rw [e1, f1], f3, f2, hz.1, hz.2.1, hz.2.2, f5, hm, hlv, l, rfl, h0, hf.2, k, hk, hn, f6⟩
    · rw [(nx_none h0 hf.2 hn).2] at h; cases h
/-- The next change of PhFix, from an address on. -/
def fixL (ws : List Nat) : Nat → Nat → Int × List En
  | 0, _ => (0, slidesE)
  | f + 1, a => if nxtErr ws (a : Int) = 0 then (if rsOut ws (nxtB ws (a : Int)).at_ = [] then fixL ws f ((nxtB ws (a : Int)).at_ + (nxtB ws (a : Int)).size).toNat
      else if obErr ws (nxtB ws (a : Int)).at_ = 0 then (0, ⟨17, ((nxtB ws (a : Int)).at_ + (nxtB ws (a : Int)).size).toNat⟩ :: obOut ws (nxtB ws (a : Int)).at_)
      else (obErr ws (nxtB ws (a : Int)).at_, [])) else (0, slidesE)
theorem fixL_more {ws : List Nat} : ∀ {f a g : Nat}, ws.length - a < f → ws.length - a < g → fixL ws f a = fixL ws g a := by
  intro f
  induction f with
  | zero => intro a g h; omega
  | succ f ih =>
    intro a g h hg
    cases g with
    | zero => omega
    | succ g =>
      simp only [fixL]
      by_cases h0 : nxtErr ws (a : Int) = 0
      · obtain ⟨hs, a1, a2, m, e, m1, m2, m3, m4, m5, -⟩ := nxt_at h0
        have hn : ((nxtB ws (a : Int)).at_ + (nxtB ws (a : Int)).size).toNat = m + szAt ws m := by rw [e, bkAt_at, bkAt_size]; omega
        rw [if_pos h0, if_pos h0, hn]
        by_cases hr : rsOut ws (nxtB ws (a : Int)).at_ = []
        · rw [if_pos hr, if_pos hr]
          exact ih (by omega) (by omega)
        · rw [if_neg hr, if_neg hr]
      · rw [if_neg h0, if_neg h0]
def fixE (ws : List Nat) (a : Nat) : Int × List En := fixL ws (ws.length + 1) a
theorem fixE_no {ws : List Nat} {a : Nat} (h : nxtErr ws (a : Int) ≠ 0) : fixE ws a = (0, slidesE) := by
  unfold fixE
  rw [fixL, if_neg h]
theorem fixE_skip {ws : List Nat} {a m : Nat} (h : nxtErr ws (a : Int) = 0) (e : nxtB ws (a : Int) = bkAt ws m) (h2 : rsOut ws (m : Int) = []) : fixE ws a = fixE ws (m + szAt ws m) := by
  obtain ⟨hs, a1, a2, m', e', m1, m2, m3, m4, m5, -⟩ := nxt_at h
  have hmm : m' = m := by have := congrArg Bk.at_ (e.symm.trans e'); rw [bkAt_at, bkAt_at] at this; omega
  subst hmm
  unfold fixE
  rw [fixL, if_pos h, e, bkAt_at, if_pos h2, bkAt_size, show (((m' : Int) + ((szAt ws m' : Nat) : Int)).toNat) = m' + szAt ws m' by omega]
  exact fixL_more (by omega) (by omega)
theorem fixE_bad {ws : List Nat} {a m : Nat} (h : nxtErr ws (a : Int) = 0) (e : nxtB ws (a : Int) = bkAt ws m) (h2 : rsOut ws (m : Int) ≠ []) (h3 : obErr ws (m : Int) ≠ 0) : fixE ws a = (obErr ws (m : Int), []) := by
  unfold fixE
  rw [fixL, if_pos h, e, bkAt_at, if_neg h2, if_neg h3]
theorem fixE_ok {ws : List Nat} {a m : Nat} (h : nxtErr ws (a : Int) = 0) (e : nxtB ws (a : Int) = bkAt ws m) (h2 : rsOut ws (m : Int) ≠ []) (h3 : obErr ws (m : Int) = 0) : fixE ws a = (0, ⟨17, m + szAt ws m⟩ :: obOut ws (m : Int)) := by
  unfold fixE
  rw [fixL, if_pos h, e, bkAt_at, if_neg h2, if_pos h3, bkAt_size, show (((m : Int) + ((szAt ws m : Nat) : Int)).toNat) = m + szAt ws m by omega]
/-- The next change of PhFix. -/
def sgFix (ws : List Nat) : Int × List En := if wd ws 17 = 0 then (if fsErr ws = 0 then (0, ⟨17, 128⟩ :: fsOut ws) else (fsErr ws, [])) else fixE ws (wd ws 17)
/-- The next change of PhSlide. -/
def sgSld (ws : List Nat) : Int × List En := if nxtErr ws ((wd ws 17 : Nat) : Int) = 0 then
    (if mvErr ws (nxtB ws ((wd ws 17 : Nat) : Int)).at_ ((wd ws 18 : Nat) : Int) = 0 then (0, ⟨17, ((nxtB ws ((wd ws 17 : Nat) : Int)).at_ + (nxtB ws ((wd ws 17 : Nat) : Int)).size).toNat⟩ :: ⟨18, (((wd ws 18 : Nat) : Int) + (nxtB ws ((wd ws 17 : Nat) : Int)).size).toNat⟩ :: mvOut ws (nxtB ws ((wd ws 17 : Nat) : Int)).at_ ((wd ws 18 : Nat) : Int))
    else (mvErr ws (nxtB ws ((wd ws 17 : Nat) : Int)).at_ ((wd ws 18 : Nat) : Int), [])) else (6, [])
/-- The next change. -/
noncomputable def sgOne (ws : List Nat) : Int × List En := if ckErr ws = 0 then
    (if wd ws 16 = 1 then (if rcErr ws = 0 then (0, batE (wtOut ws) 2) else (rcErr ws, []))
    else if wd ws 16 = 2 then (if hpErr ws = 0 then (0, batE (wnOut ws) 3) else (hpErr ws, []))
    else if wd ws 16 = 3 then sgFix ws
    else if wd ws 16 = 4 then sgSld ws else (6, [])) else (ckErr ws, [])
theorem batE_great {l : List En} {p : Nat} (h : 32 ≤ l.length) : batE l p = l.take 31 := by unfold batE; rw [if_pos h]
theorem batE_few {l : List En} {p : Nat} (h : ¬ 32 ≤ l.length) : batE l p = ⟨16, p⟩ :: l := by unfold batE; rw [if_neg h]
end Go.Proofs.Ytpfbppjjegialaa
