/- What is reached, run: closed images. -/
import Derived.Test.YtoaepffpjoibaaaGreatKStg1
namespace Go.Proofs.YtoaepffpjoibaaaGreat
open Go.RowKit

def rchRun (ws : List Nat) : Nat → List Bool → List Nat → Option (Option (List Bool))
  | 0, _, _ => none
  | _ + 1, seen, [] => some (some seen)
  | f + 1, seen, a :: s => if tb ws a = 0 then some none else if seen[a]? = some true then rchRun ws f seen s else rchRun ws f (seen.set a true) ((tgts ws a (flds ws a).length).reverse ++ s)
theorem rchRun_ok {ws : List Nat} : ∀ f seen s, Wk ws seen s.reverse → (rchRun ws f seen s = some none → ¬ Good ws) ∧ ∀ S, rchRun ws f seen s = some (some S) → Wk ws S [] := by
  intro f
  induction f with
  | zero => intro seen s _; exact ⟨fun h => (by cases h), fun S h => (by cases h)⟩
  | succ f ih =>
    intro seen s h
    cases s with
    | nil =>
      refine ⟨fun h1 => (by cases h1), fun S h1 => ?_⟩
      simp only [rchRun, Option.some.injEq] at h1
      subst h1
      simpa using h
    | cons a s =>
      rw [List.reverse_cons] at h
      simp only [rchRun]
      by_cases h0 : tb ws a = 0
      · rw [if_pos h0]
        exact ⟨fun _ => h.bad h0, fun S h1 => by cases h1⟩
      · rw [if_neg h0]
        by_cases h1 : seen[a]? = some true
        · rw [if_pos h1]
          exact ih _ _ (h.old h1)
        · rw [if_neg h1]
          refine ih _ _ ?_
          rw [List.reverse_append, List.reverse_reverse]
          exact h.new_ h0
def rcRun (ws : List Nat) (f : Nat) : Option (Option (List Bool)) := rchRun ws f (List.replicate ws.length false) (slTo ws 16).reverse
theorem rc_start (ws : List Nat) : Wk ws (List.replicate ws.length false) (slTo ws 16).reverse.reverse := by rw [List.reverse_reverse]; exact Wk.start ws
/-- All is right: what is reached, by the run. -/
theorem rc_run {ws : List Nat} {f : Nat} {S : List Bool} (h0 : hpErr ws = 0) (hs : slsOk ws = true) (h : rcRun ws f = some (some S)) : rcErr ws = 0 ∧ seenL ws = S ∧ rcOut ws = seenTo S ws.length := by
  have hw := (rchRun_ok f _ _ (rc_start ws)).2 S h
  have he : rcErr ws = 0 := rc_ok h0 hs hw.end_.1
  have hse := hw.seenL
  exact ⟨he, hse.symm, by rw [rcOut_seen he, ← hse]⟩
/-- Something is reached that is no object. -/
theorem rcr_bad {ws : List Nat} {f : Nat} (h0 : hpErr ws = 0) (h : rcRun ws f = some none) : rcErr ws = 50 := by
  have hw := (rchRun_ok f _ _ (rc_start ws)).1 h
  unfold rcErr
  rw [if_pos h0]
  by_cases hs : slsOk ws = true
  · rw [if_pos hs, if_neg hw]
  · rw [if_neg hs]
theorem rcr_hp {ws : List Nat} {r : Int} (h0 : hpErr ws = r) (h : r ≠ 0) : rcErr ws = r := by
  unfold rcErr
  rw [if_neg (by rw [h0]; exact h)]
  exact h0
end Go.Proofs.YtoaepffpjoibaaaGreat
