/- What comes next, run: closed images. -/
import Derived.Test.YtpfbppjjegialaaRsE
import Derived.Test.YtpfbppjjegialaaRcRun
namespace Go.Proofs.Ytpfbppjjegialaa
open Go.RowKit

def sgOneC (f : Nat) (ws : List Nat) : Option (Int × List En) := if ckErr ws = 0 then
    (if wd ws 16 = 1 then (if hpErr ws = 0 then (match rcRun ws f with
      | some (some S) => if slsOk ws = true then some (0, batE ((wntL S (hpOut ws)).map (wntE ws S)) 2) else some (50, [])
      | some none => some (50, [])
      | none => none) else some (hpErr ws, []))
    else if wd ws 16 = 2 then some (if hpErr ws = 0 then (0, batE (wnOut ws) 3) else (hpErr ws, []))
    else if wd ws 16 = 3 then some (sgFix ws)
    else if wd ws 16 = 4 then some (sgSld ws) else some (6, [])) else some (ckErr ws, [])
theorem sgOneC_ok {f : Nat} {ws : List Nat} {r : Int × List En} (h : sgOneC f ws = some r) : sgOne ws = r := by
  unfold sgOneC at h
  unfold sgOne
  by_cases h0 : ckErr ws = 0
  · rw [if_pos h0] at h ⊢
    by_cases p1 : wd ws 16 = 1
    · rw [if_pos p1] at h ⊢
      by_cases h1 : hpErr ws = 0
      · rw [if_pos h1] at h
        cases hr : rcRun ws f with
        | none => rw [hr] at h; cases h
        | some o =>
          rw [hr] at h
          cases o with
          | none =>
            have := rcr_bad h1 hr
            rw [if_neg (by rw [this]; decide), this]
            exact Option.some.inj h
          | some S =>
            dsimp only at h
            by_cases hs : slsOk ws = true
            · rw [if_pos hs] at h
              obtain ⟨g1, g2, -⟩ := rc_run h1 hs hr
              rw [if_pos g1, wtOut_eq g1, g2]
              exact Option.some.inj h
            · rw [if_neg hs] at h
              have : rcErr ws = 50 := by unfold rcErr; rw [if_pos h1, if_neg hs]
              rw [if_neg (by rw [this]; decide), this]
              exact Option.some.inj h
      · rw [if_neg h1] at h
        have := rcr_hp (ws := ws) rfl h1
        rw [if_neg (by rw [this]; exact h1), this]
        exact Option.some.inj h
    · rw [if_neg p1] at h ⊢
      by_cases p2 : wd ws 16 = 2
      · rw [if_pos p2] at h ⊢; exact Option.some.inj h
      · rw [if_neg p2] at h ⊢
        by_cases p3 : wd ws 16 = 3
        · rw [if_pos p3] at h ⊢; exact Option.some.inj h
        · rw [if_neg p3] at h ⊢
          by_cases p4 : wd ws 16 = 4
          · rw [if_pos p4] at h ⊢; exact Option.some.inj h
          · rw [if_neg p4] at h ⊢; exact Option.some.inj h
  · rw [if_neg h0] at h ⊢
    exact Option.some.inj h
def rsNxC (f : Nat) (x : List Nat) : Option (Int × Bool × List En) := match sgOneC f x with
  | none => none
  | some r => some (if r.1 = 6 then (if wd x 16 = 0 then (0, true, []) else (enErr x, false, chOut x)) else (r.1, false, r.2))
theorem rsNxC_ok {f : Nat} {x : List Nat} {r : Int × Bool × List En} (h : rsNxC f x = some r) : rsNx x = r := by
  unfold rsNxC at h
  cases hs : sgOneC f x with
  | none => rw [hs] at h; cases h
  | some q =>
    rw [hs] at h
    have := sgOneC_ok hs
    unfold rsNx
    rw [this]
    exact Option.some.inj h
def rsC (f : Nat) : Nat → List Nat → Option (Int × List (List En) × List Nat)
  | 0, _ => none
  | k + 1, x => match rsNxC f x with
    | none => none
    | some (r, d, E) => if r = 0 then (if d = true then some (0, [], x) else (match rsC f k (putE x E) with
      | none => none
      | some (r2, o, y) => if r2 = 0 then some (0, E :: o, y) else some (r2, [], []))) else some (r, [], [])
theorem rsC_ok {f : Nat} : ∀ {k : Nat} {x : List Nat} {r : Int × List (List En) × List Nat}, (∀ v ∈ x, v < 18446744073709551616) → rsC f k x = some r → rsE x = r := by
  intro k
  induction k with
  | zero => intro x r _ h; cases h
  | succ k ih =>
    intro x r ho h
    simp only [rsC] at h
    cases hn : rsNxC f x with
    | none => rw [hn] at h; cases h
    | some q =>
      obtain ⟨q1, d, E⟩ := q
      rw [hn] at h
      have hq := rsNxC_ok hn
      dsimp only at h
      by_cases h0 : q1 = 0
      · subst h0
        rw [if_pos rfl] at h
        cases d with
        | true =>
          rw [if_pos rfl] at h
          rw [rsE_done (by rw [hq]) (by rw [hq])]
          exact Option.some.inj h
        | false =>
          rw [if_neg (by decide)] at h
          rw [rsE_step ho (by rw [hq]) (by rw [hq]), hq]
          dsimp only
          have hl := (rs_ok ho (by rw [hq]) (by rw [hq])).2.1
          rw [hq] at hl
          cases hr : rsC f k (putE x E) with
          | none => rw [hr] at h; cases h
          | some u =>
            obtain ⟨u1, u2, u3⟩ := u
            rw [hr] at h
            rw [ih hl hr]
            dsimp only at h ⊢
            by_cases hu : u1 = 0
            · rw [if_pos hu] at h ⊢; exact Option.some.inj h
            · rw [if_neg hu] at h ⊢; exact Option.some.inj h
      · rw [if_neg h0] at h
        rw [rsE_err (by rw [hq]; exact h0), hq]
        exact Option.some.inj h
def rsAllC (f k : Nat) (x : List Nat) : Option (Int × List (List En) × List Nat) := if ckErr x = 0 then rsC f k x else some (ckErr x, [], [])
theorem rsAllC_ok {f k : Nat} {x : List Nat} {r : Int × List (List En) × List Nat} (ho : ∀ v ∈ x, v < 18446744073709551616) (h : rsAllC f k x = some r) : rsAll x = r := by
  unfold rsAllC at h
  unfold rsAll
  by_cases h0 : ckErr x = 0
  · rw [if_pos h0] at h ⊢; exact rsC_ok ho h
  · rw [if_neg h0] at h ⊢; exact Option.some.inj h
def sgC (f p : Nat) : Nat → List Nat → Option (Int × List (List En) × List Nat)
  | 0, _ => none
  | k + 1, x => if wd x 16 = p then (match sgOneC f x with
    | none => none
    | some (r, E) => if r = 6 then some (0, [], x) else if r = 0 then (match sgC f p k (putE x E) with
      | none => none
      | some (r2, o, y) => if r2 = 0 then some (0, E :: o, y) else some (r2, [], [])) else some (r, [], [])) else some (0, [], x)
theorem sgC_ok {f p : Nat} : ∀ {k : Nat} {x : List Nat} {r : Int × List (List En) × List Nat}, (∀ v ∈ x, v < 18446744073709551616) → sgC f p k x = some r → allE p x = r := by
  intro k
  induction k with
  | zero => intro x r _ h; cases h
  | succ k ih =>
    intro x r ho h
    simp only [sgC] at h
    by_cases hp : wd x 16 = p
    · rw [if_pos hp] at h
      cases hn : sgOneC f x with
      | none => rw [hn] at h; cases h
      | some q =>
        obtain ⟨q1, E⟩ := q
        rw [hn] at h
        have hq := sgOneC_ok hn
        dsimp only at h
        by_cases h6 : q1 = 6
        · rw [if_pos h6] at h
          rw [allE_none hp (by rw [hq]; exact h6)]
          exact Option.some.inj h
        · rw [if_neg h6] at h
          by_cases h0 : q1 = 0
          · subst h0
            rw [if_pos rfl] at h
            rw [allE_step ho hp (by rw [hq]), hq]
            dsimp only
            have hl := putS_lt ho (by rw [hq])
            rw [hq] at hl
            cases hr : sgC f p k (putE x E) with
            | none => rw [hr] at h; cases h
            | some u =>
              obtain ⟨u1, u2, u3⟩ := u
              rw [hr] at h
              rw [ih hl hr]
              dsimp only at h ⊢
              by_cases hu : u1 = 0
              · rw [if_pos hu] at h ⊢; exact Option.some.inj h
              · rw [if_neg hu] at h ⊢; exact Option.some.inj h
          · rw [if_neg h0] at h
            rw [allE_err hp (by rw [hq]; exact h6) (by rw [hq]; exact h0), hq]
            exact Option.some.inj h
    · rw [if_neg hp] at h
      rw [allE_other hp]
      exact Option.some.inj h
def sgAllC (f k : Nat) (x : List Nat) : Option (Int × List (List En) × List Nat) := if ckErr x = 0 then sgC f (wd x 16) k x else some (ckErr x, [], [])
theorem sgAllC_ok {f k : Nat} {x : List Nat} {r : Int × List (List En) × List Nat} (ho : ∀ v ∈ x, v < 18446744073709551616) (h : sgAllC f k x = some r) : sgAll x = r := by
  unfold sgAllC at h
  unfold sgAll
  by_cases h0 : ckErr x = 0
  · rw [if_pos h0] at h ⊢; exact sgC_ok ho h
  · rw [if_neg h0] at h ⊢; exact Option.some.inj h
end Go.Proofs.Ytpfbppjjegialaa
