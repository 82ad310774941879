/- Entries of a change: which ones are right, as a plain function; a set of numbers as the model's map has it. -/
import Derived.Test.YtiaddipbjigaiaaBase
import Derived.Test.YtiaddipbjigaiaaEffP
import Derived.Maps.Own
import Derived.Maps.Views
import Derived.Maps.OwnOps
import Derived.Maps.Keyed
namespace Go.Proofs.Ytiaddipbjigaiaa
open Go.Maps

def mayB (x w : Int) : Bool := decide (16 ≤ x) && (decide (x < w) && (decide (x < 24) || decide (96 ≤ x)))
def entPre (ad : List Int) (w : Int) : Nat → Bool
  | 0 => true
  | k + 1 => entPre ad w k && (mayB (ad[k]?.getD 0) w && !addrSeen ad (ad[k]?.getD 0) k)
def sizeOk (w : Int) : Bool := decide (256 ≤ w) && (decide (w ≤ 2048) && w % 8 == 0)
/-- The error of a change on so many words. -/
def entErr (ad : List Int) (w : Int) : Int := if sizeOk w = true then (if 32 < ad.length then 4 else if entPre ad w ad.length = true then 0 else 8) else 2
theorem entPre_mono {ad : List Int} {w : Int} {k n : Nat} (h : entPre ad w n = true) (hk : k ≤ n) : entPre ad w k = true := by
  induction n with
  | zero => have : k = 0 := by omega
            subst this; exact h
  | succ n ih =>
    rcases Nat.lt_or_ge k (n + 1) with h1 | h1
    · simp only [entPre, Bool.and_eq_true] at h
      exact ih h.1 (by omega)
    · have : k = n + 1 := by omega
      subst this; exact h
theorem entErr_arg {ad : List Int} {w : Int} (h : sizeOk w = false) : entErr ad w = 2 := by simp [entErr, h]
theorem entErr_many {ad : List Int} {w : Int} (h : sizeOk w = true) (h2 : 32 < ad.length) : entErr ad w = 4 := by simp [entErr, h, h2]
theorem entErr_bad {ad : List Int} {w : Int} (h : sizeOk w = true) (h2 : ad.length ≤ 32) {k : Nat} (hk : entPre ad w k = false) (hn : k ≤ ad.length) : entErr ad w = 8 := by
  have h3 : entPre ad w ad.length = false := by
    cases hq : entPre ad w ad.length with
    | false => rfl
    | true => rw [entPre_mono hq hn] at hk; cases hk
  have h4 : ¬ 32 < ad.length := by omega
  simp [entErr, h, h3, h4]
theorem entErr_ok {ad : List Int} {w : Int} (h : sizeOk w = true) (h2 : ad.length ≤ 32) (h3 : entPre ad w ad.length = true) : entErr ad w = 0 := by
  have h4 : ¬ 32 < ad.length := by omega
  simp [entErr, h, h3, h4]
theorem entErr_zero {ad : List Int} {w : Int} (h : entErr ad w = 0) : sizeOk w = true ∧ ad.length ≤ 32 ∧ entPre ad w ad.length = true := by
  unfold entErr at h
  split at h
  · split at h
    · simp at h
    · split at h
      · exact ⟨by assumption, by omega, by assumption⟩
      · simp at h
  · simp at h
theorem entErr_bd (ad : List Int) (w : Int) : entErr ad w = 0 ∨ entErr ad w = 2 ∨ entErr ad w = 4 ∨ entErr ad w = 8 := by
  unfold entErr; split
  · split
    · simp
    · split <;> simp
  · simp
theorem sizeOk_iff (w : Int) : sizeOk w = true ↔ 256 ≤ w ∧ w ≤ 2048 ∧ w % 8 = 0 := by simp [sizeOk]
theorem mayB_iff (x w : Int) : mayB x w = true ↔ 16 ≤ x ∧ x < w ∧ (x < 24 ∨ 96 ≤ x) := by simp [mayB]
theorem entPre_at {ad : List Int} {w : Int} {k n : Nat} (h : entPre ad w n = true) (hk : k < n) : mayB (ad[k]?.getD 0) w = true ∧ addrSeen ad (ad[k]?.getD 0) k = false := by
  have := entPre_mono h (show k + 1 ≤ n from hk)
  simp only [entPre, Bool.and_eq_true, Bool.not_eq_true'] at this
  exact this.2
theorem entPre_no {ad : List Int} {w : Int} {k : Nat} (h : mayB (ad[k]?.getD 0) w = false) : entPre ad w (k + 1) = false := by simp [entPre, h]
theorem entPre_twice {ad : List Int} {w : Int} {k : Nat} (h : addrSeen ad (ad[k]?.getD 0) k = true) : entPre ad w (k + 1) = false := by simp [entPre, h]
theorem entPre_yes {ad : List Int} {w : Int} {k : Nat} (h0 : entPre ad w k = true) (h : mayB (ad[k]?.getD 0) w = true) (h2 : addrSeen ad (ad[k]?.getD 0) k = false) : entPre ad w (k + 1) = true := by simp [entPre, h0, h, h2]
/-- What is right for a change is right for its effort. -/
theorem okPre_of_ent {ad : List Int} {w : Int} (hw : w ≤ 2048) {k : Nat} (h : entPre ad w k = true) : okPre ad k = true := by
  induction k with
  | zero => rfl
  | succ k ih =>
    obtain ⟨h1, h2⟩ := entPre_at h (Nat.lt_succ_self k)
    have h3 := (mayB_iff _ _).1 h1
    exact okPre_step (ih (entPre_mono h (Nat.le_succ k))) (by omega) (by omega) h2

/-- The set of the first k addresses, as the model's map reads. -/
def keysOf (ad : List Int) : Nat → DataW Unit
  | 0 => .map []
  | k + 1 => (keysOf ad k).put (.int .i64 (ad[k]?.getD 0)) (.lit (.bool true))
theorem keysOf_map (ad : List Int) (k : Nat) : IsMap (keysOf ad k) := by
  induction k with
  | zero => exact isMap_empty
  | succ k ih => exact ih.put _ _
theorem keysOf_at (ad : List Int) (x : Int) (k : Nat) : (keysOf ad k).atKey (.int .i64 x) (.lit (.bool false)) = .lit (.bool (addrSeen ad x k)) := by
  induction k with
  | zero => rfl
  | succ k ih =>
    simp only [keysOf, addrSeen]
    by_cases e : ad[k]?.getD 0 = x
    · rw [e, atKey_put_same (keysOf_map ad k) (by trivial)]; simp
    · rw [atKey_put_other (by intro h; injection h with _ h; exact e h.symm), ih]
      have : (ad[k]?.getD 0 == x) = false := by rw [beq_eq_false_iff_ne]; exact e
      rw [this, Bool.or_false]
theorem plainElem_bool_inv {H : Type} {P : Program} {e : TypeId} (he : P.underlying e = some .bool) {v : Value} {z : DataW H × List MemPlace} (h : plainElem P e v = some z) : ∃ c, v = .bool c ∧ z = (.lit (.bool c), []) := by
  unfold plainElem at h
  rw [he] at h
  cases v <;> simp at h
  exact ⟨_, rfl, h.symm⟩
/-- 'm[k]' at elements that are bools. -/
theorem lookup_bool {H : Type} {P : Program} {k e t : TypeId} {w : World} {b n : Nat} {D : DataW H} (h : w.ownsMap P k (plainElem P e) b n D) (K : Keyed P k) (ht : P.underlying t = some (.map k e)) (he : P.underlying e = some .bool) (hz : (zeroValue e).run P w = .ok (.bool false) w)
    {key : Value} {kl : Lit} (hkey : keyOf P k key = some kl) {c : Bool} (hc : D.atKey kl (.lit (.bool false)) = .lit (.bool c)) : (Instr.lookup t (.map (some b)) key false).run P w = .ok (.bool c) w := by
  obtain ⟨v, ps, hrun, hv⟩ := h.lookup K ht hz (plainElem_bool he false) hkey
  obtain ⟨c', rfl, hc'⟩ := plainElem_bool_inv he hv
  simp only [Prod.mk.injEq] at hc'
  rw [hc] at hc'
  obtain ⟨h1, -⟩ := hc'
  injection h1 with h1
  injection h1 with h1
  subst h1
  exact hrun
end Go.Proofs.Ytiaddipbjigaiaa
