/- The effort of a change ad a plain function of the addresses of its entries, and its laws: no program in sight. -/
namespace Go.Proofs.Ytpfbppjjegialaa

/-- Whether the line of address k occurs among the first i addresses. -/
def lineSeen (ad : List Int) (x : Int) : Nat → Bool
  | 0 => false
  | i + 1 => lineSeen ad x i || ((ad[i]?.getD 0) / 8 == x / 8)
/-- Whether address x occurs among the first i addresses. -/
def addrSeen (ad : List Int) (x : Int) : Nat → Bool
  | 0 => false
  | i + 1 => addrSeen ad x i || ((ad[i]?.getD 0) == x)
/-- Whether the first k addresses are in range and differ. -/
def okPre (ad : List Int) : Nat → Bool
  | 0 => true
  | k + 1 => okPre ad k && (decide (0 ≤ ad[k]?.getD 0) && decide (ad[k]?.getD 0 < 2048) && !addrSeen ad (ad[k]?.getD 0) k)
/-- In how many lines the first k addresses lie. -/
def nLines (ad : List Int) : Nat → Nat
  | 0 => 0
  | k + 1 => nLines ad k + if lineSeen ad (ad[k]?.getD 0) k then 0 else 1
theorem nLines_le (ad : List Int) (k : Nat) : nLines ad k ≤ k := by
  induction k with
  | zero => simp [nLines]
  | succ k ih => simp only [nLines]; split <;> omega
theorem okPre_lt {ad : List Int} {n k : Nat} (h : okPre ad n = true) (hk : k < n) : 0 ≤ ad[k]?.getD 0 ∧ ad[k]?.getD 0 < 2048 ∧ addrSeen ad (ad[k]?.getD 0) k = false := by
  induction n with
  | zero => omega
  | succ n ih =>
    simp only [okPre, Bool.and_eq_true, decide_eq_true_eq, Bool.not_eq_true'] at h
    rcases Nat.lt_or_ge k n with h1 | h1
    · exact ih h.1 h1
    · have : k = n := by omega
      subst this
      exact ⟨h.2.1.1, h.2.1.2, h.2.2⟩
theorem okPre_mono {ad : List Int} {n k : Nat} (h : okPre ad n = true) (hk : k ≤ n) : okPre ad k = true := by
  induction n with
  | zero => have : k = 0 := by omega
            subst this; exact h
  | succ n ih =>
    rcases Nat.lt_or_ge k (n + 1) with h1 | h1
    · simp only [okPre, Bool.and_eq_true] at h
      exact ih h.1 (by omega)
    · have : k = n + 1 := by omega
      subst this; exact h
theorem okPre_false {ad : List Int} {n k : Nat} (h : okPre ad k = false) (hk : k ≤ n) : okPre ad n = false := by
  cases hn : okPre ad n with
  | false => rfl
  | true => rw [okPre_mono hn hk] at h; cases h
/-- The effort of n entries over m lines: stores, flushes, fences. -/
def eStores (ad : List Int) : Int := if ad.length = 0 then 0 else 3 * ad.length + 2
def eFlushes (ad : List Int) : Int := if ad.length = 0 then 0 else (2 * ad.length + 7) / 8 + nLines ad ad.length + 2
def eFences (ad : List Int) : Int := if ad.length = 0 then 0 else 4
/-- The error of a change: 4 where it has too many entries, 2 where an address is out of range or occurs twice. -/
def ofErr (ad : List Int) : Int := if 32 < ad.length then 4 else if okPre ad ad.length then 0 else 2
def ofS (ad : List Int) : Int := if ofErr ad = 0 then eStores ad else 0
def ofF (ad : List Int) : Int := if ofErr ad = 0 then eFlushes ad else 0
def ofN (ad : List Int) : Int := if ofErr ad = 0 then eFences ad else 0
theorem ofErr_many {ad : List Int} (h : 32 < ad.length) : ofErr ad = 4 := by simp [ofErr, h]
theorem ofErr_arg {ad : List Int} (h : ad.length ≤ 32) {k : Nat} (hk : okPre ad k = false) (hn : k ≤ ad.length) : ofErr ad = 2 := by
  have : ¬ 32 < ad.length := by omega
  simp [ofErr, this, okPre_false hk hn]
theorem ofErr_ok {ad : List Int} (h : ad.length ≤ 32) (hk : okPre ad ad.length = true) : ofErr ad = 0 := by
  have : ¬ 32 < ad.length := by omega
  simp [ofErr, this, hk]
theorem okPre_bad {ad : List Int} {k : Nat} (h : ¬ (0 ≤ ad[k]?.getD 0 ∧ ad[k]?.getD 0 < 2048)) : okPre ad (k + 1) = false := by
  simp only [okPre, Bool.and_eq_false_iff, decide_eq_false_iff_not]
  by_cases h0 : 0 ≤ ad[k]?.getD 0
  · exact .inr (.inl (.inr (fun h1 => h ⟨h0, h1⟩)))
  · exact .inr (.inl (.inl h0))
theorem addrSeen_mono {ad : List Int} {x : Int} {j k : Nat} (h : addrSeen ad x j = true) (hk : j ≤ k) : addrSeen ad x k = true := by
  induction k with
  | zero => have : j = 0 := by omega
            subst this; exact h
  | succ k ih =>
    rcases Nat.lt_or_ge j (k + 1) with h1 | h1
    · simp [addrSeen, ih (by omega)]
    · have : j = k + 1 := by omega
      subst this; exact h
theorem okPre_twice {ad : List Int} {k j : Nat} (hj : j < k) (h : ad[j]?.getD 0 = ad[k]?.getD 0) : okPre ad (k + 1) = false := by
  have : addrSeen ad (ad[k]?.getD 0) k = true := addrSeen_mono (j := j + 1) (by simp [addrSeen, h]) (by omega)
  simp [okPre, this]
theorem okPre_step {ad : List Int} {k : Nat} (h : okPre ad k = true) (h0 : 0 ≤ ad[k]?.getD 0) (h1 : ad[k]?.getD 0 < 2048) (h2 : addrSeen ad (ad[k]?.getD 0) k = false) : okPre ad (k + 1) = true := by
  simp [okPre, h, h0, h1, h2]
theorem lineSeen_eq (ad : List Int) (x y : Int) (h : x / 8 = y / 8) (k : Nat) : lineSeen ad x k = lineSeen ad y k := by
  induction k with
  | zero => rfl
  | succ k ih => simp only [lineSeen, ih, h]
theorem div8 (x : Nat) : (8 * ((x / 8 : Nat) : Int)) / 8 = (x : Int) / 8 := by omega
end Go.Proofs.Ytpfbppjjegialaa
