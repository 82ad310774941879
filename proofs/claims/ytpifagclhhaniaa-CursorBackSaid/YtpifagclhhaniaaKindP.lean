/- Types and their fields, as plain functions. -/
import Derived.Test.YtpifagclhhaniaaHeapP
namespace Go.Proofs.Ytpifagclhhaniaa

/-- The fields that a first word tells. -/
def fldL (a : Nat) : List Nat := (List.range (a % 256)).map fun i => a / 4 ^ (i + 4) % 4
/-- The sum of kinds, each in its place, from place j on. -/
def fldW : List Nat → Nat → Nat
  | [], _ => 0
  | k :: l, j => k * 4 ^ j + fldW l (j + 1)
def typW (l : List Nat) : Nat := l.length + fldW l 4
/-- The error of the fields of a type. -/
def kndOk (l : List Nat) : Bool := l.all fun k => decide (1 ≤ k) && decide (k ≤ 3)
def kndErr (l : List Nat) : Int := if 8 < l.length then 4 else if kndOk l = true then 0 else 8
def objSz (n : Nat) : Nat := 2 + (n + 1) / 2 * 2
/-- Whether two words are those of a type. -/
def typOk (a b : Nat) : Bool := (decide (a % 256 ≤ 8) && kndOk (fldL a)) && (typW (fldL a) == a && sum1 a == b)
theorem fldL_len (a : Nat) : (fldL a).length = a % 256 := by simp [fldL]
theorem fldL_get (a i : Nat) (h : i < a % 256) : (fldL a)[i]? = some (a / 4 ^ (i + 4) % 4) := by simp [fldL, h]
theorem fldW_append (a b : List Nat) (j : Nat) : fldW (a ++ b) j = fldW a j + fldW b (j + a.length) := by
  induction a generalizing j with
  | nil => simp [fldW]
  | cons k a ih => simp only [List.cons_append, fldW, ih, List.length_cons]; rw [show j + 1 + a.length = j + (a.length + 1) by omega]; omega
theorem fldW_lt (l : List Nat) (j : Nat) (h : ∀ k ∈ l, k ≤ 3) : fldW l j + 4 ^ j ≤ 4 ^ (j + l.length) := by
  induction l generalizing j with
  | nil => simp [fldW]
  | cons k l ih =>
    have h1 := ih (j + 1) (fun k hk => h k (by simp [hk]))
    have h2 := h k (by simp)
    simp only [fldW, List.length_cons]
    rw [show j + (l.length + 1) = j + 1 + l.length by omega]
    have h3 : k * 4 ^ j ≤ 3 * 4 ^ j := Nat.mul_le_mul_right _ h2
    rw [Nat.pow_succ] at h1
    omega
theorem kndOk_iff (l : List Nat) : kndOk l = true ↔ ∀ k ∈ l, 1 ≤ k ∧ k ≤ 3 := by simp [kndOk]
theorem kndOk_take {l : List Nat} (h : kndOk l = true) (k : Nat) : kndOk (l.take k) = true := by
  rw [kndOk_iff] at h ⊢
  exact fun x hx => h x (List.mem_of_mem_take hx)
theorem kndOk_bad {l : List Nat} {k : Nat} (hk : k < l.length) (h : l[k] < 1 ∨ 3 < l[k]) : kndOk l = false := by
  cases hq : kndOk l with
  | false => rfl
  | true => have := (kndOk_iff l).1 hq l[k] (List.getElem_mem hk); omega
theorem kndErr_many {l : List Nat} (h : 8 < l.length) : kndErr l = 4 := by simp [kndErr, h]
theorem kndErr_bad {l : List Nat} (h : l.length ≤ 8) (hk : kndOk l = false) : kndErr l = 8 := by
  have : ¬ 8 < l.length := by omega
  simp [kndErr, this, hk]
theorem kndErr_ok {l : List Nat} (h : l.length ≤ 8) (hk : kndOk l = true) : kndErr l = 0 := by
  have : ¬ 8 < l.length := by omega
  simp [kndErr, this, hk]
theorem kndErr_zero {l : List Nat} (h : kndErr l = 0) : l.length ≤ 8 ∧ kndOk l = true := by
  unfold kndErr at h
  split at h
  · simp at h
  · split at h
    · exact ⟨by omega, by assumption⟩
    · simp at h
theorem typW_lt {l : List Nat} (h : l.length ≤ 8) (hk : kndOk l = true) : typW l < 16777216 := by
  have h1 := fldW_lt l 4 (fun k hk' => ((kndOk_iff l).1 hk k hk').2)
  have h2 : 4 ^ (4 + l.length) ≤ 4 ^ 12 := Nat.pow_le_pow_right (by omega) (by omega)
  have h3 : (4 : Nat) ^ 12 = 16777216 := by decide
  have h4 : (4 : Nat) ^ 4 = 256 := by decide
  unfold typW; omega
/-- The fields of a word that is one of a type. -/
theorem fldL_typW {l : List Nat} (h : l.length ≤ 8) (hk : kndOk l = true) : fldL (typW l) = l := by
  have hk3 : ∀ k ∈ l, k ≤ 3 := fun k hk' => ((kndOk_iff l).1 hk k hk').2
  have hdiv : ∀ (l : List Nat) (j : Nat), 4 ^ j ∣ fldW l j := by
    intro l
    induction l with
    | nil => intro j; simp [fldW]
    | cons k l ih =>
      intro j
      simp only [fldW]
      refine Nat.dvd_add (Nat.dvd_mul_left _ _) (Nat.dvd_trans ?_ (ih (j + 1)))
      rw [Nat.pow_succ]; exact Nat.dvd_mul_right _ _
  have hm : typW l % 256 = l.length := by
    obtain ⟨q, hq⟩ := hdiv l 4
    have h4 : (4 : Nat) ^ 4 = 256 := by decide
    rw [h4] at hq
    unfold typW; omega
  apply List.ext_getElem?
  intro i
  by_cases hi : i < l.length
  · rw [fldL_get _ _ (by omega), List.getElem?_eq_getElem hi]
    congr 1
    have hs : l = l.take i ++ (l[i] :: l.drop (i + 1)) := by rw [← List.drop_eq_getElem_cons hi, List.take_append_drop]
    have e : fldW l 4 = fldW (l.take i) 4 + (l[i] * 4 ^ (4 + i) + fldW (l.drop (i + 1)) (4 + i + 1)) := by
      conv => lhs; rw [hs]
      rw [fldW_append, List.length_take, Nat.min_eq_left (by omega)]; rfl
    have h1 := fldW_lt (l.take i) 4 (fun k hk' => hk3 k (List.mem_of_mem_take hk'))
    rw [List.length_take, Nat.min_eq_left (by omega)] at h1
    obtain ⟨q, hq⟩ := hdiv (l.drop (i + 1)) (4 + i + 1)
    have hb := hk3 l[i] (List.getElem_mem hi)
    have h4 : (4 : Nat) ^ 4 = 256 := by decide
    have hlow : l.length + fldW (l.take i) 4 < 4 ^ (4 + i) := by omega
    have : typW l = (l.length + fldW (l.take i) 4) + 4 ^ (4 + i) * (l[i] + 4 * q) := by
      unfold typW
      rw [e, hq, Nat.pow_succ, Nat.mul_add, Nat.mul_comm l[i], Nat.mul_assoc]
      omega
    rw [this, show i + 4 = 4 + i by omega, Nat.add_mul_div_left _ _ (Nat.pow_pos (by omega)), Nat.div_eq_of_lt hlow]
    omega
  · rw [List.getElem?_eq_none (by rw [fldL_len]; omega), List.getElem?_eq_none (by omega)]
end Go.Proofs.Ytpifagclhhaniaa
