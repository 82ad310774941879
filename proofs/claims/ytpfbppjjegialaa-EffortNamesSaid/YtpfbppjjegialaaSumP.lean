/- Efforts of several changes, together: plain laws. -/
import Derived.Test.YtpfbppjjegialaaEffP
namespace Go.Proofs.Ytpfbppjjegialaa
def sumErr : List (List Int) → Int
  | [] => 0
  | c :: cs => if ofErr c = 0 then sumErr cs else ofErr c
def tot (f : List Int → Int) : List (List Int) → Int
  | [] => 0
  | c :: cs => f c + tot f cs
theorem sumErr_append (a b : List (List Int)) : sumErr (a ++ b) = if sumErr a = 0 then sumErr b else sumErr a := by
  induction a with
  | nil => simp [sumErr]
  | cons c a ih =>
    simp only [List.cons_append, sumErr]
    by_cases h : ofErr c = 0
    · simp [h, ih]
    · simp [h]
theorem tot_append (f : List Int → Int) (a b : List (List Int)) : tot f (a ++ b) = tot f a + tot f b := by
  induction a with
  | nil => simp [tot]
  | cons c a ih => simp only [List.cons_append, tot, ih]; omega
theorem tot_bd (f : List Int → Int) (m : Int) (hf : ∀ c, 0 ≤ f c ∧ f c ≤ m) (a : List (List Int)) : 0 ≤ tot f a ∧ tot f a ≤ m * a.length := by
  induction a with
  | nil => simp [tot]
  | cons c a ih =>
    have := hf c
    simp only [tot, List.length_cons]
    have e : m * ((a.length + 1 : Nat) : Int) = m * a.length + m := by rw [Int.natCast_add, Int.mul_add]; simp
    rw [e]; omega
theorem ofErr_val (ad : List Int) : ofErr ad = 0 ∨ ofErr ad = 2 ∨ ofErr ad = 4 := by
  unfold ofErr; split
  · simp
  · split <;> simp
theorem ofErr_len {ad : List Int} (h : ofErr ad = 0) : ad.length ≤ 32 ∧ okPre ad ad.length = true := by
  unfold ofErr at h
  split at h
  · simp at h
  · split at h
    · exact ⟨by omega, by assumption⟩
    · simp at h
theorem ofS_bd (ad : List Int) : 0 ≤ ofS ad ∧ ofS ad ≤ 98 := by
  unfold ofS
  split
  · have := (ofErr_len ‹_›).1
    unfold eStores; split <;> omega
  · omega
theorem ofF_bd (ad : List Int) : 0 ≤ ofF ad ∧ ofF ad ≤ 98 := by
  unfold ofF
  split
  · have := (ofErr_len ‹_›).1
    have := nLines_le ad ad.length
    unfold eFlushes; split <;> omega
  · omega
theorem ofN_bd (ad : List Int) : 0 ≤ ofN ad ∧ ofN ad ≤ 98 := by
  unfold ofN
  split
  · unfold eFences; split <;> omega
  · omega
theorem sumErr_take {cs : List (List Int)} {k : Nat} (hk : k < cs.length) (h : sumErr (cs.take k) = 0) : sumErr (cs.take (k + 1)) = ofErr cs[k] := by
  rw [List.take_succ_eq_append_getElem hk, sumErr_append, if_pos h]
  simp only [sumErr]
  split
  · simp [*]
  · rfl
theorem tot_take (f : List Int → Int) {cs : List (List Int)} {k : Nat} (hk : k < cs.length) : tot f (cs.take (k + 1)) = tot f (cs.take k) + f cs[k] := by
  rw [List.take_succ_eq_append_getElem hk, tot_append]; simp [tot]
/-- What stands before an error decides. -/
theorem sumErr_pre {cs : List (List Int)} {k : Nat} (h : sumErr (cs.take k) ≠ 0) : sumErr cs = sumErr (cs.take k) := by
  have := sumErr_append (cs.take k) (cs.drop k)
  rw [List.take_append_drop, if_neg h] at this
  exact this
def smS (cs : List (List Int)) : Int := if sumErr cs = 0 then tot ofS cs else 0
def smF (cs : List (List Int)) : Int := if sumErr cs = 0 then tot ofF cs else 0
def smN (cs : List (List Int)) : Int := if sumErr cs = 0 then tot ofN cs else 0

/-! Order does not matter -/
theorem sumErr_zero (cs : List (List Int)) : sumErr cs = 0 ↔ ∀ c ∈ cs, ofErr c = 0 := by
  induction cs with
  | nil => simp [sumErr]
  | cons c cs ih =>
    simp only [sumErr]
    by_cases h : ofErr c = 0
    · simp [h, ih]
    · simp [h]
theorem tot_reverse (f : List Int → Int) (cs : List (List Int)) : tot f cs.reverse = tot f cs := by
  induction cs with
  | nil => rfl
  | cons c cs ih => rw [List.reverse_cons, tot_append, ih]; simp [tot]; omega
theorem tot_map (f : List Int → Int) (g : List Int → List Int) (cs : List (List Int)) (h : ∀ c ∈ cs, f (g c) = f c) : tot f (cs.map g) = tot f cs := by
  induction cs with
  | nil => rfl
  | cons c cs ih =>
    simp only [List.map_cons, tot]
    rw [h c (by simp), ih (fun x hx => h x (by simp [hx]))]
end Go.Proofs.Ytpfbppjjegialaa
