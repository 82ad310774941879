/- The plain half of the law MarkJust: just that is reached. -/
import Derived.Test.YtpmfiibndiecpaaMkPP
namespace Go.Proofs.Ytpmfiibndiecpaa
open Go.RowKit

/-- The addresses of the first k fields of an object that are references. -/
def refsN (ws : List Nat) (a k : Nat) : List Int := ((List.range k).filter fun i => (flds ws a)[i]? == some 3).map fun i => ((a + 2 + i : Nat) : Int)
theorem refsN_succ (ws : List Nat) (a k : Nat) : refsN ws a (k + 1) = refsN ws a k ++ (if (flds ws a)[k]? = some 3 then [((a + 2 + k : Nat) : Int)] else []) := by
  unfold refsN
  rw [List.range_succ, List.filter_append, List.map_append]
  congr 1
  by_cases h : (flds ws a)[k]? = some 3
  · simp [h]
  · simp [h]
theorem refsN_len (ws : List Nat) (a k : Nat) : (refsN ws a k).length ≤ k := by
  unfold refsN
  rw [List.length_map]
  have := List.length_filter_le (fun i => (flds ws a)[i]? == some 3) (List.range k)
  rwa [List.length_range] at this
def refsL (ws : List Nat) (a : Nat) : List Int := refsN ws a (flds ws a).length
theorem refsL_mem {ws : List Nat} {a : Nat} {x : Int} : x ∈ refsL ws a ↔ ∃ i : Nat, x = ((a + 2 + i : Nat) : Int) ∧ (flds ws a)[i]? = some 3 := by
  unfold refsL refsN
  rw [List.mem_map]
  constructor
  · rintro ⟨i, hi, rfl⟩
    rw [List.mem_filter] at hi
    exact ⟨i, rfl, by simpa using hi.2⟩
  · rintro ⟨i, rfl, hi⟩
    refine ⟨i, List.mem_filter.2 ⟨List.mem_range.2 (List.getElem?_eq_some_iff.1 hi).1, by simpa using hi⟩, rfl⟩
/-- What the first k of some references refer to. -/
def valsN (ws : List Nat) (R : List Int) (k : Nat) : List Nat := (R.take k).filterMap fun r => if wd ws r.toNat ≠ 0 then some (wd ws r.toNat) else none
theorem valsN_succ (ws : List Nat) (R : List Int) {k : Nat} (h : k < R.length) : valsN ws R (k + 1) = valsN ws R k ++ (if wd ws R[k].toNat ≠ 0 then [wd ws R[k].toNat] else []) := by
  unfold valsN
  rw [List.take_succ_eq_append_getElem h, List.filterMap_append]
  congr 1
  by_cases h1 : wd ws R[k].toNat ≠ 0
  · rw [if_pos h1]
    simp [h1]
  · rw [if_neg h1]
    have h1 : wd ws R[k].toNat = 0 := by omega
    simp [h1]
theorem valsN_mem {ws : List Nat} {R : List Int} {x : Nat} : x ∈ valsN ws R R.length ↔ ∃ r ∈ R, wd ws r.toNat ≠ 0 ∧ x = wd ws r.toNat := by
  unfold valsN
  rw [List.take_length, List.mem_filterMap]
  constructor
  · rintro ⟨r, hr, h⟩
    split at h
    · rename_i h2
      injection h with h
      exact ⟨r, hr, h2, h.symm⟩
    · cases h
  · rintro ⟨r, hr, h, rfl⟩
    exact ⟨r, hr, by rw [if_pos h]⟩
def allV (ws : List Nat) (a : Int) : List Nat := valsN ws (refsL ws a.toNat) (refsL ws a.toNat).length
/-- Which addresses some addresses are. -/
def toldL (n : Nat) (l : List Nat) : List Bool := l.foldl (fun t a => t.set a true) (List.replicate n false)
theorem toldL_snoc (n : Nat) (l : List Nat) (a : Nat) : toldL n (l ++ [a]) = (toldL n l).set a true := by
  unfold toldL
  rw [List.foldl_append]
  rfl
theorem toldL_len (n : Nat) (l : List Nat) : (toldL n l).length = n := by
  unfold toldL
  have key : ∀ (l : List Nat) (t : List Bool), (l.foldl (fun t a => t.set a true) t).length = t.length := by
    intro l
    induction l with
    | nil => intro t; rfl
    | cons a l ih => intro t; rw [List.foldl_cons, ih, List.length_set]
  rw [key, List.length_replicate]
theorem toldL_get (n : Nat) (l : List Nat) (x : Nat) (hx : x < n) : (toldL n l)[x]? = some true ↔ x ∈ l := by
  have key : ∀ (l : List Nat) (t : List Bool), t.length = n → ((l.foldl (fun t a => t.set a true) t)[x]? = some true ↔ x ∈ l ∨ t[x]? = some true) := by
    intro l
    induction l with
    | nil => intro t _; simp
    | cons a l ih =>
      intro t ht
      rw [List.foldl_cons, ih _ (by rw [List.length_set]; exact ht), List.getElem?_set, List.mem_cons]
      by_cases e : a = x
      · subst e
        simp [ht, hx]
      · rw [if_neg e]
        constructor
        · rintro (h | h)
          · exact .inl (.inr h)
          · exact .inr h
        · rintro ((h | h) | h)
          · exact absurd h.symm e
          · exact .inl h
          · exact .inr h
  unfold toldL
  rw [key l _ (by rw [List.length_replicate])]
  rw [List.getElem?_replicate, if_pos hx]
  simp
/-- What is told behind all objects that are reached: just what is reached. -/
theorem rch_val {ws : List Nat} (h : rcErr ws = 0) {a : Nat} (ha : Rch ws a) {r : Int} (hr : r ∈ refsL ws a) : (∃ j : Nat, r = (j : Int) ∧ j < ws.length) ∧ wd ws r.toNat < ws.length ∧ (wd ws r.toNat ≠ 0 → Rch ws (wd ws r.toNat)) := by
  obtain ⟨h1, h2, h3⟩ := rcErr_zero h
  obtain ⟨i, rfl, hi⟩ := refsL_mem.1 hr
  have hb := fr_bd ws (hpErr_zero h1).1
  obtain ⟨ho, -⟩ := tb_obj h1 (h3 a ha)
  have hin := flds_in ho (List.getElem?_eq_some_iff.1 hi).1
  refine ⟨⟨_, rfl, hin⟩, ?_⟩
  rw [Int.toNat_natCast]
  by_cases hv : wd ws (a + 2 + i) = 0
  · exact ⟨by omega, fun h => absurd hv h⟩
  · have hr := Rch.ref a i ha (h3 a ha) hi hv
    have ht := tb_lt (h3 _ hr)
    have e : min (wd ws (a + 2 + i)) 2048 = wd ws (a + 2 + i) := by omega
    rw [e] at hr ht
    exact ⟨ht, fun _ => hr⟩
theorem slTo_mem {ws : List Nat} {x : Nat} : x ∈ slTo ws 16 ↔ ∃ i, i < 16 ∧ (slAt ws i).used = true ∧ x = (slAt ws i).at_.toNat := by
  unfold slTo
  rw [List.mem_filterMap]
  constructor
  · rintro ⟨i, hi, h⟩
    split at h
    · rename_i h2
      injection h with h
      exact ⟨i, List.mem_range.1 hi, h2, h.symm⟩
    · cases h
  · rintro ⟨i, hi, h2, rfl⟩
    exact ⟨i, List.mem_range.2 hi, by rw [if_pos h2]⟩
theorem just_told {ws : List Nat} (h : rcErr ws = 0) : toldL ws.length (slTo ws 16 ++ (rcOut ws).flatMap (allV ws)) = seenL ws := by
  obtain ⟨h1, h2, h3⟩ := rcErr_zero h
  have hb := fr_bd ws (hpErr_zero h1).1
  apply List.ext_getElem?
  intro x
  by_cases hx : x < ws.length
  · have key : (toldL ws.length (slTo ws 16 ++ (rcOut ws).flatMap (allV ws)))[x]? = some true ↔ (seenL ws)[x]? = some true := by
      have e2 : (seenL ws)[x]? = some true ↔ Rch ws x := by
        rw [← seenL_get hx, List.getElem?_eq_getElem (by rw [seenL_len]; exact hx)]
        simp
      rw [toldL_get _ _ _ hx, e2, List.mem_append, List.mem_flatMap]
      constructor
      · rintro (h4 | ⟨a, ha, h4⟩)
        · obtain ⟨i, hi, hu, rfl⟩ := slTo_mem.1 h4
          exact Rch.slot i hi hu
        · obtain ⟨j, rfl, -, hj⟩ := (rcOut_mem h a).1 ha
          unfold allV at h4
          rw [Int.toNat_natCast] at h4
          obtain ⟨r, hr, hv, rfl⟩ := valsN_mem.1 h4
          exact (rch_val h hj hr).2.2 hv
      · intro hr
        cases hr with
        | slot i hi hu => exact .inl (slTo_mem.2 ⟨i, hi, hu, rfl⟩)
        | ref a i ha ht hf hv =>
          refine .inr ⟨(a : Int), (rcOut_mem h _).2 ⟨a, rfl, tb_lt ht, ha⟩, ?_⟩
          unfold allV
          rw [Int.toNat_natCast]
          refine valsN_mem.2 ⟨((a + 2 + i : Nat) : Int), refsL_mem.2 ⟨i, rfl, hf⟩, ?_⟩
          rw [Int.toNat_natCast]
          exact ⟨hv, by omega⟩
    have l1 : x < (toldL ws.length (slTo ws 16 ++ (rcOut ws).flatMap (allV ws))).length := by rw [toldL_len]; exact hx
    have l2 : x < (seenL ws).length := by rw [seenL_len]; exact hx
    rw [List.getElem?_eq_getElem l1, List.getElem?_eq_getElem l2] at key ⊢
    simp only [Option.some.injEq] at key ⊢
    exact Bool.eq_iff_iff.2 key
  · rw [List.getElem?_eq_none (by rw [toldL_len]; omega), List.getElem?_eq_none (by rw [seenL_len]; omega)]
theorem seenTo_pre (S : List Bool) {k n : Nat} (h : k ≤ n) : ∃ t, seenTo S n = seenTo S k ++ t := by
  induction n with
  | zero => have : k = 0 := by omega
            subst this; exact ⟨[], by simp⟩
  | succ n ih =>
    rcases Nat.lt_or_ge n k with h1 | h1
    · have : k = n + 1 := by omega
      subst this; exact ⟨[], by simp⟩
    · obtain ⟨t, ht⟩ := ih h1
      exact ⟨t ++ (if S[n]?.getD false = true then [(n : Int)] else []), by rw [seenTo_succ, ht, List.append_assoc]⟩
theorem seenTo_at {S : List Bool} {k n : Nat} (h : k < n) (hs : S[k]?.getD false = true) : (seenTo S n)[(seenTo S k).length]? = some (k : Int) := by
  obtain ⟨t, ht⟩ := seenTo_pre S (show k + 1 ≤ n by omega)
  rw [ht, seenTo_succ, if_pos hs, List.append_assoc, List.getElem?_append_right (Nat.le_refl _)]
  simp
/-- Each slot that is used has an address that is reached. -/
theorem slot_in {ws : List Nat} (h : rcErr ws = 0) {i : Nat} (hi : i < 16) (hu : (slAt ws i).used = true) : ∃ a : Nat, (slAt ws i).at_ = (a : Int) ∧ a < ws.length := by
  obtain ⟨h1, h2, h3⟩ := rcErr_zero h
  have := tb_lt (h3 _ (Rch.slot i hi hu))
  exact ⟨(slAt ws i).at_.toNat, by show _ = (((slRaw (wd ws (112 + i))).at_.toNat : Nat) : Int); have := (slRaw_bd (wd ws (112 + i))).2.2.1; show (slRaw (wd ws (112 + i))).at_ = _; omega, this⟩
/-- What fieldsOf finds. -/
theorem obj_from {ws : List Nat} (h : rcErr ws = 0) {a : Nat} (ha : Rch ws a) : frErr ws (a : Int) = 0 ∧ (∃ h2 : 0 < (frOut ws (a : Int)).length, (frOut ws (a : Int))[0] = bkAt ws a) ∧ (bkAt ws a).kind = 1 ∧ (∃ t : Nat, (bkAt ws a).typ = (t : Int) ∧ t < 8 ∧ typOk (wd ws (96 + 2 * t)) (wd ws (96 + 2 * t + 1)) = true ∧ flds ws a = krOut (wd ws (96 + 2 * t)) (wd ws (96 + 2 * t + 1))) ∧ a + 2 + (flds ws a).length ≤ ws.length := by
  obtain ⟨h1, h2, h3⟩ := rcErr_zero h
  obtain ⟨ho, -⟩ := tb_obj h1 (h3 a ha)
  have hty := obj_typ ho
  obtain ⟨o1, o2, o3, o4, o5, o6, k, hk, e, hbk⟩ := ho
  have hsz := (hpErr_zero h1).1
  obtain ⟨f1, f2⟩ := frErr_some (ws := ws) (a := (a : Int)) hsz (by
    simp only [frArg, Bool.or_eq_false_iff, decide_eq_false_iff_not, bne_eq_false_iff_eq]; omega) (l := (hpOut ws).drop k) (by rw [Int.toNat_natCast]; exact hbk)
  have hfo := fit_obj (ws := ws) (b := bkAt ws a) o5
  rw [o6] at hfo
  have hfo := hfo.symm
  simp only [Bool.and_eq_true, beq_iff_eq] at hfo
  have hst := stands_sz o4
  have hcast : (((rawBk (wd ws a)).typ.toNat : Nat) : Int) = (rawBk (wd ws a)).typ := by
    show ((((wd ws a / 512 % 128 : Nat) : Int).toNat : Nat) : Int) = _
    rw [Int.toNat_natCast]; rfl
  refine ⟨f1, ?_, o5, ⟨(rawBk (wd ws a)).typ.toNat, hcast.symm, hty, hfo.1, rfl⟩, ?_⟩
  · rw [f2]
    refine ⟨by rw [List.length_drop]; omega, ?_⟩
    rw [List.getElem_drop]
    exact e
  · have h7 := hfo.2
    rw [bkAt_size] at h7
    have h8 : (flds ws a).length = (krOut (wd ws (tyA (bkAt ws a))) (wd ws (tyA (bkAt ws a) + 1))).length := rfl
    unfold objSz at h7
    omega
end Go.Proofs.Ytpmfiibndiecpaa
