/- Fixing references: plain functions. -/
import Derived.Test.YtpifagclhhaniaaRchP
import Derived.Test.YtpifagclhhaniaaKMove
import Derived.Test.YtpifagclhhaniaaKHeap
namespace Go.Proofs.Ytpifagclhhaniaa

def fxErr (ws : List Nat) : Int := if hpErr ws = 0 then rdErr ws 128 128 else hpErr ws
def fxMv (ws : List Nat) : List (Int × Int) := if fxErr ws = 0 then rdMv ws 128 128 else []
theorem fxErr_zero {ws : List Nat} (h : fxErr ws = 0) : hpErr ws = 0 ∧ rdErr ws 128 128 = 0 ∧ fxMv ws = rdMv ws 128 128 := by
  have h1 : hpErr ws = 0 ∧ rdErr ws 128 128 = 0 := by
    unfold fxErr at h
    split at h
    · rename_i h1; exact ⟨h1, h⟩
    · rename_i h1; exact absurd h h1
  exact ⟨h1.1, h1.2, by simp [fxMv, h]⟩
theorem mvTo_mem : ∀ {l : List (Int × Int)} {a t : Int}, mvTo l a = some t → (a, t) ∈ l := by
  intro l
  induction l with
  | nil => intro a t h; cases h
  | cons m l ih =>
    intro a t h
    simp only [mvTo] at h
    split at h
    · rename_i e
      injection h with h
      rw [← e, ← h]
      simp
    · exact List.mem_cons_of_mem _ (ih h)
/-- Where an address goes: an address of the heap. -/
theorem fx_to {ws : List Nat} (h : fxErr ws = 0) {a t : Int} (ht : mvTo (fxMv ws) a = some t) : ∃ n : Nat, t = (n : Int) ∧ 128 ≤ n ∧ n < ws.length ∧ n < 2048 ∧ ∃ m : Nat, a = (m : Int) ∧ 128 ≤ m ∧ m < ws.length := by
  obtain ⟨h1, h2, h3⟩ := fxErr_zero h
  rw [h3] at ht
  obtain ⟨p, e⟩ := List.mem_iff_getElem?.1 (mvTo_mem ht)
  have hp := (List.getElem?_eq_some_iff.1 e).1
  obtain ⟨m, n, g1, g2, g3, -, -, -⟩ := told_plain h2 hp
  obtain ⟨i1, i2, l, i3, i4, i5⟩ := rdErr_zero h2
  have hb := isImg_bd i1
  have i3' : blocks ws 128 = some l := i3
  have hrow := blocks_row (ws := ws) (by omega) i3' (by omega) (by omega) (by omega)
  have hmost : (128 : Int) ≤ most l := by
    unfold most
    split
    · omega
    · rename_i hl
      obtain ⟨a0, e0, -, e1, -⟩ := blocks_at _ _ i3' (by omega) 0 (by omega)
      rw [gk_get l 0 (by omega), e0, bkAt_at]; omega
  obtain ⟨k1, k2, k3⟩ := moves_like hrow hmost
  rw [e] at g1
  injection g1 with g1
  injection g1 with g4 g5
  rw [i5] at hp e
  have e := (List.getElem?_eq_some_iff.1 e).2
  have hle := (k1 p hp).1
  rw [e] at hle
  have hge : (128 : Int) ≤ t := by
    rcases Nat.eq_zero_or_pos p with h0 | h0
    · subst h0
      have := k3 hp
      rw [e] at this
      dsimp only at this
      omega
    · have h5 := (k2 0 p hp h0).1
      have h6 := k3 (by omega)
      rw [e] at h5
      dsimp only at h5
      omega
  dsimp only at hle
  exact ⟨n, g5, by omega, by omega, by omega, m, g4, g2, by omega⟩
def fixOf (m : List (Int × Int)) (v : Nat) : Option Int := if 2048 < v then none else mvTo m (v : Int)

/-! The object at an address, and its references -/
def objF (l : List Bk) (a : Int) : Option Bk := l.find? fun b => b.at_ == a && b.kind == 1
def noObj (l : List Bk) (a : Int) (k : Nat) : Prop := ∀ j, j < k → ((gk l j).at_ == a && (gk l j).kind == 1) = false
theorem noObj_zero (l : List Bk) (a : Int) : noObj l a 0 := fun j h => absurd h (by omega)
theorem noObj_succ {l : List Bk} {a : Int} {k : Nat} (h : noObj l a k) (h2 : ((gk l k).at_ == a && (gk l k).kind == 1) = false) : noObj l a (k + 1) := fun j hj => by
  rcases Nat.lt_or_ge j k with h3 | h3
  · exact h j h3
  · have : j = k := by omega
    subst this; exact h2
theorem objF_none : ∀ {l : List Bk} {a : Int}, noObj l a l.length → objF l a = none := by
  intro l
  induction l with
  | nil => intro a _; rfl
  | cons b l ih =>
    intro a h
    have h0 : (b.at_ == a && b.kind == 1) = false := h 0 (by simp)
    unfold objF
    rw [List.find?_cons, h0]
    exact ih fun j hj => by have := h (j + 1) (by simpa using hj); rwa [gk_cons] at this
theorem objF_at : ∀ {l : List Bk} {a : Int} {k : Nat}, k < l.length → noObj l a k → ((gk l k).at_ == a && (gk l k).kind == 1) = true → objF l a = some (gk l k) := by
  intro l
  induction l with
  | nil => intro a k h; simp at h
  | cons b l ih =>
    intro a k hk h hm
    cases k with
    | zero =>
      rw [gk_zero] at hm ⊢
      unfold objF
      rw [List.find?_cons, hm]
    | succ k =>
      have h0 : (b.at_ == a && b.kind == 1) = false := h 0 (by omega)
      unfold objF
      rw [List.find?_cons, h0]
      rw [gk_cons] at hm ⊢
      exact ih (by simpa using hk) (fun j hj => by have := h (j + 1) (by omega); rwa [gk_cons] at this) hm
def obj6 (ws : List Nat) (a : Int) : Bk := (objF (frOut ws 128) a).getD noBk
def obj6Err (ws : List Nat) (a : Int) : Int := if (objF (frOut ws 128) a).isSome then 0 else 6
theorem objF_some {l : List Bk} {a : Int} {b : Bk} (h : objF l a = some b) : b ∈ l ∧ b.at_ = a ∧ b.kind = 1 := by
  unfold objF at h
  have h1 := List.find?_some h
  simp only [Bool.and_eq_true, beq_iff_eq] at h1
  exact ⟨List.mem_of_find?_eq_some h, h1.1, h1.2⟩
/-- The references among the first j fields. -/
def rfTo (F : List Nat) (a : Int) (j : Nat) : List Int := (List.range j).filterMap fun (i : Nat) => if F[i]? = some 3 then some (a + 2 + (i : Int)) else none
theorem rfTo_succ (F : List Nat) (a : Int) (j : Nat) : rfTo F a (j + 1) = rfTo F a j ++ (if F[j]? = some 3 then [a + 2 + (j : Int)] else []) := by
  unfold rfTo
  rw [List.range_succ, List.filterMap_append]
  congr 1
  simp only [List.filterMap_cons, List.filterMap_nil]
  split <;> simp_all
theorem rfTo_len (F : List Nat) (a : Int) (j : Nat) : (rfTo F a j).length ≤ j := by
  unfold rfTo
  have := List.length_filterMap_le (fun (i : Nat) => if F[i]? = some 3 then some (a + 2 + (i : Int)) else none) (List.range j)
  rwa [List.length_range] at this
theorem rfTo_mem {F : List Nat} {a x : Int} {j : Nat} : x ∈ rfTo F a j ↔ ∃ i, i < j ∧ F[i]? = some 3 ∧ x = a + 2 + (i : Int) := by
  unfold rfTo
  rw [List.mem_filterMap]
  constructor
  · rintro ⟨i, h1, h2⟩
    split at h2
    · rename_i h3
      injection h2 with h2
      exact ⟨i, List.mem_range.1 h1, h3, h2.symm⟩
    · cases h2
  · rintro ⟨i, h1, h2, h3⟩
    exact ⟨i, List.mem_range.2 h1, by rw [if_pos h2, h3]⟩
def fldB (ws : List Nat) (b : Bk) : List Nat := krOut (wd ws (tyA b)) (wd ws (tyA b + 1))
def rfsB (ws : List Nat) (b : Bk) : List Int := rfTo (fldB ws b) b.at_ (fldB ws b).length
theorem obj_in {ws : List Nat} (h : hpErr ws = 0) {a : Int} {b : Bk} (ho : objF (frOut ws 128) a = some b) : ∃ m : Nat, a = (m : Int) ∧ b = bkAt ws m ∧ isObj ws m := by
  obtain ⟨h1, h2, h3⟩ := objF_some ho
  rw [(hp_fr h).2.1] at h1
  obtain ⟨k, hk, rfl⟩ := List.getElem_of_mem h1
  obtain ⟨m, e1, e2⟩ := obj_of h hk h3
  exact ⟨m, by rw [← h2, e1]; rfl, e1, e2⟩

/-! The fields of an object, fixed -/
def obStep (ws : List Nat) (m : List (Int × Int)) (r : Nat) : Option (List En) := if wd ws r = 0 then some [] else match fixOf m (wd ws r) with
  | none => none
  | some t => if (wd ws r : Int) = t then some [] else some [⟨(r : Int), t.toNat⟩]
def obFix (ws : List Nat) (m : List (Int × Int)) : List Int → Option (List En)
  | [] => some []
  | r :: l => match obStep ws m r.toNat with
    | none => none
    | some x => (obFix ws m l).map (x ++ ·)
theorem obFix_append (ws : List Nat) (m : List (Int × Int)) (a b : List Int) : obFix ws m (a ++ b) = match obFix ws m a with
    | none => none
    | some x => (obFix ws m b).map (x ++ ·) := by
  induction a with
  | nil => simp [obFix]
  | cons r a ih =>
    simp only [List.cons_append, obFix]
    cases obStep ws m r.toNat with
    | none => rfl
    | some x =>
      rw [ih]
      cases obFix ws m a with
      | none => rfl
      | some y =>
        cases obFix ws m b with
        | none => rfl
        | some z => simp
theorem obFix_take {ws : List Nat} {m : List (Int × Int)} {l : List Int} {k : Nat} (hk : k < l.length) {o : List En} (h : obFix ws m (l.take k) = some o) : obFix ws m (l.take (k + 1)) = (obStep ws m l[k].toNat).map (o ++ ·) := by
  rw [List.take_succ_eq_append_getElem hk, obFix_append, h]
  simp only [obFix]
  cases obStep ws m l[k].toNat <;> simp
theorem obFix_bad {ws : List Nat} {m : List (Int × Int)} {l : List Int} {k : Nat} (hk : k < l.length) {o : List En} (h : obFix ws m (l.take k) = some o) (h2 : obStep ws m l[k].toNat = none) : obFix ws m l = none := by
  conv => lhs; rw [← List.take_append_drop (k + 1) l]
  rw [obFix_append, obFix_take hk h, h2]
  rfl
theorem obFix_len {ws : List Nat} {m : List (Int × Int)} : ∀ {l : List Int} {o : List En}, obFix ws m l = some o → o.length ≤ l.length := by
  intro l
  induction l with
  | nil => intro o h; simp only [obFix, Option.some.injEq] at h; subst h; simp
  | cons r l ih =>
    intro o h
    simp only [obFix] at h
    cases hs : obStep ws m r.toNat with
    | none => rw [hs] at h; cases h
    | some x =>
      rw [hs] at h
      cases hl : obFix ws m l with
      | none => rw [hl] at h; cases h
      | some y =>
        rw [hl] at h
        simp only [Option.map_some, Option.some.injEq] at h
        subst h
        have h1 := ih hl
        have h2 : x.length ≤ 1 := by
          unfold obStep at hs
          split at hs
          · injection hs with hs; subst hs; simp
          · split at hs
            · cases hs
            · split at hs <;> (injection hs with hs; subst hs; simp)
        rw [List.length_append, List.length_cons]; omega
def obErr (ws : List Nat) (a : Int) : Int := if fxErr ws = 0 then (match objF (frOut ws 128) a with
    | none => 6
    | some b => if b.mark = true then (match obFix ws (fxMv ws) (rfsB ws b) with | none => 50 | some _ => 0) else 6) else fxErr ws
def obOut (ws : List Nat) (a : Int) : List En := if fxErr ws = 0 then (match objF (frOut ws 128) a with
    | none => []
    | some b => if b.mark = true then (obFix ws (fxMv ws) (rfsB ws b)).getD [] else []) else []
theorem ob_err {ws : List Nat} {a r : Int} (h : fxErr ws = r) (h0 : r ≠ 0) : obErr ws a = r ∧ obOut ws a = [] := by subst h; simp [obErr, obOut, h0]
theorem ob_none {ws : List Nat} {a : Int} (h : fxErr ws = 0) (h1 : objF (frOut ws 128) a = none) : obErr ws a = 6 ∧ obOut ws a = [] := by simp [obErr, obOut, h, h1]
theorem ob_unmk {ws : List Nat} {a : Int} (h : fxErr ws = 0) {b : Bk} (h1 : objF (frOut ws 128) a = some b) (h2 : b.mark = false) : obErr ws a = 6 ∧ obOut ws a = [] := by simp [obErr, obOut, h, h1, h2]
theorem ob_bad {ws : List Nat} {a : Int} (h : fxErr ws = 0) {b : Bk} (h1 : objF (frOut ws 128) a = some b) (h2 : b.mark = true) (h3 : obFix ws (fxMv ws) (rfsB ws b) = none) : obErr ws a = 50 ∧ obOut ws a = [] := by simp [obErr, obOut, h, h1, h2, h3]
theorem ob_ok {ws : List Nat} {a : Int} (h : fxErr ws = 0) {b : Bk} (h1 : objF (frOut ws 128) a = some b) (h2 : b.mark = true) {o : List En} (h3 : obFix ws (fxMv ws) (rfsB ws b) = some o) : obErr ws a = 0 ∧ obOut ws a = o := by simp [obErr, obOut, h, h1, h2, h3]
def rsErr (ws : List Nat) (a : Int) : Int := if hpErr ws = 0 then obj6Err ws a else hpErr ws
def rsOut (ws : List Nat) (a : Int) : List Int := if hpErr ws = 0 then (match objF (frOut ws 128) a with | none => [] | some b => rfsB ws b) else []

/-! The slots, fixed -/
def slWd (s : Sl) : Nat := s.at_.toNat + s.gen.toNat * 4294967296 + (if s.used = true then 9223372036854775808 else 0)
def slStep (ws : List Nat) (m : List (Int × Int)) (i : Nat) : Option (List En) := if (slAt ws i).used = true then (match fixOf m (slAt ws i).at_.toNat with
    | none => none
    | some t => if wd ws (112 + i) = slWd ⟨(slAt ws i).gen, true, t⟩ then some [] else some [⟨((112 + i : Nat) : Int), slWd ⟨(slAt ws i).gen, true, t⟩⟩]) else some []
def slFix (ws : List Nat) (m : List (Int × Int)) : Nat → Option (List En)
  | 0 => some []
  | k + 1 => match slFix ws m k with
    | none => none
    | some o => (slStep ws m k).map (o ++ ·)
theorem slFix_none {ws : List Nat} {m : List (Int × Int)} {k : Nat} (h : slFix ws m k = none) : ∀ {n : Nat}, k ≤ n → slFix ws m n = none := by
  intro n
  induction n with
  | zero => intro hk; have : k = 0 := by omega
            subst this; exact h
  | succ n ih =>
    intro hk
    rcases Nat.lt_or_ge n k with h1 | h1
    · have : k = n + 1 := by omega
      subst this; exact h
    · simp only [slFix, ih h1]
theorem slFix_len {ws : List Nat} {m : List (Int × Int)} : ∀ {k : Nat} {o : List En}, slFix ws m k = some o → o.length ≤ k := by
  intro k
  induction k with
  | zero => intro o h; simp only [slFix, Option.some.injEq] at h; subst h; simp
  | succ k ih =>
    intro o h
    simp only [slFix] at h
    cases hk : slFix ws m k with
    | none => rw [hk] at h; cases h
    | some x =>
      rw [hk] at h
      cases hs : slStep ws m k with
      | none => rw [hs] at h; cases h
      | some y =>
        rw [hs] at h
        simp only [Option.map_some, Option.some.injEq] at h
        subst h
        have h1 := ih hk
        have h2 : y.length ≤ 1 := by
          unfold slStep at hs
          split at hs
          · split at hs
            · cases hs
            · split at hs <;> (injection hs with hs; subst hs; simp)
          · injection hs with hs; subst hs; simp
        rw [List.length_append]; omega
def fsErr (ws : List Nat) : Int := if fxErr ws = 0 then (if slsOk ws = true then (match slFix ws (fxMv ws) 16 with | none => 50 | some _ => 0) else 50) else fxErr ws
def fsOut (ws : List Nat) : List En := if fsErr ws = 0 then (slFix ws (fxMv ws) 16).getD [] else []
end Go.Proofs.Ytpifagclhhaniaa
