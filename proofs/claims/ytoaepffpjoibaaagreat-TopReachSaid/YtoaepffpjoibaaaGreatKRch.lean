/- Texts laid together: RchP Hnd Hnd2 Flds Rch Rcd. -/
import Derived.Test.YtoaepffpjoibaaaGreatKHead
import Derived.Test.YtoaepffpjoibaaaGreatKHeap
import Derived.Deep.RegionHeld3
import Derived.Deep.DrawnRows
import Derived.Laws.OwnMore
namespace Go.Proofs.YtoaepffpjoibaaaGreat

structure Sl where
  gen : Int
  used : Bool
  at_ : Int
  deriving DecidableEq, Inhabited
def Sl.cells (x : Sl) : List Value := [.int .i64 x.gen, .bool x.used, .int .i64 x.at_]
theorem Sl.len (x : Sl) : x.cells.length = 3 := rfl
def slRaw (w : Nat) : Sl := ⟨((w / 4294967296 % 2147483648 : Nat) : Int), w / 9223372036854775808 == 1, ((w % 4294967296 : Nat) : Int)⟩
def slOk (s : Sl) : Bool := if s.used = true then decide (0 < s.gen) && (decide (128 ≤ s.at_) && decide (s.at_ < 2048)) else s.at_ == 0
def slAt (ws : List Nat) (i : Nat) : Sl := slRaw (wd ws (112 + i))
def slsTo (ws : List Nat) (k : Nat) : Prop := ∀ i, i < k → slOk (slAt ws i) = true
theorem slsTo_zero (ws : List Nat) : slsTo ws 0 := fun i h => absurd h (by omega)
theorem slsTo_succ {ws : List Nat} {k : Nat} (h : slsTo ws k) (h1 : slOk (slAt ws k) = true) : slsTo ws (k + 1) := fun i hi => by
  rcases Nat.lt_or_ge i k with h2 | h2
  · exact h i h2
  · have : i = k := by omega
    subst this; exact h1
def slsOk (ws : List Nat) : Bool := (List.range 16).all fun i => slOk (slAt ws i)
theorem slsOk_iff (ws : List Nat) : slsOk ws = true ↔ slsTo ws 16 := by
  unfold slsOk slsTo
  rw [List.all_eq_true]
  exact ⟨fun h i hi => h i (List.mem_range.2 hi), fun h i hi => h i (List.mem_range.1 hi)⟩
theorem slsOk_bad {ws : List Nat} {k : Nat} (hk : k < 16) (h : slOk (slAt ws k) = false) : slsOk ws = false := by
  cases hq : slsOk ws with
  | false => rfl
  | true => rw [(slsOk_iff ws).1 hq k hk] at h; cases h
def slL (ws : List Nat) : List Sl := (List.range 16).map (slAt ws)
theorem slL_len (ws : List Nat) : (slL ws).length = 16 := by simp [slL]
theorem slL_get (ws : List Nat) {i : Nat} (h : i < (slL ws).length) : (slL ws)[i] = slAt ws i := by simp [slL]
def hdlErr (ws : List Nat) : Int := if sizeOk (ws.length : Int) = true then (if slsOk ws = true then 0 else 50) else 8
def hdlOut (ws : List Nat) : List Sl := if hdlErr ws = 0 then slL ws else []
theorem hdlErr_img {ws : List Nat} (h : sizeOk (ws.length : Int) = false) : hdlErr ws = 8 := by simp [hdlErr, h]
theorem hdlErr_bad {ws : List Nat} (h : sizeOk (ws.length : Int) = true) (h2 : slsOk ws = false) : hdlErr ws = 50 := by simp [hdlErr, h, h2]
theorem hdlErr_ok {ws : List Nat} (h : sizeOk (ws.length : Int) = true) (h2 : slsOk ws = true) : hdlErr ws = 0 ∧ hdlOut ws = slL ws := by simp [hdlOut, hdlErr, h, h2]
theorem slRaw_bd (w : Nat) : 0 ≤ (slRaw w).gen ∧ (slRaw w).gen ≤ 2147483647 ∧ 0 ≤ (slRaw w).at_ ∧ (slRaw w).at_ ≤ 4294967295 := by
  unfold slRaw
  dsimp only
  have h1 := Nat.mod_lt (w / 4294967296) (show 0 < 2147483648 by omega)
  have h2 := Nat.mod_lt w (show 0 < 4294967296 by omega)
  omega
theorem sl_used {s : Sl} (h : slOk s = true) (hu : s.used = true) : 0 < s.gen ∧ 128 ≤ s.at_ ∧ s.at_ < 2048 := by
  unfold slOk at h
  rw [if_pos hu] at h
  simpa using h

/-! The types of objects by their addresses -/
def tabL (n : Nat) (l : List Bk) : List Int := l.foldl (fun t b => if b.kind = 1 then t.set b.at_.toNat (b.typ + 1) else t) (List.replicate n 0)
theorem tabL_take {n : Nat} {l : List Bk} {k : Nat} (hk : k < l.length) : tabL n (l.take (k + 1)) = if l[k].kind = 1 then (tabL n (l.take k)).set l[k].at_.toNat (l[k].typ + 1) else tabL n (l.take k) := by
  unfold tabL
  rw [List.take_succ_eq_append_getElem hk, List.foldl_append]
  rfl
theorem tab_step_len (t : List Int) (l : List Bk) : (l.foldl (fun t b => if b.kind = 1 then t.set b.at_.toNat (b.typ + 1) else t) t).length = t.length := by
  induction l generalizing t with
  | nil => rfl
  | cons b l ih => simp only [List.foldl_cons]; rw [ih]; split <;> simp
theorem tabL_len (n : Nat) (l : List Bk) : (tabL n l).length = n := by unfold tabL; rw [tab_step_len, List.length_replicate]
/-- What stands in the table: nothing, or an object's type and 1. -/
theorem tab_what (l : List Bk) (t : List Int) (P : Nat → Int → Prop) (h0 : ∀ a, (t[a]?.getD 0) = 0 ∨ P a (t[a]?.getD 0)) (h1 : ∀ b ∈ l, b.kind = 1 → P b.at_.toNat (b.typ + 1)) (a : Nat) :
    ((l.foldl (fun t b => if b.kind = 1 then t.set b.at_.toNat (b.typ + 1) else t) t)[a]?.getD 0) = 0 ∨ P a ((l.foldl (fun t b => if b.kind = 1 then t.set b.at_.toNat (b.typ + 1) else t) t)[a]?.getD 0) := by
  induction l generalizing t with
  | nil => exact h0 a
  | cons b l ih =>
    simp only [List.foldl_cons]
    refine ih _ (fun a => ?_) (fun x hx => h1 x (by simp [hx]))
    split
    · rename_i hk
      rw [List.getElem?_set]
      split
      · rename_i e
        subst e
        split
        · right; exact h1 b (by simp) hk
        · left; rfl
      · exact h0 a
    · exact h0 a
theorem tab_has (l : List Bk) (t : List Int) (a : Nat) (ha : a < t.length) (h : (t[a]?.getD 0) ≠ 0 ∨ ∃ b ∈ l, b.kind = 1 ∧ b.at_.toNat = a) (hty : ∀ b ∈ l, b.kind = 1 → 0 ≤ b.typ) :
    ((l.foldl (fun t b => if b.kind = 1 then t.set b.at_.toNat (b.typ + 1) else t) t)[a]?.getD 0) ≠ 0 := by
  induction l generalizing t with
  | nil =>
    rcases h with h | ⟨b, hb, -⟩
    · exact h
    · cases hb
  | cons b l ih =>
    simp only [List.foldl_cons]
    refine ih _ (by split <;> simp [ha]) ?_ (fun x hx => hty x (by simp [hx]))
    by_cases hk : b.kind = 1
    · rw [if_pos hk, List.getElem?_set]
      by_cases e : b.at_.toNat = a
      · left
        rw [if_pos e, if_pos (by omega)]
        have := hty b (by simp) hk
        simp only [Option.getD_some, ne_eq]; omega
      · rw [if_neg e]
        rcases h with h | ⟨x, hx, h2, h3⟩
        · exact .inl h
        · rcases List.mem_cons.1 hx with rfl | hx
          · exact absurd h3 e
          · exact .inr ⟨x, hx, h2, h3⟩
    · rw [if_neg hk]
      rcases h with h | ⟨x, hx, h2, h3⟩
      · exact .inl h
      · rcases List.mem_cons.1 hx with rfl | hx
        · exact absurd h2 hk
        · exact .inr ⟨x, hx, h2, h3⟩
/-- The type of the object at an address, and 1; 0: there is none. -/
def tb (ws : List Nat) (a : Nat) : Int := (tabL ws.length (hpOut ws))[a]?.getD 0
theorem tb_lt {ws : List Nat} {a : Nat} (h : tb ws a ≠ 0) : a < ws.length := by
  rcases Nat.lt_or_ge a ws.length with h1 | h1
  · exact h1
  · unfold tb at h
    rw [List.getElem?_eq_none (by rw [tabL_len]; exact h1)] at h
    exact absurd rfl h
/-- An object of a right heap. -/
def isObj (ws : List Nat) (a : Nat) : Prop := 128 ≤ a ∧ a % 2 = 0 ∧ a < ws.length ∧ stands ws a = true ∧ (rawBk (wd ws a)).kind = 1 ∧ fitB ws (bkAt ws a) = true ∧ ∃ k, ∃ h : k < (hpOut ws).length, (hpOut ws)[k] = bkAt ws a ∧ blocks ws a = some ((hpOut ws).drop k)
theorem obj_of {ws : List Nat} (h : hpErr ws = 0) {k : Nat} (hk : k < (hpOut ws).length) (h1 : (hpOut ws)[k].kind = 1) : ∃ a, (hpOut ws)[k] = bkAt ws a ∧ isObj ws a := by
  obtain ⟨hs, l, hl, ha, ho⟩ := hpErr_zero h
  subst ho
  obtain ⟨a, e1, e2, e3, e4, e5, e6⟩ := blocks_at _ _ hl (by omega) k hk
  refine ⟨a, e1, e3, e2, e4, e5, by rw [e1] at h1; exact h1, ?_, k, hk, e1, e6⟩
  rw [List.all_eq_true] at ha
  rw [← e1]; exact ha _ (List.getElem_mem hk)
theorem tb_obj {ws : List Nat} (h : hpErr ws = 0) {a : Nat} (ht : tb ws a ≠ 0) : isObj ws a ∧ tb ws a = (rawBk (wd ws a)).typ + 1 := by
  have key := tab_what (hpOut ws) (List.replicate ws.length 0) (fun a v => isObj ws a ∧ v = (rawBk (wd ws a)).typ + 1) (fun a => .inl (by
    rw [List.getElem?_replicate]; split <;> rfl)) (fun b hb hk => by
    obtain ⟨k, hk2, rfl⟩ := List.getElem_of_mem hb
    obtain ⟨a, e1, e2⟩ := obj_of h hk2 hk
    rw [e1]
    have : (bkAt ws a).at_.toNat = a := by rw [bkAt_at, Int.toNat_natCast]
    rw [this]
    exact ⟨e2, rfl⟩) a
  exact key.resolve_left ht
theorem obj_tb {ws : List Nat} (h : hpErr ws = 0) {a : Nat} (ho : isObj ws a) : tb ws a = (rawBk (wd ws a)).typ + 1 ∧ tb ws a ≠ 0 := by
  obtain ⟨h1, h2, h3, h4, h5, h6, k, hk, h7, h8⟩ := ho
  have hne : tb ws a ≠ 0 := by
    unfold tb tabL
    refine tab_has _ _ _ (by rw [List.length_replicate]; exact h3) (.inr ⟨_, List.getElem_mem hk, by rw [h7]; exact h5, by rw [h7, bkAt_at, Int.toNat_natCast]⟩) (fun b hb hkk => ?_)
    obtain ⟨m, hm, rfl⟩ := List.getElem_of_mem hb
    obtain ⟨a', e1, e2⟩ := obj_of h hm hkk
    rw [e1]
    show 0 ≤ ((_ : Nat) : Int)
    omega
  exact ⟨(tb_obj h hne).2, hne⟩

/-! What is reached -/
/-- The fields of the object at an address. -/
def flds (ws : List Nat) (a : Nat) : List Nat := krOut (wd ws (96 + 2 * (rawBk (wd ws a)).typ.toNat)) (wd ws (96 + 2 * (rawBk (wd ws a)).typ.toNat + 1))
theorem flds_le (ws : List Nat) (a : Nat) : (flds ws a).length ≤ 8 := krOut_le _ _
theorem flds_in {ws : List Nat} {a : Nat} (h : isObj ws a) {i : Nat} (hi : i < (flds ws a).length) : a + 2 + i < ws.length := by
  obtain ⟨h1, h2, h3, h4, h5, h6, -⟩ := h
  have hs := stands_sz h4
  have hf : fitB ws (bkAt ws a) = typedB ws (bkAt ws a) := by
    unfold fitB
    have : ((bkAt ws a).kind != 1) = false := by rw [bne_eq_false_iff_eq]; exact h5
    rw [this, Bool.false_or]
  have hfo := fit_obj (ws := ws) (b := bkAt ws a) h5
  rw [hf] at h6
  rw [hf, h6] at hfo
  have hfo := hfo.symm
  simp only [Bool.and_eq_true, beq_iff_eq] at hfo
  have h7 := hfo.2
  rw [bkAt_size] at h7
  have h8 : (flds ws a).length = (krOut (wd ws (tyA (bkAt ws a))) (wd ws (tyA (bkAt ws a) + 1))).length := rfl
  unfold objSz at h7
  omega
inductive Rch (ws : List Nat) : Nat → Prop
  | slot (i : Nat) (hi : i < 16) (hu : (slAt ws i).used = true) : Rch ws (slAt ws i).at_.toNat
  | ref (a i : Nat) (ha : Rch ws a) (ht : tb ws a ≠ 0) (hi : (flds ws a)[i]? = some 3) (hv : wd ws (a + 2 + i) ≠ 0) : Rch ws (min (wd ws (a + 2 + i)) 2048)
def Good (ws : List Nat) : Prop := ∀ a, Rch ws a → tb ws a ≠ 0
/-- The targets of the first j fields of an object. -/
def tgts (ws : List Nat) (a : Nat) (j : Nat) : List Nat := (List.range j).filterMap fun i => if (flds ws a)[i]? = some 3 ∧ wd ws (a + 2 + i) ≠ 0 then some (min (wd ws (a + 2 + i)) 2048) else none
theorem tgts_succ (ws : List Nat) (a j : Nat) : tgts ws a (j + 1) = tgts ws a j ++ (if (flds ws a)[j]? = some 3 ∧ wd ws (a + 2 + j) ≠ 0 then [min (wd ws (a + 2 + j)) 2048] else []) := by
  unfold tgts
  rw [List.range_succ, List.filterMap_append]
  congr 1
  simp only [List.filterMap_cons, List.filterMap_nil]
  split <;> simp_all
theorem tgts_len (ws : List Nat) (a j : Nat) : (tgts ws a j).length ≤ j := by
  unfold tgts
  have := List.length_filterMap_le (fun i => if (flds ws a)[i]? = some 3 ∧ wd ws (a + 2 + i) ≠ 0 then some (min (wd ws (a + 2 + i)) 2048) else none) (List.range j)
  rwa [List.length_range] at this
theorem tgts_mem {ws : List Nat} {a j x : Nat} (h : x ∈ tgts ws a j) : ∃ i, (flds ws a)[i]? = some 3 ∧ wd ws (a + 2 + i) ≠ 0 ∧ x = min (wd ws (a + 2 + i)) 2048 := by
  unfold tgts at h
  rw [List.mem_filterMap] at h
  obtain ⟨i, -, h2⟩ := h
  split at h2
  · rename_i h3
    injection h2 with h2
    exact ⟨i, h3.1, h3.2, h2.symm⟩
  · cases h2
theorem mem_tgts {ws : List Nat} {a i : Nat} (h1 : (flds ws a)[i]? = some 3) (h2 : wd ws (a + 2 + i) ≠ 0) : min (wd ws (a + 2 + i)) 2048 ∈ tgts ws a (flds ws a).length := by
  unfold tgts
  rw [List.mem_filterMap]
  refine ⟨i, List.mem_range.2 (List.getElem?_eq_some_iff.1 h1).1, ?_⟩
  rw [if_pos ⟨h1, h2⟩]
/-- The work that is left, and what was seen. -/
structure Wk (ws : List Nat) (seen : List Bool) (todo : List Nat) : Prop where
  hlen : seen.length = ws.length
  htodo : ∀ a ∈ todo, Rch ws a
  hseen : ∀ a, seen[a]? = some true → Rch ws a ∧ tb ws a ≠ 0
  hslot : ∀ i, i < 16 → (slAt ws i).used = true → (slAt ws i).at_.toNat ∈ todo ∨ seen[(slAt ws i).at_.toNat]? = some true
  href : ∀ a i, seen[a]? = some true → (flds ws a)[i]? = some 3 → wd ws (a + 2 + i) ≠ 0 → min (wd ws (a + 2 + i)) 2048 ∈ todo ∨ seen[min (wd ws (a + 2 + i)) 2048]? = some true
theorem Wk.bad {ws : List Nat} {seen : List Bool} {todo : List Nat} {a : Nat} (h : Wk ws seen (todo ++ [a])) (h0 : tb ws a = 0) : ¬ Good ws := fun hg => hg a (h.htodo a (by simp)) h0
theorem Wk.old {ws : List Nat} {seen : List Bool} {todo : List Nat} {a : Nat} (h : Wk ws seen (todo ++ [a])) (h1 : seen[a]? = some true) : Wk ws seen todo := by
  have key : ∀ x, x ∈ todo ++ [a] ∨ seen[x]? = some true → x ∈ todo ∨ seen[x]? = some true := by
    intro x hx
    rcases hx with hx | hx
    · rcases List.mem_append.1 hx with hx | hx
      · exact .inl hx
      · rw [List.mem_singleton] at hx; subst hx; exact .inr h1
    · exact .inr hx
  exact ⟨h.hlen, fun x hx => h.htodo x (by simp [hx]), h.hseen, fun i hi hu => key _ (h.hslot i hi hu), fun x i hx hf hv => key _ (h.href x i hx hf hv)⟩
theorem Wk.new_ {ws : List Nat} {seen : List Bool} {todo : List Nat} {a : Nat} (h : Wk ws seen (todo ++ [a])) (h0 : tb ws a ≠ 0) : Wk ws (seen.set a true) (todo ++ tgts ws a (flds ws a).length) := by
  have hl := h.hlen
  have hal := tb_lt h0
  have hset : ∀ x, (seen.set a true)[x]? = some true ↔ x = a ∨ seen[x]? = some true := by
    intro x
    rw [List.getElem?_set]
    by_cases e : a = x
    · subst e; simp [hl, hal]
    · rw [if_neg e]
      constructor
      · exact .inr
      · rintro (h1 | h1)
        · exact absurd h1.symm e
        · exact h1
  have key : ∀ x, x ∈ todo ++ [a] ∨ seen[x]? = some true → x ∈ todo ++ tgts ws a (flds ws a).length ∨ (seen.set a true)[x]? = some true := by
    intro x hx
    rw [hset]
    rcases hx with hx | hx
    · rcases List.mem_append.1 hx with hx | hx
      · exact .inl (by simp [hx])
      · rw [List.mem_singleton] at hx; exact .inr (.inl hx)
    · exact .inr (.inr hx)
  have har : Rch ws a := h.htodo a (by simp)
  refine ⟨by rw [List.length_set]; exact hl, fun x hx => ?_, fun x hx => ?_, fun i hi hu => key _ (h.hslot i hi hu), fun x i hx hf hv => ?_⟩
  · rcases List.mem_append.1 hx with hx | hx
    · exact h.htodo x (by simp [hx])
    · obtain ⟨i, g1, g2, rfl⟩ := tgts_mem hx
      exact Rch.ref a i har h0 g1 g2
  · rcases (hset x).1 hx with rfl | hx
    · exact ⟨har, h0⟩
    · exact h.hseen x hx
  · rcases (hset x).1 hx with rfl | hx
    · exact .inl (by rw [List.mem_append]; exact .inr (mem_tgts hf hv))
    · exact key _ (h.href x i hx hf hv)
theorem Wk.end_ {ws : List Nat} {seen : List Bool} (h : Wk ws seen []) : Good ws ∧ ∀ a, seen[a]? = some true ↔ Rch ws a := by
  have all : ∀ a, Rch ws a → seen[a]? = some true := by
    intro a ha
    induction ha with
    | slot i hi hu => exact (h.hslot i hi hu).resolve_left (by simp)
    | ref a i ha ht hi hv ih => exact (h.href a i ih hi hv).resolve_left (by simp)
  exact ⟨fun a ha => (h.hseen a (all a ha)).2, fun a => ⟨fun hs => (h.hseen a hs).1, all a⟩⟩
/-- The slots' addresses, the first k. -/
def slTo (ws : List Nat) (k : Nat) : List Nat := (List.range k).filterMap fun i => if (slAt ws i).used = true then some (slAt ws i).at_.toNat else none
theorem slTo_succ (ws : List Nat) (k : Nat) : slTo ws (k + 1) = slTo ws k ++ (if (slAt ws k).used = true then [(slAt ws k).at_.toNat] else []) := by
  unfold slTo
  rw [List.range_succ, List.filterMap_append]
  congr 1
  simp only [List.filterMap_cons, List.filterMap_nil]
  split <;> simp_all
theorem slTo_len (ws : List Nat) (k : Nat) : (slTo ws k).length ≤ k := by
  unfold slTo
  have := List.length_filterMap_le (fun i => if (slAt ws i).used = true then some (slAt ws i).at_.toNat else none) (List.range k)
  rwa [List.length_range] at this
theorem Wk.start (ws : List Nat) : Wk ws (List.replicate ws.length false) (slTo ws 16) := by
  have hno : ∀ a : Nat, (List.replicate ws.length false)[a]? ≠ some true := by
    intro a; rw [List.getElem?_replicate]; split <;> simp
  refine ⟨List.length_replicate, fun a ha => ?_, fun a ha => absurd ha (hno a), fun i hi hu => .inl ?_, fun a i ha => absurd ha (hno a)⟩
  · unfold slTo at ha
    rw [List.mem_filterMap] at ha
    obtain ⟨i, hi, h2⟩ := ha
    split at h2
    · rename_i h3
      injection h2 with h2
      subst h2
      exact Rch.slot i (List.mem_range.1 hi) h3
    · cases h2
  · unfold slTo
    rw [List.mem_filterMap]
    exact ⟨i, List.mem_range.2 hi, by rw [if_pos hu]⟩
open Classical in
noncomputable def rcErr (ws : List Nat) : Int := if hpErr ws = 0 then (if slsOk ws = true then (if Good ws then 0 else 50) else 50) else hpErr ws
open Classical in
noncomputable def seenL (ws : List Nat) : List Bool := (List.range ws.length).map fun a => decide (Rch ws a)
open Classical in
noncomputable def rcOut (ws : List Nat) : List Int := if rcErr ws = 0 then ((List.range ws.length).filter fun a => decide (Rch ws a)).map (fun a : Nat => (a : Int)) else []
theorem Wk.seenL {ws : List Nat} {seen : List Bool} (h : Wk ws seen []) : seen = seenL ws := by
  have h2 := h.end_.2
  apply List.ext_getElem?
  intro a
  unfold Proofs.YtoaepffpjoibaaaGreat.seenL
  by_cases ha : a < ws.length
  · have hs : a < seen.length := by rw [h.hlen]; exact ha
    rw [List.getElem?_map, List.getElem?_range ha, List.getElem?_eq_getElem hs]
    simp only [Option.map_some, Option.some.injEq]
    have := h2 a
    rw [List.getElem?_eq_getElem hs, Option.some.injEq] at this
    cases hq : seen[a] with
    | true => rw [hq] at this; simp [this.1 rfl]
    | false =>
      rw [hq] at this
      have hn : ¬ Rch ws a := fun hr => by have := this.2 hr; cases this
      simp [hn]
  · rw [List.getElem?_eq_none (by rw [h.hlen]; omega), List.getElem?_eq_none (by simp; omega)]
def falses (l : List Bool) : Nat := (l.filter (! ·)).length
theorem falses_set {l : List Bool} {a : Nat} (h : l[a]? = some false) : falses (l.set a true) + 1 = falses l := by
  induction l generalizing a with
  | nil => simp at h
  | cons b l ih =>
    cases a with
    | zero =>
      simp only [List.getElem?_cons_zero, Option.some.injEq] at h
      subst h
      simp [falses]
    | succ a =>
      simp only [List.getElem?_cons_succ] at h
      have := ih h
      unfold falses at this ⊢
      cases b <;> simp_all <;> omega
end Go.Proofs.YtoaepffpjoibaaaGreat

namespace Go.Proofs.YtoaepffpjoibaaaGreat
open Go.RowKit

def Sl.val (x : Sl) : Value := .agg #[.int .i64 x.gen, .bool x.used, .int .i64 x.at_]
set_option maxRecDepth 100000 in
set_option maxHeartbeats 1000000 in
theorem hRight_c (g : Int) (u : Bool) (a : Int) (w : World) (h1 : 0 ≤ g) (h2 : g ≤ 2147483647) :
    Calls Tryz.prog 76 #[.agg #[.int .i64 g, .bool u, .int .i64 a]] w fun e w' => e = .returned (.bool (slOk ⟨g, u, a⟩)) ∧ Below w.heap.size w w' := by
  have hB := (Below.refl w.heap.size w).alloc (Nat.le_refl _) (.cells #[.int .i64 g, .bool u, .int .i64 a] 90)
  have HB := Lib.hid hB
  have d1 : decide (g < 0) = false := by rw [decide_eq_false_iff_not]; omega
  have d2 : decide (2147483647 < g) = false := by rw [decide_eq_false_iff_not]; omega
  clear hB
  cases u
  · have H : Hid (slOk ⟨g, false, a⟩ = (a == 0)) := Lib.hid rfl
    go_enter Tryz.func76, Tryz.ntmps76
    go_wp2_with fail
    go_ret
    exact ⟨by rw [H.out]; rfl, HB.out⟩
  · have H : Hid (∀ b : Bool, b = (decide (0 < g) && (decide (128 ≤ a) && decide (a < 2048))) → slOk ⟨g, true, a⟩ = b) := Lib.hid fun b h => by rw [h]; rfl
    have hways : (∃ b, decide (0 < g) = b) ∧ (∃ b, decide (128 ≤ a) = b) ∧ ∃ b, decide (a < 2048) = b := ⟨⟨_, rfl⟩, ⟨_, rfl⟩, ⟨_, rfl⟩⟩
    obtain ⟨⟨b1, e1⟩, ⟨b2, e2⟩, ⟨b3, e3⟩⟩ := hways
    have HV := Lib.hid (H.out _ rfl)
    rw [e1, e2, e3] at HV
    clear H h1 h2
    cases b1 <;> cases b2 <;> cases b3
    all_goals
      go_enter Tryz.func76, Tryz.ntmps76
      go_wp2_with fail
      go_ret
      exact ⟨by rw [HV.out]; rfl, HB.out⟩

def slB (x : Nat) : Sl := if slOk (slRaw x) = true then slRaw x else ⟨0, false, 0⟩
def slErr (x : Nat) : Int := if slOk (slRaw x) = true then 0 else 50
theorem sl_ok {x : Nat} (h : slOk (slRaw x) = true) : slB x = slRaw x ∧ slErr x = 0 := by simp [slB, slErr, h]
theorem sl_no {x : Nat} (h : slOk (slRaw x) = false) : slB x = ⟨0, false, 0⟩ ∧ slErr x = 50 := by simp [slB, slErr, h]
theorem results_sl {fn : Func} {p q : Tmp} (h : fn.results = #[.cell p 90, .tmp q]) (tmps : Array Value) {W : World} {g : Nat} {t : TypeId} {v0 v1 v2 u : Value} (hb : Bx W g t #[v0, v1, v2]) (hp : tmps.getD p undef = .pointer (some ⟨g, 0, none⟩)) (hq : tmps.getD q undef = u) :
    (results fn tmps).run Tryz.prog W = .ok (.tuple #[.agg #[v0, v1, v2], u]) W := by
  obtain ⟨c0, c1, c2, -⟩ := hb.c3
  rw [Array.getD_eq_getD_getElem?] at hp hq
  simp [results, h, hp, hq, go_sem, c0, c1, c2]
theorem sl_bits (x : Nat) (hx : x < 18446744073709551616) : bits BinOp.and .u64 ((x : Int) / 4294967296) 2147483647 = ((x / 4294967296 % 2147483648 : Nat) : Int) ∧ bits BinOp.and .u64 (x : Int) 4294967295 = ((x % 4294967296 : Nat) : Int) ∧
    (((x : Int) / 9223372036854775808) == 1) = (x / 9223372036854775808 == 1) := by
  refine ⟨?_, and_m (k := 32) (m := 4294967295) hx rfl (by omega), ?_⟩
  · have h1 : x / 4294967296 < 18446744073709551616 := by omega
    have h := and_m (k := 31) (m := 2147483647) h1 rfl (by omega)
    exact h
  · rw [Bool.eq_iff_iff, beq_iff_eq, beq_iff_eq]; omega

set_option maxRecDepth 100000 in
set_option maxHeartbeats 2000000 in
theorem hSplit_c (x : Nat) (w : World) (hx : x < 18446744073709551616) :
    Calls Tryz.prog 91 #[.int .u64 (x : Int)] w fun e w' => e = .returned (.tuple #[(slB x).val, .int .i64 (slErr x)]) ∧ Below w.heap.size w w' := by
  obtain ⟨e1, e2, e3⟩ := sl_bits x hx
  obtain ⟨r1, r2, r3, r4⟩ := slRaw_bd x
  have HOK := Lib.hid (fun h => sl_ok (x := x) h)
  have HNO := Lib.hid (fun h => sl_no (x := x) h)
  have HRT := Lib.hid (fun W => hRight_c (slRaw x).gen (slRaw x).used (slRaw x).at_ W r1 r2)
  have hx0 : (0 : Int) ≤ (x : Int) := by omega
  have g1 : ((x / 4294967296 % 2147483648 : Nat) : Int) = (slRaw x).gen := rfl
  have g2 : ((x % 4294967296 : Nat) : Int) = (slRaw x).at_ := rfl
  have g3 : (x / 9223372036854775808 == 1) = (slRaw x).used := rfl
  rw [g1] at e1
  rw [g2] at e2
  rw [g3] at e3
  clear g1 g2 g3 hx
  obtain ⟨s, hs⟩ : ∃ s, slRaw x = s := ⟨_, rfl⟩
  rw [hs] at e1 e2 e3 r1 r2 r3 r4 HRT HOK HNO
  obtain ⟨g, u, a⟩ := s
  dsimp only at e1 e2 e3 r1 r2 r3 r4 HRT
  have w1 : IntKind.i64.wrap g = g := IntWalk.i64_in _ (by omega)
  have w2 : IntKind.i64.wrap a = a := IntWalk.i64_in _ (by omega)
  have b0 := Bx.new w 90 #[.int .i64 0, .bool false, .int .i64 0]
  have B0 := Lib.hid (b0.alloc (.cells #[.int .i64 g, .bool u, .int .i64 a] 90))
  have b1 := Bx.new (w.alloc (.cells #[.int .i64 0, .bool false, .int .i64 0] 90)) 90 #[.int .i64 g, .bool u, .int .i64 a]
  rw [World.size_alloc] at b1
  have B1 := Lib.hid b1
  have HB := Lib.hid (((Below.refl w.heap.size w).alloc (Nat.le_refl _) (.cells #[.int .i64 0, .bool false, .int .i64 0] 90)).alloc (le_alloc_ (Nat.le_refl _)) (.cells #[.int .i64 g, .bool u, .int .i64 a] 90))
  obtain ⟨q, hq⟩ : ∃ q, slOk ⟨g, u, a⟩ = q := ⟨_, rfl⟩
  rw [hq] at HRT HOK HNO
  clear b0 b1 hs hq r1 r2 r3 r4
  go_enter Tryz.func91, Tryz.ntmps91
  go_wp2_with fail
  refine (HRT.out _).mono ?_
  rintro e w3 ⟨rfl, hB3⟩
  have hb0 := B0.out.up hB3 B0.out.lt
  have hb1 := B1.out.up hB3 B1.out.lt
  have HB3 := Lib.hid (HB.out.trans (hB3.mono HB.out.size))
  obtain ⟨p0, p1, p2, f0, f1, f2, hg0⟩ := hb0.c3
  obtain ⟨n0, n1, n2, -⟩ := hb1.c3
  have HB0 := Lib.hid hb0
  clear hb0 hb1 hB3
  cases q
  · have HV := Lib.hid (HNO.out rfl)
    go_wp2_with fail
    exact bodyPost_ret (v := .tuple #[.agg #[.int .i64 0, .bool false, .int .i64 0], .int .i64 50]) (results_sl Tryz.results91 _ (((HB0.out.set_ 0 _).set_ 1 _).set_ 2 _) rfl rfl) rfl ⟨by rw [HV.out.1, HV.out.2]; rfl, ((HB3.out.setCell (Nat.le_refl _) _).setCell (Nat.le_refl _) _).setCell (Nat.le_refl _) _⟩
  · have HV := Lib.hid (HOK.out rfl)
    go_wp2_with fail
    exact bodyPost_ret (v := .tuple #[.agg #[.int .i64 g, .bool u, .int .i64 a], .int .i64 0]) (results_sl Tryz.results91 _ (((HB0.out.set_ 0 _).set_ 1 _).set_ 2 _) rfl rfl) rfl ⟨by rw [HV.out.1, HV.out.2]; rfl, ((HB3.out.setCell (Nat.le_refl _) _).setCell (Nat.le_refl _) _).setCell (Nat.le_refl _) _⟩

/-! The table of all slots -/
def noSl : Sl := ⟨0, false, 0⟩
def slPre (ws : List Nat) (k : Nat) : List Sl := (List.range 16).map fun i => if i < k then slAt ws i else noSl
def slArr (l : List Sl) : Array Value := (l.flatMap Sl.cells).toArray
theorem slPre_len (ws : List Nat) (k : Nat) : (slPre ws k).length = 16 := by simp [slPre]
theorem slPre_get (ws : List Nat) (k j : Nat) (hj : j < 16) : (slPre ws k)[j]? = some (if j < k then slAt ws j else noSl) := by simp [slPre, hj]
theorem slPre_step (ws : List Nat) (k : Nat) (hk : k < 16) : slPre ws (k + 1) = (slPre ws k).set k (slAt ws k) := by
  apply List.ext_getElem?
  intro j
  rw [List.getElem?_set]
  by_cases hj : j < 16
  · rw [slPre_get _ _ _ hj, slPre_get _ _ _ hj]
    by_cases e : k = j
    · subst e; rw [if_pos (show k < k + 1 by omega), if_pos rfl, if_pos (by rw [slPre_len]; exact hk)]
    · rw [if_neg e]
      by_cases h : j < k
      · rw [if_pos h, if_pos (by omega)]
      · rw [if_neg h, if_neg (by omega)]
  · rw [List.getElem?_eq_none (by rw [slPre_len]; omega), if_neg (by omega), List.getElem?_eq_none (by rw [slPre_len]; omega)]
theorem slPre_zero (ws : List Nat) : slPre ws 0 = List.replicate 16 noSl := by
  apply List.ext_getElem?
  intro j
  by_cases hj : j < 16
  · rw [slPre_get _ _ _ hj, if_neg (by omega), List.getElem?_replicate, if_pos hj]
  · rw [List.getElem?_eq_none (by rw [slPre_len]; omega), List.getElem?_eq_none (by simp; omega)]
theorem slPre_all (ws : List Nat) : slPre ws 16 = slL ws := by
  unfold slPre slL
  apply List.map_congr_left
  intro i hi
  rw [if_pos (List.mem_range.1 hi)]
theorem sl_set (l : List Sl) (k : Nat) (x : Sl) : (l.set k x).flatMap Sl.cells = (((l.flatMap Sl.cells).set (k * 3) (.int .i64 x.gen)).set (k * 3 + 1) (.bool x.used)).set (k * 3 + 2) (.int .i64 x.at_) := by
  have h1 := flat_set Sl.cells 3 Sl.len l k 0 (by omega) ⟨x.gen, (l[k]?.getD default).used, (l[k]?.getD default).at_⟩ (.int .i64 x.gen) (fun y hy => by rw [hy]; rfl)
  have h2 := flat_set Sl.cells 3 Sl.len (l.set k ⟨x.gen, (l[k]?.getD default).used, (l[k]?.getD default).at_⟩) k 1 (by omega) ⟨x.gen, x.used, (l[k]?.getD default).at_⟩ (.bool x.used) (fun y hy => by
    rw [List.getElem?_set] at hy
    simp only [if_true] at hy
    split at hy
    · cases hy; rfl
    · cases hy)
  have h3 := flat_set Sl.cells 3 Sl.len (l.set k ⟨x.gen, x.used, (l[k]?.getD default).at_⟩) k 2 (by omega) x (.int .i64 x.at_) (fun y hy => by
    rw [List.getElem?_set] at hy
    simp only [if_true] at hy
    split at hy
    · cases hy; rfl
    · cases hy)
  rw [List.set_set] at h2 h3
  rw [h3, h2, h1]; rfl
theorem slArr_set (l : List Sl) (k : Nat) (x : Sl) : (((slArr l).setIfInBounds (k * 3) (.int .i64 x.gen)).setIfInBounds (k * 3 + 1) (.bool x.used)).setIfInBounds (k * 3 + 2) (.int .i64 x.at_) = slArr (l.set k x) := by
  unfold slArr
  rw [sl_set]
  simp
theorem slArr_size (l : List Sl) : (slArr l).size = l.length * 3 := by
  unfold slArr
  rw [List.size_toArray, flat_len Sl.cells 3 Sl.len]
theorem Sl.one (x : Sl) : ∀ u ∈ x.cells, u.oneCell' = true := by intro u hu; simp only [Sl.cells, List.mem_cons, List.not_mem_nil, or_false] at hu; rcases hu with rfl | rfl | rfl <;> rfl
theorem slArr_one (l : List Sl) : (slArr l).all (·.oneCell') = true := by
  unfold slArr
  rw [List.all_toArray, List.all_eq_true]
  exact cells_one Sl.one l
def zero48 : Array Value := slArr (List.replicate 16 noSl)
theorem zero48_size : zero48.size = 48 := by unfold zero48; rw [slArr_size, List.length_replicate]
theorem zero48_one : zero48.all (·.oneCell') = true := slArr_one _
theorem zero48v (w : World) : (zeroValue 128).run Tryz.prog w = .ok (.agg zero48) w := by kernel_rfl
theorem build48 (w : World) : (Instr.build 128 #[]).run Tryz.prog w = .ok (.agg zero48) w := by kernel_rfl
theorem infoTab : (Tryz.prog.info? 128).map (·.size) = some 48 := by kernel_rfl
end Go.Proofs.YtoaepffpjoibaaaGreat

namespace Go.Proofs.YtoaepffpjoibaaaGreat
open Go.RowKit

theorem slArr_cell (l : List Sl) {j : Nat} (h : j < l.length * 3) : ∃ u, (slArr l)[j]? = some u := by
  have := slArr_size l
  exact ⟨_, Array.getElem?_eq_getElem (by omega)⟩
theorem results_tab {fn : Func} {p q : Tmp} (h : fn.results = #[.cell p 128, .tmp q]) (tmps : Array Value) {W : World} {g : Nat} {t : TypeId} {cs : Array Value} {u : Value} (hb : Bx W g t cs) (hs : cs.size = 48) (hp : tmps.getD p undef = .pointer (some ⟨g, 0, none⟩)) (hq : tmps.getD q undef = u) :
    (results fn tmps).run Tryz.prog W = .ok (.tuple #[.agg cs, u]) W := by
  have hp' : tmps[p]?.getD undef = .pointer (some ⟨g, 0, none⟩) := by simpa using hp
  have hq' : tmps[q]?.getD undef = u := by simpa using hq
  have hi : (Tryz.prog.info? 128).map (·.size) = some cs.size := by rw [hs]; exact infoTab
  have hl := run_loadVar_row W g t 128 cs (0, 0) _ hb Tryz.underlying128 rfl hi
  simp [results, h, hp', hq', asAddr, hl]
/-- The table, as it is returned. -/
def opV (ws : List Nat) : Value := .agg (if hdlErr ws = 0 then slArr (slL ws) else zero48)
theorem op_ok {ws : List Nat} (h : hdlErr ws = 0) : opV ws = .agg (slArr (slL ws)) := by simp [opV, h]
theorem op_no {ws : List Nat} (h : hdlErr ws ≠ 0) : opV ws = .agg zero48 := by simp [opV, h]

set_option maxRecDepth 100000 in
set_option maxHeartbeats 4000000 in
theorem hOpen_c (A : Option Addr) (ws : List Nat) (c n : Nat) (w : World) (hn : ws.length = n) (hm : n ≤ 9223372036854775807) (hr : RdW w w.heap.size A ws) (ho : ∀ x ∈ ws, x < 18446744073709551616) :
    Calls Tryz.prog 70 #[.slice A n c] w fun e w' => e = .returned (.tuple #[opV ws, .int .i64 (hdlErr ws)]) ∧ Below w.heap.size w w' := by
  subst hn
  have HR := Lib.hid hr
  have HLT : Hid (∀ k, wd ws k < 18446744073709551616) := Lib.hid (wd_lt ho)
  have hzv := zero48v
  have hbv := build48
  have hz8 := zero48_size
  have hz1 := Lib.hid zero48_one
  have hit := infoTab
  have b0 := Bx.new w 128 zero48
  have hb0 := (Below.refl w.heap.size w).alloc (Nat.le_refl _) (.cells zero48 128)
  clear hr ho
  cases hs : sizeOk (ws.length : Int)
  · have HI := Lib.hid (imgErr_no hs)
    have he := hdlErr_img hs
    have HV := Lib.hid (And.intro he (op_no (by rw [he]; omega)))
    have HB0 := Lib.hid b0
    have HBB := Lib.hid hb0
    rw [← hz8] at hit
    have hi48 := hit
    clear hs he b0 hb0 hit
    go_enter Tryz.func70, Tryz.ntmps70
    go_wp2_with fail
    refine (imCheck_c A ws.length c _ hm).mono ?_
    rintro e w1 ⟨rfl, rfl⟩
    rw [HI.out]
    go_wp2_with (first
      | ((with_reducible refine at_store 128 (.tmp 2) _ ?_); refine wpList_store_agg rfl _ _ _ rfl w.heap.size 128 zero48 zero48 (by rfl) (by rfl) HB0.out rfl hi48 hz1.out ?_; intro w3 hb3 ha3; have HB3 := Lib.hid hb3; have HA3 := Lib.hid ha3; clear hb3 ha3))
    exact bodyPost_ret (v := .tuple #[.agg zero48, .int .i64 8]) (results_tab Tryz.results70 _ HB3.out hz8 rfl rfl) rfl ⟨by rw [HV.out.1, HV.out.2], HA3.out.below HBB.out (Nat.le_refl _)⟩
  · have HI := Lib.hid (imgErr_ok hs)
    obtain ⟨hb1, hb2, -⟩ := fr_bd ws hs
    have HS := Lib.hid hs
    obtain ⟨b, off, rfl, hb, -⟩ := RdW.at_ HR.out (show 0 < ws.length by omega)
    have HCL : Hid (∀ k (h : k < ws.length) (W : World), Below w.heap.size w W → W.cell? ⟨b, off + k, none⟩ = some (.int .u64 (wd ws k : Int))) := Lib.hid fun k h W hB => by
      obtain ⟨b', off', e', -, h0⟩ := RdW.at_ (Rd.below HR.out hB) h
      cases e'
      rw [← wd_get] at h0
      exact h0
    have HB0 := Lib.hid b0
    have HBB := Lib.hid hb0
    rw [← hz8] at hit
    have hi48 := hit
    clear hs b0 hb0 hit
    go_enter Tryz.func70, Tryz.ntmps70
    go_wp2_with fail
    refine (imCheck_c _ ws.length c _ hm).mono ?_
    rintro e w1 ⟨rfl, rfl⟩
    rw [HI.out]
    go_wp2_with fail
    go_loopw [15] (fun i wr => ∃ k : Nat, k ≤ 16 ∧ i = .int .i64 k ∧ Hid (slsTo ws k) ∧ Bx wr w.heap.size 128 zero48 ∧ Bx wr (w.heap.size + 1) 128 (slArr (slPre ws k)) ∧ Below w.heap.size w wr) (fun i _ => 16 - (intOf i).toNat)
    case atStart =>
      have x1 := Bx.new (w.alloc (.cells zero48 128)) 128 zero48
      rw [World.size_alloc] at x1
      exact ⟨0, Nat.zero_le _, rfl, slsTo_zero ws, HB0.out.alloc _, by rw [slPre_zero]; exact x1, HBB.out.alloc (by simp) _⟩
    case round =>
      obtain ⟨k, hk, rfl, HOK, q0, q1, hB⟩ := hrel
      have hz := hB.size
      have Q0 := Lib.hid q0
      have Q1 := Lib.hid q1
      by_cases hlt : k < 16
      · have h0 := HCL.out (112 + k) (by omega) _ hB
        have HSP := Lib.hid (fun W => hSplit_c (wd ws (112 + k)) W (HLT.out _))
        have HSU := Lib.hid (fun h => slsTo_succ HOK.out h)
        have HBD := Lib.hid (fun h => hdlErr_bad HS.out (slsOk_bad hlt h))
        have hsa : slRaw (wd ws (112 + k)) = slAt ws k := rfl
        have HPS := Lib.hid (slPre_step ws k hlt)
        have hsz := slPre_len ws k
        obtain ⟨u0, hu0⟩ := slArr_cell (slPre ws k) (j := k * 3) (by omega)
        obtain ⟨u1, hu1⟩ := slArr_cell (slPre ws k) (j := k * 3 + 1) (by omega)
        obtain ⟨u2, hu2⟩ := slArr_cell (slPre ws k) (j := k * 3 + 2) (by omega)
        have i1 : (0 : Int) ≤ 112 + (k : Int) := by omega
        have i2 : (112 : Int) + (k : Int) < (ws.length : Int) := by omega
        have n1 : ((112 : Int) + (k : Int)).toNat = 112 + k := by omega
        have hk1 : (k : Int) < 16 := by omega
        have hk0 : (0 : Int) ≤ (k : Int) := by omega
        obtain ⟨x, hx⟩ : ∃ x, wd ws (112 + k) = x := ⟨_, rfl⟩
        rw [hx] at h0 HSP hsa
        cases hso : slOk (slAt ws k)
        · have he := HBD.out hso
          have HV := Lib.hid (And.intro he (op_no (by rw [he]; omega)))
          rw [← hsa] at hso
          rw [(sl_no hso).1, (sl_no hso).2] at HSP
          unfold Sl.val at HSP
          dsimp only at HSP
          clear hx hso he hsa HBD HSU q0 q1 hu0 hu1 hu2
          go_wp2_with fail
          refine (HSP.out _).mono ?_
          rintro e w3 ⟨rfl, hB3⟩
          have q3 := Lib.hid (Q0.out.up hB3 Q0.out.lt)
          have HB3 := Lib.hid (hB.trans (hB3.mono hz))
          clear hB3
          go_wp2_with (first
            | ((with_reducible refine at_store 128 (.tmp 2) _ ?_); refine wpList_store_agg rfl _ _ _ rfl w.heap.size 128 zero48 zero48 (by rfl) (by rfl) (q3.out.alloc _) rfl hi48 hz1.out ?_; intro w4 hb4 ha4; have HB4 := Lib.hid hb4; have HA4 := Lib.hid ha4; clear hb4 ha4))
          exact bodyPost_ret (v := .tuple #[.agg zero48, .int .i64 50]) (results_tab Tryz.results70 _ HB4.out hz8 rfl rfl) rfl ⟨by rw [HV.out.1, HV.out.2], HA4.out.below (HB3.out.alloc HB3.out.size _) (Nat.le_refl _)⟩
        · have HSU2 := Lib.hid (HSU.out hso)
          rw [← hsa] at hso
          rw [(sl_ok hso).1, (sl_ok hso).2, hsa] at HSP
          have hset := slArr_set (slPre ws k) k (slAt ws k)
          rw [← HPS.out] at hset
          have HSET := Lib.hid hset
          obtain ⟨s, hs2⟩ : ∃ s, slAt ws k = s := ⟨_, rfl⟩
          rw [hs2] at HSP HSET
          obtain ⟨sg, su, sa⟩ := s
          unfold Sl.val at HSP
          dsimp only at HSP HSET
          clear hx hso hsa hs2 hset HBD HSU q0 q1
          go_wp2_with fail
          refine (HSP.out _).mono ?_
          rintro e w3 ⟨rfl, hB3⟩
          have q3 := Q1.out.up hB3 Q1.out.lt
          have Q3 := Lib.hid q3
          have Q4 := Lib.hid (Q0.out.up hB3 Q0.out.lt)
          have hg3 := q3.lt
          have d0 := (q3.cell (k * 3)).trans hu0
          have d1 := (q3.cell (k * 3 + 1)).trans hu1
          have d2 := (q3.cell (k * 3 + 2)).trans hu2
          have f0 := q3.frozen (k * 3)
          have f1 := q3.frozen (k * 3 + 1)
          have f2 := q3.frozen (k * 3 + 2)
          have HB3 := Lib.hid (hB.trans (hB3.mono hz))
          clear hB3 q3 hu0 hu1 hu2
          go_wp2_with fail
          go_roundw
          case rel =>
            refine ⟨k + 1, by omega, by go_num, HSU2.out, (((Q4.out.far (by simp) _).far (by simp) _).far (by simp) _).alloc _, ?_, (((HB3.out.setCell (by simp) _).setCell (by simp) _).setCell (by simp) _).alloc (by simpa using HB3.out.size) _⟩
            rw [← HSET.out]
            exact (((Q3.out.set_ (k * 3) _).set_ (k * 3 + 1) _).set_ (k * 3 + 2) _).alloc _
          case measure => simp [intOf]; omega
      · obtain rfl : k = 16 := by omega
        have hok := hdlErr_ok HS.out ((slsOk_iff ws).2 HOK.out)
        have HV := Lib.hid (And.intro hok.1 (op_ok hok.1))
        rw [slPre_all] at q1
        have hs48 : (slArr (slL ws)).size = 48 := by rw [slArr_size, slL_len]
        obtain ⟨cs, hcs⟩ : ∃ cs, slArr (slL ws) = cs := ⟨_, rfl⟩
        have h1 : cs.all (·.oneCell') = true := by rw [← hcs]; exact slArr_one _
        have H1 := Lib.hid h1
        rw [hcs] at q1 HV hs48
        have Q5 := Lib.hid q1
        have hic : (Tryz.prog.info? 128).map (·.size) = some cs.size := by rw [hs48]; exact infoTab
        have hss : cs.size = zero48.size := by rw [hs48, hz8]
        clear q0 q1 hok hcs h1
        go_wp2_with (first
          | ((with_reducible refine at_load 128 (.tmp 5) ?_); refine wpList_load_row rfl _ _ rfl (w.heap.size + 1) (by rfl) 128 cs (0, 0) _ Q5.out Tryz.underlying128 (by rfl) hic ?_)
          | ((with_reducible refine at_store 128 (.tmp 2) _ ?_); refine wpList_store_agg rfl _ _ _ rfl w.heap.size 128 zero48 cs (by rfl) (by rfl) Q0.out hss hic H1.out ?_; intro w4 hb4 ha4; have HB4 := Lib.hid hb4; have HA4 := Lib.hid ha4; clear hb4 ha4))
        exact bodyPost_ret (v := .tuple #[.agg cs, .int .i64 0]) (results_tab Tryz.results70 _ HB4.out hs48 rfl rfl) rfl ⟨by rw [HV.out.1, HV.out.2], HA4.out.below hB (Nat.le_refl _)⟩

theorem Rd.of_box {w : World} {g B : Nat} {t : TypeId} {cs : Array Value} (h : Bx w g t cs) (hg : g < B) : Rd w B (some ⟨g, 0, none⟩) cs.toList := fun _ =>
  ⟨g, 0, rfl, hg, fun j hj => by
    rw [Nat.zero_add, h.cell j]
    simp⟩
def RdS (w : World) (B : Nat) (A : Option Addr) (l : List Sl) : Prop := Rd w B A (l.flatMap Sl.cells)
theorem RdS.at_ {w : World} {B : Nat} {A : Option Addr} {l : List Sl} (h : RdS w B A l) {k : Nat} (hk : k < l.length) :
    ∃ b off, A = some ⟨b, off, none⟩ ∧ b < B ∧ w.cell? ⟨b, off + k * 3, none⟩ = some (.int .i64 l[k].gen) ∧ w.cell? ⟨b, off + k * 3 + 1, none⟩ = some (.bool l[k].used) ∧ w.cell? ⟨b, off + k * 3 + 2, none⟩ = some (.int .i64 l[k].at_) := by
  obtain ⟨b, off, e, hb, hc⟩ := Rd.at_flat Sl.len h (by omega) hk
  exact ⟨b, off, e, hb, hc 0 (by omega), hc 1 (by omega), hc 2 (by omega)⟩
def HaRes (ws : List Nat) (e : Ending) (w' : World) : Prop := ∃ A c, e = .returned (.tuple #[.slice A (hdlOut ws).length c, .int .i64 (hdlErr ws)]) ∧ RdS w' w'.heap.size A (hdlOut ws) ∧ (hdlOut ws).length ≤ c
set_option maxRecDepth 100000 in
set_option maxHeartbeats 4000000 in
theorem hAll_c (A : Option Addr) (ws : List Nat) (c n : Nat) (w : World) (hn : ws.length = n) (hm : n ≤ 9223372036854775807) (hr : RdW w w.heap.size A ws) (ho : ∀ x ∈ ws, x < 18446744073709551616) :
    Calls Tryz.prog 44 #[.slice A n c] w fun e w' => HaRes ws e w' ∧ Below w.heap.size w w' := by
  have HC := Lib.hid (hOpen_c A ws c n w hn hm hr ho)
  clear hr ho hn hm
  have hz8 := zero48_size
  by_cases h0 : hdlErr ws = 0
  · have hout : hdlOut ws = slL ws := by simp [hdlOut, h0]
    have HO := Lib.hid (And.intro h0 hout)
    have hl := slL_len ws
    rw [h0, op_ok h0] at HC
    have hs48 : (slArr (slL ws)).size = 48 := by rw [slArr_size, slL_len]
    obtain ⟨l, hl2⟩ : ∃ l, slL ws = l := ⟨_, rfl⟩
    rw [hl2] at hs48 HC hl HO
    have HCS : Hid (slArr l = (l.flatMap Sl.cells).toArray) := Lib.hid rfl
    have H1 := Lib.hid (slArr_one l)
    have HL := Lib.hid hl
    obtain ⟨cs, hcs⟩ : ∃ cs, slArr l = cs := ⟨_, rfl⟩
    rw [hcs] at HC hs48 HCS H1
    have hic : (Tryz.prog.info? 128).map (·.size) = some cs.size := by rw [hs48]; exact infoTab
    clear h0 hout hl2 hcs hl hz8
    go_enter Tryz.func44, Tryz.ntmps44
    go_wp2_with fail
    refine HC.out.mono ?_
    rintro e w1 ⟨rfl, hB1⟩
    have hzv := zero48v
    have hss : cs.size = zero48.size := by rw [hs48, zero48_size]
    have bz := Bx.new w1 128 zero48
    have BZ := Lib.hid bz
    have HB1 := Lib.hid (hB1.alloc hB1.size (.cells zero48 128))
    have hz1 := hB1.size
    clear bz hB1
    go_wp2_with (first
      | ((with_reducible refine at_store 128 (.tmp 4) _ ?_); refine wpList_store_agg rfl _ _ _ rfl w1.heap.size 128 zero48 cs (by rfl) (by rfl) BZ.out hss hic H1.out ?_; intro w4 hb4 ha4; have HB4 := Lib.hid hb4; have HA4 := Lib.hid (ha4.below HB1.out hz1); clear hb4 ha4))
    go_ret2
    refine ⟨⟨some ⟨w1.heap.size, 0, none⟩, 16, by rw [HO.out.1, HO.out.2, HL.out]; rfl, ?_, by rw [HO.out.2, HL.out]; omega⟩, HA4.out⟩
    rw [HO.out.2]
    have := HB4.out
    rw [HCS.out] at this
    exact Rd.of_box this this.lt
  · have hout : hdlOut ws = [] := by simp [hdlOut, h0]
    have HO := Lib.hid hout
    rw [op_no h0] at HC
    obtain ⟨r, hr⟩ : ∃ r, hdlErr ws = r := ⟨_, rfl⟩
    have HE := Lib.hid hr
    rw [hr] at HC h0
    have hrn : (r != 0) = true := by rw [bne_iff_ne]; exact h0
    have hz1 := Lib.hid zero48_one
    have hic : (Tryz.prog.info? 128).map (·.size) = some zero48.size := by rw [hz8]; exact infoTab
    clear h0 hout hr hz8
    go_enter Tryz.func44, Tryz.ntmps44
    go_wp2_with fail
    refine HC.out.mono ?_
    rintro e w1 ⟨rfl, hB1⟩
    have hzv := zero48v
    have bz := Bx.new w1 128 zero48
    have BZ := Lib.hid bz
    have HB1 := Lib.hid (hB1.alloc hB1.size (.cells zero48 128))
    have hz1' := hB1.size
    clear bz hB1
    go_wp2_with (first
      | ((with_reducible refine at_store 128 (.tmp 4) _ ?_); refine wpList_store_agg rfl _ _ _ rfl w1.heap.size 128 zero48 zero48 (by rfl) (by rfl) BZ.out rfl hic hz1.out ?_; intro w4 hb4 ha4; have HB4 := Lib.hid hb4; have HA4 := Lib.hid (ha4.below HB1.out hz1'); clear hb4 ha4))
    go_ret2
    exact ⟨⟨none, 0, by rw [HE.out, HO.out]; rfl, by rw [HO.out]; exact Rd.nil_, by rw [HO.out]; exact Nat.le_refl _⟩, HA4.out⟩
end Go.Proofs.YtoaepffpjoibaaaGreat

namespace Go.Proofs.YtoaepffpjoibaaaGreat
open Go.RowKit

def KrResF (H : Nat) (a b : Nat) (e : Ending) (w' : World) : Prop := ∃ A c, e = .returned (.tuple #[.slice A (krOut a b).length c, .int .i64 (krErr a b)]) ∧ w'.ownsRow H 5 1 (.slice A (krOut a b).length c) (krOut a b).length ((krOut a b).flatMap byteCells)
theorem krResF_no {H a b : Nat} {w' : World} (h : typOk a b = false) : KrResF H a b (.returned (.tuple #[.slice none 0 0, .int .i64 50])) w' := by
  have h1 : krOut a b = [] := by simp [krOut, h]
  have h2 : krErr a b = 50 := by simp [krErr, h]
  exact ⟨none, 0, by rw [h1, h2]; rfl, by rw [h1]; exact World.ownsRow_nil _ _ _ _⟩
theorem krResF_own {H : Nat} {a b : Nat} {v : Value} {w' : World} (h0 : typOk a b = true) (h : w'.ownsRow H 5 1 v (fldL a).length ((fldL a).flatMap byteCells)) : KrResF H a b (.returned (.tuple #[v, .int .i64 0])) w' := by
  have h1 : krOut a b = fldL a := by simp [krOut, h0]
  have h2 : krErr a b = 0 := by simp [krErr, h0]
  obtain ⟨A, c, rfl⟩ := own_slice h
  exact ⟨A, c, by rw [h1, h2], by rw [h1]; exact h⟩

set_option maxRecDepth 100000 in
set_option maxHeartbeats 2000000 in
theorem kReadF_c (a b : Nat) (w : World) (ha : a < 18446744073709551616) (hb : b < 18446744073709551616) :
    Calls Tryz.prog 49 #[.int .u64 (a : Int), .int .u64 (b : Int)] w fun e w' => KrResF w.heap.size a b e w' ∧ Below w.heap.size w w' := by
  have HT := Lib.hid (typOk_parts a b)
  have ha0 : (0 : Int) ≤ (a : Int) := by omega
  have e1 := (spl_and a ha).1
  have HFL := Lib.hid (fldL_len a)
  have HFG := Lib.hid (fun k h => fldL_get a k h)
  have HBT := Lib.hid (fun k => fld_bits a k ha)
  have hm : a % 256 < 256 := Nat.mod_lt _ (by omega)
  obtain ⟨m, hmm⟩ : ∃ m, a % 256 = m := ⟨_, rfl⟩
  rw [hmm] at e1 HFL HFG HT hm
  by_cases h8 : 8 < m
  · have HB := Lib.hid (show typOk a b = false by rw [HT.out, show decide (m ≤ 8) = false by rw [decide_eq_false_iff_not]; omega]; rfl)
    clear hmm ha hb
    go_enter Tryz.func49, Tryz.ntmps49
    go_wp2_with fail
    go_ret2
    exact ⟨krResF_no HB.out, Below.refl _ _⟩
  · have h8' : m ≤ 8 := by omega
    rw [show decide (m ≤ 8) = true by rw [decide_eq_true_iff]; exact h8'] at HT
    have hx0 : (0 : Int) ≤ (m : Int) := by omega
    have HA := Lib.hid ha
    have HB := Lib.hid hb
    have d8 : decide ((8 : Int) < (m : Int)) = false := by rw [decide_eq_false_iff_not]; omega
    clear hmm ha hb h8 hm
    obtain ⟨i0, hi, hz0, hz1, hz2⟩ := info_parts infoByte
    have HI := Lib.hid hi
    have HZ0 := Lib.hid hz0
    have HZ1 := Lib.hid hz1
    have HZ2 := Lib.hid hz2
    clear hi hz0 hz1 hz2
    go_enter Tryz.func49, Tryz.ntmps49
    go_wp2_with fail
    go_loopw [7, 16] (fun v i wr => ∃ k : Nat, k ≤ m ∧ i = .int .u64 k ∧ wr.ownsRow w.heap.size 5 1 v k (((fldL a).take k).flatMap byteCells) ∧ Below w.heap.size w wr) (fun _ i _ => m - (intOf i).toNat)
    case atStart => exact ⟨0, Nat.zero_le _, rfl, World.ownsRow_nil _ _ _ _, Below.refl _ _⟩
    case round =>
      obtain ⟨k, hk, rfl, hown, hB⟩ := hrel
      have hz := hB.size
      by_cases hlt : k < m
      · have hbt := HBT.out k
        have hg := HFG.out k hlt
        obtain ⟨x, hx⟩ : ∃ x, a / 4 ^ (k + 4) % 4 = x := ⟨_, rfl⟩
        have hx3 : x < 4 := by rw [← hx]; exact Nat.mod_lt _ (by omega)
        rw [hx] at hbt hg
        have HFL2 := Lib.hid (show ((fldL a).take (k + 1)).flatMap byteCells = ((fldL a).take k).flatMap byteCells ++ [.int .u8 (x : Int)] by
          have hl : k < (fldL a).length := by rw [HFL.out]; exact hlt
          rw [List.take_succ_eq_append_getElem hl, flat_snoc]
          rw [List.getElem?_eq_getElem hl] at hg
          rw [Option.some.inj hg]; rfl)
        have hxi : (x : Int) < 4 := by omega
        have hx00 : (0 : Int) ≤ (x : Int) := by omega
        have hki : (k : Int) < (m : Int) := by omega
        clear hx hg
        go_wp2_with (at_builtin; refine wpList_append_own _ rfl _ _ 82 rfl w.heap.size 5 i0 _ 1 1 Tryz.underlying82 HI.out HZ0.out HZ1.out HZ2.out rfl (by decide) _ _ _ rfl (hown.alloc _) ⟨_, 0, none⟩ 1 1 [.int .u8 (x : Int)] rfl rfl (news_new _ _ _) (by simp [Value.oneCell']) (by unfold maxLen; omega) (by omega) (le_alloc_ hB.size) ?_; intro v1 w1 hown1 hg1 _; have hB1 := below_append hB hB.size hown hg1)
        go_roundw
        case rel => exact ⟨k + 1, by omega, by go_num, by rw [HFL2.out]; exact hown1, hB1⟩
        case measure => simp [intOf]; omega
      · obtain rfl : k = m := by omega
        rw [List.take_of_length_le (by rw [HFL.out]; exact Nat.le_refl _)] at hown
        obtain ⟨A1, c1, rfl⟩ := own_slice hown
        have HC := Lib.hid (kWrite_c A1 (fldL a) c1 k wr HFL.out (by omega) (Rd.of_own hown))
        have hlen8 : (fldL a).length ≤ 8 := by rw [HFL.out]; exact h8'
        cases hkn : kndOk (fldL a)
        · have HKE := Lib.hid (kndErr_bad hlen8 hkn)
          have HN := Lib.hid (show typOk a b = false by rw [HT.out, hkn]; rfl)
          have HV := Lib.hid (show kwV (fldL a) = .agg #[.int .u64 0, .int .u64 0] by simp [kwV, HKE.out, twoV])
          rw [HKE.out, HV.out] at HC
          clear hkn hlen8 hown
          go_wp2_with fail
          refine HC.out.mono ?_
          rintro e w1 ⟨rfl, hB1⟩
          have hb1 := hB.trans (hB1.mono hz)
          go_wp2_with fail
          go_ret2
          exact ⟨krResF_no HN.out, hb1.alloc hb1.size _⟩
        · have HKE := Lib.hid (kndErr_ok hlen8 hkn)
          have HV := Lib.hid (show kwV (fldL a) = .agg #[.int .u64 (typW (fldL a) : Nat), .int .u64 (sum1 (typW (fldL a)) : Nat)] by simp [kwV, HKE.out, twoV])
          have HT2 := Lib.hid (show typOk a b = (typW (fldL a) == a && sum1 (typW (fldL a)) == b) by
            rw [HT.out, hkn]
            by_cases h : typW (fldL a) = a
            · rw [h]; simp
            · rw [show (typW (fldL a) == a) = false by rw [beq_eq_false_iff_ne]; exact h]; simp only [Bool.false_and, Bool.and_false])
          rw [HKE.out, HV.out] at HC
          obtain ⟨p, hp⟩ : ∃ p, typW (fldL a) = p := ⟨_, rfl⟩
          obtain ⟨q, hq⟩ : ∃ q, sum1 p = q := ⟨_, rfl⟩
          rw [hp, hq] at HC HT2
          clear hkn hlen8 hp hq
          by_cases hpa : p = a
          · by_cases hqb : q = b
            · have HY := Lib.hid (show typOk a b = true by rw [HT2.out, hpa, hqb]; simp)
              have hq1 := two_eq p q a b
              rw [show ((p : Int) == (a : Int)) = true by rw [beq_iff_eq]; omega, show ((q : Int) == (b : Int)) = true by rw [beq_iff_eq]; omega, Bool.and_self] at hq1
              clear hpa hqb
              go_wp2_with fail
              refine HC.out.mono ?_
              rintro e w1 ⟨rfl, hB1⟩
              have hb1 := hB.trans (hB1.mono hz)
              have hown1 := own_below hown hB1 (Nat.le_refl _)
              go_wp2_with fail
              go_ret2
              refine ⟨krResF_own HY.out (H := w.heap.size) ?_, hb1.alloc hb1.size _⟩
              rw [HFL.out]; exact hown1.alloc _
            · have HN := Lib.hid (show typOk a b = false by rw [HT2.out, show (q == b) = false by rw [beq_eq_false_iff_ne]; exact hqb, Bool.and_false])
              have hq1 := two_eq p q a b
              rw [show ((q : Int) == (b : Int)) = false by rw [beq_eq_false_iff_ne]; omega, Bool.and_false] at hq1
              clear hpa hqb hown
              go_wp2_with fail
              refine HC.out.mono ?_
              rintro e w1 ⟨rfl, hB1⟩
              have hb1 := hB.trans (hB1.mono hz)
              go_wp2_with fail
              go_ret2
              exact ⟨krResF_no HN.out, hb1.alloc hb1.size _⟩
          · have HN := Lib.hid (show typOk a b = false by rw [HT2.out, show (p == a) = false by rw [beq_eq_false_iff_ne]; exact hpa, Bool.false_and])
            have hq1 := two_eq p q a b
            rw [show ((p : Int) == (a : Int)) = false by rw [beq_eq_false_iff_ne]; omega, Bool.false_and] at hq1
            clear hpa hown
            go_wp2_with fail
            refine HC.out.mono ?_
            rintro e w1 ⟨rfl, hB1⟩
            have hb1 := hB.trans (hB1.mono hz)
            go_wp2_with fail
            go_ret2
            exact ⟨krResF_no HN.out, hb1.alloc hb1.size _⟩

def FlResF (H : Nat) (a b : Nat) (e : Ending) (w' : World) : Prop := ∃ A c, e = .returned (.tuple #[.slice A (krOut a b).length c, .bool (typOk a b)]) ∧ w'.ownsRow H 5 1 (.slice A (krOut a b).length c) (krOut a b).length ((krOut a b).flatMap byteCells)
set_option maxRecDepth 100000 in
set_option maxHeartbeats 2000000 in
theorem mFieldsF_c (A : Option Addr) (ws : List Nat) (c n t : Nat) (w : World) (hn : ws.length = n) (hm : n ≤ 1000000) (h2 : 256 ≤ n) (ht : t < 8) (hr : RdW w w.heap.size A ws) (ho : ∀ x ∈ ws, x < 18446744073709551616) :
    Calls Tryz.prog 43 #[.slice A n c, .int .i64 (t : Int)] w fun e w' => FlResF w.heap.size (wd ws (96 + 2 * t)) (wd ws (96 + 2 * t + 1)) e w' ∧ Below w.heap.size w w' := by
  subst hn
  have hx := wd_lt ho (96 + 2 * t)
  have hy := wd_lt ho (96 + 2 * t + 1)
  have HC := Lib.hid (fun W => kReadF_c (wd ws (96 + 2 * t)) (wd ws (96 + 2 * t + 1)) W hx hy)
  have HK := Lib.hid (krErr_eq (wd ws (96 + 2 * t)) (wd ws (96 + 2 * t + 1)))
  obtain ⟨b, off, rfl, hb, h0⟩ := RdW.at_ hr (show 96 + 2 * t < ws.length by omega)
  obtain ⟨b', off', e', -, h1⟩ := RdW.at_ hr (show 96 + 2 * t + 1 < ws.length by omega)
  cases e'
  rw [← wd_get] at h0 h1
  obtain ⟨x, hx2⟩ : ∃ x, wd ws (96 + 2 * t) = x := ⟨_, rfl⟩
  obtain ⟨y, hy2⟩ : ∃ y, wd ws (96 + 2 * t + 1) = y := ⟨_, rfl⟩
  rw [hx2] at h0 HC HK ⊢
  rw [hy2] at h1 HC HK ⊢
  have t0 : (0 : Int) ≤ (t : Int) := by omega
  have t8 : (t : Int) < 8 := by omega
  have w1 : IntKind.i64.wrap (2 * (t : Int)) = 2 * (t : Int) := IntWalk.i64_in _ (by omega)
  have w2 : IntKind.i64.wrap (96 + 2 * (t : Int)) = 96 + 2 * (t : Int) := IntWalk.i64_in _ (by omega)
  have w3 : IntKind.i64.wrap (96 + 2 * (t : Int) + 1) = 96 + 2 * (t : Int) + 1 := IntWalk.i64_in _ (by omega)
  have i1 : (0 : Int) ≤ 96 + 2 * (t : Int) := by omega
  have i2 : (96 : Int) + 2 * (t : Int) < (ws.length : Int) := by omega
  have i3 : (0 : Int) ≤ 96 + 2 * (t : Int) + 1 := by omega
  have i4 : (96 : Int) + 2 * (t : Int) + 1 < (ws.length : Int) := by omega
  have n1 : ((96 : Int) + 2 * (t : Int)).toNat = 96 + 2 * t := by omega
  have n2 : ((96 : Int) + 2 * (t : Int) + 1).toNat = 96 + 2 * t + 1 := by omega
  clear hr hx hy hx2 hy2 ho ht
  go_enter Tryz.func43, Tryz.ntmps43
  go_wp2_with fail
  go_region_held3 (fun X : World => X.cell? ⟨b, off + (96 + 2 * t), none⟩ = some (.int .u64 (x : Int)) ∧ X.cell? ⟨b, off + (96 + 2 * t + 1), none⟩ = some (.int .u64 (y : Int))) (go_keep)
    (first | (go_at_call 49; refine (HC.out _).mono ?_; rintro e w5 ⟨⟨A1, c1, rfl, hrd⟩, hB5⟩; have m0 := (hB5.cell (p := ⟨b, off + (96 + 2 * t), none⟩) hb).trans h0; have m1 := (hB5.cell (p := ⟨b, off + (96 + 2 * t + 1), none⟩) hb).trans h1; have HRD := Lib.hid hrd; clear hrd))
  go_wp2_with fail
  go_ret2
  exact ⟨⟨A1, c1, by rw [HK.out]; rfl, HRD.out⟩, (Below.refl _ _).drew.trans hB5⟩
end Go.Proofs.YtoaepffpjoibaaaGreat

namespace Go.Proofs.YtoaepffpjoibaaaGreat
open Go.RowKit

def natCells (x : Nat) : List Value := [.int .i64 (x : Int)]
def boolCells (x : Bool) : List Value := [.bool x]
theorem natCells_len (x : Nat) : (natCells x).length = 1 := rfl
theorem boolCells_len (x : Bool) : (boolCells x).length = 1 := rfl
theorem ints_zero (n : Nat) : (List.replicate n (0 : Int)).flatMap intCells = List.replicate n (.int .i64 0) := by
  induction n with
  | zero => rfl
  | succ n ih => rw [List.replicate_succ, List.flatMap_cons, ih, List.replicate_succ]; rfl
theorem bools_zero (n : Nat) : (List.replicate n false).flatMap boolCells = List.replicate n (.bool false) := by
  induction n with
  | zero => rfl
  | succ n ih => rw [List.replicate_succ, List.flatMap_cons, ih, List.replicate_succ]; rfl
theorem ints_set (l : List Int) (k : Nat) (x : Int) : (l.set k x).flatMap intCells = (l.flatMap intCells).set k (.int .i64 x) := by
  have := flat_set intCells 1 intCells_len l k 0 (by omega) x (.int .i64 x) (fun y _ => rfl)
  simpa using this
theorem bools_set (l : List Bool) (k : Nat) (x : Bool) : (l.set k x).flatMap boolCells = (l.flatMap boolCells).set k (.bool x) := by
  have := flat_set boolCells 1 boolCells_len l k 0 (by omega) x (.bool x) (fun y _ => rfl)
  simpa using this
theorem ints_get (l : List Int) (k : Nat) (h : k < l.length) : (l.flatMap intCells)[k]? = some (.int .i64 (l[k]?.getD 0)) := by
  have := flat_get intCells 1 intCells_len l k 0 h (by omega)
  simpa [intCells, h] using this
theorem bools_get (l : List Bool) (k : Nat) (h : k < l.length) : (l.flatMap boolCells)[k]? = some (.bool (l[k]?.getD false)) := by
  have := flat_get boolCells 1 boolCells_len l k 0 h (by omega)
  simpa [boolCells, h] using this
theorem infoInt' : (Tryz.prog.info? 3).map (fun i => (i.zero, i.size, i.bytes)) = some (some (.int .i64 0), 1, 8) := by kernel_rfl
theorem infoBool' : (Tryz.prog.info? 4).map (fun i => (i.zero, i.size, i.bytes)) = some (some (.bool false), 1, 1) := by kernel_rfl
open Classical in
theorem rc_ok {ws : List Nat} (h : hpErr ws = 0) (h1 : slsOk ws = true) (h2 : Good ws) : rcErr ws = 0 := by simp [rcErr, h, h1, h2]
open Classical in
theorem rc_sl {ws : List Nat} (h : hpErr ws = 0) (h1 : slsOk ws = false) : rcErr ws = 50 := by simp [rcErr, h, h1]
open Classical in
theorem rc_bad {ws : List Nat} (h : hpErr ws = 0) (h2 : ¬ Good ws) : rcErr ws = 50 := by
  simp [rcErr, h, h2]
theorem ints_snoc (l : List Nat) (x : Nat) : (l ++ [x]).flatMap natCells = l.flatMap natCells ++ [.int .i64 (x : Int)] := by simp [natCells]
theorem nat_get (l : List Nat) (a : Nat) : ((l ++ [a]).flatMap natCells)[l.length]? = some (.int .i64 (a : Int)) := by
  have := flat_get natCells 1 natCells_len (l ++ [a]) l.length 0 (by simp) (by omega)
  simpa [natCells] using this
/-- A row of the call's own, but for its last element. -/
theorem own_pop {w : World} {H n c g : Nat} {e : TypeId} {xs ys : List Value} (h : w.ownsRow H e 1 (.slice (some ⟨g, 0, none⟩) (n + 1) c) (n + 1) (xs ++ ys)) (hx : xs.length = n) : w.ownsRow H e 1 (.slice (some ⟨g, 0, none⟩) n c) n xs := by
  refine ⟨by rw [hx, Nat.mul_one], .inr ?_⟩
  rcases h.2 with ⟨h1, _⟩ | ⟨g', cap, cur, h1, h2, h3, h4, h5, h6, h7⟩
  · cases h1
  · simp only [Value.slice.injEq, Option.some.injEq, Addr.mk.injEq, and_true, true_and] at h1
    obtain ⟨rfl, rfl⟩ := h1
    refine ⟨g, c, cur, rfl, h2, h3, by omega, h5, h6, ?_⟩
    have h8 := congrArg (List.take n) h7
    rw [List.take_take, Nat.mul_one, Nat.min_eq_left (by omega), List.take_left' hx] at h8
    rw [Nat.mul_one]; exact h8
theorem own_capR {w : World} {H n c : Nat} {e : TypeId} {sz : Nat} {A : Option Addr} {xs : List Value} (h : w.ownsRow H e sz (.slice A n c) n xs) : n ≤ c := by
  obtain ⟨A', c', hv, hle, -⟩ := slice_of h
  cases hv; exact hle
/-- A row of the call's own behind a store into another block. -/
theorem own_far {w : World} {H n c g : Nat} {e : TypeId} {sz : Nat} {xs : List Value} (h : w.ownsRow H e sz (.slice (some ⟨g, 0, none⟩) n c) n xs) {p : Addr} (hp : g ≠ p.block) (u : Value) : (w.setCell p u).ownsRow H e sz (.slice (some ⟨g, 0, none⟩) n c) n xs := by
  refine ⟨h.1, ?_⟩
  rcases h.2 with ⟨h1, _⟩ | ⟨g', cap, cur, h1, h2, h3, h4⟩
  · cases h1
  · refine .inr ⟨g', cap, cur, h1, h2, ?_, h4⟩
    simp only [Value.slice.injEq, Option.some.injEq, Addr.mk.injEq, and_true, true_and] at h1
    obtain ⟨rfl, rfl⟩ := h1
    exact (Below.heap_setCell w p u g hp).trans h3
def RcRes (ws : List Nat) (B : Nat) (e : Ending) (w' : World) : Prop :=
  (rcErr ws = 0 ∧ ∃ g c, e = .returned (.tuple #[.slice (some ⟨g, 0, none⟩) ws.length c, .int .i64 0]) ∧ w'.ownsRow B 4 1 (.slice (some ⟨g, 0, none⟩) ws.length c) ws.length ((seenL ws).flatMap boolCells)) ∨
  (rcErr ws = 50 ∧ e = .returned (.tuple #[.slice none 0 0, .int .i64 50]))

set_option maxRecDepth 100000 in
set_option maxHeartbeats 16000000 in
theorem mReach_c (A L : Option Addr) (ws : List Nat) (c cl n : Nat) (l : List Bk) (w : World) (hn : ws.length = n) (hm : n ≤ 9223372036854775807) (h0 : hpErr ws = 0) (hl : hpOut ws = l) (hr : RdW w w.heap.size A ws) (hrl : RdB w w.heap.size L l) (ho : ∀ x ∈ ws, x < 18446744073709551616) :
    Calls Tryz.prog 23 #[.slice A n c, .slice L l.length cl] w fun e w' => RcRes ws w.heap.size e w' ∧ Below w.heap.size w w' := by
  subst hn
  have HR := Lib.hid hr
  have HL := Lib.hid hrl
  have HO := Lib.hid ho
  obtain ⟨hs, -⟩ := hpErr_zero h0
  have hbd := fr_bd ws hs
  obtain ⟨hb1, hb2, -⟩ := hbd
  have HLT : Hid (∀ k, wd ws k < 18446744073709551616) := Lib.hid (wd_lt ho)
  have HHA := Lib.hid (hAll_c A ws c ws.length w rfl hm hr ho)
  unfold HaRes at HHA
  have HH0 := Lib.hid h0
  clear hr hrl ho
  cases hso : slsOk ws
  · have he := hdlErr_bad hs hso
    have hq : hdlOut ws = [] := by simp [hdlOut, he]
    rw [he, hq] at HHA
    have HV := Lib.hid (rc_sl h0 hso)
    clear hs hso he hq h0
    go_enter Tryz.func23, Tryz.ntmps23
    go_wp2_with fail
    refine HHA.out.mono ?_
    rintro e w1 ⟨⟨A1, c1, rfl, -, -⟩, hB1⟩
    go_wp2_with fail
    go_ret2
    exact ⟨.inr ⟨HV.out, rfl⟩, hB1⟩
  · obtain ⟨g1, g2⟩ := hdlErr_ok hs hso
    rw [g1, g2, slL_len] at HHA
    have HSO := Lib.hid hso
    obtain ⟨i0, hi, hz0, hz1, hz2⟩ := info_parts infoInt'
    obtain ⟨i1, hj, hy0, hy1, hy2⟩ := info_parts infoBool'
    have HII := Lib.hid (And.intro hi (And.intro hz0 (And.intro hz1 hz2)))
    have HIB := Lib.hid (And.intro hj (And.intro hy0 (And.intro hy1 hy2)))
    have hll := hpOut_len ws
    rw [hl] at hll
    have HHL := Lib.hid hl
    have HOBJ : Hid (∀ k (h : k < l.length), l[k].kind = 1 → ∃ a t : Nat, l[k].at_ = (a : Int) ∧ l[k].typ = (t : Int) ∧ a < ws.length ∧ t < 128) := Lib.hid (by
      subst hl
      intro k h h1
      obtain ⟨a, e1, e2⟩ := obj_of h0 h h1
      refine ⟨a, wd ws a / 512 % 128, by rw [e1]; rfl, by rw [e1]; rfl, e2.2.2.1, Nat.mod_lt _ (by omega)⟩)
    clear hl
    clear hs hso g1 g2 hi hz0 hz1 hz2 hj hy0 hy1 hy2 h0
    go_enter Tryz.func23, Tryz.ntmps23
    go_wp2_with fail
    refine HHA.out.mono ?_
    rintro e w1 ⟨⟨A1, c1, rfl, hrs, -⟩, hB1⟩
    have HS1 := Lib.hid hrs
    obtain ⟨W2, hmk, hown0, hg0⟩ := run_make_full (P := Tryz.prog) w1 w1.heap.size 26 3 i0 (.int .i64 0) 1 Tryz.underlying26 HII.out.1 HII.out.2.1 HII.out.2.2.1 .i64 .i64 ws.length (by rw [HII.out.2.2.2]; omega) (by unfold maxLen; omega) (Nat.le_refl _)
    have hTY : W2.ownsRow w1.heap.size 3 1 (.slice (some ⟨w1.heap.size, 0, none⟩) ws.length ws.length) ws.length ((tabL ws.length (l.take 0)).flatMap intCells) := by
      show W2.ownsRow _ _ _ _ _ ((List.replicate ws.length (0 : Int)).flatMap intCells)
      rw [ints_zero, ← toList_madeCells_one]; have := hown0; rw [Nat.mul_one] at this; exact this
    have hb2' := (Below.refl w1.heap.size w1).grown hg0 (Nat.le_refl _) (fun k hk => by cases hk)
    have HTY := Lib.hid hTY
    have HB1 := Lib.hid hB1
    have HB2 := Lib.hid (hB1.trans (hb2'.mono hB1.size))
    have HB12 := Lib.hid hb2'
    have HS2X := Lib.hid HS1.out
    have hz1w := hB1.size
    have hz2w := hb2'.size
    clear hrs hown0 hg0 hTY hb2' hB1
    go_wp2_with fail
    clear hmk
    go_loopw [34] (fun i wr => ∃ k : Nat, k ≤ l.length ∧ i = .int .i64 k ∧ wr.ownsRow w1.heap.size 3 1 (.slice (some ⟨w1.heap.size, 0, none⟩) ws.length ws.length) ws.length ((tabL ws.length (l.take k)).flatMap intCells) ∧ Below w1.heap.size w1 wr) (fun i _ => l.length - (intOf i).toNat)
    case atStart => exact ⟨0, Nat.zero_le _, rfl, HTY.out, HB12.out⟩
    case round =>
      obtain ⟨k, hk, rfl, hown, hB⟩ := hrel
      have hz := hB.size
      by_cases hlt : k < l.length
      · have hBw := HB1.out.trans (hB.mono hz1w)
        obtain ⟨b, off, rfl, hbw, q0, q1, q2, q3, q4, q5⟩ := RdB.at_ (Rd.below HL.out hBw) hlt
        have HTK := Lib.hid (tabL_take (n := ws.length) hlt)
        have HOB := Lib.hid (HOBJ.out k hlt)
        have htl := tabL_len ws.length (l.take k)
        obtain ⟨x, hx⟩ : ∃ x, l[k] = x := ⟨_, rfl⟩
        obtain ⟨tl, htl2⟩ : ∃ tl, tabL ws.length (l.take k) = tl := ⟨_, rfl⟩
        rw [hx] at q0 q1 q2 q3 q4 q5 HTK HOB
        rw [htl2] at HTK hown htl
        obtain ⟨xa, xs, xk, xt, xm, xn⟩ := x
        dsimp only at q0 q1 q2 q3 q4 q5 HTK HOB
        have hlm : (k : Int) < (l.length : Int) := by omega
        clear hx htl2
        by_cases hk1 : xk = 1
        · obtain ⟨a, t, ha, ht, han, ht8⟩ := HOB.out hk1
          subst ha ht
          have hke : (xk == 1) = true := by rw [beq_iff_eq]; exact hk1
          have HT2 := Lib.hid (HTK.out.trans (if_pos hk1))
          simp only [Int.toNat_natCast] at HT2
          have hw1 : IntKind.i64.wrap ((t : Int) + 1) = (t : Int) + 1 := IntWalk.i64_in _ (by omega)
          have ha1 : (a : Int) < (ws.length : Int) := by omega
          have ha0 : (0 : Int) ≤ (a : Int) := by omega
          have hown' := hown.alloc (.cells #[.int .i64 (a : Int), .int .i64 xs, .int .i64 xk, .int .i64 (t : Int), .bool xm, .int .u64 (xn : Int)] 48)
          have c0 := (hown.cellAt a (by omega)).trans (ints_get tl a (by omega))
          have f0 := hown.frozenAt a
          have c0' := (hown'.cellAt a (by omega)).trans (ints_get tl a (by omega))
          have f0' := hown'.frozenAt a
          obtain ⟨u, hu⟩ : ∃ u, tl[a]?.getD 0 = u := ⟨_, rfl⟩
          rw [hu] at c0 c0'
          have hgw := (hown.lt _ rfl).2
          have HOW := Lib.hid hown
          clear hown'
          clear hk1 hu HTK hown
          go_wp2_with fail
          go_roundw
          case rel =>
            refine ⟨k + 1, by omega, by go_num, ?_, (hB.setCell (p := ⟨w1.heap.size, a, none⟩) (Nat.le_refl _) _).alloc (by rw [World.size_setCell]; exact hz) _⟩
            rw [HT2.out, ints_set]
            exact (HOW.out.stored a _).1.alloc _
          case measure => simp [intOf]; omega
        · have hke : (xk == 1) = false := by rw [beq_eq_false_iff_ne]; exact hk1
          have HT2 := Lib.hid (HTK.out.trans (if_neg hk1))
          have HOW := Lib.hid hown
          clear hk1 HTK hown
          go_wp2_with fail
          go_roundw
          case rel => exact ⟨k + 1, by omega, by go_num, by rw [HT2.out]; exact HOW.out.alloc _, hB.alloc hz _⟩
          case measure => simp [intOf]; omega
      · rename World => wA
        rw [List.take_of_length_le (by omega)] at hown
        obtain ⟨tl, htl2⟩ : ∃ tl, tabL ws.length l = tl := ⟨_, rfl⟩
        have htl := tabL_len ws.length l
        rw [htl2] at hown htl
        have HTB : Hid (∀ a, tb ws a = tl[a]?.getD 0) := Lib.hid fun a => by unfold tb; rw [HHL.out, htl2]
        have HTY2 := Lib.hid hown
        have hBw := HB1.out.trans (hB.mono hz1w)
        have HBW := Lib.hid hBw
        have hzw := hBw.size
        have HS3 := Lib.hid (Rd.below HS2X.out hB)
        clear htl2 hown hBw
        obtain ⟨W3, hmk, hown0, hg0⟩ := run_make_full (P := Tryz.prog) wA wA.heap.size 57 4 i1 (.bool false) 1 Tryz.underlying57 HIB.out.1 HIB.out.2.1 HIB.out.2.2.1 .i64 .i64 ws.length (by rw [HIB.out.2.2.2]; omega) (by unfold maxLen; omega) (Nat.le_refl _)
        have hSE : W3.ownsRow wA.heap.size 4 1 (.slice (some ⟨wA.heap.size, 0, none⟩) ws.length ws.length) ws.length ((List.replicate ws.length false).flatMap boolCells) := by
          rw [bools_zero, ← toList_madeCells_one]; have := hown0; rw [Nat.mul_one] at this; exact this
        have HSE := Lib.hid hSE
        have HB3 := Lib.hid ((Below.refl wA.heap.size wA).grown hg0 (Nat.le_refl _) (fun k hk => by cases hk))
        have hgs : wA.heap.size < W3.heap.size := by have := hSE.lt wA.heap.size rfl; exact this.2
        clear hown0 hg0 hSE
        go_wp2_with fail
        clear hmk
        go_loopw [12, 54] (fun v i w4 => ∃ k : Nat, k ≤ 16 ∧ i = .int .i64 k ∧ w4.ownsRow W3.heap.size 3 1 v (slTo ws k).length ((slTo ws k).flatMap natCells) ∧ Below W3.heap.size W3 w4) (fun _ i _ => 16 - (intOf i).toNat)
        case atStart => exact ⟨0, Nat.zero_le _, rfl, World.ownsRow_nil _ _ _ _, Below.refl _ _⟩
        case round =>
          obtain ⟨k2, hk2, rfl, hown, hB4⟩ := hrel
          have hz4 := hB4.size
          have hB34 := HB3.out.trans (hB4.mono (Nat.le_of_lt hgs))
          by_cases hlt2 : k2 < 16
          · obtain ⟨b, off, rfl, hbw, q0, q1, q2⟩ := RdS.at_ (Rd.below HS3.out (hB34.mono hz)) (show k2 < (slL ws).length by rw [slL_len]; exact hlt2)
            rw [slL_get] at q0 q1 q2
            have HSS := Lib.hid (slTo_succ ws k2)
            have hsl := slTo_len ws k2
            obtain ⟨-, -, hat0, hat1⟩ := slRaw_bd (wd ws (112 + k2))
            have hsa : slAt ws k2 = slRaw (wd ws (112 + k2)) := rfl
            rw [← hsa] at hat0 hat1
            obtain ⟨s, hs2⟩ : ∃ s, slAt ws k2 = s := ⟨_, rfl⟩
            rw [hs2] at q0 q1 q2 HSS hat0 hat1
            obtain ⟨m, hm2⟩ : ∃ m, slTo ws k2 = m := ⟨_, rfl⟩
            rw [hm2] at hown HSS hsl
            obtain ⟨sg, su, sa⟩ := s
            dsimp only at q0 q1 q2 HSS hat0 hat1
            obtain ⟨u, rfl⟩ := Int.eq_ofNat_of_zero_le hat0
            rw [Int.toNat_natCast] at HSS
            have hk16 : (k2 : Int) < 16 := by omega
            have hk00 : (0 : Int) ≤ (k2 : Int) := by omega
            clear hsa hs2 hm2 hB34 hat0
            cases su
            · have HS2 := Lib.hid (HSS.out.trans (by simp : m ++ (if false = true then [u] else []) = m))
              clear HSS
              go_wp2_with fail
              go_roundw
              case rel => exact ⟨k2 + 1, by omega, by go_num, by rw [HS2.out]; exact hown.alloc _, hB4.alloc hz4 _⟩
              case measure => simp [intOf]; omega
            · have HS2 := Lib.hid (show slTo ws (k2 + 1) = m ++ [u] from HSS.out)
              clear HSS
              go_wp2_with (at_builtin; refine wpList_append_own _ rfl _ _ 26 rfl W3.heap.size 3 i0 _ 1 8 Tryz.underlying26 HII.out.1 HII.out.2.1 HII.out.2.2.1 HII.out.2.2.2 rfl (by decide) _ _ _ rfl ((hown.alloc _).alloc _) ⟨_, 0, none⟩ 1 1 [.int .i64 (u : Int)] rfl rfl (news_at _ _ _ (World.size_alloc _ _)) (by simp [Value.oneCell']) (by unfold maxLen; omega) (by omega) (by simp; omega) ?_; intro v1 w2 hown1 hg1 _; have hB5 := below_append (hB4.alloc hz4 (.cells #[.int .i64 sg, .bool true, .int .i64 (u : Int)] 90)) (by simp; omega) (hown.alloc _) hg1)
              go_roundw
              case rel => exact ⟨k2 + 1, by omega, by go_num, by rw [HS2.out, List.length_append, ints_snoc]; exact hown1, hB5⟩
              case measure => simp [intOf]; omega
          · obtain rfl : k2 = 16 := by omega
            have hst := Wk.start ws
            have hsl := slTo_len ws 16
            obtain ⟨td0, htd0⟩ : ∃ t, slTo ws 16 = t := ⟨_, rfl⟩
            rw [htd0] at hst hown hsl
            have HST := Lib.hid hst
            have HOWN := Lib.hid hown
            have HSE4 := Lib.hid (own_below HSE.out hB4 (Nat.le_refl _))
            have hfl : falses (List.replicate ws.length false) = ws.length := by simp [falses]
            have HFL := Lib.hid hfl
            have HB4 := Lib.hid hB34
            clear htd0 hst hown hfl hB34
            go_wp2_with fail
            go_loopg [12] 30000 (fun g v w5 => ∃ (seen : List Bool) (todo : List Nat), g ≤ 30000 ∧ Hid (Wk ws seen todo) ∧ Hid (falses seen * 9 + todo.length ≤ g) ∧ w5.ownsRow wA.heap.size 4 1 (.slice (some ⟨wA.heap.size, 0, none⟩) ws.length ws.length) ws.length (seen.flatMap boolCells) ∧ w5.ownsRow W3.heap.size 3 1 v todo.length (todo.flatMap natCells) ∧ W3.heap.size ≤ w5.heap.size ∧ Below wA.heap.size wA w5)
            case atStart => exact ⟨List.replicate ws.length false, td0, Nat.le_refl _, HST.out, by show _ ≤ _; rw [HFL.out]; omega, HSE4.out, HOWN.out, hz4, HB4.out⟩
            case round =>
              obtain ⟨seen, todo, hg30, HWK, HME, hse, hto, hz35, hB5⟩ := hrel
              have hz5 := hB5.size
              rcases List.eq_nil_or_concat todo with rfl | ⟨td, a, rfl⟩
              · have hend := HWK.out.end_
                have HV := Lib.hid (rc_ok HH0.out HSO.out hend.1)
                have HSL := Lib.hid HWK.out.seenL
                have HSE5 := Lib.hid hse
                rw [List.length_nil] at hto
                obtain ⟨A6, c6, rfl⟩ := own_slice hto
                have HBZ := Lib.hid (HBW.out.trans (hB5.mono hzw))
                clear hend hse hto HME HWK
                go_wp2_with fail
                go_ret2
                exact ⟨.inl ⟨HV.out, wA.heap.size, ws.length, rfl, by rw [← HSL.out]; exact own_mono HSE5.out hzw⟩, HBZ.out⟩
              · simp only [List.concat_eq_append, List.length_append, List.length_singleton] at HWK HME hto
                have hme := HME.out
                rw [ints_snoc] at hto
                obtain ⟨gT, cT, rfl⟩ : ∃ g c, u12 = .slice (some ⟨g, 0, none⟩) (td.length + 1) c := by
                  obtain ⟨g, c, h1, _⟩ := hto.form (by omega)
                  exact ⟨g, c, h1⟩
                have hcT := own_capR hto
                have hfl := flat_len natCells 1 natCells_len td
                rw [Nat.mul_one] at hfl
                have ct := (hto.cellAt td.length (by omega)).trans (by rw [List.getElem?_append_right (by omega), hfl, Nat.sub_self]; rfl : _ = some (.int .i64 (a : Int)))
                have hpop := own_pop hto hfl
                have hgT := hto.lt gT rfl
                have hml : td.length ≤ 30000 := by omega
                have hwl : IntKind.i64.wrap ((td.length : Int) + 1 - 1) = (td.length : Int) := by rw [IntWalk.i64_in _ (by omega)]; omega
                have hd0 : decide ((0 : Int) < (td.length : Int) + 1) = true := by rw [decide_eq_true_iff]; omega
                have t0 : (0 : Int) ≤ (td.length : Int) := by omega
                have t1 : (td.length : Int) < (td.length : Int) + 1 := by omega
                have t2 : (td.length : Int) ≤ (cT : Int) := by omega
                have HBZ := Lib.hid (HBW.out.trans (hB5.mono hzw))
                have HTO := Lib.hid hto
                have HPOP := Lib.hid hpop
                clear hme hfl hpop hto
                by_cases han : a < ws.length
                · have hty := own_below HTY2.out hB5 (Nat.le_refl _)
                  have ca := (hty.cellAt a (by omega)).trans (ints_get tl a (by omega))
                  have htb := HTB.out a
                  rw [← htb] at ca
                  have hge : decide ((ws.length : Int) ≤ (a : Int)) = false := by rw [decide_eq_false_iff_not]; omega
                  have hgen : decide (ws.length ≤ a) = false := by rw [decide_eq_false_iff_not]; omega
                  have ha0 : (0 : Int) ≤ (a : Int) := by omega
                  have ha1 : (a : Int) < (ws.length : Int) := by omega
                  clear hty htb
                  by_cases ht0 : tb ws a = 0
                  · have HV := Lib.hid (rc_bad HH0.out (HWK.out.bad ht0))
                    rw [ht0] at ca
                    clear ht0 hse
                    go_wp2_with fail
                    go_ret2
                    exact ⟨.inr ⟨HV.out, rfl⟩, HBZ.out⟩
                  · obtain ⟨hobj, htv⟩ := tb_obj HH0.out ht0
                    have HOBA := Lib.hid hobj
                    have htn : (tb ws a == 0) = false := by rw [beq_eq_false_iff_ne]; exact ht0
                    have hsl := HWK.out.hlen
                    have cs := (hse.cellAt a (by omega)).trans (bools_get seen a (by omega))
                    have HT0 := Lib.hid ht0
                    obtain ⟨t, ht⟩ : ∃ t : Nat, (rawBk (wd ws a)).typ = (t : Int) := ⟨wd ws a / 512 % 128, rfl⟩
                    have ht8 : t < 8 := by
                      have h7 := (hdOk_iff _).1 (bkAt_hd hobj.2.2.2.1)
                      have h5 := hobj.2.2.2.2.1
                      omega
                    have HFD : Hid (flds ws a = krOut (wd ws (96 + 2 * t)) (wd ws (96 + 2 * t + 1))) := Lib.hid (by unfold flds; rw [ht]; rfl)
                    rw [ht] at htv
                    rw [htv] at ca htn
                    have HTV := Lib.hid htv
                    have hwt : IntKind.i64.wrap ((t : Int) + 1 - 1) = (t : Int) := by rw [IntWalk.i64_in _ (by omega)]; omega
                    clear hobj htv ht0 ht
                    cases hsa : seen[a]?.getD false
                    · rw [hsa] at cs
                      have fs := hse.frozenAt a
                      have hsn : seen[a]? = some false := by
                        rw [List.getElem?_eq_getElem (by omega)] at hsa ⊢
                        rw [Option.getD_some] at hsa; rw [hsa]
                      have HWN := Lib.hid (HWK.out.new_ HT0.out)
                      have HFS := Lib.hid (falses_set hsn)
                      have HSS := Lib.hid (show (wr.setCell ⟨wA.heap.size, a, none⟩ (.bool true)).ownsRow wA.heap.size 4 1 (.slice (some ⟨wA.heap.size, 0, none⟩) ws.length ws.length) ws.length ((seen.set a true).flatMap boolCells) by
                        rw [bools_set]; exact (hse.stored a (.bool true)).1)
                      have hb6 := hB5.setCell (p := ⟨wA.heap.size, a, none⟩) (Nat.le_refl _) (.bool true)
                      have HB6 := Lib.hid hb6
                      have hpop6 : (wr.setCell ⟨wA.heap.size, a, none⟩ (.bool true)).ownsRow W3.heap.size 3 1 (.slice (some ⟨gT, 0, none⟩) td.length cT) td.length (td.flatMap natCells) := own_far HPOP.out (p := ⟨wA.heap.size, a, none⟩) (by show gT ≠ wA.heap.size; omega) (.bool true)
                      have HPO6 := Lib.hid hpop6
                      have c6 := (own_below HTY2.out hb6 (Nat.le_refl _)).cellAt a (by omega) |>.trans (ints_get tl a (by omega))
                      rw [← HTB.out a, HTV.out] at c6
                      have HFLD := Lib.hid (fun W (h : RdW W W.heap.size A ws) => mFieldsF_c A ws c ws.length t W rfl (by omega) hb1 ht8 h HO.out)
                      unfold FlResF at HFLD
                      rw [← HFD.out] at HFLD
                      clear hse HTO
                      have hfl8 := flds_le ws a
                      have HFIN : Hid (∀ j, j < (flds ws a).length → a + 2 + j < ws.length) := Lib.hid fun j hj => flds_in HOBA.out hj
                      have HTG : Hid (∀ j, tgts ws a (j + 1) = tgts ws a j ++ (if (flds ws a)[j]? = some 3 ∧ wd ws (a + 2 + j) ≠ 0 then [min (wd ws (a + 2 + j)) 2048] else [])) := Lib.hid fun j => tgts_succ ws a j
                      have HTL : Hid (∀ j, (tgts ws a j).length ≤ j) := Lib.hid fun j => tgts_len ws a j
                      have HR6 := Lib.hid (HR.out.up (HBW.out.trans (hb6.mono hzw)) (HBW.out.trans (hb6.mono hzw)).size)
                      obtain ⟨F, hF⟩ : ∃ F, flds ws a = F := ⟨_, rfl⟩
                      rw [hF] at HFLD HWN hfl8 HFIN HTG
                      have hw2 : IntKind.i64.wrap ((a : Int) + 2) = (a : Int) + 2 := IntWalk.i64_in _ (by omega)
                      have hme := HME.out
                      clear hF hb6 hpop6 hsa hsn
                      go_wp2_with fail
                      refine (HFLD.out _ HR6.out).mono ?_
                      rintro e w7 ⟨⟨A7, c7, rfl, hrf⟩, hB7⟩
                      have HF7 := Lib.hid hrf
                      have HB7 := Lib.hid (HB6.out.trans (hB7.mono HB6.out.size))
                      have HS7 := Lib.hid (own_below HSS.out hB7 (Nat.le_refl _))
                      have HT7 := Lib.hid (own_below HPO6.out hB7 (Nat.le_refl _))
                      have hz37 : W3.heap.size ≤ w7.heap.size := by have := hB7.size; rw [World.size_setCell] at this; omega
                      clear hB7 hrf cs ca c6 ct fs
                      go_wp2_with fail
                      go_loopw [12, 110] (fun v i w8 => ∃ j : Nat, j ≤ F.length ∧ i = .int .i64 j ∧ w8.ownsRow W3.heap.size 3 1 v (td ++ tgts ws a j).length ((td ++ tgts ws a j).flatMap natCells) ∧ w8.ownsRow wA.heap.size 4 1 (.slice (some ⟨wA.heap.size, 0, none⟩) ws.length ws.length) ws.length ((seen.set a true).flatMap boolCells) ∧ (∃ H, w8.ownsRow H 5 1 (.slice A7 F.length c7) F.length (F.flatMap byteCells)) ∧ W3.heap.size ≤ w8.heap.size ∧ Below wA.heap.size wA w8) (fun _ i _ => F.length - (intOf i).toNat)
                      case atStart => exact ⟨0, Nat.zero_le _, rfl, by rw [show td ++ tgts ws a 0 = td from List.append_nil td]; exact HT7.out, HS7.out, ⟨_, HF7.out⟩, hz37, HB7.out⟩
                      case round =>
                        obtain ⟨j, hj, rfl, hto, hse, ⟨H8, hfo⟩, hz38, hB8⟩ := hrel
                        have hz8 := hB8.size
                        have hlen8 : (td ++ tgts ws a j).length ≤ td.length + j := by rw [List.length_append]; have := HTL.out j; omega
                        by_cases hltj : j < F.length
                        · obtain ⟨bF, oF, rfl, hbF, y0⟩ := RdY.at_ (show RdY wr wr.heap.size A7 F from Rd.of_own hfo) hltj
                          have hin := HFIN.out j hltj
                          have HR8 := HR.out.up (HBW.out.trans (hB8.mono hzw)) (HBW.out.trans (hB8.mono hzw)).size
                          obtain ⟨bW, oW, rfl, hbW, x0⟩ := RdW.at_ HR8 hin
                          rw [← wd_get] at x0
                          have HTS := Lib.hid (HTG.out j)
                          rw [List.getElem?_eq_getElem hltj] at HTS
                          have hxl := HLT.out (a + 2 + j)
                          have HSEP := Lib.hid (own_sep hfo hto (by decide))
                          obtain ⟨kd, hkd⟩ : ∃ kd, F[j] = kd := ⟨_, rfl⟩
                          obtain ⟨x, hx⟩ : ∃ x, wd ws (a + 2 + j) = x := ⟨_, rfl⟩
                          obtain ⟨m, hm8⟩ : ∃ m, td ++ tgts ws a j = m := ⟨_, rfl⟩
                          rw [hkd] at y0 HTS
                          rw [hx] at x0 HTS hxl
                          rw [hm8] at hto hlen8
                          have HTM : Hid (td ++ tgts ws a (j + 1) = m ++ (if some kd = some 3 ∧ x ≠ 0 then [min x 2048] else [])) := Lib.hid (by rw [HTS.out, ← List.append_assoc, hm8])
                          have hji : (j : Int) < (F.length : Int) := by omega
                          have hj0 : (0 : Int) ≤ (j : Int) := by omega
                          have hw3 : IntKind.i64.wrap ((a : Int) + 2 + (j : Int)) = (a : Int) + 2 + (j : Int) := IntWalk.i64_in _ (by omega)
                          have i0' : (0 : Int) ≤ (a : Int) + 2 + (j : Int) := by omega
                          have i1' : (a : Int) + 2 + (j : Int) < (ws.length : Int) := by omega
                          have it' : ((a : Int) + 2 + (j : Int)).toNat = a + 2 + j := by omega
                          have hmm : m.length ≤ 40000 := by omega
                          have HTO8 := Lib.hid hto
                          have HSE8 := Lib.hid hse
                          have HFO8 := Lib.hid hfo
                          have HXL := Lib.hid hxl
                          clear HTS hkd hx hm8 HR8 hse hfo hin hxl
                          by_cases hk3 : kd = 3
                          · have e3 : ((kd : Int) != 3) = false := by rw [bne_eq_false_iff_eq]; omega
                            have e3n : (kd != 3) = false := by rw [bne_eq_false_iff_eq]; exact hk3
                            by_cases hx0 : x = 0
                            · have e0 : ((x : Int) == 0) = true := by rw [beq_iff_eq]; omega
                              have e0n : (x == 0) = true := by rw [beq_iff_eq]; exact hx0
                              have HY := Lib.hid (show td ++ tgts ws a (j + 1) = m by rw [HTM.out, if_neg (fun h => h.2 hx0), List.append_nil])
                              clear hk3 hx0 HTM hto
                              go_wp2_with fail
                              go_roundw
                              case rel => exact ⟨j + 1, by omega, by go_num, by rw [HY.out]; exact HTO8.out, HSE8.out, ⟨_, HFO8.out⟩, hz38, hB8⟩
                              case measure => simp [intOf]; omega
                            · have e0 : ((x : Int) == 0) = false := by rw [beq_eq_false_iff_ne]; omega
                              have e0n : (x == 0) = false := by rw [beq_eq_false_iff_ne]; exact hx0
                              have HY := Lib.hid (show td ++ tgts ws a (j + 1) = m ++ [min x 2048] by rw [HTM.out, if_pos ⟨by rw [hk3], hx0⟩])
                              clear hk3 hx0 HTM
                              have hww := fun (z : Int) (h0 : 0 ≤ z) (h1 : z ≤ 2048) => show IntKind.i64.wrap z = z from IntWalk.i64_in _ (by omega)
                              have hmways : min x 2048 = x ∧ x ≤ 2048 ∨ min x 2048 = 2048 ∧ 2048 < x := by omega
                              rcases hmways with ⟨hme, hx2⟩ | ⟨hme, hx2⟩
                              · rw [hme] at HY
                                have hwx := hww (x : Int) (by omega) (by omega)
                                have hmin : (if (x : Int) < 2048 then (x : Int) else 2048) = (x : Int) := by split <;> omega
                                clear hww hme
                                go_wp2_with (at_builtin; refine wpList_append_own _ rfl _ _ 26 rfl W3.heap.size 3 i0 _ 1 8 Tryz.underlying26 HII.out.1 HII.out.2.1 HII.out.2.2.1 HII.out.2.2.2 rfl (by decide) _ _ _ rfl (HTO8.out.alloc _) ⟨_, 0, none⟩ 1 1 [.int .i64 (x : Int)] rfl rfl (news_new _ _ _) (by simp [Value.oneCell']) (by unfold maxLen; omega) (by omega) (by simp; omega) ?_; intro v1 w9 hown1 hg1 _; have HOW1 := Lib.hid hown1; have HG1 := Lib.hid hg1; clear hown1 hg1)
                                go_roundw
                                case rel =>
                                  have hgz := HG1.out.size
                                  rw [World.size_alloc] at hgz
                                  refine ⟨j + 1, by omega, by go_num, by rw [HY.out, List.length_append, ints_snoc]; exact HOW1.out, (HSE8.out.alloc _).kept HG1.out (.inr ?_), ⟨_, (HFO8.out.alloc _).kept HG1.out HSEP.out⟩, by omega, (hB8.alloc hz8 _).grown HG1.out (by rw [World.size_alloc]; omega) (fun k hk => by have := (HTO8.out.lt k hk).1; omega)⟩
                                  intro h
                                  have := (HTO8.out.lt wA.heap.size h.symm).1
                                  omega
                                case measure => simp [intOf]; omega
                              · rw [hme] at HY
                                have hxi1 : (2048 : Int) < (x : Int) := by omega
                                have hxi2 : ¬ (x : Int) < 2048 := by omega
                                have hxi3 : ¬ (x : Int) ≤ 2048 := by omega
                                have hxi4 : ¬ x < 2048 := by omega
                                have hxi5 : ¬ x ≤ 2048 := by omega
                                clear hww hme
                                go_wp2_with (at_builtin; refine wpList_append_own _ rfl _ _ 26 rfl W3.heap.size 3 i0 _ 1 8 Tryz.underlying26 HII.out.1 HII.out.2.1 HII.out.2.2.1 HII.out.2.2.2 rfl (by decide) _ _ _ rfl (HTO8.out.alloc _) ⟨_, 0, none⟩ 1 1 [.int .i64 2048] rfl rfl (news_new _ _ _) (by simp [Value.oneCell']) (by unfold maxLen; omega) (by omega) (by simp; omega) ?_; intro v1 w9 hown1 hg1 _; have HOW1 := Lib.hid hown1; have HG1 := Lib.hid hg1; clear hown1 hg1)
                                go_roundw
                                case rel =>
                                  have hgz := HG1.out.size
                                  rw [World.size_alloc] at hgz
                                  refine ⟨j + 1, by omega, by go_num, by rw [HY.out, List.length_append, ints_snoc]; exact HOW1.out, (HSE8.out.alloc _).kept HG1.out (.inr ?_), ⟨_, (HFO8.out.alloc _).kept HG1.out HSEP.out⟩, by omega, (hB8.alloc hz8 _).grown HG1.out (by rw [World.size_alloc]; omega) (fun k hk => by have := (HTO8.out.lt k hk).1; omega)⟩
                                  intro h
                                  have := (HTO8.out.lt wA.heap.size h.symm).1
                                  omega
                                case measure => simp [intOf]; omega
                          · have e3 : ((kd : Int) != 3) = true := by rw [bne_iff_ne]; omega
                            have e3n : (kd != 3) = true := by rw [bne_iff_ne]; exact hk3
                            have HY := Lib.hid (show td ++ tgts ws a (j + 1) = m by rw [HTM.out, if_neg (fun h => hk3 (Option.some.inj h.1)), List.append_nil])
                            clear hk3 HTM hto
                            go_wp2_with fail
                            go_roundw
                            case rel => exact ⟨j + 1, by omega, by go_num, by rw [HY.out]; exact HTO8.out, HSE8.out, ⟨_, HFO8.out⟩, hz38, hB8⟩
                            case measure => simp [intOf]; omega
                        · obtain rfl : j = F.length := by omega
                          have HTO8 := Lib.hid hto
                          have HSE8 := Lib.hid hse
                          have hfs := HFS.out
                          clear hto hse hfo
                          go_wp2_with fail
                          go_roundg (gk - 1)
                          case rel => exact ⟨seen.set a true, td ++ tgts ws a F.length, by omega, HWN.out, by show _ ≤ _; omega, HSE8.out, HTO8.out, hz38, hB8⟩
                          case measure => omega
                    · rw [hsa] at cs
                      have HWO := Lib.hid (HWK.out.old (show seen[a]? = some true by
                        rw [List.getElem?_eq_getElem (by omega)] at hsa ⊢
                        rw [Option.getD_some] at hsa; rw [hsa]))
                      have HSE5 := Lib.hid hse
                      have hme := HME.out
                      clear hse hsa HWK
                      go_wp2_with fail
                      go_roundg (gk - 1)
                      case rel => exact ⟨seen, td, by omega, HWO.out, by show _ ≤ _; omega, HSE5.out, HPOP.out, hz35, hB5⟩
                      case measure => omega
                · have hge : decide ((ws.length : Int) ≤ (a : Int)) = true := by rw [decide_eq_true_iff]; omega
                  have hgen : decide (ws.length ≤ a) = true := by rw [decide_eq_true_iff]; omega
                  have HV := Lib.hid (rc_bad HH0.out (HWK.out.bad (by
                    by_cases h : tb ws a = 0
                    · exact h
                    · exact absurd (tb_lt h) han)))
                  clear hse han
                  go_wp2_with fail
                  go_ret2
                  exact ⟨.inr ⟨HV.out, rfl⟩, HBZ.out⟩
end Go.Proofs.YtoaepffpjoibaaaGreat

namespace Go.Proofs.YtoaepffpjoibaaaGreat
open Go.RowKit

def seenTo (S : List Bool) (k : Nat) : List Int := ((List.range k).filter fun a => S[a]?.getD false).map fun a : Nat => (a : Int)
theorem seenTo_succ (S : List Bool) (k : Nat) : seenTo S (k + 1) = seenTo S k ++ (if S[k]?.getD false = true then [(k : Int)] else []) := by
  unfold seenTo
  rw [List.range_succ, List.filter_append, List.map_append]
  congr 1
  cases hb : S[k]?.getD false <;> simp [hb]
theorem seenTo_len (S : List Bool) (k : Nat) : (seenTo S k).length ≤ k := by
  unfold seenTo
  rw [List.length_map]
  have := List.length_filter_le (fun a => S[a]?.getD false) (List.range k)
  rwa [List.length_range] at this
theorem seenL_len (ws : List Nat) : (seenL ws).length = ws.length := by simp [seenL]
theorem seenL_get {ws : List Nat} {a : Nat} (h : a < ws.length) : (seenL ws)[a]?.getD false = true ↔ Rch ws a := by
  unfold seenL
  rw [List.getElem?_map, List.getElem?_range h]
  simp
theorem rcOut_seen {ws : List Nat} (h : rcErr ws = 0) : rcOut ws = seenTo (seenL ws) ws.length := by
  unfold rcOut seenTo
  rw [if_pos h]
  congr 1
  refine List.filter_congr fun a ha => ?_
  have h2 := seenL_get (ws := ws) (List.mem_range.1 ha)
  cases hb : (seenL ws)[a]?.getD false
  · rw [hb] at h2
    simpa using h2
  · rw [hb] at h2
    simpa using h2
theorem rcOut_no {ws : List Nat} (h : rcErr ws ≠ 0) : rcOut ws = [] := by
  unfold rcOut
  rw [if_neg h]
theorem rcErr_heap {ws : List Nat} (h : hpErr ws ≠ 0) : rcErr ws = hpErr ws := by
  unfold rcErr
  rw [if_neg h]
def RcdRes (ws : List Nat) (e : Ending) (w' : World) : Prop := ∃ A c, e = .returned (.tuple #[.slice A (rcOut ws).length c, .int .i64 (rcErr ws)]) ∧ RdI w' w'.heap.size A (rcOut ws) ∧ (rcOut ws).length ≤ c
theorem rcdRes_no {ws : List Nat} {r : Int} {w' : World} (h1 : rcErr ws = r) (h0 : r ≠ 0) : RcdRes ws (.returned (.tuple #[.slice none 0 0, .int .i64 r])) w' := by
  have h2 := rcOut_no (ws := ws) (by rw [h1]; exact h0)
  exact ⟨none, 0, by rw [h1, h2]; rfl, by rw [h2]; exact Rd.nil_, by rw [h2]; exact Nat.le_refl _⟩

set_option maxRecDepth 100000 in
set_option maxHeartbeats 4000000 in
theorem mReached_c (A : Option Addr) (ws : List Nat) (c n : Nat) (w : World) (hn : ws.length = n) (hm : n ≤ 9223372036854775807) (hr : RdW w w.heap.size A ws) (ho : ∀ x ∈ ws, x < 18446744073709551616) :
    Calls Tryz.prog 7 #[.slice A n c] w fun e w' => RcdRes ws e w' ∧ Below w.heap.size w w' := by
  subst hn
  have HR := Lib.hid hr
  have HC := Lib.hid (mHeap_c A ws c ws.length w rfl hm hr ho)
  unfold MhRes at HC
  have HO := Lib.hid ho
  clear hr ho
  by_cases h0 : hpErr ws = 0
  · obtain ⟨l, hl⟩ : ∃ l, hpOut ws = l := ⟨_, rfl⟩
    have HRC := Lib.hid (fun L cl W (h : RdW W W.heap.size A ws) (h2 : RdB W W.heap.size L l) => mReach_c A L ws c cl ws.length l W rfl hm h0 hl h h2 HO.out)
    unfold RcRes at HRC
    rw [h0, hl] at HC
    have hbd := fr_bd ws (hpErr_zero h0).1
    have hlen := hbd.2.1
    have hlen1 := hbd.1
    by_cases hz : rcErr ws = 0
    · have HV := Lib.hid (And.intro hz (rcOut_seen hz))
      have HSL := Lib.hid (seenL_len ws)
      obtain ⟨i0, hi, hz0, hz1, hz2⟩ := info_parts infoInt
      have HI := Lib.hid hi
      have HZ0 := Lib.hid hz0
      have HZ1 := Lib.hid hz1
      have HZ2 := Lib.hid hz2
      clear hi hz0 hz1 hz2
      clear h0 hl hbd hz
      generalize seenL ws = S at HRC HV HSL
      have HSU := Lib.hid (fun k => seenTo_succ S k)
      have HSM := Lib.hid (fun k => seenTo_len S k)
      go_enter Tryz.func7, Tryz.ntmps7
      go_wp2_with fail
      refine HC.out.mono ?_
      rintro e w1 ⟨⟨A1, c1, rfl, hrd, -⟩, hB1⟩
      have HB1 := Lib.hid hB1
      have HR1 := Lib.hid (HR.out.up hB1 hB1.size)
      have HRD := Lib.hid hrd
      clear hrd hB1
      go_wp2_with fail
      refine (HRC.out A1 _ w1 HR1.out HRD.out).mono ?_
      rintro e wE ⟨⟨-, g, c2, rfl, hownS⟩ | ⟨h9, -⟩, hB2⟩
      · have HBE := Lib.hid (HB1.out.trans (hB2.mono HB1.out.size))
        have HS := Lib.hid hownS
        have hgE := (hownS.lt g rfl).2
        clear hownS hB2
        go_wp2_with fail
        go_loopw [7, 29] (fun v i wr => ∃ k : Nat, k ≤ ws.length ∧ i = .int .i64 k ∧ wr.ownsRow wE.heap.size 3 1 v (seenTo S k).length ((seenTo S k).flatMap intCells) ∧ Below wE.heap.size wE wr) (fun _ i _ => ws.length - (intOf i).toNat)
        case atStart => exact ⟨0, Nat.zero_le _, rfl, World.ownsRow_nil _ _ _ _, Below.refl _ _⟩
        case round =>
          obtain ⟨k, hk, rfl, hown, hB⟩ := hrel
          have hz := hB.size
          by_cases hlt : k < ws.length
          · have c0 := ((own_below HS.out hB (Nat.le_refl _)).cellAt k (by omega)).trans (bools_get S k (by rw [HSL.out]; exact hlt))
            have HSN := Lib.hid (HSU.out k)
            have hml := HSM.out k
            obtain ⟨m, hm2⟩ : ∃ m, seenTo S k = m := ⟨_, rfl⟩
            rw [hm2] at hown HSN hml
            obtain ⟨b, hb⟩ : ∃ b, S[k]?.getD false = b := ⟨_, rfl⟩
            rw [hb] at c0 HSN
            have hlm : (k : Int) < (ws.length : Int) := by omega
            have hl0 : (0 : Int) ≤ (k : Int) := by omega
            clear hm2 hb
            cases b
            · have HS2 := Lib.hid (show seenTo S (k + 1) = m by rw [HSN.out]; simp)
              clear HSN
              go_wp2_with fail
              go_roundw
              case rel => exact ⟨k + 1, by omega, by go_num, by rw [HS2.out]; exact hown, hB⟩
              case measure => simp [intOf]; omega
            · have HS2 := Lib.hid (show seenTo S (k + 1) = m ++ [(k : Int)] by rw [HSN.out]; rfl)
              clear HSN
              go_wp2_with (at_builtin; refine wpList_append_own _ rfl _ _ 26 rfl wE.heap.size 3 i0 _ 1 8 Tryz.underlying26 HI.out HZ0.out HZ1.out HZ2.out rfl (by decide) _ _ _ rfl (hown.alloc _) ⟨_, 0, none⟩ 1 1 [.int .i64 (k : Int)] rfl rfl (news_new _ _ _) (by simp [Value.oneCell']) (by unfold maxLen; omega) (by omega) (by simp; omega) ?_; intro v1 w2 hown1 hg1 _; have hB2 := below_append hB hz hown hg1)
              go_roundw
              case rel => exact ⟨k + 1, by omega, by go_num, by rw [HS2.out, List.length_append, flat_snoc]; exact hown1, hB2⟩
              case measure => simp [intOf]; omega
          · obtain rfl : k = ws.length := by omega
            obtain ⟨A2, c3, rfl, hle, hrd2⟩ := slice_of hown
            have HRD2 := Lib.hid hrd2
            have HLE := Lib.hid hle
            clear hrd2 hown hle
            go_wp2_with fail
            go_ret2
            exact ⟨⟨A2, c3, by rw [HV.out.1, HV.out.2]; rfl, by rw [HV.out.2]; exact HRD2.out, by rw [HV.out.2]; exact HLE.out⟩, HBE.out.trans (hB.mono HBE.out.size)⟩
      · exfalso
        rw [HV.out.1] at h9
        exact absurd h9 (by decide)
    · have HZ := Lib.hid hz
      clear h0 hl hbd hz
      go_enter Tryz.func7, Tryz.ntmps7
      go_wp2_with fail
      refine HC.out.mono ?_
      rintro e w1 ⟨⟨A1, c1, rfl, hrd, -⟩, hB1⟩
      have HB1 := Lib.hid hB1
      have HR1 := Lib.hid (HR.out.up hB1 hB1.size)
      have HRD := Lib.hid hrd
      clear hrd hB1
      go_wp2_with fail
      refine (HRC.out A1 _ w1 HR1.out HRD.out).mono ?_
      rintro e wE ⟨⟨h9, -⟩ | ⟨h9, rfl⟩, hB2⟩
      · exact absurd h9 HZ.out
      · have hbe := HB1.out.trans (hB2.mono HB1.out.size)
        have H9 := Lib.hid h9
        clear h9
        go_wp2_with fail
        go_ret2
        exact ⟨rcdRes_no H9.out (by decide), hbe⟩
  · have HZ := Lib.hid (And.intro (rcErr_heap h0) h0)
    obtain ⟨r, hr⟩ : ∃ r, hpErr ws = r := ⟨_, rfl⟩
    rw [hr] at HC HZ
    have hn1 : (r != 0) = true := by rw [bne_iff_ne, ← hr]; exact h0
    obtain ⟨q, hq⟩ : ∃ q, (hpOut ws).length = q := ⟨_, rfl⟩
    rw [hq] at HC
    clear h0 hr hq
    go_enter Tryz.func7, Tryz.ntmps7
    go_wp2_with fail
    refine HC.out.mono ?_
    rintro e w1 ⟨⟨A1, c1, rfl, -, -⟩, hB1⟩
    go_wp2_with fail
    go_ret2
    exact ⟨rcdRes_no HZ.out.1 HZ.out.2, hB1⟩
end Go.Proofs.YtoaepffpjoibaaaGreat
