/- Root slots, and what is reached, as plain facts. -/
import Derived.Test.YtpifagclhhaniaaKHead
import Derived.Test.YtpifagclhhaniaaKHeap
namespace Go.Proofs.Ytpifagclhhaniaa

structure Sl where
  gen : Int
  used : Bool
  at_ : Int
  deriving DecidableEq, Inhabited
def Sl.cells (x : Sl) : List Value := [.int .i64 x.gen, .bool x.used, .int .i64 x.at_]
theorem Sl.len (x : Sl) : x.cells.length = 3 := rfl
def slRaw (w : Nat) : Sl := ⟨((w / 4294967296 % 2147483648 : Nat) : Int), w / 9223372036854775808 == 1, ((w % 4294967296 : Nat) : Int)⟩
def slOk (s : Sl) : Bool := if s.used = true then decide (0 < s.gen) && (decide (128 ≤ s.at_) && decide (s.at_ < 2048)) else s.at_ == 0
def slAt (ws : List Nat) (i : Nat) : Sl := slRaw (wd ws (112 + i))
def slsTo (ws : List Nat) (k : Nat) : Prop := ∀ i, i < k → slOk (slAt ws i) = true
theorem slsTo_zero (ws : List Nat) : slsTo ws 0 := fun i h => absurd h (by omega)
theorem slsTo_succ {ws : List Nat} {k : Nat} (h : slsTo ws k) (h1 : slOk (slAt ws k) = true) : slsTo ws (k + 1) := fun i hi => by
  rcases Nat.lt_or_ge i k with h2 | h2
  · exact h i h2
  · have : i = k := by omega
    subst this; exact h1
def slsOk (ws : List Nat) : Bool := (List.range 16).all fun i => slOk (slAt ws i)
theorem slsOk_iff (ws : List Nat) : slsOk ws = true ↔ slsTo ws 16 := by
  unfold slsOk slsTo
  rw [List.all_eq_true]
  exact ⟨fun h i hi => h i (List.mem_range.2 hi), fun h i hi => h i (List.mem_range.1 hi)⟩
theorem slsOk_bad {ws : List Nat} {k : Nat} (hk : k < 16) (h : slOk (slAt ws k) = false) : slsOk ws = false := by
  cases hq : slsOk ws with
  | false => rfl
  | true => rw [(slsOk_iff ws).1 hq k hk] at h; cases h
def slL (ws : List Nat) : List Sl := (List.range 16).map (slAt ws)
theorem slL_len (ws : List Nat) : (slL ws).length = 16 := by simp [slL]
theorem slL_get (ws : List Nat) {i : Nat} (h : i < (slL ws).length) : (slL ws)[i] = slAt ws i := by simp [slL]
def hdlErr (ws : List Nat) : Int := if sizeOk (ws.length : Int) = true then (if slsOk ws = true then 0 else 50) else 8
def hdlOut (ws : List Nat) : List Sl := if hdlErr ws = 0 then slL ws else []
theorem hdlErr_img {ws : List Nat} (h : sizeOk (ws.length : Int) = false) : hdlErr ws = 8 := by simp [hdlErr, h]
theorem hdlErr_bad {ws : List Nat} (h : sizeOk (ws.length : Int) = true) (h2 : slsOk ws = false) : hdlErr ws = 50 := by simp [hdlErr, h, h2]
theorem hdlErr_ok {ws : List Nat} (h : sizeOk (ws.length : Int) = true) (h2 : slsOk ws = true) : hdlErr ws = 0 ∧ hdlOut ws = slL ws := by simp [hdlOut, hdlErr, h, h2]
theorem slRaw_bd (w : Nat) : 0 ≤ (slRaw w).gen ∧ (slRaw w).gen ≤ 2147483647 ∧ 0 ≤ (slRaw w).at_ ∧ (slRaw w).at_ ≤ 4294967295 := by
  unfold slRaw
  dsimp only
  have h1 := Nat.mod_lt (w / 4294967296) (show 0 < 2147483648 by omega)
  have h2 := Nat.mod_lt w (show 0 < 4294967296 by omega)
  omega
theorem sl_used {s : Sl} (h : slOk s = true) (hu : s.used = true) : 0 < s.gen ∧ 128 ≤ s.at_ ∧ s.at_ < 2048 := by
  unfold slOk at h
  rw [if_pos hu] at h
  simpa using h

/-! The types of objects by their addresses -/
def tabL (n : Nat) (l : List Bk) : List Int := l.foldl (fun t b => if b.kind = 1 then t.set b.at_.toNat (b.typ + 1) else t) (List.replicate n 0)
theorem tabL_take {n : Nat} {l : List Bk} {k : Nat} (hk : k < l.length) : tabL n (l.take (k + 1)) = if l[k].kind = 1 then (tabL n (l.take k)).set l[k].at_.toNat (l[k].typ + 1) else tabL n (l.take k) := by
  unfold tabL
  rw [List.take_succ_eq_append_getElem hk, List.foldl_append]
  rfl
theorem tab_step_len (t : List Int) (l : List Bk) : (l.foldl (fun t b => if b.kind = 1 then t.set b.at_.toNat (b.typ + 1) else t) t).length = t.length := by
  induction l generalizing t with
  | nil => rfl
  | cons b l ih => simp only [List.foldl_cons]; rw [ih]; split <;> simp
theorem tabL_len (n : Nat) (l : List Bk) : (tabL n l).length = n := by unfold tabL; rw [tab_step_len, List.length_replicate]
/-- What stands in the table: nothing, or an object's type and 1. -/
theorem tab_what (l : List Bk) (t : List Int) (P : Nat → Int → Prop) (h0 : ∀ a, (t[a]?.getD 0) = 0 ∨ P a (t[a]?.getD 0)) (h1 : ∀ b ∈ l, b.kind = 1 → P b.at_.toNat (b.typ + 1)) (a : Nat) :
    ((l.foldl (fun t b => if b.kind = 1 then t.set b.at_.toNat (b.typ + 1) else t) t)[a]?.getD 0) = 0 ∨ P a ((l.foldl (fun t b => if b.kind = 1 then t.set b.at_.toNat (b.typ + 1) else t) t)[a]?.getD 0) := by
  induction l generalizing t with
  | nil => exact h0 a
  | cons b l ih =>
    simp only [List.foldl_cons]
    refine ih _ (fun a => ?_) (fun x hx => h1 x (by simp [hx]))
    split
    · rename_i hk
      rw [List.getElem?_set]
      split
      · rename_i e
        subst e
        split
        · right; exact h1 b (by simp) hk
        · left; rfl
      · exact h0 a
    · exact h0 a
theorem tab_has (l : List Bk) (t : List Int) (a : Nat) (ha : a < t.length) (h : (t[a]?.getD 0) ≠ 0 ∨ ∃ b ∈ l, b.kind = 1 ∧ b.at_.toNat = a) (hty : ∀ b ∈ l, b.kind = 1 → 0 ≤ b.typ) :
    ((l.foldl (fun t b => if b.kind = 1 then t.set b.at_.toNat (b.typ + 1) else t) t)[a]?.getD 0) ≠ 0 := by
  induction l generalizing t with
  | nil =>
    rcases h with h | ⟨b, hb, -⟩
    · exact h
    · cases hb
  | cons b l ih =>
    simp only [List.foldl_cons]
    refine ih _ (by split <;> simp [ha]) ?_ (fun x hx => hty x (by simp [hx]))
    by_cases hk : b.kind = 1
    · rw [if_pos hk, List.getElem?_set]
      by_cases e : b.at_.toNat = a
      · left
        rw [if_pos e, if_pos (by omega)]
        have := hty b (by simp) hk
        simp only [Option.getD_some, ne_eq]; omega
      · rw [if_neg e]
        rcases h with h | ⟨x, hx, h2, h3⟩
        · exact .inl h
        · rcases List.mem_cons.1 hx with rfl | hx
          · exact absurd h3 e
          · exact .inr ⟨x, hx, h2, h3⟩
    · rw [if_neg hk]
      rcases h with h | ⟨x, hx, h2, h3⟩
      · exact .inl h
      · rcases List.mem_cons.1 hx with rfl | hx
        · exact absurd h2 hk
        · exact .inr ⟨x, hx, h2, h3⟩
/-- The type of the object at an address, and 1; 0: there is none. -/
def tb (ws : List Nat) (a : Nat) : Int := (tabL ws.length (hpOut ws))[a]?.getD 0
theorem tb_lt {ws : List Nat} {a : Nat} (h : tb ws a ≠ 0) : a < ws.length := by
  rcases Nat.lt_or_ge a ws.length with h1 | h1
  · exact h1
  · unfold tb at h
    rw [List.getElem?_eq_none (by rw [tabL_len]; exact h1)] at h
    exact absurd rfl h
/-- An object of a right heap. -/
def isObj (ws : List Nat) (a : Nat) : Prop := 128 ≤ a ∧ a % 2 = 0 ∧ a < ws.length ∧ stands ws a = true ∧ (rawBk (wd ws a)).kind = 1 ∧ fitB ws (bkAt ws a) = true ∧ ∃ k, ∃ h : k < (hpOut ws).length, (hpOut ws)[k] = bkAt ws a ∧ blocks ws a = some ((hpOut ws).drop k)
theorem obj_of {ws : List Nat} (h : hpErr ws = 0) {k : Nat} (hk : k < (hpOut ws).length) (h1 : (hpOut ws)[k].kind = 1) : ∃ a, (hpOut ws)[k] = bkAt ws a ∧ isObj ws a := by
  obtain ⟨hs, l, hl, ha, ho⟩ := hpErr_zero h
  subst ho
  obtain ⟨a, e1, e2, e3, e4, e5, e6⟩ := blocks_at _ _ hl (by omega) k hk
  refine ⟨a, e1, e3, e2, e4, e5, by rw [e1] at h1; exact h1, ?_, k, hk, e1, e6⟩
  rw [List.all_eq_true] at ha
  rw [← e1]; exact ha _ (List.getElem_mem hk)
theorem tb_obj {ws : List Nat} (h : hpErr ws = 0) {a : Nat} (ht : tb ws a ≠ 0) : isObj ws a ∧ tb ws a = (rawBk (wd ws a)).typ + 1 := by
  have key := tab_what (hpOut ws) (List.replicate ws.length 0) (fun a v => isObj ws a ∧ v = (rawBk (wd ws a)).typ + 1) (fun a => .inl (by
    rw [List.getElem?_replicate]; split <;> rfl)) (fun b hb hk => by
    obtain ⟨k, hk2, rfl⟩ := List.getElem_of_mem hb
    obtain ⟨a, e1, e2⟩ := obj_of h hk2 hk
    rw [e1]
    have : (bkAt ws a).at_.toNat = a := by rw [bkAt_at, Int.toNat_natCast]
    rw [this]
    exact ⟨e2, rfl⟩) a
  exact key.resolve_left ht
theorem obj_tb {ws : List Nat} (h : hpErr ws = 0) {a : Nat} (ho : isObj ws a) : tb ws a = (rawBk (wd ws a)).typ + 1 ∧ tb ws a ≠ 0 := by
  obtain ⟨h1, h2, h3, h4, h5, h6, k, hk, h7, h8⟩ := ho
  have hne : tb ws a ≠ 0 := by
    unfold tb tabL
    refine tab_has _ _ _ (by rw [List.length_replicate]; exact h3) (.inr ⟨_, List.getElem_mem hk, by rw [h7]; exact h5, by rw [h7, bkAt_at, Int.toNat_natCast]⟩) (fun b hb hkk => ?_)
    obtain ⟨m, hm, rfl⟩ := List.getElem_of_mem hb
    obtain ⟨a', e1, e2⟩ := obj_of h hm hkk
    rw [e1]
    show 0 ≤ ((_ : Nat) : Int)
    omega
  exact ⟨(tb_obj h hne).2, hne⟩

/-! What is reached -/
/-- The fields of the object at an address. -/
def flds (ws : List Nat) (a : Nat) : List Nat := krOut (wd ws (96 + 2 * (rawBk (wd ws a)).typ.toNat)) (wd ws (96 + 2 * (rawBk (wd ws a)).typ.toNat + 1))
theorem flds_le (ws : List Nat) (a : Nat) : (flds ws a).length ≤ 8 := krOut_le _ _
theorem flds_in {ws : List Nat} {a : Nat} (h : isObj ws a) {i : Nat} (hi : i < (flds ws a).length) : a + 2 + i < ws.length := by
  obtain ⟨h1, h2, h3, h4, h5, h6, -⟩ := h
  have hs := stands_sz h4
  have hf : fitB ws (bkAt ws a) = typedB ws (bkAt ws a) := by
    unfold fitB
    have : ((bkAt ws a).kind != 1) = false := by rw [bne_eq_false_iff_eq]; exact h5
    rw [this, Bool.false_or]
  have hfo := fit_obj (ws := ws) (b := bkAt ws a) h5
  rw [hf] at h6
  rw [hf, h6] at hfo
  have hfo := hfo.symm
  simp only [Bool.and_eq_true, beq_iff_eq] at hfo
  have h7 := hfo.2
  rw [bkAt_size] at h7
  have h8 : (flds ws a).length = (krOut (wd ws (tyA (bkAt ws a))) (wd ws (tyA (bkAt ws a) + 1))).length := rfl
  unfold objSz at h7
  omega
inductive Rch (ws : List Nat) : Nat → Prop
  | slot (i : Nat) (hi : i < 16) (hu : (slAt ws i).used = true) : Rch ws (slAt ws i).at_.toNat
  | ref (a i : Nat) (ha : Rch ws a) (ht : tb ws a ≠ 0) (hi : (flds ws a)[i]? = some 3) (hv : wd ws (a + 2 + i) ≠ 0) : Rch ws (min (wd ws (a + 2 + i)) 2048)
def Good (ws : List Nat) : Prop := ∀ a, Rch ws a → tb ws a ≠ 0
/-- The targets of the first j fields of an object. -/
def tgts (ws : List Nat) (a : Nat) (j : Nat) : List Nat := (List.range j).filterMap fun i => if (flds ws a)[i]? = some 3 ∧ wd ws (a + 2 + i) ≠ 0 then some (min (wd ws (a + 2 + i)) 2048) else none
theorem tgts_succ (ws : List Nat) (a j : Nat) : tgts ws a (j + 1) = tgts ws a j ++ (if (flds ws a)[j]? = some 3 ∧ wd ws (a + 2 + j) ≠ 0 then [min (wd ws (a + 2 + j)) 2048] else []) := by
  unfold tgts
  rw [List.range_succ, List.filterMap_append]
  congr 1
  simp only [List.filterMap_cons, List.filterMap_nil]
  split <;> simp_all
theorem tgts_len (ws : List Nat) (a j : Nat) : (tgts ws a j).length ≤ j := by
  unfold tgts
  have := List.length_filterMap_le (fun i => if (flds ws a)[i]? = some 3 ∧ wd ws (a + 2 + i) ≠ 0 then some (min (wd ws (a + 2 + i)) 2048) else none) (List.range j)
  rwa [List.length_range] at this
theorem tgts_mem {ws : List Nat} {a j x : Nat} (h : x ∈ tgts ws a j) : ∃ i, (flds ws a)[i]? = some 3 ∧ wd ws (a + 2 + i) ≠ 0 ∧ x = min (wd ws (a + 2 + i)) 2048 := by
  unfold tgts at h
  rw [List.mem_filterMap] at h
  obtain ⟨i, -, h2⟩ := h
  split at h2
  · rename_i h3
    injection h2 with h2
    exact ⟨i, h3.1, h3.2, h2.symm⟩
  · cases h2
theorem mem_tgts {ws : List Nat} {a i : Nat} (h1 : (flds ws a)[i]? = some 3) (h2 : wd ws (a + 2 + i) ≠ 0) : min (wd ws (a + 2 + i)) 2048 ∈ tgts ws a (flds ws a).length := by
  unfold tgts
  rw [List.mem_filterMap]
  refine ⟨i, List.mem_range.2 (List.getElem?_eq_some_iff.1 h1).1, ?_⟩
  rw [if_pos ⟨h1, h2⟩]
/-- The work that is left, and what was seen. -/
structure Wk (ws : List Nat) (seen : List Bool) (todo : List Nat) : Prop where
  hlen : seen.length = ws.length
  htodo : ∀ a ∈ todo, Rch ws a
  hseen : ∀ a, seen[a]? = some true → Rch ws a ∧ tb ws a ≠ 0
  hslot : ∀ i, i < 16 → (slAt ws i).used = true → (slAt ws i).at_.toNat ∈ todo ∨ seen[(slAt ws i).at_.toNat]? = some true
  href : ∀ a i, seen[a]? = some true → (flds ws a)[i]? = some 3 → wd ws (a + 2 + i) ≠ 0 → min (wd ws (a + 2 + i)) 2048 ∈ todo ∨ seen[min (wd ws (a + 2 + i)) 2048]? = some true
theorem Wk.bad {ws : List Nat} {seen : List Bool} {todo : List Nat} {a : Nat} (h : Wk ws seen (todo ++ [a])) (h0 : tb ws a = 0) : ¬ Good ws := fun hg => hg a (h.htodo a (by simp)) h0
theorem Wk.old {ws : List Nat} {seen : List Bool} {todo : List Nat} {a : Nat} (h : Wk ws seen (todo ++ [a])) (h1 : seen[a]? = some true) : Wk ws seen todo := by
  have key : ∀ x, x ∈ todo ++ [a] ∨ seen[x]? = some true → x ∈ todo ∨ seen[x]? = some true := by
    intro x hx
    rcases hx with hx | hx
    · rcases List.mem_append.1 hx with hx | hx
      · exact .inl hx
      · rw [List.mem_singleton] at hx; subst hx; exact .inr h1
    · exact .inr hx
  exact ⟨h.hlen, fun x hx => h.htodo x (by simp [hx]), h.hseen, fun i hi hu => key _ (h.hslot i hi hu), fun x i hx hf hv => key _ (h.href x i hx hf hv)⟩
theorem Wk.new_ {ws : List Nat} {seen : List Bool} {todo : List Nat} {a : Nat} (h : Wk ws seen (todo ++ [a])) (h0 : tb ws a ≠ 0) : Wk ws (seen.set a true) (todo ++ tgts ws a (flds ws a).length) := by
  have hl := h.hlen
  have hal := tb_lt h0
  have hset : ∀ x, (seen.set a true)[x]? = some true ↔ x = a ∨ seen[x]? = some true := by
    intro x
    rw [List.getElem?_set]
    by_cases e : a = x
    · subst e; simp [hl, hal]
    · rw [if_neg e]
      constructor
      · exact .inr
      · rintro (h1 | h1)
        · exact absurd h1.symm e
        · exact h1
  have key : ∀ x, x ∈ todo ++ [a] ∨ seen[x]? = some true → x ∈ todo ++ tgts ws a (flds ws a).length ∨ (seen.set a true)[x]? = some true := by
    intro x hx
    rw [hset]
    rcases hx with hx | hx
    · rcases List.mem_append.1 hx with hx | hx
      · exact .inl (by simp [hx])
      · rw [List.mem_singleton] at hx; exact .inr (.inl hx)
    · exact .inr (.inr hx)
  have har : Rch ws a := h.htodo a (by simp)
  refine ⟨by rw [List.length_set]; exact hl, fun x hx => ?_, fun x hx => ?_, fun i hi hu => key _ (h.hslot i hi hu), fun x i hx hf hv => ?_⟩
  · rcases List.mem_append.1 hx with hx | hx
    · exact h.htodo x (by simp [hx])
    · obtain ⟨i, g1, g2, rfl⟩ := tgts_mem hx
      exact Rch.ref a i har h0 g1 g2
  · rcases (hset x).1 hx with rfl | hx
    · exact ⟨har, h0⟩
    · exact h.hseen x hx
  · rcases (hset x).1 hx with rfl | hx
    · exact .inl (by rw [List.mem_append]; exact .inr (mem_tgts hf hv))
    · exact key _ (h.href x i hx hf hv)
theorem Wk.end_ {ws : List Nat} {seen : List Bool} (h : Wk ws seen []) : Good ws ∧ ∀ a, seen[a]? = some true ↔ Rch ws a := by
  have all : ∀ a, Rch ws a → seen[a]? = some true := by
    intro a ha
    induction ha with
    | slot i hi hu => exact (h.hslot i hi hu).resolve_left (by simp)
    | ref a i ha ht hi hv ih => exact (h.href a i ih hi hv).resolve_left (by simp)
  exact ⟨fun a ha => (h.hseen a (all a ha)).2, fun a => ⟨fun hs => (h.hseen a hs).1, all a⟩⟩
/-- The slots' addresses, the first k. -/
def slTo (ws : List Nat) (k : Nat) : List Nat := (List.range k).filterMap fun i => if (slAt ws i).used = true then some (slAt ws i).at_.toNat else none
theorem slTo_succ (ws : List Nat) (k : Nat) : slTo ws (k + 1) = slTo ws k ++ (if (slAt ws k).used = true then [(slAt ws k).at_.toNat] else []) := by
  unfold slTo
  rw [List.range_succ, List.filterMap_append]
  congr 1
  simp only [List.filterMap_cons, List.filterMap_nil]
  split <;> simp_all
theorem slTo_len (ws : List Nat) (k : Nat) : (slTo ws k).length ≤ k := by
  unfold slTo
  have := List.length_filterMap_le (fun i => if (slAt ws i).used = true then some (slAt ws i).at_.toNat else none) (List.range k)
  rwa [List.length_range] at this
theorem Wk.start (ws : List Nat) : Wk ws (List.replicate ws.length false) (slTo ws 16) := by
  have hno : ∀ a : Nat, (List.replicate ws.length false)[a]? ≠ some true := by
    intro a; rw [List.getElem?_replicate]; split <;> simp
  refine ⟨List.length_replicate, fun a ha => ?_, fun a ha => absurd ha (hno a), fun i hi hu => .inl ?_, fun a i ha => absurd ha (hno a)⟩
  · unfold slTo at ha
    rw [List.mem_filterMap] at ha
    obtain ⟨i, hi, h2⟩ := ha
    split at h2
    · rename_i h3
      injection h2 with h2
      subst h2
      exact Rch.slot i (List.mem_range.1 hi) h3
    · cases h2
  · unfold slTo
    rw [List.mem_filterMap]
    exact ⟨i, List.mem_range.2 hi, by rw [if_pos hu]⟩
open Classical in
noncomputable def rcErr (ws : List Nat) : Int := if hpErr ws = 0 then (if slsOk ws = true then (if Good ws then 0 else 50) else 50) else hpErr ws
open Classical in
noncomputable def seenL (ws : List Nat) : List Bool := (List.range ws.length).map fun a => decide (Rch ws a)
open Classical in
noncomputable def rcOut (ws : List Nat) : List Int := if rcErr ws = 0 then ((List.range ws.length).filter fun a => decide (Rch ws a)).map (fun a : Nat => (a : Int)) else []
theorem Wk.seenL {ws : List Nat} {seen : List Bool} (h : Wk ws seen []) : seen = seenL ws := by
  have h2 := h.end_.2
  apply List.ext_getElem?
  intro a
  unfold Proofs.Ytpifagclhhaniaa.seenL
  by_cases ha : a < ws.length
  · have hs : a < seen.length := by rw [h.hlen]; exact ha
    rw [List.getElem?_map, List.getElem?_range ha, List.getElem?_eq_getElem hs]
    simp only [Option.map_some, Option.some.injEq]
    have := h2 a
    rw [List.getElem?_eq_getElem hs, Option.some.injEq] at this
    cases hq : seen[a] with
    | true => rw [hq] at this; simp [this.1 rfl]
    | false =>
      rw [hq] at this
      have hn : ¬ Rch ws a := fun hr => by have := this.2 hr; cases this
      simp [hn]
  · rw [List.getElem?_eq_none (by rw [h.hlen]; omega), List.getElem?_eq_none (by simp; omega)]
def falses (l : List Bool) : Nat := (l.filter (! ·)).length
theorem falses_set {l : List Bool} {a : Nat} (h : l[a]? = some false) : falses (l.set a true) + 1 = falses l := by
  induction l generalizing a with
  | nil => simp at h
  | cons b l ih =>
    cases a with
    | zero =>
      simp only [List.getElem?_cons_zero, Option.some.injEq] at h
      subst h
      simp [falses]
    | succ a =>
      simp only [List.getElem?_cons_succ] at h
      have := ih h
      unfold falses at this ⊢
      cases b <;> simp_all <;> omega
end Go.Proofs.Ytpifagclhhaniaa
