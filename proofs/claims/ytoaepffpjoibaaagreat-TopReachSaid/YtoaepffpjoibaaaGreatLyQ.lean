/- What a right image has. Plain. -/
import Derived.Test.YtoaepffpjoibaaaGreatR19C
import Derived.Test.YtoaepffpjoibaaaGreatKCp1
namespace Go.Proofs.YtoaepffpjoibaaaGreat
open Go.RowKit

/-- What is known of a right image. -/
structure Lay (ws : List Nat) (t : Nat) : Prop where
  size : sizeOk (ws.length : Int) = true
  ty : tyN ws = some t
  z16 : ∀ i, 16 ≤ i → i < 32 → wd ws i = 0
  tys : tysOk ws t = true
  sls : slsOk ws = true
  hp : hpErr ws = 0
  adj : adjOk (hpOut ws) = true
  wr : ∀ r, 7 ≤ r → r < 12 → ∀ b ∈ objs (hpOut ws), wrK ws (tysL ws t 8) (objs (hpOut ws)) r b = false
  sl : ∀ i, i < 16 → slHas (objs (hpOut ws)) (slAt ws i) = true
theorem tyN_size {ws : List Nat} {t : Nat} (h : tyN ws = some t) : sizeOk (ws.length : Int) = true := by
  cases hs : sizeOk (ws.length : Int) with
  | true => rfl
  | false => rw [(tyN_img hs).1] at h; cases h
theorem wrK_eq (ws : List Nat) (T : List (List Nat)) (O : List Bk) (r a z ty : Nat) (k : Int) (mk : Bool) (nx : Nat) : wrK ws T O r ⟨(a : Int), (z : Int), k, (ty : Int), mk, nx⟩ = wrB ws T O a z ty mk nx r := by
  unfold wrK
  simp only [Int.toNat_natCast]
theorem tys_get {ws : List Nat} {t i : Nat} (ht : t ≤ 8) (hi : i < t) : (tysL ws t 8)[i]? = some (krOut (wd ws (96 + 2 * i)) (wd ws (96 + 2 * i + 1))) := by
  unfold tysL
  rw [Nat.min_eq_left ht, List.getElem?_map, List.getElem?_eq_getElem (by rw [List.length_range]; exact hi)]
  simp
theorem lay_hp {ws : List Nat} {t : Nat} {l : List Bk} (ht : tyN ws = some t) (hl : blocks ws 128 = some l) (hty : tysOk ws t = true) (h8 : ∀ b ∈ objs l, wrK ws (tysL ws t 8) (objs l) 8 b = false) : hpErr ws = 0 ∧ hpOut ws = l := by
  refine hpErr_ok (tyN_size ht) hl ?_
  rw [List.all_eq_true]
  intro b hb
  by_cases hk : b.kind = 1
  · have hbo : b ∈ objs l := List.mem_filter.2 ⟨hb, by rw [beq_iff_eq]; exact hk⟩
    have h := h8 b hbo
    obtain ⟨a, z, ty, nx, mk, e, a1, a2, a3, a4, a5⟩ := objs_are hl hbo
    rw [fit_obj hk]
    rw [e] at h
    rw [wrK_eq] at h
    have h : (!decide (ty < (tysL ws t 8).length) || objSz (((tysL ws t 8)[ty]?).getD []).length != z) = false := h
    rw [Bool.or_eq_false_iff] at h
    have ht8 := tyN_le ht
    have htt : ty < t := by
      have := h.1
      rw [tysL_len] at this
      simp at this
      omega
    rw [tys_get ht8 htt, Option.getD_some] at h
    have hat := (tysOk_iff ws t).1 hty ty (by omega)
    unfold tyAt at hat
    rw [if_pos htt] at hat
    have hz := h.2
    rw [bne_eq_false_iff_eq] at hz
    have eA : tyA b = 96 + 2 * ty := by
      rw [e]
      unfold tyA
      simp
    have eS : b.size = (z : Int) := by rw [e]
    rw [eA, hat, eS, ← hz]
    simp
  · rw [fit_other hk]
theorem lay_of {ws : List Nat} (h : lay ws = true) : ∃ t, Lay ws t := by
  cases ht : tyN ws with
  | none => rw [lay_no (.inl ht)] at h; cases h
  | some t =>
    cases hl : blocks ws 128 with
    | none => rw [lay_no (.inr hl)] at h; cases h
    | some l =>
      obtain ⟨a1, a2, a3, a4, a5, a6, a7⟩ := (lay_iff ht hl).1 h
      obtain ⟨h1, h2⟩ := lay_hp ht hl a3 (fun b hb => a6 8 (by omega) (by omega) b hb)
      refine ⟨t, tyN_size ht, ht, fun i hi1 hi2 => ?_, a3, a4, h1, by rw [h2]; exact a5, by rw [h2]; exact a6, fun i hi => by
        rw [h2]
        exact a7 _ (List.mem_map.2 ⟨i, List.mem_range.2 hi, rfl⟩)⟩
      rw [zeroL_iff] at a1 a2
      rcases Nat.lt_or_ge i 24 with h3 | h3
      · have := a1 (i - 16) (by omega)
        rwa [show 16 + (i - 16) = i by omega] at this
      · have := a2 (i - 24) (by omega)
        rwa [show 24 + (i - 24) = i by omega] at this
section
variable {ws : List Nat} {t : Nat}
theorem Lay.lay (h : Lay ws t) : lay ws = true := by
  have hb := (hp_fr h.hp).2.2.2
  rw [lay_iff h.ty hb]
  refine ⟨(zeroL_iff _ _).2 fun i hi => h.z16 _ (by omega) (by omega), (zeroL_iff _ _).2 fun i hi => h.z16 _ (by omega) (by omega), h.tys, h.sls, h.adj, h.wr, fun s hs => ?_⟩
  obtain ⟨i, hi, rfl⟩ := List.mem_map.1 hs
  exact h.sl i (List.mem_range.1 hi)
theorem hasO_obj (h0 : hpErr ws = 0) {v : Nat} : hasO (objs (hpOut ws)) v = true ↔ isObj ws v := by
  unfold hasO
  rw [List.any_eq_true]
  constructor
  · rintro ⟨b, hb, e⟩
    rw [beq_iff_eq] at e
    obtain ⟨h1, h2⟩ := List.mem_filter.1 hb
    rw [beq_iff_eq] at h2
    obtain ⟨k, hk, rfl⟩ := List.getElem_of_mem h1
    obtain ⟨a, e1, e2⟩ := obj_of h0 hk h2
    rw [e1, bkAt_at] at e
    obtain rfl : a = v := by omega
    exact e2
  · intro ho
    obtain ⟨k, hk, e, -⟩ := ho.2.2.2.2.2.2
    exact ⟨bkAt ws v, List.mem_filter.2 ⟨by rw [← e]; exact List.getElem_mem hk, by rw [beq_iff_eq]; exact ho.2.2.2.2.1⟩, by rw [beq_iff_eq, bkAt_at]⟩
theorem obj_mem {a : Nat} (ho : isObj ws a) : bkAt ws a ∈ objs (hpOut ws) := by
  obtain ⟨k, hk, e, -⟩ := ho.2.2.2.2.2.2
  exact List.mem_filter.2 ⟨by rw [← e]; exact List.getElem_mem hk, by rw [beq_iff_eq]; exact ho.2.2.2.2.1⟩
/-- An object's own facts. -/
theorem Lay.obj (h : Lay ws t) {a : Nat} (ho : isObj ws a) : (rawBk (wd ws a)).mark = false ∧ wd ws (a + 1) = 0 ∧ (rawBk (wd ws a)).typ.toNat < t ∧ (tysL ws t 8)[(rawBk (wd ws a)).typ.toNat]? = some (flds ws a) ∧ szAt ws a = objSz (flds ws a).length ∧ (∀ r, 7 ≤ r → r < 12 → wrB ws (tysL ws t 8) (objs (hpOut ws)) a (szAt ws a) (rawBk (wd ws a)).typ.toNat (rawBk (wd ws a)).mark (wd ws (a + 1)) r = false) := by
  have hm := obj_mem ho
  have e2 : bkAt ws a = ⟨(a : Int), ((szAt ws a : Nat) : Int), (rawBk (wd ws a)).kind, (((rawBk (wd ws a)).typ.toNat : Nat) : Int), (rawBk (wd ws a)).mark, wd ws (a + 1)⟩ := by
    have ht : (rawBk (wd ws a)).typ = (((rawBk (wd ws a)).typ.toNat : Nat) : Int) := by
      unfold rawBk; dsimp only; omega
    rw [← ht]
    rfl
  have key : ∀ r, 7 ≤ r → r < 12 → wrB ws (tysL ws t 8) (objs (hpOut ws)) a (szAt ws a) (rawBk (wd ws a)).typ.toNat (rawBk (wd ws a)).mark (wd ws (a + 1)) r = false := by
    intro r h1 h2
    have := h.wr r h1 h2 _ hm
    rw [e2, wrK_eq] at this
    exact this
  have h7 : ((rawBk (wd ws a)).mark || decide (0 < wd ws (a + 1))) = false := key 7 (by omega) (by omega)
  rw [Bool.or_eq_false_iff, decide_eq_false_iff_not] at h7
  have h8 : (!decide ((rawBk (wd ws a)).typ.toNat < (tysL ws t 8).length) || objSz (((tysL ws t 8)[(rawBk (wd ws a)).typ.toNat]?).getD []).length != szAt ws a) = false := key 8 (by omega) (by omega)
  rw [Bool.or_eq_false_iff, bne_eq_false_iff_eq] at h8
  have ht8 := tyN_le h.ty
  have htt : (rawBk (wd ws a)).typ.toNat < t := by
    have := h8.1
    rw [tysL_len] at this
    simp at this
    omega
  have hg := tys_get (ws := ws) ht8 htt
  rw [hg, Option.getD_some] at h8
  exact ⟨h7.1, by omega, htt, hg, h8.2.symm, key⟩
/-- The references of an object: none, or objects. -/
theorem Lay.ref (h : Lay ws t) {a i : Nat} (ho : isObj ws a) (hi : (flds ws a)[i]? = some 3) (hv : wd ws (a + 2 + i) ≠ 0) : isObj ws (wd ws (a + 2 + i)) := by
  obtain ⟨-, -, -, h4, -, h6⟩ := h.obj ho
  have h11 := h6 11 (by omega) (by omega)
  have h11 : ((List.range (((tysL ws t 8)[(rawBk (wd ws a)).typ.toNat]?).getD []).length).any fun i => wrF ws (((tysL ws t 8)[(rawBk (wd ws a)).typ.toNat]?).getD []) (objs (hpOut ws)) a 11 i) = false := h11
  rw [h4, Option.getD_some, List.any_eq_false] at h11
  have hlt := (List.getElem?_eq_some_iff.1 hi).1
  have := h11 i (List.mem_range.2 hlt)
  unfold wrF at this
  rw [if_neg (by decide), hi] at this
  simp only [beq_self_eq_true, Bool.true_and, Bool.not_eq_true, Bool.and_eq_false_iff, decide_eq_false_iff_not, Bool.not_eq_false'] at this
  rw [← hasO_obj h.hp]
  rcases this with h5 | h5
  · omega
  · exact h5
theorem Lay.slot (h : Lay ws t) {i : Nat} (hi : i < 16) (hu : (slAt ws i).used = true) : isObj ws (slAt ws i).at_.toNat := by
  have := h.sl i hi
  unfold slHas at this
  rw [hu] at this
  rw [← hasO_obj h.hp]
  simpa using this
theorem Lay.rch (h : Lay ws t) {a : Nat} (ha : Rch ws a) : isObj ws a := by
  induction ha with
  | slot i hi hu => exact h.slot hi hu
  | ref _ i _ _ hf hv ih =>
    have ho := h.ref ih hf hv
    have hlt := ho.2.2.1
    have hb := (sizeOk_iff _).1 h.size
    rw [Nat.min_eq_left (by omega)]
    exact ho
/-- All that is reached of a right image is right. -/
theorem Lay.rc (h : Lay ws t) : rcErr ws = 0 := rc_ok h.hp h.sls fun _ ha => (obj_tb h.hp (h.rch ha)).2
end
end Go.Proofs.YtoaepffpjoibaaaGreat
