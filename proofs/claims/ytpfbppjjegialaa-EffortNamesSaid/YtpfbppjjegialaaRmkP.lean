/- Words of which some headers have another mark: the heap is the same but for the marks, and the same is reached. -/
import Derived.Test.YtpfbppjjegialaaKWnt
namespace Go.Proofs.Ytpfbppjjegialaa
open Go.RowKit

theorem mk_word {x : Nat} (h : splitOk x = true) (hk : (rawBk x).kind = 1) (m : Bool) : splitOk (mkVal x m) = true ∧ rawBk (mkVal x m) = { rawBk x with mark := m } ∧ mkErr x m = 0 ∧ mkVal x m < 18446744073709551616 := by
  have h1 : hdOk (rawBk x) = true := by
    unfold splitOk at h
    simp only [Bool.and_eq_true] at h
    exact h.1
  have h2 : hdOk (remark x m) = true := by
    have h3 := (hdOk_iff _).1 h1
    rw [hdOk_iff]
    unfold remark
    dsimp only
    refine ⟨h3.1, .inl ?_⟩
    rcases h3.2 with h4 | h4
    · exact h4
    · rw [hk] at h4; exact absurd h4.1 (by decide)
  have hv : mkVal x m = headW (remark x m) := by unfold mkVal hwVal; rw [if_pos h, if_pos h2]
  refine ⟨by rw [hv]; exact split_head h2, ?_, by unfold mkErr; rw [if_pos h]; exact hdErr_ok h2, by rw [hv]; exact headW_lt h2⟩
  rw [hv, raw_head h2]
  rfl
theorem splitOk_big {x : Nat} (h : splitOk x = true) : 2048 < x := by
  unfold splitOk at h
  simp only [Bool.and_eq_true] at h
  have h3 := (hdOk_iff _).1 h.1
  have h4 : (rawBk x).size = ((x / 65536 % 65536 : Nat) : Int) := rfl
  rw [h4] at h3
  omega

/-- Some headers of objects have another mark. -/
structure Rm (ws xs : List Nat) : Prop where
  len : xs.length = ws.length
  at_ : ∀ i, wd xs i = wd ws i ∨ (128 ≤ i ∧ i % 2 = 0 ∧ splitOk (wd ws i) = true ∧ (rawBk (wd ws i)).kind = 1 ∧ ∃ m, wd xs i = mkVal (wd ws i) m)
section
variable {ws xs : List Nat}
theorem Rm.low (h : Rm ws xs) {i : Nat} (hi : i < 128) : wd xs i = wd ws i := by
  rcases h.at_ i with h1 | h1
  · exact h1
  · omega
theorem Rm.odd (h : Rm ws xs) {i : Nat} (hi : i % 2 = 1) : wd xs i = wd ws i := by
  rcases h.at_ i with h1 | h1
  · exact h1
  · omega
theorem Rm.sp (h : Rm ws xs) (i : Nat) : splitOk (wd xs i) = splitOk (wd ws i) := by
  rcases h.at_ i with h1 | ⟨-, -, h3, h4, m, h5⟩
  · rw [h1]
  · rw [h5, h3, (mk_word h3 h4 m).1]
def mkAt (xs : List Nat) (i : Nat) : Bool := (rawBk (wd xs i)).mark
theorem Rm.raw (h : Rm ws xs) (i : Nat) : rawBk (wd xs i) = { rawBk (wd ws i) with mark := mkAt xs i } := by
  unfold mkAt
  rcases h.at_ i with h1 | ⟨-, -, h3, h4, m, h5⟩
  · rw [h1]
  · rw [h5, (mk_word h3 h4 m).2.1]
theorem Rm.sz (h : Rm ws xs) (i : Nat) : (rawBk (wd xs i)).size = (rawBk (wd ws i)).size := by rw [h.raw i]
theorem Rm.szAt (h : Rm ws xs) (i : Nat) : szAt xs i = szAt ws i := by
  have h1 := h.sz i
  have e : ∀ w, (rawBk w).size = ((w / 65536 % 65536 : Nat) : Int) := fun _ => rfl
  rw [e, e] at h1
  unfold Proofs.Ytpfbppjjegialaa.szAt
  exact Int.ofNat.inj h1
theorem Rm.stands (h : Rm ws xs) (i : Nat) : stands xs i = stands ws i := by
  unfold Proofs.Ytpfbppjjegialaa.stands
  rw [h.sp, h.sz, h.len]
/-- A block with the mark that the other words have. -/
def mkB (xs : List Nat) (b : Bk) : Bk := { b with mark := mkAt xs b.at_.toNat }
theorem Rm.bkAt (h : Rm ws xs) {i : Nat} (hi : i % 2 = 0) : bkAt xs i = mkB xs (bkAt ws i) := by
  unfold mkB
  have h1 : (Proofs.Ytpfbppjjegialaa.bkAt ws i).at_.toNat = i := by rw [bkAt_at, Int.toNat_natCast]
  rw [h1]
  unfold Proofs.Ytpfbppjjegialaa.bkAt
  rw [h.raw i, h.odd (i := i + 1) (by omega)]
theorem Rm.blocks (h : Rm ws xs) : ∀ i l, blocks ws i = some l → i % 2 = 0 → blocks xs i = some (l.map (mkB xs)) := by
  refine blocks_ind (fun i l => i % 2 = 0 → Proofs.Ytpfbppjjegialaa.blocks xs i = some (l.map (mkB xs))) (fun i hi _ => ?_) (fun i l hi hs hb ih h2 => ?_)
  · exact blocks_end (by rw [h.len]; exact hi)
  · have hsz := stands_sz hs
    have ih := ih (by omega)
    rw [blocks_step (by rw [h.len]; exact hi) (by rw [h.stands]; exact hs), h.szAt, ih, h.bkAt h2]
    rfl
theorem tabL_mk (n : Nat) (l : List Bk) : tabL n (l.map (mkB xs)) = tabL n l := by
  unfold tabL
  rw [List.foldl_map]
  rfl
theorem fitB_mk (h : Rm ws xs) {b : Bk} (hb : b.kind = 1 → tyA b + 1 < 128) : fitB xs (mkB xs b) = fitB ws b := by
  have e := fitB_fw (ws := ws) (xs := xs) (fun j hj => h.low hj) hb
  by_cases hk : b.kind = 1
  · have h2 := hb hk
    unfold fitB typedB
    show (b.kind != 1 || (typOk (wd xs (tyA b)) (wd xs (tyA b + 1)) && b.size == ((objSz (wd xs (tyA b) % 256) : Nat) : Int))) = _
    rw [h.low (by omega), h.low (by omega)]
  · rw [fit_other hk, fit_other (b := mkB xs b) hk]
theorem Rm.heap (h : Rm ws xs) (h0 : hpErr ws = 0) : hpErr xs = 0 ∧ hpOut xs = (hpOut ws).map (mkB xs) := by
  obtain ⟨h1, l, h2, h3, h4⟩ := hpErr_zero h0
  have hb := h.blocks 128 l h2 (by omega)
  rw [h4]
  refine hpErr_ok (by rw [h.len]; exact h1) hb ?_
  rw [List.all_map, List.all_eq_true]
  rw [List.all_eq_true] at h3
  intro b hb2
  show fitB xs (mkB xs b) = true
  rw [fitB_mk h (blocks_ty h2 (by omega) b hb2)]
  exact h3 b hb2
theorem Rm.tb (h : Rm ws xs) (h0 : hpErr ws = 0) (a : Nat) : tb xs a = tb ws a := by
  unfold Proofs.Ytpfbppjjegialaa.tb
  rw [(h.heap h0).2, h.len, tabL_mk]
theorem Rm.slAt (h : Rm ws xs) {i : Nat} (hi : i < 16) : slAt xs i = slAt ws i := by
  unfold Proofs.Ytpfbppjjegialaa.slAt
  rw [h.low (by omega)]
theorem Rm.slsOk (h : Rm ws xs) : slsOk xs = slsOk ws := by
  rw [Bool.eq_iff_iff, slsOk_iff, slsOk_iff]
  unfold slsTo
  constructor
  · intro h1 i hi; rw [← h.slAt hi]; exact h1 i hi
  · intro h1 i hi; rw [h.slAt hi]; exact h1 i hi
theorem obj_typ {a : Nat} (h : isObj ws a) : (rawBk (wd ws a)).typ.toNat < 8 := by
  have h7 := (hdOk_iff _).1 (bkAt_hd h.2.2.2.1)
  have h5 := h.2.2.2.2.1
  omega
theorem Rm.flds (h : Rm ws xs) (h0 : hpErr ws = 0) {a : Nat} (ha : Proofs.Ytpfbppjjegialaa.tb ws a ≠ 0) : flds xs a = flds ws a := by
  obtain ⟨ho, -⟩ := tb_obj h0 ha
  have := obj_typ ho
  unfold Proofs.Ytpfbppjjegialaa.flds
  rw [h.raw a]
  dsimp only
  rw [h.low (by omega), h.low (by omega)]
/-- A field of an object that is reached is no header. -/
theorem Rm.ref (h : Rm ws xs) (hg : Good ws) (h0 : hpErr ws = 0) {a i : Nat} (ha : Rch ws a) (ht : Proofs.Ytpfbppjjegialaa.tb ws a ≠ 0) (hf : (Proofs.Ytpfbppjjegialaa.flds ws a)[i]? = some 3) : wd xs (a + 2 + i) = wd ws (a + 2 + i) := by
  rcases h.at_ (a + 2 + i) with h1 | ⟨-, -, h3, -⟩
  · exact h1
  · exfalso
    have hb := splitOk_big h3
    have h4 := hg _ (Rch.ref a i ha ht hf (by omega))
    rw [Nat.min_eq_right (by omega)] at h4
    have := tb_lt h4
    have := (fr_bd ws (hpErr_zero h0).1).2.1
    omega
theorem Rm.rch (h : Rm ws xs) (hg : Good ws) (h0 : hpErr ws = 0) (a : Nat) : Rch xs a ↔ Rch ws a := by
  constructor
  · intro ha
    induction ha with
    | slot i hi hu => rw [h.slAt hi] at hu ⊢; exact Rch.slot i hi hu
    | ref a i ha ht hf hv ih =>
      rw [h.tb h0] at ht
      rw [h.flds h0 ht] at hf
      rw [h.ref hg h0 ih ht hf] at hv ⊢
      exact Rch.ref a i ih ht hf hv
  · intro ha
    induction ha with
    | slot i hi hu => rw [← h.slAt hi] at hu ⊢; exact Rch.slot i hi hu
    | ref a i ha ht hf hv ih =>
      rw [← h.ref hg h0 ha ht hf] at hv ⊢
      exact Rch.ref a i ih (by rw [h.tb h0]; exact ht) (by rw [h.flds h0 ht]; exact hf) hv
theorem rcErr_zero (h : rcErr ws = 0) : hpErr ws = 0 ∧ slsOk ws = true ∧ Good ws := by
  unfold rcErr at h
  by_cases h1 : hpErr ws = 0
  · rw [if_pos h1] at h
    by_cases h2 : Proofs.Ytpfbppjjegialaa.slsOk ws = true
    · rw [if_pos h2] at h
      by_cases h3 : Good ws
      · exact ⟨h1, h2, h3⟩
      · rw [if_neg h3] at h; cases h
    · rw [if_neg h2] at h; cases h
  · rw [if_neg h1] at h; exact absurd h h1
/-- The same is reached. -/
theorem Rm.same (h : Rm ws xs) (h0 : rcErr ws = 0) : rcErr xs = 0 ∧ rcOut xs = rcOut ws ∧ seenL xs = seenL ws ∧ hpErr xs = 0 ∧ hpOut xs = (hpOut ws).map (mkB xs) := by
  obtain ⟨h1, h2, h3⟩ := rcErr_zero h0
  have hr := h.rch h3 h1
  have hh := h.heap h1
  have hg : Good xs := fun a ha => by rw [h.tb h1]; exact h3 a ((hr a).1 ha)
  have he : rcErr xs = 0 := rc_ok hh.1 (by rw [h.slsOk]; exact h2) hg
  have hs : seenL xs = seenL ws := by
    unfold seenL
    rw [h.len]
    refine List.map_congr_left fun a _ => ?_
    exact decide_eq_decide.2 (hr a)
  refine ⟨he, ?_, hs, hh⟩
  rw [rcOut_seen he, rcOut_seen h0, hs, h.len]
end
end Go.Proofs.Ytpfbppjjegialaa
