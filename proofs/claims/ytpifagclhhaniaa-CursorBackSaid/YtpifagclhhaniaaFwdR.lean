/- What reading forwarding words gives, and the plain halves of the laws ForwardTold and ForwardOn. -/
import Derived.Test.YtpifagclhhaniaaFwdQ
namespace Go.Proofs.Ytpifagclhhaniaa

/-- Whether the numbers of a reading are wrong. -/
def rdArg (n : Nat) (f s : Int) : Bool := (f % 2 != 0) || ((s % 2 != 0) || (decide (s < 128) || (decide (f < s) || decide ((n : Int) < f))))
def isImg (n : Nat) : Bool := decide (256 ≤ n) && (decide (n ≤ 2048) && n % 8 == 0)
theorem rdArg_no {n : Nat} {f s : Int} (h : rdArg n f s = false) : f % 2 = 0 ∧ s % 2 = 0 ∧ 128 ≤ s ∧ s ≤ f ∧ f ≤ (n : Int) := by
  simp only [rdArg, Bool.or_eq_false_iff, bne_eq_false_iff_eq, decide_eq_false_iff_not] at h
  omega
theorem rdArg_iff (n : Nat) (f s : Int) : rdArg n f s = true ↔ ¬ (f % 2 = 0 ∧ s % 2 = 0 ∧ 128 ≤ s ∧ s ≤ f ∧ f ≤ (n : Int)) := by
  constructor
  · intro h h2
    have : rdArg n f s = false := by
      simp only [rdArg, Bool.or_eq_false_iff, bne_eq_false_iff_eq, decide_eq_false_iff_not]
      omega
    rw [this] at h; cases h
  · intro h
    cases hq : rdArg n f s with
    | true => rfl
    | false => exact absurd (rdArg_no hq) h
def heapErr (ws : List Nat) (f s : Int) : Int := match blocks ws f.toNat with
  | none => 50
  | some l => if allMv ws l s = true then 0 else 50
def rdErr (ws : List Nat) (f s : Int) : Int := if isImg ws.length = true then (if rdArg ws.length f s = true then 2 else heapErr ws f s) else 8
/-- The moves that are read. -/
def rdMv (ws : List Nat) (f s : Int) : List (Int × Int) := if rdErr ws f s = 0 then (match blocks ws f.toNat with | none => [] | some l => moves l s) else []
theorem rdErr_zero {ws : List Nat} {f s : Int} (h : rdErr ws f s = 0) : isImg ws.length = true ∧ rdArg ws.length f s = false ∧ ∃ l, blocks ws f.toNat = some l ∧ allMv ws l s = true ∧ rdMv ws f s = moves l s := by
  have h0 := h
  unfold rdErr at h
  split at h
  · rename_i h1
    split at h
    · simp at h
    · rename_i h2
      unfold heapErr at h
      cases hb : blocks ws f.toNat with
      | none => rw [hb] at h; simp at h
      | some l =>
        rw [hb] at h
        refine ⟨h1, by simpa using h2, l, rfl, ?_, ?_⟩
        · dsimp only at h
          split at h
          · assumption
          · simp at h
        · unfold rdMv; rw [if_pos h0, hb]
  · simp at h
theorem rdErr_of {ws : List Nat} {f s : Int} (h1 : isImg ws.length = true) (h2 : rdArg ws.length f s = false) {l : List Bk} (h3 : blocks ws f.toNat = some l) : rdErr ws f s = if allMv ws l s = true then 0 else 50 := by
  unfold rdErr heapErr; rw [if_pos h1, h2, h3]; rfl
theorem isImg_bd {n : Nat} (h : isImg n = true) : 256 ≤ n ∧ n ≤ 2048 ∧ n % 8 = 0 := by simp [isImg] at h; omega
/-- A block of a row is one of the heap. -/
theorem blocks_at {ws : List Nat} : ∀ i l, blocks ws i = some l → i % 2 = 0 → ∀ k (h : k < l.length), ∃ a, l[k] = bkAt ws a ∧ a % 2 = 0 ∧ i ≤ a ∧ a < ws.length ∧ stands ws a = true ∧ blocks ws a = some (l.drop k) := by
  refine blocks_ind _ (fun i _ _ k h => by simp at h) (fun i l hi hs hb ih h2 k h => ?_)
  have hsz := stands_sz hs
  cases k with
  | zero => exact ⟨i, rfl, h2, Nat.le_refl _, hi, hs, by rw [blocks_step hi hs, hb]; rfl⟩
  | succ k =>
    obtain ⟨a, h3, h4, h5, h6, h7, h8⟩ := ih (by omega) k (by simpa using h)
    exact ⟨a, h3, h4, by omega, h6, h7, h8⟩
theorem typ_lt {b : Bk} {w : Nat} (h : hdOk (rawBk w) = true) (hk : b.kind = (rawBk w).kind) (ht : b.typ = (rawBk w).typ) (h1 : b.kind = 1) : tyA b + 1 < 128 := by
  have := (hdOk_iff _).1 h
  rw [← hk, ← ht] at this
  unfold tyA; omega
theorem fitB_set {ws : List Nat} {j v : Nat} (hj : 128 ≤ j) {a : Nat} (hs : stands ws a = true) (u : Nat) : fitB (ws.set j v) { bkAt ws a with next := u } = fitB ws (bkAt ws a) := by
  have h1 := bkAt_hd hs
  unfold fitB
  show ((bkAt ws a).kind != 1 || typedB (ws.set j v) { bkAt ws a with next := u }) = _
  by_cases hk : (bkAt ws a).kind = 1
  · have h2 := typ_lt (b := bkAt ws a) h1 rfl rfl hk
    have e1 : wd (ws.set j v) (tyA (bkAt ws a)) = wd ws (tyA (bkAt ws a)) := wd_set_ne ws v (by omega)
    have e2 : wd (ws.set j v) (tyA (bkAt ws a) + 1) = wd ws (tyA (bkAt ws a) + 1) := wd_set_ne ws v (by omega)
    unfold typedB
    show (_ || (typOk (wd (ws.set j v) (tyA (bkAt ws a))) (wd (ws.set j v) (tyA (bkAt ws a) + 1)) && (bkAt ws a).size == ((objSz (wd (ws.set j v) (tyA (bkAt ws a)) % 256) : Nat) : Int))) = _
    rw [e1, e2]
  · have : ((bkAt ws a).kind != 1) = true := by rw [bne_iff_ne]; exact hk
    rw [this, Bool.true_or, Bool.true_or]

/-- ForwardTold: a forwarding word that is another one is told. -/
theorem told_plain {ws : List Nat} {f s : Int} (h : rdErr ws f s = 0) {p : Nat} (hp : p < (rdMv ws f s).length) : ∃ a t : Nat, (rdMv ws f s)[p]? = some ((a : Int), (t : Int)) ∧ 128 ≤ a ∧ a + 1 < ws.length ∧ wd ws (a + 1) = t ∧ t ≤ 2048 ∧
    ∀ v, (v = t → rdErr (ws.set (a + 1) v) f s = 0) ∧ (v ≠ t → rdErr (ws.set (a + 1) v) f s = 50) := by
  obtain ⟨h1, h2, l, h3, h4, h5⟩ := rdErr_zero h
  obtain ⟨a1, a2, a3, a4, a5⟩ := rdArg_no h2
  have hb := isImg_bd h1
  rw [h5] at hp ⊢
  obtain ⟨k, hk, hl, hg, -⟩ := moves_get hp
  obtain ⟨a, e, b1, b2, b3, b4, -⟩ := blocks_at _ _ h3 (by omega) k hk
  have hst := blocks_st (i := f.toNat) hb.2.1 h3 (by omega) (by omega) (by omega) (s := s) a3 a2 (by omega)
  obtain ⟨hre, hs1, hs2, hs3⟩ := stErr_zero hst
  have hbd := endOf_bd hre (Nat.le_of_lt hk) hs1 hs2
  have hnx := (allMv_at h4 hk).2 hl
  have hsz := stands_sz b4
  have hlen : a + 1 < ws.length := by omega
  have hnext : wd ws (a + 1) = l[k].next := by rw [e]; rfl
  have hat : l[k].at_ = (a : Int) := by rw [e]; rfl
  refine ⟨a, l[k].next, by rw [hg, hat, hnx], by omega, hlen, hnext, by omega, fun v => ?_⟩
  have hbs := blocks_set (ws := ws) (j := a + 1) (v := v) (by omega) hlen f.toNat (by omega)
  rw [h3, Option.map_some, map_nextAt hre hk (by rw [hat]; omega)] at hbs
  have hfit : ∀ b ∈ l, ∀ u, fitB (ws.set (a + 1) v) { b with next := u } = fitB ws b := by
    intro b hb u
    obtain ⟨m, hm, rfl⟩ := List.getElem_of_mem hb
    obtain ⟨a', e', -, -, -, b4', -⟩ := blocks_at _ _ h3 (by omega) m hm
    rw [e']
    exact fitB_set (by omega) b4' u
  obtain ⟨g1, -⟩ := allMv_next (ws := ws) (ws' := ws.set (a + 1) v) (fun b hb => by have := hfit b hb b.next; exact this) (fun b u hb => hfit b hb u) h4 hk hl v
  rw [rdErr_of (by rw [List.length_set]; exact h1) (by rw [List.length_set]; exact h2) hbs, g1, ← hnx]
  constructor
  · intro hv; subst hv; simp
  · intro hv
    have : ((v : Int) == (l[k].next : Int)) = false := by rw [beq_eq_false_iff_ne]; omega
    rw [this]; simp
/-- ForwardOn: the moves from a later block on, with the end of the places before it, are the last ones. -/
theorem on_plain {ws : List Nat} {f s : Int} (h : rdErr ws f s = 0) {l : List Bk} (hl : blocks ws f.toNat = some l) {k : Nat} (hk : k < l.length) :
    rdErr ws l[k].at_ (endOf (l.take k) s) = 0 ∧ rdMv ws l[k].at_ (endOf (l.take k) s) = (rdMv ws f s).drop (moves (l.take k) s).length := by
  obtain ⟨h1, h2, l', h3, h4, h5⟩ := rdErr_zero h
  rw [hl] at h3
  cases h3
  obtain ⟨a1, a2, a3, a4, a5⟩ := rdArg_no h2
  have hb := isImg_bd h1
  obtain ⟨a, e, b1, b2, b3, b4, b5⟩ := blocks_at _ _ hl (by omega) k hk
  have hst := blocks_st (i := f.toNat) hb.2.1 hl (by omega) (by omega) (by omega) (s := s) a3 a2 (by omega)
  obtain ⟨hre, hs1, hs2, hs3⟩ := stErr_zero hst
  have hbd := endOf_bd hre (Nat.le_of_lt hk) hs1 hs2
  have hev := endOf_even hre hs3 (Nat.le_of_lt hk)
  have hle := rowNext_end hre hs2 hk
  have hat : l[k].at_ = (a : Int) := by rw [e]; rfl
  rw [gk_get l k hk, hat] at hle
  rw [hat]
  have hbl : blocks ws ((a : Int)).toNat = some (l.drop k) := by rw [Int.toNat_natCast]; exact b5
  have harg : rdArg ws.length (a : Int) (endOf (l.take k) s) = false := by
    cases hq : rdArg ws.length (a : Int) (endOf (l.take k) s) with
    | false => rfl
    | true => exact absurd ⟨by omega, hev, hbd.1, hle, by omega⟩ ((rdArg_iff _ _ _).1 hq)
  have hall : allMv ws (l.drop k) (endOf (l.take k) s) = true := by
    rw [← List.take_append_drop k l, allMv_append, Bool.and_eq_true] at h4
    exact h4.2
  have hz : rdErr ws (a : Int) (endOf (l.take k) s) = 0 := by rw [rdErr_of h1 harg hbl, if_pos hall]
  refine ⟨hz, ?_⟩
  rw [h5]
  unfold rdMv
  rw [if_pos hz, hbl]
  dsimp only
  have : moves l s = moves (l.take k) s ++ moves (l.drop k) (endOf (l.take k) s) := by rw [← moves_append, List.take_append_drop]
  rw [this, List.drop_left]
end Go.Proofs.Ytpifagclhhaniaa
