/- Texts laid together: FixP Fix Fix2 Fix3 Fix4 FxSP FxOP. -/
import Derived.Test.YtoaepffpjoibaaaGreatKRch
import Derived.Test.YtoaepffpjoibaaaGreatKMove
import Derived.Test.YtoaepffpjoibaaaGreatKHeap
namespace Go.Proofs.YtoaepffpjoibaaaGreat

def fxErr (ws : List Nat) : Int := if hpErr ws = 0 then rdErr ws 128 128 else hpErr ws
def fxMv (ws : List Nat) : List (Int × Int) := if fxErr ws = 0 then rdMv ws 128 128 else []
theorem fxErr_zero {ws : List Nat} (h : fxErr ws = 0) : hpErr ws = 0 ∧ rdErr ws 128 128 = 0 ∧ fxMv ws = rdMv ws 128 128 := by
  have h1 : hpErr ws = 0 ∧ rdErr ws 128 128 = 0 := by
    unfold fxErr at h
    split at h
    · rename_i h1; exact ⟨h1, h⟩
    · rename_i h1; exact absurd h h1
  exact ⟨h1.1, h1.2, by simp [fxMv, h]⟩
theorem mvTo_mem : ∀ {l : List (Int × Int)} {a t : Int}, mvTo l a = some t → (a, t) ∈ l := by
  intro l
  induction l with
  | nil => intro a t h; cases h
  | cons m l ih =>
    intro a t h
    simp only [mvTo] at h
    split at h
    · rename_i e
      injection h with h
      rw [← e, ← h]
      simp
    · exact List.mem_cons_of_mem _ (ih h)
/-- Where an address goes: an address of the heap. -/
theorem fx_to {ws : List Nat} (h : fxErr ws = 0) {a t : Int} (ht : mvTo (fxMv ws) a = some t) : ∃ n : Nat, t = (n : Int) ∧ 128 ≤ n ∧ n < ws.length ∧ n < 2048 ∧ ∃ m : Nat, a = (m : Int) ∧ 128 ≤ m ∧ m < ws.length := by
  obtain ⟨h1, h2, h3⟩ := fxErr_zero h
  rw [h3] at ht
  obtain ⟨p, e⟩ := List.mem_iff_getElem?.1 (mvTo_mem ht)
  have hp := (List.getElem?_eq_some_iff.1 e).1
  obtain ⟨m, n, g1, g2, g3, -, -, -⟩ := told_plain h2 hp
  obtain ⟨i1, i2, l, i3, i4, i5⟩ := rdErr_zero h2
  have hb := isImg_bd i1
  have i3' : blocks ws 128 = some l := i3
  have hrow := blocks_row (ws := ws) (by omega) i3' (by omega) (by omega) (by omega)
  have hmost : (128 : Int) ≤ most l := by
    unfold most
    split
    · omega
    · rename_i hl
      obtain ⟨a0, e0, -, e1, -⟩ := blocks_at _ _ i3' (by omega) 0 (by omega)
      rw [gk_get l 0 (by omega), e0, bkAt_at]; omega
  obtain ⟨k1, k2, k3⟩ := moves_like hrow hmost
  rw [e] at g1
  injection g1 with g1
  injection g1 with g4 g5
  rw [i5] at hp e
  have e := (List.getElem?_eq_some_iff.1 e).2
  have hle := (k1 p hp).1
  rw [e] at hle
  have hge : (128 : Int) ≤ t := by
    rcases Nat.eq_zero_or_pos p with h0 | h0
    · subst h0
      have := k3 hp
      rw [e] at this
      dsimp only at this
      omega
    · have h5 := (k2 0 p hp h0).1
      have h6 := k3 (by omega)
      rw [e] at h5
      dsimp only at h5
      omega
  dsimp only at hle
  exact ⟨n, g5, by omega, by omega, by omega, m, g4, g2, by omega⟩
def fixOf (m : List (Int × Int)) (v : Nat) : Option Int := if 2048 < v then none else mvTo m (v : Int)

/-! The object at an address, and its references -/
def objF (l : List Bk) (a : Int) : Option Bk := l.find? fun b => b.at_ == a && b.kind == 1
def noObj (l : List Bk) (a : Int) (k : Nat) : Prop := ∀ j, j < k → ((gk l j).at_ == a && (gk l j).kind == 1) = false
theorem noObj_zero (l : List Bk) (a : Int) : noObj l a 0 := fun j h => absurd h (by omega)
theorem noObj_succ {l : List Bk} {a : Int} {k : Nat} (h : noObj l a k) (h2 : ((gk l k).at_ == a && (gk l k).kind == 1) = false) : noObj l a (k + 1) := fun j hj => by
  rcases Nat.lt_or_ge j k with h3 | h3
  · exact h j h3
  · have : j = k := by omega
    subst this; exact h2
theorem objF_none : ∀ {l : List Bk} {a : Int}, noObj l a l.length → objF l a = none := by
  intro l
  induction l with
  | nil => intro a _; rfl
  | cons b l ih =>
    intro a h
    have h0 : (b.at_ == a && b.kind == 1) = false := h 0 (by simp)
    unfold objF
    rw [List.find?_cons, h0]
    exact ih fun j hj => by have := h (j + 1) (by simpa using hj); rwa [gk_cons] at this
theorem objF_at : ∀ {l : List Bk} {a : Int} {k : Nat}, k < l.length → noObj l a k → ((gk l k).at_ == a && (gk l k).kind == 1) = true → objF l a = some (gk l k) := by
  intro l
  induction l with
  | nil => intro a k h; simp at h
  | cons b l ih =>
    intro a k hk h hm
    cases k with
    | zero =>
      rw [gk_zero] at hm ⊢
      unfold objF
      rw [List.find?_cons, hm]
    | succ k =>
      have h0 : (b.at_ == a && b.kind == 1) = false := h 0 (by omega)
      unfold objF
      rw [List.find?_cons, h0]
      rw [gk_cons] at hm ⊢
      exact ih (by simpa using hk) (fun j hj => by have := h (j + 1) (by omega); rwa [gk_cons] at this) hm
def obj6 (ws : List Nat) (a : Int) : Bk := (objF (frOut ws 128) a).getD noBk
def obj6Err (ws : List Nat) (a : Int) : Int := if (objF (frOut ws 128) a).isSome then 0 else 6
theorem objF_some {l : List Bk} {a : Int} {b : Bk} (h : objF l a = some b) : b ∈ l ∧ b.at_ = a ∧ b.kind = 1 := by
  unfold objF at h
  have h1 := List.find?_some h
  simp only [Bool.and_eq_true, beq_iff_eq] at h1
  exact ⟨List.mem_of_find?_eq_some h, h1.1, h1.2⟩
/-- The references among the first j fields. -/
def rfTo (F : List Nat) (a : Int) (j : Nat) : List Int := (List.range j).filterMap fun (i : Nat) => if F[i]? = some 3 then some (a + 2 + (i : Int)) else none
theorem rfTo_succ (F : List Nat) (a : Int) (j : Nat) : rfTo F a (j + 1) = rfTo F a j ++ (if F[j]? = some 3 then [a + 2 + (j : Int)] else []) := by
  unfold rfTo
  rw [List.range_succ, List.filterMap_append]
  congr 1
  simp only [List.filterMap_cons, List.filterMap_nil]
  split <;> simp_all
theorem rfTo_len (F : List Nat) (a : Int) (j : Nat) : (rfTo F a j).length ≤ j := by
  unfold rfTo
  have := List.length_filterMap_le (fun (i : Nat) => if F[i]? = some 3 then some (a + 2 + (i : Int)) else none) (List.range j)
  rwa [List.length_range] at this
theorem rfTo_mem {F : List Nat} {a x : Int} {j : Nat} : x ∈ rfTo F a j ↔ ∃ i, i < j ∧ F[i]? = some 3 ∧ x = a + 2 + (i : Int) := by
  unfold rfTo
  rw [List.mem_filterMap]
  constructor
  · rintro ⟨i, h1, h2⟩
    split at h2
    · rename_i h3
      injection h2 with h2
      exact ⟨i, List.mem_range.1 h1, h3, h2.symm⟩
    · cases h2
  · rintro ⟨i, h1, h2, h3⟩
    exact ⟨i, List.mem_range.2 h1, by rw [if_pos h2, h3]⟩
def fldB (ws : List Nat) (b : Bk) : List Nat := krOut (wd ws (tyA b)) (wd ws (tyA b + 1))
def rfsB (ws : List Nat) (b : Bk) : List Int := rfTo (fldB ws b) b.at_ (fldB ws b).length
theorem obj_in {ws : List Nat} (h : hpErr ws = 0) {a : Int} {b : Bk} (ho : objF (frOut ws 128) a = some b) : ∃ m : Nat, a = (m : Int) ∧ b = bkAt ws m ∧ isObj ws m := by
  obtain ⟨h1, h2, h3⟩ := objF_some ho
  rw [(hp_fr h).2.1] at h1
  obtain ⟨k, hk, rfl⟩ := List.getElem_of_mem h1
  obtain ⟨m, e1, e2⟩ := obj_of h hk h3
  exact ⟨m, by rw [← h2, e1]; rfl, e1, e2⟩

/-! The fields of an object, fixed -/
def obStep (ws : List Nat) (m : List (Int × Int)) (r : Nat) : Option (List En) := if wd ws r = 0 then some [] else match fixOf m (wd ws r) with
  | none => none
  | some t => if (wd ws r : Int) = t then some [] else some [⟨(r : Int), t.toNat⟩]
def obFix (ws : List Nat) (m : List (Int × Int)) : List Int → Option (List En)
  | [] => some []
  | r :: l => match obStep ws m r.toNat with
    | none => none
    | some x => (obFix ws m l).map (x ++ ·)
theorem obFix_append (ws : List Nat) (m : List (Int × Int)) (a b : List Int) : obFix ws m (a ++ b) = match obFix ws m a with
    | none => none
    | some x => (obFix ws m b).map (x ++ ·) := by
  induction a with
  | nil => simp [obFix]
  | cons r a ih =>
    simp only [List.cons_append, obFix]
    cases obStep ws m r.toNat with
    | none => rfl
    | some x =>
      rw [ih]
      cases obFix ws m a with
      | none => rfl
      | some y =>
        cases obFix ws m b with
        | none => rfl
        | some z => simp
theorem obFix_take {ws : List Nat} {m : List (Int × Int)} {l : List Int} {k : Nat} (hk : k < l.length) {o : List En} (h : obFix ws m (l.take k) = some o) : obFix ws m (l.take (k + 1)) = (obStep ws m l[k].toNat).map (o ++ ·) := by
  rw [List.take_succ_eq_append_getElem hk, obFix_append, h]
  simp only [obFix]
  cases obStep ws m l[k].toNat <;> simp
theorem obFix_bad {ws : List Nat} {m : List (Int × Int)} {l : List Int} {k : Nat} (hk : k < l.length) {o : List En} (h : obFix ws m (l.take k) = some o) (h2 : obStep ws m l[k].toNat = none) : obFix ws m l = none := by
  conv => lhs; rw [← List.take_append_drop (k + 1) l]
  rw [obFix_append, obFix_take hk h, h2]
  rfl
theorem obFix_len {ws : List Nat} {m : List (Int × Int)} : ∀ {l : List Int} {o : List En}, obFix ws m l = some o → o.length ≤ l.length := by
  intro l
  induction l with
  | nil => intro o h; simp only [obFix, Option.some.injEq] at h; subst h; simp
  | cons r l ih =>
    intro o h
    simp only [obFix] at h
    cases hs : obStep ws m r.toNat with
    | none => rw [hs] at h; cases h
    | some x =>
      rw [hs] at h
      cases hl : obFix ws m l with
      | none => rw [hl] at h; cases h
      | some y =>
        rw [hl] at h
        simp only [Option.map_some, Option.some.injEq] at h
        subst h
        have h1 := ih hl
        have h2 : x.length ≤ 1 := by
          unfold obStep at hs
          split at hs
          · injection hs with hs; subst hs; simp
          · split at hs
            · cases hs
            · split at hs <;> (injection hs with hs; subst hs; simp)
        rw [List.length_append, List.length_cons]; omega
def obErr (ws : List Nat) (a : Int) : Int := if fxErr ws = 0 then (match objF (frOut ws 128) a with
    | none => 6
    | some b => if b.mark = true then (match obFix ws (fxMv ws) (rfsB ws b) with | none => 50 | some _ => 0) else 6) else fxErr ws
def obOut (ws : List Nat) (a : Int) : List En := if fxErr ws = 0 then (match objF (frOut ws 128) a with
    | none => []
    | some b => if b.mark = true then (obFix ws (fxMv ws) (rfsB ws b)).getD [] else []) else []
theorem ob_err {ws : List Nat} {a r : Int} (h : fxErr ws = r) (h0 : r ≠ 0) : obErr ws a = r ∧ obOut ws a = [] := by subst h; simp [obErr, obOut, h0]
theorem ob_none {ws : List Nat} {a : Int} (h : fxErr ws = 0) (h1 : objF (frOut ws 128) a = none) : obErr ws a = 6 ∧ obOut ws a = [] := by simp [obErr, obOut, h, h1]
theorem ob_unmk {ws : List Nat} {a : Int} (h : fxErr ws = 0) {b : Bk} (h1 : objF (frOut ws 128) a = some b) (h2 : b.mark = false) : obErr ws a = 6 ∧ obOut ws a = [] := by simp [obErr, obOut, h, h1, h2]
theorem ob_bad {ws : List Nat} {a : Int} (h : fxErr ws = 0) {b : Bk} (h1 : objF (frOut ws 128) a = some b) (h2 : b.mark = true) (h3 : obFix ws (fxMv ws) (rfsB ws b) = none) : obErr ws a = 50 ∧ obOut ws a = [] := by simp [obErr, obOut, h, h1, h2, h3]
theorem ob_ok {ws : List Nat} {a : Int} (h : fxErr ws = 0) {b : Bk} (h1 : objF (frOut ws 128) a = some b) (h2 : b.mark = true) {o : List En} (h3 : obFix ws (fxMv ws) (rfsB ws b) = some o) : obErr ws a = 0 ∧ obOut ws a = o := by simp [obErr, obOut, h, h1, h2, h3]
def rsErr (ws : List Nat) (a : Int) : Int := if hpErr ws = 0 then obj6Err ws a else hpErr ws
def rsOut (ws : List Nat) (a : Int) : List Int := if hpErr ws = 0 then (match objF (frOut ws 128) a with | none => [] | some b => rfsB ws b) else []

/-! The slots, fixed -/
def slWd (s : Sl) : Nat := s.at_.toNat + s.gen.toNat * 4294967296 + (if s.used = true then 9223372036854775808 else 0)
def slStep (ws : List Nat) (m : List (Int × Int)) (i : Nat) : Option (List En) := if (slAt ws i).used = true then (match fixOf m (slAt ws i).at_.toNat with
    | none => none
    | some t => if wd ws (112 + i) = slWd ⟨(slAt ws i).gen, true, t⟩ then some [] else some [⟨((112 + i : Nat) : Int), slWd ⟨(slAt ws i).gen, true, t⟩⟩]) else some []
def slFix (ws : List Nat) (m : List (Int × Int)) : Nat → Option (List En)
  | 0 => some []
  | k + 1 => match slFix ws m k with
    | none => none
    | some o => (slStep ws m k).map (o ++ ·)
theorem slFix_none {ws : List Nat} {m : List (Int × Int)} {k : Nat} (h : slFix ws m k = none) : ∀ {n : Nat}, k ≤ n → slFix ws m n = none := by
  intro n
  induction n with
  | zero => intro hk; have : k = 0 := by omega
            subst this; exact h
  | succ n ih =>
    intro hk
    rcases Nat.lt_or_ge n k with h1 | h1
    · have : k = n + 1 := by omega
      subst this; exact h
    · simp only [slFix, ih h1]
theorem slFix_len {ws : List Nat} {m : List (Int × Int)} : ∀ {k : Nat} {o : List En}, slFix ws m k = some o → o.length ≤ k := by
  intro k
  induction k with
  | zero => intro o h; simp only [slFix, Option.some.injEq] at h; subst h; simp
  | succ k ih =>
    intro o h
    simp only [slFix] at h
    cases hk : slFix ws m k with
    | none => rw [hk] at h; cases h
    | some x =>
      rw [hk] at h
      cases hs : slStep ws m k with
      | none => rw [hs] at h; cases h
      | some y =>
        rw [hs] at h
        simp only [Option.map_some, Option.some.injEq] at h
        subst h
        have h1 := ih hk
        have h2 : y.length ≤ 1 := by
          unfold slStep at hs
          split at hs
          · split at hs
            · cases hs
            · split at hs <;> (injection hs with hs; subst hs; simp)
          · injection hs with hs; subst hs; simp
        rw [List.length_append]; omega
def fsErr (ws : List Nat) : Int := if fxErr ws = 0 then (if slsOk ws = true then (match slFix ws (fxMv ws) 16 with | none => 50 | some _ => 0) else 50) else fxErr ws
def fsOut (ws : List Nat) : List En := if fsErr ws = 0 then (slFix ws (fxMv ws) 16).getD [] else []
end Go.Proofs.YtoaepffpjoibaaaGreat

namespace Go.Proofs.YtoaepffpjoibaaaGreat
open Go.RowKit

set_option maxRecDepth 100000 in
set_option maxHeartbeats 2000000 in
theorem fixOf_c (A : Option Addr) (m : List (Int × Int)) (c n v : Nat) (w : World) (hn : m.length = n) (hm : n ≤ 1000000) (hv : v < 18446744073709551616) (hr : RdM w w.heap.size A m) :
    Calls Tryz.prog 54 #[.slice A n c, .int .u64 (v : Int)] w fun e w' => e = .returned (.tuple #[.int .i64 ((fixOf m v).getD 0), .bool (fixOf m v).isSome]) ∧ Below w.heap.size w w' := by
  have HC := Lib.hid (fun a => fwTo_c A m c n w.heap.size a w hn hm hr (Nat.le_refl _))
  by_cases h : 2048 < v
  · have H : Hid (fixOf m v = none) := Lib.hid (by simp [fixOf, h])
    have h1 : decide ((2048 : Int) < (v : Int)) = true := by rw [decide_eq_true_iff]; omega
    have h1n : decide (2048 < v) = true := by rw [decide_eq_true_iff]; exact h
    clear hv hr hn hm h
    go_enter Tryz.func54, Tryz.ntmps54
    go_wp2_with fail
    go_ret2
    exact ⟨by rw [H.out]; rfl, Below.refl _ _⟩
  · have H : Hid (fixOf m v = mvTo m (v : Int)) := Lib.hid (by simp [fixOf, h])
    have h1 : decide ((2048 : Int) < (v : Int)) = false := by rw [decide_eq_false_iff_not]; omega
    have h1n : decide (2048 < v) = false := by rw [decide_eq_false_iff_not]; exact h
    have hw : IntKind.i64.wrap (v : Int) = (v : Int) := IntWalk.i64_in _ (by omega)
    have HC2 := Lib.hid (HC.out (v : Int))
    rw [← H.out] at HC2
    obtain ⟨q, hq⟩ : ∃ q, fixOf m v = q := ⟨_, rfl⟩
    rw [hq] at HC2 ⊢
    clear hv hr hn hm h hq HC H
    go_enter Tryz.func54, Tryz.ntmps54
    go_wp2_with fail
    refine HC2.out.mono ?_
    rintro e w1 ⟨rfl, hB1⟩
    go_wp2_with fail
    go_ret2
    exact ⟨rfl, hB1⟩

def FxRes (ws : List Nat) (e : Ending) (w' : World) : Prop := ∃ A c, e = .returned (.tuple #[.slice A (fxMv ws).length c, .int .i64 (fxErr ws)]) ∧ RdM w' w'.heap.size A (fxMv ws) ∧ (fxMv ws).length ≤ c
set_option maxRecDepth 100000 in
set_option maxHeartbeats 2000000 in
theorem fxRead_c (A : Option Addr) (ws : List Nat) (c n : Nat) (w : World) (hn : ws.length = n) (hm : n ≤ 9223372036854775807) (hr : RdW w w.heap.size A ws) (ho : ∀ x ∈ ws, x < 18446744073709551616) :
    Calls Tryz.prog 53 #[.slice A n c] w fun e w' => FxRes ws e w' ∧ Below w.heap.size w w' := by
  have HR := Lib.hid hr
  have HCK := Lib.hid (mCheck_c A ws c n w hn hm hr ho)
  have HRD := Lib.hid (fun W (h : RdW W W.heap.size A ws) => fwRead_c A ws c n 128 128 W hn hm (by omega) (by omega) h ho)
  unfold RdRes at HRD
  clear hr ho hn hm
  by_cases h0 : hpErr ws = 0
  · have HE : Hid (fxErr ws = rdErr ws 128 128 ∧ fxMv ws = rdMv ws 128 128) := Lib.hid (by
      have h1 : fxErr ws = rdErr ws 128 128 := by simp [fxErr, h0]
      refine ⟨h1, ?_⟩
      unfold fxMv
      rw [h1]
      split
      · rfl
      · rename_i h2; simp [rdMv, h2])
    rw [h0] at HCK
    clear h0
    go_enter Tryz.func53, Tryz.ntmps53
    go_wp2_with fail
    refine HCK.out.mono ?_
    rintro e w1 ⟨rfl, hB1⟩
    have HB1 := Lib.hid hB1
    have HR1 := Lib.hid (HR.out.up hB1 hB1.size)
    clear hB1
    go_wp2_with fail
    refine (HRD.out _ HR1.out).mono ?_
    rintro e w2 ⟨⟨A2, c2, rfl, hrd, hcl⟩, hB2⟩
    have HB2 := Lib.hid (HB1.out.trans (hB2.mono HB1.out.size))
    have HM2 := Lib.hid hrd
    have HC2 := Lib.hid hcl
    clear hB2 hrd hcl
    go_wp2_with fail
    go_ret2
    exact ⟨⟨A2, c2, by rw [HE.out.1, HE.out.2]; rfl, by rw [HE.out.2]; exact HM2.out, by rw [HE.out.2]; exact HC2.out⟩, HB2.out⟩
  · obtain ⟨r, hr⟩ : ∃ r, hpErr ws = r := ⟨_, rfl⟩
    have HE : Hid (fxErr ws = r ∧ fxMv ws = []) := Lib.hid (by
      have h1 : fxErr ws = r := by unfold fxErr; rw [if_neg h0, hr]
      exact ⟨h1, by unfold fxMv; rw [h1, if_neg (by rw [← hr]; exact h0)]⟩)
    rw [hr] at HCK h0
    have hrn : (r != 0) = true := by rw [bne_iff_ne]; exact h0
    clear h0 hr
    go_enter Tryz.func53, Tryz.ntmps53
    go_wp2_with fail
    refine HCK.out.mono ?_
    rintro e w1 ⟨rfl, hB1⟩
    go_wp2_with fail
    go_ret2
    exact ⟨⟨none, 0, by rw [HE.out.1, HE.out.2]; rfl, by rw [HE.out.2]; exact Rd.nil_, by rw [HE.out.2]; exact Nat.le_refl _⟩, hB1⟩

/-! The word of a slot -/
theorem slWd_or {a g : Nat} (ha : a < 4294967296) (hg : g < 2147483648) : bits BinOp.or .u64 (a : Int) ((g : Int) * 4294967296) = ((a + g * 4294967296 : Nat) : Int) ∧
    bits BinOp.or .u64 ((a + g * 4294967296 : Nat) : Int) 9223372036854775808 = ((a + g * 4294967296 + 9223372036854775808 : Nat) : Int) := by
  refine ⟨or32 ha (by omega), ?_⟩
  have h := u64_or_nat (a + g * 4294967296) 9223372036854775808 (by omega) (by omega)
  have e : (a + g * 4294967296) ||| 9223372036854775808 = a + g * 4294967296 + 9223372036854775808 := by
    rw [show (9223372036854775808 : Nat) = 1 * 2 ^ 63 by decide, or_join (i := 63) (by omega)]
  rw [e] at h
  exact h
theorem slWd_true {a g p q : Nat} (hp : a + g * 4294967296 = p) (hq : p + 9223372036854775808 = q) : slWd ⟨(g : Int), true, (a : Int)⟩ = q := by
  unfold slWd
  dsimp only
  rw [Int.toNat_natCast, Int.toNat_natCast, if_pos rfl, hp, hq]
theorem slWd_false {a g p : Nat} (hp : a + g * 4294967296 = p) : slWd ⟨(g : Int), false, (a : Int)⟩ = p := by
  unfold slWd
  dsimp only
  rw [Int.toNat_natCast, Int.toNat_natCast, if_neg (by simp), hp, Nat.add_zero]
set_option maxRecDepth 100000 in
set_option maxHeartbeats 2000000 in
theorem hPack0_c (g a p : Nat) (w : World) (hg : g < 2147483648) (ha : a < 4294967296) (o1 : bits BinOp.or .u64 (a : Int) ((g : Int) * 4294967296) = (p : Int)) :
    Calls Tryz.prog 77 #[.agg #[.int .i64 (g : Int), .bool false, .int .i64 (a : Int)]] w fun e w' => e = .returned (.int .u64 (p : Int)) ∧ Below w.heap.size w w' := by
  have hw1 : IntKind.u64.wrap (a : Int) = (a : Int) := IntWalk.u64_in _ (by omega)
  have hw2 : IntKind.u64.wrap (g : Int) = (g : Int) := IntWalk.u64_in _ (by omega)
  have hw3 : IntKind.u64.wrap ((g : Int) * 4294967296) = (g : Int) * 4294967296 := IntWalk.u64_in _ (by omega)
  have HB := Lib.hid ((Below.refl w.heap.size w).alloc (Nat.le_refl _) (.cells #[.int .i64 (g : Int), .bool false, .int .i64 (a : Int)] 90))
  clear ha hg
  go_enter Tryz.func77, Tryz.ntmps77
  go_wp2_with fail
  go_ret
  exact ⟨rfl, HB.out⟩
set_option maxRecDepth 100000 in
set_option maxHeartbeats 2000000 in
theorem hPack1_c (g a p q : Nat) (w : World) (hg : g < 2147483648) (ha : a < 4294967296) (o1 : bits BinOp.or .u64 (a : Int) ((g : Int) * 4294967296) = (p : Int)) (o2 : bits BinOp.or .u64 (p : Int) 9223372036854775808 = (q : Int)) :
    Calls Tryz.prog 77 #[.agg #[.int .i64 (g : Int), .bool true, .int .i64 (a : Int)]] w fun e w' => e = .returned (.int .u64 (q : Int)) ∧ Below w.heap.size w w' := by
  have hw1 : IntKind.u64.wrap (a : Int) = (a : Int) := IntWalk.u64_in _ (by omega)
  have hw2 : IntKind.u64.wrap (g : Int) = (g : Int) := IntWalk.u64_in _ (by omega)
  have hw3 : IntKind.u64.wrap ((g : Int) * 4294967296) = (g : Int) * 4294967296 := IntWalk.u64_in _ (by omega)
  have HB := Lib.hid ((Below.refl w.heap.size w).alloc (Nat.le_refl _) (.cells #[.int .i64 (g : Int), .bool true, .int .i64 (a : Int)] 90))
  clear ha hg
  go_enter Tryz.func77, Tryz.ntmps77
  go_wp2_with fail
  go_ret
  exact ⟨rfl, HB.out⟩
theorem hPack_c (g a : Nat) (u : Bool) (w : World) (hg : g < 2147483648) (ha : a < 4294967296) :
    Calls Tryz.prog 77 #[.agg #[.int .i64 (g : Int), .bool u, .int .i64 (a : Int)]] w fun e w' => e = .returned (.int .u64 (slWd ⟨(g : Int), u, (a : Int)⟩ : Nat)) ∧ Below w.heap.size w w' := by
  obtain ⟨o1, o2⟩ := slWd_or ha hg
  obtain ⟨p, hp⟩ : ∃ p, a + g * 4294967296 = p := ⟨_, rfl⟩
  rw [hp] at o1 o2
  obtain ⟨q, hq⟩ : ∃ q, p + 9223372036854775808 = q := ⟨_, rfl⟩
  rw [hq] at o2
  cases u
  · rw [slWd_false hp]
    exact hPack0_c g a p w hg ha o1
  · rw [slWd_true hp hq]
    exact hPack1_c g a p q w hg ha o1 o2
set_option maxRecDepth 100000 in
set_option maxHeartbeats 2000000 in
theorem hWord_c (g a : Nat) (u : Bool) (w : World) (hg : g < 2147483648) (ha : a < 4294967296) (hok : slOk ⟨(g : Int), u, (a : Int)⟩ = true) :
    Calls Tryz.prog 55 #[.agg #[.int .i64 (g : Int), .bool u, .int .i64 (a : Int)]] w fun e w' => e = .returned (.tuple #[.int .u64 (slWd ⟨(g : Int), u, (a : Int)⟩ : Nat), .int .i64 0]) ∧ Below w.heap.size w w' := by
  have HRT := Lib.hid (fun W => hRight_c (g : Int) u (a : Int) W (by omega) (by omega))
  rw [hok] at HRT
  have HPK := Lib.hid (fun W => hPack_c g a u W hg ha)
  have b0 := Bx.new w 90 #[.int .i64 (g : Int), .bool u, .int .i64 (a : Int)]
  have B0 := Lib.hid b0
  have HB := Lib.hid ((Below.refl w.heap.size w).alloc (Nat.le_refl _) (.cells #[.int .i64 (g : Int), .bool u, .int .i64 (a : Int)] 90))
  obtain ⟨V, hV⟩ : ∃ V, slWd ⟨(g : Int), u, (a : Int)⟩ = V := ⟨_, rfl⟩
  rw [hV] at HPK ⊢
  clear b0 hV hok hg ha
  go_enter Tryz.func55, Tryz.ntmps55
  go_wp2_with fail
  refine (HRT.out _).mono ?_
  rintro e w1 ⟨rfl, hB1⟩
  have hb1 := B0.out.up hB1 B0.out.lt
  obtain ⟨p0, p1, p2, -⟩ := hb1.c3
  have HB1 := Lib.hid (HB.out.trans (hB1.mono HB.out.size))
  clear hB1 hb1
  go_wp2_with fail
  refine (HPK.out _).mono ?_
  rintro e w2 ⟨rfl, hB2⟩
  go_wp2_with fail
  go_ret2
  exact ⟨rfl, HB1.out.trans (hB2.mono HB1.out.size)⟩
end Go.Proofs.YtoaepffpjoibaaaGreat

namespace Go.Proofs.YtoaepffpjoibaaaGreat
open Go.RowKit

set_option maxRecDepth 100000 in
set_option maxHeartbeats 4000000 in
theorem fxObj_c (A : Option Addr) (ws : List Nat) (c n : Nat) (a : Int) (w : World) (hn : ws.length = n) (hm : n ≤ 9223372036854775807) (hr : RdW w w.heap.size A ws) (ho : ∀ x ∈ ws, x < 18446744073709551616) :
    Calls Tryz.prog 56 #[.slice A n c, .int .i64 a] w fun e w' => e = .returned (.tuple #[(obj6 ws a).val, .int .i64 (obj6Err ws a)]) ∧ Below w.heap.size w w' := by
  have HFR := Lib.hid (from_c A ws c n 128 (w.alloc (.cells #[.int .i64 0, .int .i64 0, .int .i64 0, .int .i64 0, .bool false, .int .u64 0] 48)) hn hm ((hr.alloc (Nat.le_refl _) _).more (by simp)) ho)
  unfold FrRes at HFR
  rw [World.size_alloc] at HFR
  have hlen := frOut_len ws 128
  have HN : Hid (noObj (frOut ws 128) a (frOut ws 128).length → obj6 ws a = noBk ∧ obj6Err ws a = 6) := Lib.hid fun h => by simp [obj6, obj6Err, objF_none h]
  have HY : Hid (∀ k, k < (frOut ws 128).length → noObj (frOut ws 128) a k → ((gk (frOut ws 128) k).at_ == a && (gk (frOut ws 128) k).kind == 1) = true → obj6 ws a = gk (frOut ws 128) k ∧ obj6Err ws a = 0) := Lib.hid fun k h1 h2 h3 => by simp [obj6, obj6Err, objF_at h1 h2 h3]
  obtain ⟨l, hl⟩ : ∃ l, frOut ws 128 = l := ⟨_, rfl⟩
  obtain ⟨r, hr'⟩ : ∃ r, frErr ws 128 = r := ⟨_, rfl⟩
  rw [hl, hr'] at HFR
  rw [hl] at hlen HN HY
  have hi6 := infoBlkS
  clear hl hr' hr ho hn hm
  go_enter Tryz.func56, Tryz.ntmps56
  go_wp2_with fail
  refine HFR.out.mono ?_
  rintro e w1 ⟨⟨A1, c1, rfl, hrd, -⟩, hB1⟩
  have hb1 := below_call hB1
  have hz1 := hb1.size
  have b0 := Lib.hid (Bx.of_new hB1)
  have hz1' := b0.out.lt
  have HRD := Lib.hid hrd
  have HB1 := Lib.hid hb1
  clear hrd hB1 hb1
  go_wp2_with fail
  go_loopw [17] (fun i wr => ∃ k : Nat, k ≤ l.length ∧ i = .int .i64 k ∧ Hid (noObj l a k) ∧ Below w1.heap.size w1 wr) (fun i _ => l.length - (intOf i).toNat)
  case atStart => exact ⟨0, Nat.zero_le _, rfl, noObj_zero l a, Below.refl _ _⟩
  case round =>
    obtain ⟨k, hk, rfl, HNO, hB⟩ := hrel
    have hz := hB.size
    have BXr := Lib.hid (b0.out.up hB hz1')
    by_cases hlt : k < l.length
    · obtain ⟨b, off, rfl, hbw, q0, q1, q2, q3, q4, q5⟩ := RdB.at_ (HRD.out.below hB) hlt
      have HS := Lib.hid (fun h => noObj_succ HNO.out h)
      have HYK := Lib.hid (fun h => HY.out k hlt HNO.out h)
      rw [gk_get l k hlt] at HS HYK
      obtain ⟨x, hx⟩ : ∃ x, l[k] = x := ⟨_, rfl⟩
      rw [hx] at q0 q1 q2 q3 q4 q5 HS HYK
      obtain ⟨xa, xs, xk, xt, xm, xn⟩ := x
      dsimp only at q0 q1 q2 q3 q4 q5 HS
      have hlm : (k : Int) < (l.length : Int) := by omega
      clear hx
      obtain ⟨d1, e1⟩ : ∃ d, (xa == a) = d := ⟨_, rfl⟩
      obtain ⟨d2, e2⟩ : ∃ d, (xk == 1) = d := ⟨_, rfl⟩
      dsimp only at HYK
      rw [e1, e2] at HS HYK
      cases d1
      · have HS2 := Lib.hid (HS.out rfl)
        clear HS HYK e2
        go_wp2_with fail
        go_roundw
        case rel => exact ⟨k + 1, by omega, by go_num, HS2.out, hB.alloc hz _⟩
        case measure => simp [intOf]; omega
      · cases d2
        · have HS2 := Lib.hid (HS.out rfl)
          clear HS HYK
          go_wp2_with fail
          go_roundw
          case rel => exact ⟨k + 1, by omega, by go_num, HS2.out, hB.alloc hz _⟩
          case measure => simp [intOf]; omega
        · have HV := Lib.hid (HYK.out rfl)
          have hnew := Lib.hid (Bx.new wr 48 #[.int .i64 xa, .int .i64 xs, .int .i64 xk, .int .i64 xt, .bool xm, .int .u64 (xn : Int)])
          have HBA := Lib.hid (hB.alloc hz (.cells #[.int .i64 xa, .int .i64 xs, .int .i64 xk, .int .i64 xt, .bool xm, .int .u64 (xn : Int)] 48))
          have BXA := Lib.hid (BXr.out.alloc (.cells #[.int .i64 xa, .int .i64 xs, .int .i64 xk, .int .i64 xt, .bool xm, .int .u64 (xn : Int)] 48))
          clear HS HYK
          go_upto_region 6 with (fail)
          obtain ⟨wn, hwn⟩ : ∃ wn, wr.alloc (.cells #[.int .i64 xa, .int .i64 xs, .int .i64 xk, .int .i64 xt, .bool xm, .int .u64 (xn : Int)] 48) = wn := ⟨_, rfl⟩
          rw [hwn] at hnew BXA HBA ⊢
          clear hwn
          go_wp2_with (first
            | ((with_reducible refine at_load 48 (.tmp 9) ?_); refine wpList_load_row rfl _ _ rfl wr.heap.size (by rfl) 48 #[.int .i64 xa, .int .i64 xs, .int .i64 xk, .int .i64 xt, .bool xm, .int .u64 (xn : Int)] (0, 0) _ hnew.out Tryz.underlying48 (by rfl) hi6 ?_)
            | ((with_reducible refine at_store 48 (.tmp 4) _ ?_); refine wpList_store_agg rfl _ _ _ rfl w.heap.size 48 #[.int .i64 0, .int .i64 0, .int .i64 0, .int .i64 0, .bool false, .int .u64 0] #[.int .i64 xa, .int .i64 xs, .int .i64 xk, .int .i64 xt, .bool xm, .int .u64 (xn : Int)] (by rfl) (by rfl) BXA.out rfl hi6 (six_one _ _ _ _ _ _) ?_; intro w3 hb3 ha3; have HB3 := Lib.hid hb3; have HA3 := Lib.hid ha3; clear hb3 ha3))
          exact bodyPost_ret (v := .tuple #[.agg #[.int .i64 xa, .int .i64 xs, .int .i64 xk, .int .i64 xt, .bool xm, .int .u64 (xn : Int)], .int .i64 0]) (results_blk Tryz.results56 _ HB3.out rfl rfl) rfl ⟨by rw [HV.out.1, HV.out.2]; rfl, HA3.out.below (HB1.out.trans (HBA.out.mono hz1)) (Nat.le_refl _)⟩
    · have HV := Lib.hid (HN.out (by have := HNO.out; rwa [show k = l.length by omega] at this))
      have HBr := Lib.hid (HB1.out.trans (hB.mono hz1))
      obtain ⟨x0, x1, x2, x3, x4, x5, fz, hgl⟩ := BXr.out.c6
      have f0 := fz 0
      have f1 := fz 1
      have f2 := fz 2
      have f3 := fz 3
      have f4 := fz 4
      have f5 := fz 5
      clear fz
      go_wp2_with fail
      exact bodyPost_ret (v := .tuple #[.agg #[.int .i64 0, .int .i64 0, .int .i64 0, .int .i64 0, .bool false, .int .u64 0], .int .i64 6]) (results_blk Tryz.results56 _ (six_bx BXr.out _ _ _ _ _ _) rfl rfl) rfl ⟨by rw [HV.out.1, HV.out.2]; rfl, six_below HBr.out (Nat.le_refl _) _ _ _ _ _ _⟩

set_option maxRecDepth 100000 in
set_option maxHeartbeats 4000000 in
theorem fxRefs_c (A : Option Addr) (ws : List Nat) (c n t xa : Nat) (xs xk : Int) (xm : Bool) (xn : Nat) (w : World) (hn : ws.length = n) (hm : n ≤ 1000000) (h2 : 256 ≤ n) (ht : t < 8) (hxa : xa ≤ 1000000) (hr : RdW w w.heap.size A ws) (ho : ∀ x ∈ ws, x < 18446744073709551616) :
    Calls Tryz.prog 57 #[.slice A n c, .agg #[.int .i64 (xa : Int), .int .i64 xs, .int .i64 xk, .int .i64 (t : Int), .bool xm, .int .u64 (xn : Int)]] w fun e w' => (∃ A' c', e = .returned (.slice A' (rfsB ws ⟨(xa : Int), xs, xk, (t : Int), xm, xn⟩).length c') ∧ RdI w' w'.heap.size A' (rfsB ws ⟨(xa : Int), xs, xk, (t : Int), xm, xn⟩) ∧ (rfsB ws ⟨(xa : Int), xs, xk, (t : Int), xm, xn⟩).length ≤ c') ∧ Below w.heap.size w w' := by
  subst hn
  have hx := wd_lt ho (96 + 2 * t)
  have hy := wd_lt ho (96 + 2 * t + 1)
  have HC := Lib.hid (fun W => kRead_c (wd ws (96 + 2 * t)) (wd ws (96 + 2 * t + 1)) W hx hy)
  unfold KrRes at HC
  have hmx := krOut_le (wd ws (96 + 2 * t)) (wd ws (96 + 2 * t + 1))
  have hrf : rfsB ws ⟨(xa : Int), xs, xk, (t : Int), xm, xn⟩ = rfTo (krOut (wd ws (96 + 2 * t)) (wd ws (96 + 2 * t + 1))) (xa : Int) (krOut (wd ws (96 + 2 * t)) (wd ws (96 + 2 * t + 1))).length := rfl
  rw [hrf]
  clear hrf
  obtain ⟨b, off, rfl, hb, h0⟩ := RdW.at_ hr (show 96 + 2 * t < ws.length by omega)
  obtain ⟨b', off', e', -, h1⟩ := RdW.at_ hr (show 96 + 2 * t + 1 < ws.length by omega)
  cases e'
  rw [← wd_get] at h0 h1
  obtain ⟨x, hx2⟩ : ∃ x, wd ws (96 + 2 * t) = x := ⟨_, rfl⟩
  obtain ⟨y, hy2⟩ : ∃ y, wd ws (96 + 2 * t + 1) = y := ⟨_, rfl⟩
  rw [hx2] at h0 HC hmx ⊢
  rw [hy2] at h1 HC hmx ⊢
  obtain ⟨F, hF⟩ : ∃ F, krOut x y = F := ⟨_, rfl⟩
  obtain ⟨r, hr'⟩ : ∃ r, krErr x y = r := ⟨_, rfl⟩
  rw [hF, hr'] at HC
  rw [hF] at hmx ⊢
  have HRS := Lib.hid (fun j => rfTo_succ F (xa : Int) j)
  have HRL := Lib.hid (fun j => rfTo_len F (xa : Int) j)
  have t0 : (0 : Int) ≤ (t : Int) := by omega
  have t8 : (t : Int) < 8 := by omega
  have w1 : IntKind.i64.wrap (2 * (t : Int)) = 2 * (t : Int) := IntWalk.i64_in _ (by omega)
  have w2 : IntKind.i64.wrap (96 + 2 * (t : Int)) = 96 + 2 * (t : Int) := IntWalk.i64_in _ (by omega)
  have w3 : IntKind.i64.wrap (96 + 2 * (t : Int) + 1) = 96 + 2 * (t : Int) + 1 := IntWalk.i64_in _ (by omega)
  have wa : IntKind.i64.wrap ((xa : Int) + 2) = (xa : Int) + 2 := IntWalk.i64_in _ (by omega)
  have i1 : (0 : Int) ≤ 96 + 2 * (t : Int) := by omega
  have i2 : (96 : Int) + 2 * (t : Int) < (ws.length : Int) := by omega
  have i3 : (0 : Int) ≤ 96 + 2 * (t : Int) + 1 := by omega
  have i4 : (96 : Int) + 2 * (t : Int) + 1 < (ws.length : Int) := by omega
  have n1 : ((96 : Int) + 2 * (t : Int)).toNat = 96 + 2 * t := by omega
  have n2 : ((96 : Int) + 2 * (t : Int) + 1).toNat = 96 + 2 * t + 1 := by omega
  have bx := Bx.new w 48 #[.int .i64 (xa : Int), .int .i64 xs, .int .i64 xk, .int .i64 (t : Int), .bool xm, .int .u64 (xn : Int)]
  have hbw := (Below.refl w.heap.size w).alloc (Nat.le_refl _) (.cells #[.int .i64 (xa : Int), .int .i64 xs, .int .i64 xk, .int .i64 (t : Int), .bool xm, .int .u64 (xn : Int)] 48)
  replace h0 := (hbw.cell (p := ⟨b, off + (96 + 2 * t), none⟩) hb).trans h0
  replace h1 := (hbw.cell (p := ⟨b, off + (96 + 2 * t + 1), none⟩) hb).trans h1
  have hsw : (w.alloc (.cells #[.int .i64 (xa : Int), .int .i64 xs, .int .i64 xk, .int .i64 (t : Int), .bool xm, .int .u64 (xn : Int)] 48)).heap.size = w.heap.size + 1 := by simp
  obtain ⟨i0, hi, hz0, hz1, hz2⟩ := info_parts infoInt
  have HI := Lib.hid hi
  have HZ0 := Lib.hid hz0
  have HZ1 := Lib.hid hz1
  have HZ2 := Lib.hid hz2
  clear hi hz0 hz1 hz2
  clear hr hx hy hx2 hy2 ho ht hF hr'
  go_enter Tryz.func57, Tryz.ntmps57
  go_wp2_with fail
  obtain ⟨W0, hW0⟩ : ∃ W0, w.alloc (.cells #[.int .i64 (xa : Int), .int .i64 xs, .int .i64 xk, .int .i64 (t : Int), .bool xm, .int .u64 (xn : Int)] 48) = W0 := ⟨_, rfl⟩
  rw [hW0] at h0 h1 bx hbw hsw ⊢
  clear hW0
  have b3 : W0.cell? ⟨w.heap.size, 3, none⟩ = some (.int .i64 (t : Int)) := bx.cell 3
  have hbb : b < W0.heap.size := by omega
  have hgg : w.heap.size < W0.heap.size := by omega
  have BX := Lib.hid bx
  have HBW := Lib.hid hbw
  clear bx hbw hsw
  go_region_held3 (fun X : World => X.cell? ⟨b, off + (96 + 2 * t), none⟩ = some (.int .u64 (x : Int)) ∧ X.cell? ⟨b, off + (96 + 2 * t + 1), none⟩ = some (.int .u64 (y : Int)) ∧ X.cell? ⟨w.heap.size, 3, none⟩ = some (.int .i64 (t : Int))) (go_keep)
    (first | (go_at_call 49; refine (HC.out _).mono ?_; rintro e w5 ⟨⟨A1, c1, rfl, hrd, -⟩, hB5⟩; have m0 := (hB5.cell (p := ⟨b, off + (96 + 2 * t), none⟩) hbb).trans h0; have m1 := (hB5.cell (p := ⟨b, off + (96 + 2 * t + 1), none⟩) hbb).trans h1; have m2 := (hB5.cell (p := ⟨w.heap.size, 3, none⟩) hgg).trans b3; have HRD := Lib.hid hrd; have hb5 : Below W0.heap.size W0 w5 := (Below.refl W0.heap.size W0).drew.trans hB5; have BX5 := Lib.hid (BX.out.up hb5 hgg); have HB5 := Lib.hid (HBW.out.trans (hb5.mono HBW.out.size)); clear hrd hB5 hb5))
  have hz5 := HB5.out.size
  clear m0 m1 m2 h0 h1 b3
  go_wp2_with fail
  go_loopw [7, 31] (fun v i wr => ∃ k : Nat, k ≤ F.length ∧ i = .int .i64 k ∧ wr.ownsRow w5.heap.size 3 1 v (rfTo F (xa : Int) k).length ((rfTo F (xa : Int) k).flatMap intCells) ∧ Below w5.heap.size w5 wr) (fun _ i _ => F.length - (intOf i).toNat)
  case atStart => exact ⟨0, Nat.zero_le _, rfl, World.ownsRow_nil _ _ _ _, Below.refl _ _⟩
  case round =>
    obtain ⟨k, hk, rfl, hown, hB⟩ := hrel
    have hz := hB.size
    by_cases hlt : k < F.length
    · obtain ⟨bF, oF, rfl, hbF, y0⟩ := RdY.at_ (show RdY wr w5.heap.size A1 F from Rd.below HRD.out hB) hlt
      have bxr := BX5.out.up hB BX5.out.lt
      have p0 := bxr.cell 0
      have hgr := bxr.lt
      have HSN := Lib.hid (HRS.out k)
      have hml := HRL.out k
      rw [List.getElem?_eq_getElem hlt] at HSN
      obtain ⟨kd, hkd⟩ : ∃ kd, F[k] = kd := ⟨_, rfl⟩
      obtain ⟨m, hm2⟩ : ∃ m, rfTo F (xa : Int) k = m := ⟨_, rfl⟩
      rw [hkd] at y0 HSN
      rw [hm2] at hown HSN hml
      have p0' : wr.cell? ⟨w.heap.size, 0, none⟩ = some (.int .i64 (xa : Int)) := p0
      have hki : (k : Int) < (F.length : Int) := by omega
      have hwk : IntKind.i64.wrap ((xa : Int) + 2 + (k : Int)) = (xa : Int) + 2 + (k : Int) := IntWalk.i64_in _ (by omega)
      clear hkd hm2 bxr p0
      by_cases hk3 : kd = 3
      · have e3 : ((kd : Int) == 3) = true := by rw [beq_iff_eq]; omega
        have e3n : (kd == 3) = true := by rw [beq_iff_eq]; exact hk3
        have HY := Lib.hid (show rfTo F (xa : Int) (k + 1) = m ++ [(xa : Int) + 2 + (k : Int)] by rw [HSN.out, if_pos (by rw [hk3])])
        clear hk3 HSN
        go_wp2_with (at_builtin; refine wpList_append_own _ rfl _ _ 26 rfl w5.heap.size 3 i0 _ 1 8 Tryz.underlying26 HI.out HZ0.out HZ1.out HZ2.out rfl (by decide) _ _ _ rfl (hown.alloc _) ⟨_, 0, none⟩ 1 1 [.int .i64 ((xa : Int) + 2 + (k : Int))] rfl rfl (news_new _ _ _) (by simp [Value.oneCell']) (by unfold maxLen; omega) (by omega) (by simp; omega) ?_; intro v1 w6 hown1 hg1 _; have hB6 := below_append hB hz hown hg1)
        go_roundw
        case rel => exact ⟨k + 1, by omega, by go_num, by rw [HY.out, List.length_append, flat_snoc]; exact hown1, hB6⟩
        case measure => simp [intOf]; omega
      · have e3 : ((kd : Int) == 3) = false := by rw [beq_eq_false_iff_ne]; omega
        have e3n : (kd == 3) = false := by rw [beq_eq_false_iff_ne]; exact hk3
        have HY := Lib.hid (show rfTo F (xa : Int) (k + 1) = m by rw [HSN.out, if_neg (fun h => hk3 (Option.some.inj h)), List.append_nil])
        clear hk3 HSN
        go_wp2_with fail
        go_roundw
        case rel => exact ⟨k + 1, by omega, by go_num, by rw [HY.out]; exact hown, hB⟩
        case measure => simp [intOf]; omega
    · obtain rfl : k = F.length := by omega
      obtain ⟨A2, c2, rfl, hle, hrd2⟩ := slice_of hown
      have HRD2 := Lib.hid hrd2
      have HLE := Lib.hid hle
      clear hrd2 hown hle
      go_wp2_with fail
      go_ret
      exact ⟨⟨A2, c2, rfl, HRD2.out, HLE.out⟩, HB5.out.trans (hB.mono hz5)⟩
end Go.Proofs.YtoaepffpjoibaaaGreat

namespace Go.Proofs.YtoaepffpjoibaaaGreat
open Go.RowKit

theorem obj_parts {ws : List Nat} (h : hpErr ws = 0) {a : Int} {b : Bk} (ho : objF (frOut ws 128) a = some b) : ∃ (m t : Nat) (xs xk : Int) (xm : Bool) (xn : Nat), a = (m : Int) ∧ b = ⟨(m : Int), xs, xk, (t : Int), xm, xn⟩ ∧ t < 8 ∧ isObj ws m ∧ m < ws.length ∧
    (rfsB ws b).length ≤ 8 ∧ ∀ k (hk : k < (rfsB ws b).length), ∃ r : Nat, (rfsB ws b)[k] = (r : Int) ∧ m ≤ r ∧ r < ws.length := by
  obtain ⟨m, e1, e2, e3⟩ := obj_in h ho
  have ht8 : wd ws m / 512 % 128 < 8 := by
    have h7 := (hdOk_iff _).1 (bkAt_hd e3.2.2.2.1)
    have h5 := e3.2.2.2.2.1
    have h6 : (rawBk (wd ws m)).typ = ((wd ws m / 512 % 128 : Nat) : Int) := rfl
    omega
  have hf : fldB ws b = flds ws m := by rw [e2]; rfl
  refine ⟨m, wd ws m / 512 % 128, (bkAt ws m).size, (bkAt ws m).kind, (bkAt ws m).mark, (bkAt ws m).next, e1, e2, ht8, e3, e3.2.2.1, ?_, fun k hk => ?_⟩
  · have h1 := rfTo_len (fldB ws b) b.at_ (fldB ws b).length
    have h2 := flds_le ws m
    unfold rfsB
    rw [hf] at h1 ⊢
    omega
  · have hm := List.getElem_mem hk
    unfold rfsB at hm
    obtain ⟨i, i1, i2, i3⟩ := rfTo_mem.1 hm
    rw [hf] at i1
    have hin := flds_in e3 i1
    have hbm : b.at_ = (m : Int) := by rw [e2]; rfl
    refine ⟨m + 2 + i, ?_, by omega, hin⟩
    have : (rfsB ws b)[k] = b.at_ + 2 + (i : Int) := i3
    rw [this, hbm]; omega

def RsRes (ws : List Nat) (a : Int) (e : Ending) (w' : World) : Prop := ∃ A c, e = .returned (.tuple #[.slice A (rsOut ws a).length c, .int .i64 (rsErr ws a)]) ∧ RdI w' w'.heap.size A (rsOut ws a) ∧ (rsOut ws a).length ≤ c
theorem fxMv_len (ws : List Nat) : (fxMv ws).length ≤ 2048 := by
  unfold fxMv
  split
  · exact rdMv_len ws 128 128
  · simp
def ObRes (ws : List Nat) (a : Int) (e : Ending) (w' : World) : Prop := ∃ A c, e = .returned (.tuple #[.slice A (obOut ws a).length c, .int .i64 (obErr ws a)]) ∧ RdE w' w'.heap.size A (obOut ws a) ∧ (obOut ws a).length ≤ c
theorem obRes_no {ws : List Nat} {a r : Int} {w' : World} (h1 : obErr ws a = r) (h2 : obOut ws a = []) : ObRes ws a (.returned (.tuple #[.slice none 0 0, .int .i64 r])) w' :=
  ⟨none, 0, by rw [h1, h2]; rfl, by rw [h2]; exact Rd.nil_, by rw [h2]; exact Nat.le_refl _⟩
set_option maxRecDepth 100000 in
set_option maxHeartbeats 8000000 in
theorem fxObjectF_c (A : Option Addr) (ws : List Nat) (c n : Nat) (a : Int) (w : World) (hn : ws.length = n) (hm : n ≤ 9223372036854775807) (hr : RdW w w.heap.size A ws) (ho : ∀ x ∈ ws, x < 18446744073709551616) :
    Calls Tryz.prog 35 #[.slice A n c, .int .i64 a] w fun e w' => EnRes w.heap.size (obErr ws a) (obOut ws a) e w' ∧ Below w.heap.size w w' := by
  subst hn
  have HR := Lib.hid hr
  have HRD := Lib.hid (fxRead_c A ws c ws.length w rfl hm hr ho)
  unfold FxRes at HRD
  have HOB := Lib.hid (fun W (h : RdW W W.heap.size A ws) => fxObj_c A ws c ws.length a W rfl hm h ho)
  have HO := Lib.hid ho
  clear hr ho
  by_cases h0 : fxErr ws = 0
  · obtain ⟨hp0, -, -⟩ := fxErr_zero h0
    rw [h0] at HRD
    have hml := fxMv_len ws
    cases hob : objF (frOut ws 128) a with
    | none =>
      have HE := Lib.hid (ob_none h0 hob)
      rw [show obj6 ws a = noBk by simp [obj6, hob], show obj6Err ws a = 6 by simp [obj6Err, hob]] at HOB
      unfold noBk Bk.val at HOB
      simp only [Int.cast_ofNat_Int] at HOB
      obtain ⟨q, hq⟩ : ∃ q, (fxMv ws).length = q := ⟨_, rfl⟩
      rw [hq] at HRD
      clear h0 hob hq hml
      go_enter Tryz.func35, Tryz.ntmps35
      go_wp2_with fail
      refine HRD.out.mono ?_
      rintro e w1 ⟨⟨A1, c1, rfl, -, -⟩, hB1⟩
      have HB1 := Lib.hid hB1
      have HR1 := Lib.hid (HR.out.up hB1 hB1.size)
      clear hB1
      go_wp2_with fail
      refine (HOB.out _ HR1.out).mono ?_
      rintro e w2 ⟨rfl, hB2⟩
      have hb2 := HB1.out.trans (hB2.mono HB1.out.size)
      go_wp2_with fail
      go_ret2
      exact ⟨enRes_no HE.out.1 HE.out.2, hb2.alloc hb2.size _⟩
    | some b =>
      obtain ⟨m, t, xs, xk, xm, xn, ea, eb, ht8, hobj, hmlt, hR8, hRin⟩ := obj_parts hp0 hob
      subst ea
      have hbd := fr_bd ws (hpErr_zero hp0).1
      rw [show obj6 ws (m : Int) = b by simp [obj6, hob], show obj6Err ws (m : Int) = 0 by simp [obj6Err, hob]] at HOB
      have hbm : b.mark = xm := by rw [eb]
      cases hxm : xm with
      | false =>
        have HE := Lib.hid (ob_unmk h0 hob (by rw [hbm, hxm]))
        rw [eb, hxm] at HOB
        unfold Bk.val at HOB
        dsimp only at HOB
        obtain ⟨q, hq⟩ : ∃ q, (fxMv ws).length = q := ⟨_, rfl⟩
        rw [hq] at HRD
        clear h0 hob eb ht8 hobj hmlt hbd hR8 hRin hq hml hbm hxm
        go_enter Tryz.func35, Tryz.ntmps35
        go_wp2_with fail
        refine HRD.out.mono ?_
        rintro e w1 ⟨⟨A1, c1, rfl, -, -⟩, hB1⟩
        have HB1 := Lib.hid hB1
        have HR1 := Lib.hid (HR.out.up hB1 hB1.size)
        clear hB1
        go_wp2_with fail
        refine (HOB.out _ HR1.out).mono ?_
        rintro e w2 ⟨rfl, hB2⟩
        have hb2 := HB1.out.trans (hB2.mono HB1.out.size)
        go_wp2_with fail
        go_ret2
        exact ⟨enRes_no HE.out.1 HE.out.2, hb2.alloc hb2.size _⟩
      | true =>
        subst hxm
        have HRF := Lib.hid (fun W (h : RdW W W.heap.size A ws) => fxRefs_c A ws c ws.length t m xs xk true xn W rfl (by omega) (by omega) ht8 (by omega) h HO.out)
        rw [← eb] at HRF
        have HBD := Lib.hid (fun h3 => ob_bad h0 hob hbm h3)
        have HOK := Lib.hid (fun o h3 => ob_ok h0 hob hbm (o := o) h3)
        have HTO := Lib.hid (fun x y h => fx_to h0 (a := x) (t := y) h)
        have HFC := Lib.hid (fun A1 c1 (v : Nat) W (hv : v < 18446744073709551616) (h : RdM W W.heap.size A1 (fxMv ws)) => fixOf_c A1 (fxMv ws) c1 (fxMv ws).length v W rfl (by omega) hv h)
        have HFO : Hid (∀ v t, fixOf (fxMv ws) v = some t → mvTo (fxMv ws) (v : Int) = some t) := Lib.hid fun v t h => by
          unfold fixOf at h
          split at h
          · cases h
          · exact h
        have HSTP : Hid (∀ r, obStep ws (fxMv ws) r = if wd ws r = 0 then some [] else match fixOf (fxMv ws) (wd ws r) with
          | none => none
          | some t => if (wd ws r : Int) = t then some [] else some [⟨(r : Int), t.toNat⟩]) := Lib.hid fun r => rfl
        have HTK := Lib.hid (fun k (hk : k < (rfsB ws b).length) o h => obFix_take (ws := ws) (m := fxMv ws) hk (o := o) h)
        have HTB := Lib.hid (fun k (hk : k < (rfsB ws b).length) o h h2 => obFix_bad (ws := ws) (m := fxMv ws) hk (o := o) h h2)
        have HLE := Lib.hid (fun k o (h : obFix ws (fxMv ws) ((rfsB ws b).take k) = some o) => obFix_len h)
        obtain ⟨R, hR⟩ : ∃ R, rfsB ws b = R := ⟨_, rfl⟩
        rw [hR] at HRF HBD HOK HTK HTB HLE hR8
        have HRI : Hid (∀ k (hk : k < R.length), ∃ r : Nat, R[k] = (r : Int) ∧ m ≤ r ∧ r < ws.length) := Lib.hid (by subst hR; exact hRin)
        obtain ⟨M, hM⟩ : ∃ M, fxMv ws = M := ⟨_, rfl⟩
        rw [hM] at HRD HBD HOK HTO HFC HFO HSTP HTK HTB HLE hml
        rw [eb] at HOB
        unfold Bk.val at HOB
        dsimp only at HOB
        have hlen := hbd.2.1
        obtain ⟨i0, hi, hz0, hz1, hz2⟩ := info_parts infoEntry
        have HI := Lib.hid hi
        have HZ0 := Lib.hid hz0
        have HZ1 := Lib.hid hz1
        have HZ2 := Lib.hid hz2
        clear hi hz0 hz1 hz2
        clear h0 hob eb ht8 hobj hmlt hbd hR hRin hM hbm
        go_enter Tryz.func35, Tryz.ntmps35
        go_wp2_with fail
        refine HRD.out.mono ?_
        rintro e w1 ⟨⟨A1, c1, rfl, hrm, -⟩, hB1⟩
        have HB1 := Lib.hid hB1
        have HR1 := Lib.hid (HR.out.up hB1 hB1.size)
        have HM1 := Lib.hid hrm
        clear hB1 hrm
        go_wp2_with fail
        refine (HOB.out _ HR1.out).mono ?_
        rintro e w2 ⟨rfl, hB2⟩
        have hb2 := HB1.out.trans (hB2.mono HB1.out.size)
        have HB2 := Lib.hid (hb2.alloc hb2.size (.cells #[.int .i64 (m : Int), .int .i64 xs, .int .i64 xk, .int .i64 (t : Int), .bool true, .int .u64 (xn : Int)] 48))
        have HR2 := Lib.hid (HR.out.up HB2.out HB2.out.size)
        have HM2 := Lib.hid (Rd.more (Rd.alloc (HM1.out.up hB2 hB2.size) (Nat.le_refl _) (.cells #[.int .i64 (m : Int), .int .i64 xs, .int .i64 xk, .int .i64 (t : Int), .bool true, .int .u64 (xn : Int)] 48)) (show w2.heap.size ≤ (w2.alloc (.cells #[.int .i64 (m : Int), .int .i64 xs, .int .i64 xk, .int .i64 (t : Int), .bool true, .int .u64 (xn : Int)] 48)).heap.size by simp))
        clear hB2 hb2
        go_wp2_with fail
        refine (HRF.out _ HR2.out).mono ?_
        rintro e w3 ⟨⟨A3, c3, rfl, hrd3, -⟩, hB3⟩
        have HR3 := Lib.hid hrd3
        have HB3 := Lib.hid (HB2.out.trans (hB3.mono HB2.out.size))
        have HM3 := Lib.hid (HM2.out.up hB3 hB3.size)
        have HW3 := Lib.hid (HR.out.up HB3.out HB3.out.size)
        have hz3 := HB3.out.size
        clear hrd3 hB3
        go_wp2_with fail
        go_loopw [10, 42] (fun v i wr => ∃ (k : Nat) (o : List En), k ≤ R.length ∧ i = .int .i64 k ∧ Hid (obFix ws M (R.take k) = some o) ∧ wr.ownsRow w3.heap.size 53 2 v o.length (o.flatMap En.cells) ∧ Below w3.heap.size w3 wr) (fun _ i _ => R.length - (intOf i).toNat)
        case atStart => exact ⟨0, [], Nat.zero_le _, rfl, rfl, World.ownsRow_nil _ _ _ _, Below.refl _ _⟩
        case round =>
          obtain ⟨k, o, hk, rfl, HFX, hown, hB⟩ := hrel
          have hz := hB.size
          have hol := HLE.out k o HFX.out
          rw [List.length_take] at hol
          by_cases hlt : k < R.length
          · obtain ⟨bR, oR, rfl, hbR, q0⟩ := RdI.at_ (Rd.below HR3.out hB) hlt
            obtain ⟨r, hr, hmr, hrl⟩ := HRI.out k hlt
            obtain ⟨bW, oW, rfl, hbW, x0⟩ := RdW.at_ (Rd.below HW3.out hB) hrl
            rw [← wd_get] at x0
            have HMr := Lib.hid (HM3.out.up hB hz)
            have hv := wd_lt HO.out r
            have HTKk := Lib.hid (HTK.out k hlt o HFX.out)
            have HTBk := Lib.hid (HTB.out k hlt o HFX.out)
            have HST := Lib.hid (HSTP.out r)
            rw [hr] at q0 HTKk HTBk
            rw [Int.toNat_natCast] at HTKk HTBk
            have hFv := HFO.out (wd ws r)
            obtain ⟨v, hvv⟩ : ∃ v, wd ws r = v := ⟨_, rfl⟩
            rw [hvv] at x0 hv HST hFv
            have hri : (r : Int) < (ws.length : Int) := by omega
            have hr0 : (0 : Int) ≤ (r : Int) := by omega
            have hki : (k : Int) < (R.length : Int) := by omega
            have HVV := Lib.hid hv
            have HFV := Lib.hid hFv
            clear hr hvv hv hFv
            by_cases hv0 : v = 0
            · have e0 : ((v : Int) == 0) = true := by rw [beq_iff_eq]; omega
              have e0n : (v == 0) = true := by rw [beq_iff_eq]; exact hv0
              have HY := Lib.hid (show obFix ws M (R.take (k + 1)) = some o by rw [HTKk.out, HST.out, if_pos hv0]; simp)
              clear hv0 HTKk HTBk HST
              go_wp2_with fail
              go_roundw
              case rel => exact ⟨k + 1, o, by omega, by go_num, HY.out, hown, hB⟩
              case measure => simp [intOf]; omega
            · have e0 : ((v : Int) == 0) = false := by rw [beq_eq_false_iff_ne]; omega
              have e0n : (v == 0) = false := by rw [beq_eq_false_iff_ne]; exact hv0
              rw [if_neg hv0] at HST
              have HFK := Lib.hid (HFC.out A1 c1 v _ HVV.out HMr.out)
              cases hfx : fixOf M v with
              | none =>
                rw [hfx] at HFK HST
                have HE := Lib.hid (HBD.out (HTBk.out HST.out))
                simp only [Option.getD_none, Option.isSome_none] at HFK
                clear hv0 HTKk HTBk HST hfx
                go_wp2_with fail
                refine HFK.out.mono ?_
                rintro e w5 ⟨rfl, hB5⟩
                go_wp2_with fail
                go_ret2
                exact ⟨enRes_no HE.out.1 HE.out.2, HB3.out.trans ((hB.trans (hB5.mono hz)).mono hz3)⟩
              | some tt =>
                obtain ⟨tn, rfl, ht1, -, ht2, -⟩ := HTO.out (v : Int) tt (HFV.out tt hfx)
                rw [hfx] at HFK HST
                simp only [Option.getD_some, Option.isSome_some] at HFK
                have hwt : IntKind.u64.wrap (tn : Int) = (tn : Int) := IntWalk.u64_in _ (by omega)
                by_cases hvt : v = tn
                · have en : ((v : Int) != (tn : Int)) = false := by rw [bne_eq_false_iff_eq]; omega
                  have enn : (v != tn) = false := by rw [bne_eq_false_iff_eq]; exact hvt
                  have HY := Lib.hid (show obFix ws M (R.take (k + 1)) = some o by rw [HTKk.out, HST.out]; simp [hvt])
                  clear hv0 HTKk HTBk HST hfx hvt
                  go_wp2_with fail
                  refine HFK.out.mono ?_
                  rintro e w5 ⟨rfl, hB5⟩
                  have x5 := (hB5.cell (p := ⟨bW, oW + r, none⟩) (by show bW < wr.heap.size; omega)).trans x0
                  have hown5 := Lib.hid (own_below hown hB5 (Nat.le_refl _))
                  have hb5 := Lib.hid (hB.trans (hB5.mono hz))
                  clear hB5
                  go_wp2_with fail
                  go_roundw
                  case rel => exact ⟨k + 1, o, by omega, by go_num, HY.out, hown5.out, hb5.out⟩
                  case measure => simp [intOf]; omega
                · have en : ((v : Int) != (tn : Int)) = true := by rw [bne_iff_ne]; omega
                  have enn : (v != tn) = true := by rw [bne_iff_ne]; exact hvt
                  have HY := Lib.hid (show obFix ws M (R.take (k + 1)) = some (o ++ [⟨(r : Int), tn⟩]) by
                    rw [HTKk.out, HST.out]
                    have : ¬ ((v : Int) = (tn : Int)) := by omega
                    simp [this])
                  clear hv0 HTKk HTBk HST hfx hvt
                  go_wp2_with fail
                  refine HFK.out.mono ?_
                  rintro e w5 ⟨rfl, hB5⟩
                  have x5 := (hB5.cell (p := ⟨bW, oW + r, none⟩) (by show bW < wr.heap.size; omega)).trans x0
                  have hown5 := own_below hown hB5 (Nat.le_refl _)
                  have hb5 := hB.trans (hB5.mono hz)
                  have hz5 := hb5.size
                  clear hB5
                  go_wp2_with (at_builtin; refine wpList_append_own _ rfl _ _ 30 rfl w3.heap.size 53 i0 _ 2 16 Tryz.underlying30 HI.out HZ0.out HZ1.out HZ2.out rfl (by decide) _ _ _ rfl (hown5.alloc _) ⟨_, 0, none⟩ 1 1 [.int .i64 (r : Int), .int .u64 (tn : Int)] rfl rfl (news_new _ _ _) (by simp [Value.oneCell']) (by unfold maxLen; omega) (by omega) (by simp; omega) ?_; intro v1 w6 hown1 hg1 _; have hB6 := below_append hb5 hz5 hown5 hg1)
                  go_roundw
                  case rel => exact ⟨k + 1, o ++ [(⟨(r : Int), tn⟩ : En)], by omega, by go_num, HY.out, by rw [List.length_append, flat_snoc]; exact hown1, hB6⟩
                  case measure => simp [intOf]; omega
          · obtain rfl : k = R.length := by omega
            have HV := Lib.hid (HOK.out o (by have := HFX.out; rwa [List.take_of_length_le (Nat.le_refl _)] at this))
            obtain ⟨A2, c2, rfl⟩ := own_slice hown
            have HOW2 := Lib.hid (own_mono hown hz3)
            clear hown
            go_wp2_with fail
            go_ret2
            exact ⟨⟨A2, c2, by rw [HV.out.1, HV.out.2]; rfl, by rw [HV.out.2]; exact HOW2.out⟩, HB3.out.trans (hB.mono hz3)⟩
  · obtain ⟨r, hr⟩ : ∃ r, fxErr ws = r := ⟨_, rfl⟩
    have HE := Lib.hid (ob_err (a := a) hr (by rw [← hr]; exact h0))
    rw [hr] at HRD h0
    have hrn : (r != 0) = true := by rw [bne_iff_ne]; exact h0
    obtain ⟨q, hq⟩ : ∃ q, (fxMv ws).length = q := ⟨_, rfl⟩
    rw [hq] at HRD
    clear h0 hr hq
    go_enter Tryz.func35, Tryz.ntmps35
    go_wp2_with fail
    refine HRD.out.mono ?_
    rintro e w1 ⟨⟨A1, c1, rfl, -, -⟩, hB1⟩
    go_wp2_with fail
    go_ret2
    exact ⟨enRes_no HE.out.1 HE.out.2, hB1⟩
theorem fxObject_c (A : Option Addr) (ws : List Nat) (c n : Nat) (a : Int) (w : World) (hn : ws.length = n) (hm : n ≤ 9223372036854775807) (hr : RdW w w.heap.size A ws) (ho : ∀ x ∈ ws, x < 18446744073709551616) :
    Calls Tryz.prog 35 #[.slice A n c, .int .i64 a] w fun e w' => ObRes ws a e w' ∧ Below w.heap.size w w' := (fxObjectF_c A ws c n a w hn hm hr ho).mono fun _ _ ⟨h1, h2⟩ => ⟨h1.old, h2⟩
end Go.Proofs.YtoaepffpjoibaaaGreat

namespace Go.Proofs.YtoaepffpjoibaaaGreat
open Go.RowKit

def FsRes (ws : List Nat) (e : Ending) (w' : World) : Prop := ∃ A c, e = .returned (.tuple #[.slice A (fsOut ws).length c, .int .i64 (fsErr ws)]) ∧ RdE w' w'.heap.size A (fsOut ws) ∧ (fsOut ws).length ≤ c
theorem fsOut_no {ws : List Nat} {r : Int} (h1 : fsErr ws = r) (h0 : r ≠ 0) : fsOut ws = [] := by unfold fsOut; rw [if_neg (by rw [h1]; exact h0)]
theorem fsRes_no {ws : List Nat} {r : Int} {w' : World} (h1 : fsErr ws = r) (h0 : r ≠ 0) : FsRes ws (.returned (.tuple #[.slice none 0 0, .int .i64 r])) w' := by
  have h2 : fsOut ws = [] := by unfold fsOut; rw [if_neg (by rw [h1]; exact h0)]
  exact ⟨none, 0, by rw [h1, h2]; rfl, by rw [h2]; exact Rd.nil_, by rw [h2]; exact Nat.le_refl _⟩
theorem fs_err {ws : List Nat} {r : Int} (h : fxErr ws = r) (h0 : r ≠ 0) : fsErr ws = r := by subst h; simp [fsErr, h0]
theorem fs_sl {ws : List Nat} (h : fxErr ws = 0) (h1 : slsOk ws = false) : fsErr ws = 50 := by simp [fsErr, h, h1]
theorem fs_bad {ws : List Nat} (h : fxErr ws = 0) (h1 : slsOk ws = true) (h2 : slFix ws (fxMv ws) 16 = none) : fsErr ws = 50 := by simp [fsErr, h, h1, h2]
theorem fs_ok {ws : List Nat} (h : fxErr ws = 0) (h1 : slsOk ws = true) {o : List En} (h2 : slFix ws (fxMv ws) 16 = some o) : fsErr ws = 0 ∧ fsOut ws = o := by simp [fsOut, fsErr, h, h1, h2]
theorem slFix_succ {ws : List Nat} {m : List (Int × Int)} {k : Nat} {o : List En} (h : slFix ws m k = some o) : slFix ws m (k + 1) = (slStep ws m k).map (o ++ ·) := by
  simp only [slFix, h]
theorem own_set_far {w : World} {H n : Nat} {e : TypeId} {sz : Nat} {v : Value} {xs : List Value} (h : w.ownsRow H e sz v n xs) {p : Addr} (hp : v.ownBlock ≠ some p.block) (u : Value) : (w.setCell p u).ownsRow H e sz v n xs := by
  refine ⟨h.1, ?_⟩
  rcases h.2 with h1 | ⟨g', cap, cur, h1, h2, h3, h4⟩
  · exact .inl h1
  · subst h1
    refine .inr ⟨g', cap, cur, rfl, h2, ?_, h4⟩
    exact (Below.heap_setCell w p u g' (fun e => hp (by simp [Value.ownBlock, e]))).trans h3
theorem slWd_lt {g a : Nat} (hg : g < 2147483648) (ha : a < 4294967296) (u : Bool) : slWd ⟨(g : Int), u, (a : Int)⟩ < 18446744073709551616 := by
  unfold slWd
  dsimp only
  rw [Int.toNat_natCast, Int.toNat_natCast]
  split <;> omega

set_option maxRecDepth 100000 in
set_option maxHeartbeats 8000000 in
theorem fxSlotsF_c (A : Option Addr) (ws : List Nat) (c n : Nat) (w : World) (hn : ws.length = n) (hm : n ≤ 9223372036854775807) (hr : RdW w w.heap.size A ws) (ho : ∀ x ∈ ws, x < 18446744073709551616) :
    Calls Tryz.prog 34 #[.slice A n c] w fun e w' => EnRes w.heap.size (fsErr ws) (fsOut ws) e w' ∧ Below w.heap.size w w' := by
  subst hn
  have HR := Lib.hid hr
  have HRD := Lib.hid (fxRead_c A ws c ws.length w rfl hm hr ho)
  unfold FxRes at HRD
  have HHA := Lib.hid (fun W (h : RdW W W.heap.size A ws) => hAll_c A ws c ws.length W rfl hm h ho)
  unfold HaRes at HHA
  have HO := Lib.hid ho
  clear hr ho
  by_cases h0 : fxErr ws = 0
  · obtain ⟨hp0, -, -⟩ := fxErr_zero h0
    have hs := (hpErr_zero hp0).1
    have hbd := fr_bd ws hs
    rw [h0] at HRD
    have hml := fxMv_len ws
    cases hso : slsOk ws with
    | false =>
      have he := hdlErr_bad hs hso
      have hq : hdlOut ws = [] := by simp [hdlOut, he]
      rw [he, hq] at HHA
      have HE := Lib.hid (fs_sl h0 hso)
      obtain ⟨q, hq⟩ : ∃ q, (fxMv ws).length = q := ⟨_, rfl⟩
      rw [hq] at HRD
      clear h0 hp0 hs hbd hso he hq hml
      go_enter Tryz.func34, Tryz.ntmps34
      go_wp2_with fail
      refine HRD.out.mono ?_
      rintro e w1 ⟨⟨A1, c1, rfl, -, -⟩, hB1⟩
      have HB1 := Lib.hid hB1
      have HR1 := Lib.hid (HR.out.up hB1 hB1.size)
      clear hB1
      go_wp2_with fail
      refine (HHA.out _ HR1.out).mono ?_
      rintro e w2 ⟨⟨A2, c2, rfl, -, -⟩, hB2⟩
      go_wp2_with fail
      go_ret2
      exact ⟨enRes_no HE.out (fsOut_no HE.out (by omega)), HB1.out.trans (hB2.mono HB1.out.size)⟩
    | true =>
      obtain ⟨g1, g2⟩ := hdlErr_ok hs hso
      rw [g1, g2, slL_len] at HHA
      have HSO := Lib.hid ((slsOk_iff ws).1 hso)
      have HBD := Lib.hid (fun h => fs_bad h0 hso h)
      have HOK := Lib.hid (fun o h => fs_ok h0 hso (o := o) h)
      have HTO := Lib.hid (fun x y h => fx_to h0 (a := x) (t := y) h)
      have HFC := Lib.hid (fun A1 c1 (v : Nat) W (hv : v < 18446744073709551616) (h : RdM W W.heap.size A1 (fxMv ws)) => fixOf_c A1 (fxMv ws) c1 (fxMv ws).length v W rfl (by omega) hv h)
      have HFO : Hid (∀ v t, fixOf (fxMv ws) v = some t → mvTo (fxMv ws) (v : Int) = some t) := Lib.hid fun v t h => by
        unfold fixOf at h
        split at h
        · cases h
        · exact h
      have HSTP : Hid (∀ i, slStep ws (fxMv ws) i = if (slAt ws i).used = true then (match fixOf (fxMv ws) (slAt ws i).at_.toNat with
        | none => none
        | some t => if wd ws (112 + i) = slWd ⟨(slAt ws i).gen, true, t⟩ then some [] else some [⟨((112 + i : Nat) : Int), slWd ⟨(slAt ws i).gen, true, t⟩⟩]) else some []) := Lib.hid fun i => rfl
      have HTK := Lib.hid (fun k o (h : slFix ws (fxMv ws) k = some o) => slFix_succ h)
      have HTN := Lib.hid (fun k (h : slFix ws (fxMv ws) (k + 1) = none) (h2 : k + 1 ≤ 16) => slFix_none h h2)
      have HLE := Lib.hid (fun k o (h : slFix ws (fxMv ws) k = some o) => slFix_len h)
      obtain ⟨M, hM⟩ : ∃ M, fxMv ws = M := ⟨_, rfl⟩
      rw [hM] at HRD HBD HOK HTO HFC HFO HSTP HTK HTN HLE hml
      have hlen := hbd.1
      have hlen2 := hbd.2.1
      obtain ⟨i0, hi, hz0, hz1, hz2⟩ := info_parts infoEntry
      have HI := Lib.hid hi
      have HZ0 := Lib.hid hz0
      have HZ1 := Lib.hid hz1
      have HZ2 := Lib.hid hz2
      clear hi hz0 hz1 hz2
      clear h0 hp0 hs hbd hso g1 g2 hM
      go_enter Tryz.func34, Tryz.ntmps34
      go_wp2_with fail
      refine HRD.out.mono ?_
      rintro e w1 ⟨⟨A1, c1, rfl, hrm, -⟩, hB1⟩
      have HB1 := Lib.hid hB1
      have HR1 := Lib.hid (HR.out.up hB1 hB1.size)
      have HM1 := Lib.hid hrm
      clear hB1 hrm
      go_wp2_with fail
      refine (HHA.out _ HR1.out).mono ?_
      rintro e w3 ⟨⟨A3, c3, rfl, hrs, -⟩, hB3⟩
      have HB3 := Lib.hid (HB1.out.trans (hB3.mono HB1.out.size))
      have HS3 := Lib.hid hrs
      have HM3 := Lib.hid (HM1.out.up hB3 hB3.size)
      have HW3 := Lib.hid (HR.out.up HB3.out HB3.out.size)
      have hz3 := HB3.out.size
      clear hrs hB3
      go_wp2_with fail
      go_loopw [8, 36] (fun v i wr => ∃ (k : Nat) (o : List En), k ≤ 16 ∧ i = .int .i64 k ∧ Hid (slFix ws M k = some o) ∧ wr.ownsRow w3.heap.size 53 2 v o.length (o.flatMap En.cells) ∧ Below w3.heap.size w3 wr) (fun _ i _ => 16 - (intOf i).toNat)
      case atStart => exact ⟨0, [], Nat.zero_le _, rfl, rfl, World.ownsRow_nil _ _ _ _, Below.refl _ _⟩
      case round =>
        obtain ⟨k, o, hk, rfl, HFX, hown, hB⟩ := hrel
        have hz := hB.size
        have hol := HLE.out k o HFX.out
        by_cases hlt : k < 16
        · obtain ⟨bS, oS, rfl, hbS, q0, q1, q2⟩ := RdS.at_ (Rd.below HS3.out hB) (show k < (slL ws).length by rw [slL_len]; exact hlt)
          rw [slL_get] at q0 q1 q2
          obtain ⟨bW, oW, rfl, hbW, x0⟩ := RdW.at_ (Rd.below HW3.out hB) (show 112 + k < ws.length by omega)
          rw [← wd_get] at x0
          have HMr := Lib.hid (HM3.out.up hB hz)
          have hsk := HSO.out k hlt
          have HTKk := Lib.hid (HTK.out k o HFX.out)
          have HTNk := Lib.hid (fun h => HTN.out k h (by omega))
          have HST := Lib.hid (HSTP.out k)
          obtain ⟨r1, r2, r3, r4⟩ := slRaw_bd (wd ws (112 + k))
          have hsa : slAt ws k = slRaw (wd ws (112 + k)) := rfl
          rw [← hsa] at r1 r2 r3 r4
          have hxl := wd_lt HO.out (112 + k)
          obtain ⟨x, hx⟩ : ∃ x, wd ws (112 + k) = x := ⟨_, rfl⟩
          rw [hx] at x0 HST hxl
          obtain ⟨s, hs⟩ : ∃ s, slAt ws k = s := ⟨_, rfl⟩
          rw [hs] at q0 q1 q2 HST r1 r2 r3 r4 hsk
          obtain ⟨sg, su, sa⟩ := s
          dsimp only at q0 q1 q2 HST r1 r2 r3 r4
          obtain ⟨g, rfl⟩ := Int.eq_ofNat_of_zero_le r1
          obtain ⟨u, rfl⟩ := Int.eq_ofNat_of_zero_le r3
          rw [Int.toNat_natCast] at HST
          have hki : (k : Int) < 16 := by omega
          have hk0 : (0 : Int) ≤ (k : Int) := by omega
          have hw1 : IntKind.i64.wrap (112 + (k : Int)) = 112 + (k : Int) := IntWalk.i64_in _ (by omega)
          have i1 : (0 : Int) ≤ 112 + (k : Int) := by omega
          have i2 : (112 : Int) + (k : Int) < (ws.length : Int) := by omega
          have n1 : ((112 : Int) + (k : Int)).toNat = 112 + k := by omega
          have hg31 : g < 2147483648 := by omega
          have HSL := Lib.hid hsk
          clear hx hs hsa r1 r2 r3 r4 hsk hxl
          cases su
          · have HY := Lib.hid (show slFix ws M (k + 1) = some o by rw [HTKk.out, HST.out, if_neg (by simp)]; simp)
            clear HTKk HTNk HST
            go_wp2_with fail
            go_roundw
            case rel => exact ⟨k + 1, o, by omega, by go_num, HY.out, hown.alloc _, hB.alloc hz _⟩
            case measure => simp [intOf]; omega
          · obtain ⟨hg0, hu1, hu2⟩ := sl_used HSL.out rfl
            dsimp only at hg0 hu1 hu2
            rw [if_pos rfl] at HST
            have hwu : IntKind.u64.wrap (u : Int) = (u : Int) := IntWalk.u64_in _ (by omega)
            have hbn := hB.alloc hz (.cells #[.int .i64 (g : Int), .bool true, .int .i64 (u : Int)] 90)
            have HBN := Lib.hid hbn
            have HMn := Lib.hid (Rd.more (Rd.alloc HMr.out (Nat.le_refl _) (.cells #[.int .i64 (g : Int), .bool true, .int .i64 (u : Int)] 90)) (show wr.heap.size ≤ (wr.alloc (.cells #[.int .i64 (g : Int), .bool true, .int .i64 (u : Int)] 90)).heap.size by simp))
            have BN := Lib.hid (Bx.new wr 90 #[.int .i64 (g : Int), .bool true, .int .i64 (u : Int)])
            have HOWN := Lib.hid (hown.alloc (.cells #[.int .i64 (g : Int), .bool true, .int .i64 (u : Int)] 90))
            have HOL := Lib.hid (fun b h => (hown.lt b h).2)
            have x1 := (World.cell?_alloc_lt wr (.cells #[.int .i64 (g : Int), .bool true, .int .i64 (u : Int)] 90) ⟨bW, oW + (112 + k), none⟩ (by show bW < wr.heap.size; omega)).trans x0
            have HX1 := Lib.hid x1
            have HFK := Lib.hid (HFC.out A1 c1 u _ (by omega) HMn.out)
            have hsz1 : (wr.alloc (.cells #[.int .i64 (g : Int), .bool true, .int .i64 (u : Int)] 90)).heap.size = wr.heap.size + 1 := by simp
            clear hbn x1
            go_upto_region 14 with (fail)
            obtain ⟨wn, hwn⟩ : ∃ wn, wr.alloc (.cells #[.int .i64 (g : Int), .bool true, .int .i64 (u : Int)] 90) = wn := ⟨_, rfl⟩
            rw [hwn] at HBN HMn BN HOWN HFK HX1 hsz1 ⊢
            clear hwn x0 hown
            obtain ⟨p0, p1, p2, f0, f1, f2, hgn⟩ := BN.out.c3
            cases hfx : fixOf M u with
            | none =>
              rw [hfx] at HFK HST
              have HE := Lib.hid (HBD.out (HTNk.out (by rw [HTKk.out, HST.out]; rfl)))
              simp only [Option.getD_none, Option.isSome_none] at HFK
              clear HTKk HTNk HST hfx
              go_wp2_with fail
              refine HFK.out.mono ?_
              rintro e w5 ⟨rfl, hB5⟩
              have hb5 := HBN.out.trans (hB5.mono HBN.out.size)
              go_wp2_with fail
              go_ret2
              exact ⟨enRes_no HE.out (fsOut_no HE.out (by omega)), HB3.out.trans (hb5.mono hz3)⟩
            | some tt =>
              obtain ⟨tn, rfl, ht1, -, ht2, -⟩ := HTO.out (u : Int) tt (HFO.out u tt hfx)
              rw [hfx] at HFK HST
              simp only [Option.getD_some, Option.isSome_some] at HFK
              have hok : slOk ⟨(g : Int), true, (tn : Int)⟩ = true := by
                unfold slOk
                rw [if_pos rfl]
                simp only [Bool.and_eq_true, decide_eq_true_eq]
                omega
              have HWD := Lib.hid (fun W => hWord_c g tn true W hg31 (by omega) hok)
              have hVl := slWd_lt (g := g) (a := tn) hg31 (by omega) true
              obtain ⟨V, hV⟩ : ∃ V, slWd ⟨(g : Int), true, (tn : Int)⟩ = V := ⟨_, rfl⟩
              dsimp only at HST
              rw [hV] at HWD HST
              clear hok hV hVl hfx
              go_wp2_with fail
              refine HFK.out.mono ?_
              rintro e w5 ⟨rfl, hB5⟩
              have bn5 := BN.out.up hB5 hgn
              have BN5 := Lib.hid bn5
              have HB5 := Lib.hid (HBN.out.trans (hB5.mono HBN.out.size))
              have HO5 := Lib.hid (own_below HOWN.out hB5 (Nat.le_refl _))
              have x5 := (hB5.cell (p := ⟨bW, oW + (112 + k), none⟩) (by show bW < wn.heap.size; omega)).trans HX1.out
              have HX5 := Lib.hid x5
              obtain ⟨p0, p1, p2, f0, f1, f2, hg5⟩ := bn5.c3
              clear hB5 bn5 x5
              go_wp2_with fail
              have HB6 := Lib.hid (HB5.out.setCell (p := ⟨wr.heap.size, 2, none⟩) hz (.int .i64 (tn : Int)))
              have HO6 := Lib.hid (own_set_far HO5.out (p := ⟨wr.heap.size, 2, none⟩) (fun h => by have h9 := HOL.out _ h; exact absurd h9 (Nat.lt_irrefl _)) (.int .i64 (tn : Int)))
              have x6 : (w5.setCell ⟨wr.heap.size, 2, none⟩ (.int .i64 (tn : Int))).cell? ⟨bW, oW + (112 + k), none⟩ = some (.int .u64 (x : Int)) := (World.cell?_setCell_other w5 _ _ _ (fun e2 => by injection e2 with e3 _ _; omega)).trans HX5.out
              have HX6 := Lib.hid x6
              have hbs : bW < (w5.setCell ⟨wr.heap.size, 2, none⟩ (.int .i64 (tn : Int))).heap.size := by rw [World.size_setCell]; have := HB5.out.size; omega
              clear x6
              refine (HWD.out _).mono ?_
              rintro e w7 ⟨rfl, hB7⟩
              have x7 := (hB7.cell (p := ⟨bW, oW + (112 + k), none⟩) hbs).trans HX6.out
              have hown7 := own_below HO6.out hB7 (Nat.le_refl _)
              have hb7 := HB6.out.trans (hB7.mono HB6.out.size)
              have hz7 := hb7.size
              clear hB7 hbs
              by_cases hxV : x = V
              · have en : ((x : Int) != (V : Int)) = false := by rw [bne_eq_false_iff_eq]; omega
                have enn : (x != V) = false := by rw [bne_eq_false_iff_eq]; exact hxV
                have HY := Lib.hid (show slFix ws M (k + 1) = some o by rw [HTKk.out, HST.out]; simp [hxV])
                have HO7 := Lib.hid hown7
                have HB7 := Lib.hid hb7
                clear HTKk HTNk HST hxV hown7 hb7
                go_wp2_with fail
                go_roundw
                case rel => exact ⟨k + 1, o, by omega, by go_num, HY.out, HO7.out, HB7.out⟩
                case measure => simp [intOf]; omega
              · have en : ((x : Int) != (V : Int)) = true := by rw [bne_iff_ne]; omega
                have enn : (x != V) = true := by rw [bne_iff_ne]; exact hxV
                have HY := Lib.hid (show slFix ws M (k + 1) = some (o ++ [⟨112 + (k : Int), V⟩]) by rw [HTKk.out, HST.out]; simp [hxV])
                clear HTKk HTNk HST hxV
                go_wp2_with (at_builtin; refine wpList_append_own _ rfl _ _ 30 rfl w3.heap.size 53 i0 _ 2 16 Tryz.underlying30 HI.out HZ0.out HZ1.out HZ2.out rfl (by decide) _ _ _ rfl (hown7.alloc _) ⟨_, 0, none⟩ 1 1 [.int .i64 (112 + (k : Int)), .int .u64 (V : Int)] rfl rfl (news_new _ _ _) (by simp [Value.oneCell']) (by unfold maxLen; omega) (by omega) (by simp; omega) ?_; intro v1 w8 hown1 hg1 _; have hB8 := below_append hb7 hz7 hown7 hg1)
                go_roundw
                case rel => exact ⟨k + 1, o ++ [(⟨112 + (k : Int), V⟩ : En)], by omega, by go_num, HY.out, by rw [List.length_append, flat_snoc]; exact hown1, hB8⟩
                case measure => simp [intOf]; omega
        · obtain rfl : k = 16 := by omega
          have HV := Lib.hid (HOK.out o HFX.out)
          obtain ⟨A2, c2, rfl⟩ := own_slice hown
          have HOW2 := Lib.hid (own_mono hown hz3)
          clear hown
          go_wp2_with fail
          go_ret2
          exact ⟨⟨A2, c2, by rw [HV.out.1, HV.out.2]; rfl, by rw [HV.out.2]; exact HOW2.out⟩, HB3.out.trans (hB.mono hz3)⟩
  · obtain ⟨r, hr⟩ : ∃ r, fxErr ws = r := ⟨_, rfl⟩
    have HE := Lib.hid (fs_err hr (by rw [← hr]; exact h0))
    rw [hr] at HRD h0
    have hrn : (r != 0) = true := by rw [bne_iff_ne]; exact h0
    have HR0 := Lib.hid h0
    obtain ⟨q, hq⟩ : ∃ q, (fxMv ws).length = q := ⟨_, rfl⟩
    rw [hq] at HRD
    clear h0 hr hq
    go_enter Tryz.func34, Tryz.ntmps34
    go_wp2_with fail
    refine HRD.out.mono ?_
    rintro e w1 ⟨⟨A1, c1, rfl, -, -⟩, hB1⟩
    go_wp2_with fail
    go_ret2
    exact ⟨enRes_no HE.out (fsOut_no HE.out HR0.out), hB1⟩
theorem fxSlots_c (A : Option Addr) (ws : List Nat) (c n : Nat) (w : World) (hn : ws.length = n) (hm : n ≤ 9223372036854775807) (hr : RdW w w.heap.size A ws) (ho : ∀ x ∈ ws, x < 18446744073709551616) :
    Calls Tryz.prog 34 #[.slice A n c] w fun e w' => FsRes ws e w' ∧ Below w.heap.size w w' := (fxSlotsF_c A ws c n w hn hm hr ho).mono fun _ _ ⟨h1, h2⟩ => ⟨h1.old, h2⟩
end Go.Proofs.YtoaepffpjoibaaaGreat

namespace Go.Proofs.YtoaepffpjoibaaaGreat

theorem slRaw_wd {g a : Nat} (hg : g < 2147483648) (ha : a < 4294967296) : slRaw (slWd ⟨(g : Int), true, (a : Int)⟩) = ⟨(g : Int), true, (a : Int)⟩ := by
  unfold slWd slRaw
  dsimp only
  rw [Int.toNat_natCast, Int.toNat_natCast, if_pos rfl]
  have h1 : (a + g * 4294967296 + 9223372036854775808) / 4294967296 % 2147483648 = g := by omega
  have h2 : (a + g * 4294967296 + 9223372036854775808) / 9223372036854775808 = 1 := by omega
  have h3 : (a + g * 4294967296 + 9223372036854775808) % 4294967296 = a := by omega
  rw [h1, h2, h3]
  rfl
def nwS (ws : List Nat) (M : List (Int × Int)) (i : Nat) : Sl := if (slAt ws i).used = true then ⟨(slAt ws i).gen, true, (mvTo M (slAt ws i).at_).getD 0⟩ else slAt ws i
theorem wd_setE {ws : List Nat} {j v : Nat} (h : j < ws.length) (i : Nat) : wd (putE ws [⟨(j : Int), v⟩]) i = if i = j then v else wd ws i := by
  simp only [putE]
  rw [if_pos (by omega), Int.toNat_natCast]
  unfold wd
  rw [List.getElem?_set]
  by_cases e : j = i
  · subst e; simp [h]
  · rw [if_neg e, if_neg (fun h => e h.symm)]
theorem slFix_inv {ws : List Nat} {M : List (Int × Int)} (hw : 256 ≤ ws.length) (hM : ∀ a t, mvTo M a = some t → ∃ n : Nat, t = (n : Int) ∧ n < 2048) : ∀ k, k ≤ 16 → ∀ o, slFix ws M k = some o →
    (∀ e ∈ o, ∃ i, i < k ∧ e.a = ((112 + i : Nat) : Int) ∧ e.v < 18446744073709551616) ∧ o.Pairwise (fun a b => a.a < b.a) ∧ (∀ i, i < k → slAt (putE ws o) i = nwS ws M i) ∧ (∀ i, i < k → (slAt ws i).used = true → (mvTo M (slAt ws i).at_).isSome = true) := by
  intro k
  induction k with
  | zero =>
    intro _ o h
    simp only [slFix, Option.some.injEq] at h
    subst h
    exact ⟨fun e he => (by cases he), List.Pairwise.nil, fun i h => absurd h (by omega), fun i h => absurd h (by omega)⟩
  | succ k ih =>
    intro hk o h
    simp only [slFix] at h
    cases hf : slFix ws M k with
    | none => rw [hf] at h; cases h
    | some o1 =>
    rw [hf] at h
    obtain ⟨i1, i2, i3, i4⟩ := ih (by omega) o1 hf
    have hold : wd (putE ws o1) (112 + k) = wd ws (112 + k) := putE_wd o1 ws _ fun e he => by
      obtain ⟨i, h1, h2, -⟩ := i1 e he
      rw [h2]; omega
    have hnil : ∀ (h3 : slAt ws k = nwS ws M k) (h4 : (slAt ws k).used = true → (mvTo M (slAt ws k).at_).isSome = true), (∀ e ∈ o1, ∃ i, i < k + 1 ∧ e.a = ((112 + i : Nat) : Int) ∧ e.v < 18446744073709551616) ∧ o1.Pairwise (fun a b => a.a < b.a) ∧ (∀ i, i < k + 1 → slAt (putE ws o1) i = nwS ws M i) ∧ (∀ i, i < k + 1 → (slAt ws i).used = true → (mvTo M (slAt ws i).at_).isSome = true) := by
      intro h3 h4
      refine ⟨fun e he => ?_, i2, fun i hi => ?_, fun i hi => ?_⟩
      · obtain ⟨i, j1, j2, j3⟩ := i1 e he
        exact ⟨i, by omega, j2, j3⟩
      · rcases Nat.lt_or_ge i k with h5 | h5
        · exact i3 i h5
        · have : i = k := by omega
          subst this
          rw [← h3]
          unfold slAt
          rw [hold]
      · rcases Nat.lt_or_ge i k with h5 | h5
        · exact i4 i h5
        · have : i = k := by omega
          subst this; exact h4
    cases hs : slStep ws M k with
    | none => rw [hs] at h; cases h
    | some y =>
      rw [hs] at h
      simp only [Option.map_some, Option.some.injEq] at h
      subst h
      unfold slStep at hs
      split at hs
      · rename_i hu
        obtain ⟨r1, r2, r3, r4⟩ := slRaw_bd (wd ws (112 + k))
        change 0 ≤ (slAt ws k).gen at r1
        change (slAt ws k).gen ≤ _ at r2
        change 0 ≤ (slAt ws k).at_ at r3
        obtain ⟨g, hg⟩ := Int.eq_ofNat_of_zero_le r1
        cases hx : fixOf M (slAt ws k).at_.toNat with
        | none => rw [hx] at hs; cases hs
        | some t =>
          rw [hx] at hs
          have hm : mvTo M (slAt ws k).at_ = some t := by
            unfold fixOf at hx
            split at hx
            · cases hx
            · rw [Int.toNat_of_nonneg r3] at hx; exact hx
          obtain ⟨n, rfl, hn⟩ := hM _ _ hm
          have hnw : nwS ws M k = ⟨(g : Int), true, (n : Int)⟩ := by
            unfold nwS
            rw [if_pos hu, hm, hg]; rfl
          have hrt := slRaw_wd (g := g) (a := n) (by omega) (by omega)
          have hlt := slWd_lt (g := g) (a := n) (by omega) (by omega) true
          have hso : (slAt ws k).used = true → (mvTo M (slAt ws k).at_).isSome = true := fun _ => by rw [hm]; rfl
          dsimp only at hs
          rw [hg] at hs
          by_cases he : wd ws (112 + k) = slWd ⟨(g : Int), true, (n : Int)⟩
          · rw [if_pos he] at hs
            injection hs with hs
            subst hs
            rw [List.append_nil]
            exact hnil (by rw [hnw, ← hrt, ← he]; rfl) hso
          · rw [if_neg he] at hs
            injection hs with hs
            subst hs
            refine ⟨fun e he => ?_, ?_, fun i hi => ?_, fun i hi => ?_⟩
            · rcases List.mem_append.1 he with h5 | h5
              · obtain ⟨i, j1, j2, j3⟩ := i1 e h5
                exact ⟨i, by omega, j2, j3⟩
              · simp only [List.mem_singleton] at h5
                subst h5
                exact ⟨k, by omega, rfl, hlt⟩
            · rw [List.pairwise_append]
              refine ⟨i2, by simp, fun a ha b hb => ?_⟩
              simp only [List.mem_singleton] at hb
              subst hb
              obtain ⟨i, j1, j2, -⟩ := i1 a ha
              rw [j2]
              dsimp only
              omega
            · have hkk : 112 + k < (putE ws o1).length := by rw [putE_len]; omega
              unfold slAt
              rw [putE_append, wd_setE hkk]
              split
              · rename_i h6
                have : i = k := by omega
                subst this
                rw [hrt, hnw]
              · exact i3 i (by omega)
            · rcases Nat.lt_or_ge i k with h5 | h5
              · exact i4 i h5
              · have : i = k := by omega
                subst this; exact hso
      · rename_i hu
        injection hs with hs
        subst hs
        rw [List.append_nil]
        exact hnil (by unfold nwS; rw [if_neg hu]) (fun h => absurd h hu)
theorem fs_plain {ws : List Nat} (h : fsErr ws = 0) : 256 ≤ ws.length ∧ hpErr ws = 0 ∧ rdErr ws 128 128 = 0 ∧ hdlErr ws = 0 ∧ hdlOut ws = slL ws ∧ hdlErr (putE ws (fsOut ws)) = 0 ∧ hdlOut (putE ws (fsOut ws)) = slL (putE ws (fsOut ws)) ∧
    (∀ e ∈ fsOut ws, (112 ≤ e.a ∧ e.a < 128) ∧ e.v < 18446744073709551616) ∧ (fsOut ws).Pairwise (fun a b => a.a < b.a) ∧ (fsOut ws).length ≤ 16 ∧
    (∀ i, i < 16 → slAt (putE ws (fsOut ws)) i = nwS ws (rdMv ws 128 128) i) ∧ (∀ i, i < 16 → (slAt ws i).used = true → (mvTo (rdMv ws 128 128) (slAt ws i).at_).isSome = true) := by
  have h0 : fxErr ws = 0 := by
    by_cases h1 : fxErr ws = 0
    · exact h1
    · unfold fsErr at h; rw [if_neg h1] at h; exact absurd h h1
  have h2 : slsOk ws = true := by
    cases hq : slsOk ws with
    | true => rfl
    | false => rw [fs_sl h0 hq] at h; cases h
  obtain ⟨o, ho⟩ : ∃ o, slFix ws (fxMv ws) 16 = some o := by
    cases hq : slFix ws (fxMv ws) 16 with
    | some o => exact ⟨o, rfl⟩
    | none => rw [fs_bad h0 h2 hq] at h; cases h
  obtain ⟨e1, e2⟩ := fs_ok h0 h2 ho
  obtain ⟨g1, g2, g3⟩ := fxErr_zero h0
  have hs := (hpErr_zero g1).1
  have hbd := fr_bd ws hs
  have hto := fun a t (ht : mvTo (fxMv ws) a = some t) => fx_to h0 ht
  have hlen := slFix_len ho
  obtain ⟨j1, j2, j3, j4⟩ := slFix_inv (by omega) (fun a t ht => by obtain ⟨n, q1, -, -, q4, -⟩ := hto a t ht; exact ⟨n, q1, q4⟩) 16 (Nat.le_refl _) o ho
  rw [g3] at j3 j4 hto
  rw [e2]
  obtain ⟨k1, k2⟩ := hdlErr_ok hs h2
  have hok : slsOk (putE ws o) = true := (slsOk_iff _).2 fun i hi => by
    rw [j3 i hi]
    have hi2 := (slsOk_iff ws).1 h2 i hi
    unfold nwS
    split
    · rename_i hu
      obtain ⟨t, ht⟩ := Option.isSome_iff_exists.1 (j4 i hi hu)
      obtain ⟨n, rfl, n1, -, n2, -⟩ := hto _ _ ht
      obtain ⟨u1, -, -⟩ := sl_used hi2 hu
      rw [ht]
      unfold slOk
      rw [if_pos rfl]
      simp only [Bool.and_eq_true, decide_eq_true_eq, Option.getD_some]
      omega
    · exact hi2
  obtain ⟨k3, k4⟩ := hdlErr_ok (ws := putE ws o) (by rw [putE_len]; exact hs) hok
  refine ⟨by omega, g1, g2, k1, k2, k3, k4, fun e he => ?_, j2, hlen, j3, j4⟩
  obtain ⟨i, i1, i2, i3⟩ := j1 e he
  exact ⟨by rw [i2]; omega, i3⟩
end Go.Proofs.YtoaepffpjoibaaaGreat

namespace Go.Proofs.YtoaepffpjoibaaaGreat

theorem rfTo_pair (F : List Nat) (a : Int) (j : Nat) : (rfTo F a j).Pairwise (· < ·) := by
  induction j with
  | zero => exact List.Pairwise.nil
  | succ j ih =>
    rw [rfTo_succ, List.pairwise_append]
    refine ⟨ih, by split <;> simp, fun x hx y hy => ?_⟩
    obtain ⟨i, i1, -, i3⟩ := rfTo_mem.1 hx
    split at hy
    · simp only [List.mem_singleton] at hy
      omega
    · cases hy
/-- How a reference stands when it is fixed. -/
def okFx (ws x : List Nat) (M : List (Int × Int)) (r : Nat) : Prop := (wd ws r = 0 ∧ wd x r = 0) ∨ (0 < wd ws r ∧ ∃ t m : Nat, mvTo M (wd ws r : Int) = some (t : Int) ∧ wd x r = t ∧ t < 2048 ∧ wd ws r = m ∧ m < ws.length)
theorem obFix_inv {ws : List Nat} {M : List (Int × Int)} {l : List Int} {f : Nat → Nat} (hM : ∀ a t, mvTo M a = some t → ∃ n : Nat, t = (n : Int) ∧ n < 2048 ∧ ∃ m : Nat, a = (m : Int) ∧ m < ws.length)
    (hl : ∀ i (hi : i < l.length), l[i] = (f i : Int)) (hf : ∀ i, i < l.length → f i < ws.length) (hi : ∀ i j, i < j → j < l.length → f i < f j) : ∀ k, k ≤ l.length → ∀ o, obFix ws M (l.take k) = some o →
    (∀ e ∈ o, ∃ i, i < k ∧ e.a = (f i : Int) ∧ wd ws (f i) ≠ e.v ∧ e.v < 2048) ∧ o.Pairwise (fun a b => a.a < b.a) ∧ (∀ i, i < k → okFx ws (putE ws o) M (f i)) := by
  intro k
  induction k with
  | zero =>
    intro _ o h
    simp only [List.take_zero, obFix, Option.some.injEq] at h
    subst h
    exact ⟨fun e he => (by cases he), List.Pairwise.nil, fun i h => absurd h (by omega)⟩
  | succ k ih =>
    intro hk o h
    have hkl : k < l.length := by omega
    cases hx : obFix ws M (l.take k) with
    | none =>
      rw [List.take_succ_eq_append_getElem hkl, obFix_append, hx] at h
      cases h
    | some o1 =>
    rw [obFix_take hkl hx, hl k hkl, Int.toNat_natCast] at h
    obtain ⟨i1, i2, i3⟩ := ih (by omega) o1 hx
    have hold : wd (putE ws o1) (f k) = wd ws (f k) := putE_wd o1 ws _ fun e he => by
      obtain ⟨i, h1, h2, -⟩ := i1 e he
      have := hi i k h1 hkl
      rw [h2]; omega
    have hnil : okFx ws (putE ws o1) M (f k) → (∀ e ∈ o1, ∃ i, i < k + 1 ∧ e.a = (f i : Int) ∧ wd ws (f i) ≠ e.v ∧ e.v < 2048) ∧ o1.Pairwise (fun a b => a.a < b.a) ∧ (∀ i, i < k + 1 → okFx ws (putE ws o1) M (f i)) := by
      intro h3
      refine ⟨fun e he => ?_, i2, fun i hi => ?_⟩
      · obtain ⟨i, j1, j2, j3, j4⟩ := i1 e he
        exact ⟨i, by omega, j2, j3, j4⟩
      · rcases Nat.lt_or_ge i k with h5 | h5
        · exact i3 i h5
        · have : i = k := by omega
          subst this
          exact h3
    unfold obStep at h
    by_cases h0 : wd ws (f k) = 0
    · rw [if_pos h0] at h
      simp only [Option.map_some, Option.some.injEq, List.append_nil] at h
      subst h
      exact hnil (.inl ⟨h0, by rw [hold, h0]⟩)
    · rw [if_neg h0] at h
      cases hq : fixOf M (wd ws (f k)) with
      | none => rw [hq] at h; cases h
      | some t =>
        rw [hq] at h
        have hm : mvTo M (wd ws (f k) : Int) = some t := by
          unfold fixOf at hq
          split at hq
          · cases hq
          · exact hq
        obtain ⟨n, rfl, hn, m, em, hm2⟩ := hM _ _ hm
        dsimp only at h
        by_cases he : (wd ws (f k) : Int) = (n : Int)
        · rw [if_pos he] at h
          simp only [Option.map_some, Option.some.injEq, List.append_nil] at h
          subst h
          exact hnil (.inr ⟨by omega, n, m, hm, by rw [hold]; omega, hn, by omega, hm2⟩)
        · rw [if_neg he] at h
          simp only [Option.map_some, Option.some.injEq] at h
          subst h
          rw [Int.toNat_natCast]
          have hkk : f k < (putE ws o1).length := by rw [putE_len]; exact hf k hkl
          refine ⟨fun e he2 => ?_, ?_, fun i hi2 => ?_⟩
          · rcases List.mem_append.1 he2 with h5 | h5
            · obtain ⟨i, j1, j2, j3, j4⟩ := i1 e h5
              exact ⟨i, by omega, j2, j3, j4⟩
            · simp only [List.mem_singleton] at h5
              subst h5
              exact ⟨k, by omega, rfl, by dsimp only; omega, hn⟩
          · rw [List.pairwise_append]
            refine ⟨i2, by simp, fun a ha b hb => ?_⟩
            simp only [List.mem_singleton] at hb
            subst hb
            obtain ⟨i, j1, j2, -⟩ := i1 a ha
            have := hi i k j1 hkl
            rw [j2]
            dsimp only
            omega
          · unfold okFx
            rw [putE_append, wd_setE hkk]
            rcases Nat.lt_or_ge i k with h5 | h5
            · have := hi i k h5 hkl
              rw [if_neg (by omega)]
              exact i3 i h5
            · have : i = k := by omega
              subst this
              rw [if_pos rfl]
              exact .inr ⟨by omega, n, m, hm, rfl, hn, by omega, hm2⟩
theorem ob_plain {ws : List Nat} {a : Int} (h : obErr ws a = 0) : ∃ f : Nat → Nat, (256 ≤ ws.length ∧ ws.length ≤ 2048) ∧ rdErr ws 128 128 = 0 ∧ rsErr ws a = 0 ∧ (rsOut ws a).length ≤ 8 ∧ (obOut ws a).length ≤ 8 ∧
    (∀ i (hi : i < (rsOut ws a).length), (rsOut ws a)[i] = (f i : Int) ∧ a ≤ (f i : Int) ∧ f i < ws.length ∧ okFx ws (putE ws (obOut ws a)) (rdMv ws 128 128) (f i)) ∧
    (∀ j, (∀ i, i < (rsOut ws a).length → f i ≠ j) → wd (putE ws (obOut ws a)) j = wd ws j) ∧
    (∀ e ∈ obOut ws a, ∃ r : Nat, e.a = (r : Int) ∧ r < ws.length ∧ wd ws r ≠ e.v ∧ e.v < 2048) ∧ (obOut ws a).Pairwise (fun a b => a.a < b.a) := by
  have h0 : fxErr ws = 0 := by
    by_cases h1 : fxErr ws = 0
    · exact h1
    · rw [(ob_err rfl h1).1] at h; exact absurd h h1
  obtain ⟨g1, g2, g3⟩ := fxErr_zero h0
  cases hb : objF (frOut ws 128) a with
  | none => rw [(ob_none h0 hb).1] at h; cases h
  | some b =>
    cases hmk : b.mark with
    | false => rw [(ob_unmk h0 hb hmk).1] at h; cases h
    | true =>
      cases ho : obFix ws (fxMv ws) (rfsB ws b) with
      | none => rw [(ob_bad h0 hb hmk ho).1] at h; cases h
      | some o =>
        have eo := (ob_ok h0 hb hmk ho).2
        have er : rsOut ws a = rfsB ws b := by simp [rsOut, g1, hb]
        have ee : rsErr ws a = 0 := by simp [rsErr, g1, obj6Err, hb]
        obtain ⟨m, t, xs, xk, xm, xn, ea, eb, ht8, hobj, hmlt, hR8, hRin⟩ := obj_parts g1 hb
        have hbd := fr_bd ws (hpErr_zero g1).1
        have hp : (rfsB ws b).Pairwise (· < ·) := rfTo_pair _ _ _
        have hpi := List.pairwise_iff_getElem.1 hp
        have hlf : ∀ i (hi : i < (rfsB ws b).length), (rfsB ws b)[i] = ((((rfsB ws b)[i]?.getD 0).toNat : Nat) : Int) := fun i hi => by
          obtain ⟨r, e1, -, -⟩ := hRin i hi
          rw [List.getElem?_eq_getElem hi, Option.getD_some, e1, Int.toNat_natCast]
        have hlo := obFix_len ho
        have hto := fun x y (hy : mvTo (fxMv ws) x = some y) => fx_to h0 hy
        have hM : ∀ x y, mvTo (fxMv ws) x = some y → ∃ n : Nat, y = (n : Int) ∧ n < 2048 ∧ ∃ m : Nat, x = (m : Int) ∧ m < ws.length := fun x y hy => by
          obtain ⟨n, q1, -, -, q4, m, q5, -, q7⟩ := hto x y hy
          exact ⟨n, q1, q4, m, q5, q7⟩
        have hfb : ∀ i, i < (rfsB ws b).length → ((rfsB ws b)[i]?.getD 0).toNat < ws.length := fun i hi => by
          obtain ⟨r, e1, -, e3⟩ := hRin i hi
          rw [List.getElem?_eq_getElem hi, Option.getD_some, e1, Int.toNat_natCast]; exact e3
        have hinc : ∀ i j, i < j → j < (rfsB ws b).length → ((rfsB ws b)[i]?.getD 0).toNat < ((rfsB ws b)[j]?.getD 0).toNat := fun i j hij hj => by
          have h1 := hpi i j (by omega) hj hij
          have h2 := hlf i (by omega)
          have h3 := hlf j hj
          omega
        obtain ⟨j1, j2, j3⟩ := obFix_inv hM hlf hfb hinc _ (Nat.le_refl _) o (by rw [List.take_length]; exact ho)
        rw [eo, er]
        rw [← g3]
        refine ⟨fun i => ((rfsB ws b)[i]?.getD 0).toNat, by omega, g2, ee, hR8, by omega, fun i hi => ⟨hlf i hi, ?_, hfb i hi, j3 i hi⟩, fun j hj => ?_, fun e he => ?_, j2⟩
        · obtain ⟨r, e1, e2, -⟩ := hRin i hi
          have := hlf i hi
          rw [ea]
          show (m : Int) ≤ ((((rfsB ws b)[i]?.getD 0).toNat : Nat) : Int)
          omega
        · refine putE_wd o ws j fun e he => ?_
          obtain ⟨i, k1, k2, -⟩ := j1 e he
          have := hj i k1
          dsimp only at this
          rw [k2]; omega
        · obtain ⟨i, k1, k2, k3, k4⟩ := j1 e he
          exact ⟨_, k2, hfb i k1, k3, k4⟩
end Go.Proofs.YtoaepffpjoibaaaGreat
