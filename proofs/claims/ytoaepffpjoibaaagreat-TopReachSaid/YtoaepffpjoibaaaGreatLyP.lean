/- Right images: plain functions. -/
import Derived.Test.YtoaepffpjoibaaaGreatTys
import Derived.Test.YtoaepffpjoibaaaGreatWaP
import Derived.Test.YtoaepffpjoibaaaGreatKSup
import Derived.Test.YtoaepffpjoibaaaGreatR18
namespace Go.Proofs.YtoaepffpjoibaaaGreat
open Go.RowKit

/-- Whether a word is a float. -/
def flOk (v : Nat) : Bool := v == 9221120237041090561 || decide (v % 9223372036854775808 ≤ 9218868437227405312)
def objs (l : List Bk) : List Bk := l.filter fun b => b.kind == 1
/-- Whether a block begins at an address. -/
def hasO (O : List Bk) (v : Nat) : Bool := O.any fun b => b.at_ == (v : Int)
/-- Whether an object is wrong for a reason. -/
def wrF (ws F : List Nat) (O : List Bk) (m r i : Nat) : Bool := if r = 10 then F[i]? == some 2 && !flOk (wd ws (m + 2 + i)) else F[i]? == some 3 && (decide (0 < wd ws (m + 2 + i)) && !hasO O (wd ws (m + 2 + i)))
def wrB (ws : List Nat) (T : List (List Nat)) (O : List Bk) (m z ty : Nat) (mk : Bool) (nx r : Nat) : Bool :=
  if r = 7 then mk || decide (0 < nx)
  else if r = 8 then !decide (ty < T.length) || objSz (T[ty]?.getD []).length != z
  else if r = 9 then decide ((T[ty]?.getD []).length + 2 < z) && wd ws (m + 2 + (T[ty]?.getD []).length) != 0
  else (List.range (T[ty]?.getD []).length).any fun i => wrF ws (T[ty]?.getD []) O m r i
def wrK (ws : List Nat) (T : List (List Nat)) (O : List Bk) (r : Nat) (b : Bk) : Bool := wrB ws T O b.at_.toNat b.size.toNat b.typ.toNat b.mark b.next r
/-- Whether a line is all zero. -/
def zeroL (ws : List Nat) (a : Nat) : Bool := (List.range 8).all fun i => wd ws (a + i) == 0
def zeroTo (ws : List Nat) (a k : Nat) : Prop := ∀ i, i < k → wd ws (a + i) = 0
theorem zeroL_iff (ws : List Nat) (a : Nat) : zeroL ws a = true ↔ zeroTo ws a 8 := by
  unfold zeroL zeroTo
  rw [List.all_eq_true]
  constructor
  · intro h i hi; have := h i (List.mem_range.2 hi); simpa using this
  · intro h i hi; have := h i (List.mem_range.1 hi); simpa using this
/-- Whether a slot's object is there. -/
def slHas (O : List Bk) (s : Sl) : Bool := !s.used || hasO O s.at_.toNat
/-- Whether an image is right. -/
def lay (ws : List Nat) : Bool := match tyN ws, blocks ws 128 with
  | some t, some l => zeroL ws 16 && (zeroL ws 24 && (tysOk ws t && (slsOk ws && (adjOk l && ((List.range 5).all (fun r => (objs l).all fun b => !wrK ws (tysL ws t 8) (objs l) (7 + r) b) && (slL ws).all (slHas (objs l)))))))
  | _, _ => false
def layErr (ws : List Nat) : Int := if sizeOk (ws.length : Int) = true then (if lay ws = true then 0 else 50) else 8
theorem flOk_no {v : Nat} (h : v ≠ 9221120237041090561) : flOk v = decide (v % 9223372036854775808 ≤ 9218868437227405312) := by
  unfold flOk
  rw [show (v == 9221120237041090561) = false by rw [beq_eq_false_iff_ne]; exact h]
  rfl
theorem objs_take {l : List Bk} {k : Nat} (hk : k < l.length) : objs (l.take (k + 1)) = objs (l.take k) ++ (if l[k].kind = 1 then [l[k]] else []) := by
  unfold objs
  rw [List.take_succ_eq_append_getElem hk, List.filter_append]
  congr 1
  by_cases h : l[k].kind = 1
  · rw [if_pos h]; simp [h]
  · rw [if_neg h]; simp [h]
theorem hasO_at {O : List Bk} {k v : Nat} (hk : k < O.length) (h : O[k].at_ = (v : Int)) : hasO O v = true := by
  unfold hasO
  rw [List.any_eq_true]
  exact ⟨_, List.getElem_mem hk, by rw [beq_iff_eq]; exact h⟩
theorem hasO_no {O : List Bk} {v : Nat} (h : ∀ k (hk : k < O.length), O[k].at_ ≠ (v : Int)) : hasO O v = false := by
  unfold hasO
  rw [List.any_eq_false]
  intro b hb
  obtain ⟨k, hk, rfl⟩ := List.getElem_of_mem hb
  rw [beq_iff_eq]
  exact h k hk
end Go.Proofs.YtoaepffpjoibaaaGreat
