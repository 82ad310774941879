/- Lists of words of the own call, and where an address goes. -/
import Derived.Test.YtpifagclhhaniaaSame2
namespace Go.Proofs.Ytpifagclhhaniaa
open Go.RowKit

/-- A list of words that the call made: it is the call's own. -/
def OwnW (w : World) (xs : List Nat) (e : Ending) (w' : World) : Prop := ∃ g c, e = .returned (.slice (some ⟨g, 0, none⟩) xs.length c) ∧ w'.ownsRow w.heap.size 38 1 (.slice (some ⟨g, 0, none⟩) xs.length c) xs.length (xs.flatMap wordCells) ∧ Below w.heap.size w w'
theorem infoWord : (Try.prog.info? 38).map (fun i => (i.zero, i.size, i.bytes)) = some (some (.int .u64 0), 1, 8) := by kernel_rfl
theorem words_set (ws : List Nat) (a v : Nat) : (ws.set a v).flatMap wordCells = (ws.flatMap wordCells).set a (.int .u64 (v : Int)) := by
  have := flat_set wordCells 1 wordCells_len ws a 0 (by omega) v (.int .u64 (v : Int)) (fun y _ => rfl)
  simpa using this
theorem words_len (ws : List Nat) : (ws.flatMap wordCells).length = ws.length := by
  rw [flat_len wordCells 1 wordCells_len]; omega
theorem words_get (ws : List Nat) (k : Nat) (h : k < ws.length) : (ws.flatMap wordCells)[k]? = some (.int .u64 (ws[k] : Int)) := by
  have := flat_get wordCells 1 wordCells_len ws k 0 h (by omega)
  simpa [wordCells] using this
theorem own_some {w : World} {H n : Nat} {e : TypeId} {sz : Nat} {v : Value} {xs : List Value} (h : w.ownsRow H e sz v n xs) (hn : 0 < n) : ∃ g c, v = .slice (some ⟨g, 0, none⟩) n c := by
  obtain ⟨g, c, h1, _⟩ := h.form hn
  exact ⟨g, c, h1⟩
theorem own_base {w : World} {H : Nat} {e : TypeId} {sz n g c : Nat} {xs : List Value} (h : w.ownsRow H e sz (.slice (some ⟨g, 0, none⟩) n c) n xs) : H ≤ g := by
  rcases h.2 with ⟨h', _⟩ | ⟨g', cap', cur, h', hb, _⟩
  · simp at h'
  · simp only [Value.slice.injEq, Option.some.injEq, Addr.mk.injEq, and_true, true_and] at h'
    omega

theorem rdMv_no {ws : List Nat} {f s : Int} (h : rdErr ws f s ≠ 0) : (rdMv ws f s).length = 0 := by simp [rdMv, h]
theorem rdMv_len (ws : List Nat) (f s : Int) : (rdMv ws f s).length ≤ 2048 := by
  by_cases h : rdErr ws f s = 0
  · obtain ⟨h1, h2, l, h3, h4, h5⟩ := rdErr_zero h
    rw [h5]
    have hb := isImg_bd h1
    have ha := rdArg_no h2
    have h6 := (blocks_chain (by omega) _ _ h3 (by omega) (by omega) (by omega)).1
    have h7 := moves_len_le l s
    omega
  · rw [rdMv_no h]; omega

def noTo (l : List (Int × Int)) (a : Int) (k : Nat) : Prop := mvTo l a = mvTo (l.drop k) a
theorem noTo_succ {l : List (Int × Int)} {a : Int} {k : Nat} (hk : k < l.length) (h : noTo l a k) (h1 : l[k].1 ≠ a) : noTo l a (k + 1) := by
  unfold noTo at h ⊢
  rw [h, List.drop_eq_getElem_cons hk]
  simp [mvTo, h1]
theorem noTo_at {l : List (Int × Int)} {a : Int} {k : Nat} (hk : k < l.length) (h : noTo l a k) (h1 : l[k].1 = a) : mvTo l a = some l[k].2 := by
  unfold noTo at h
  rw [h, List.drop_eq_getElem_cons hk]
  simp [mvTo, h1]
theorem noTo_end {l : List (Int × Int)} {a : Int} (h : noTo l a l.length) : mvTo l a = none := by
  unfold noTo at h
  rw [h, List.drop_length]; rfl
set_option maxRecDepth 100000 in
set_option maxHeartbeats 2000000 in
theorem fwTo_c (A : Option Addr) (l : List (Int × Int)) (c n H : Nat) (a : Int) (w : World) (hn : l.length = n) (hm : n ≤ 1000000) (hr : RdM w H A l) (hH : H ≤ w.heap.size) :
    Calls Try.prog 38 #[.slice A n c, .int .i64 a] w fun e w' => e = .returned (.tuple #[.int .i64 ((mvTo l a).getD 0), .bool (mvTo l a).isSome]) ∧ Below w.heap.size w w' := by
  subst hn
  have HR := Lib.hid (hr.more hH)
  have HE : Hid (∀ k (h : k < l.length), noTo l a k → l[k].1 = a → mvTo l a = some l[k].2) := Lib.hid fun k h h1 h2 => noTo_at h h1 h2
  have HN : Hid (noTo l a l.length → mvTo l a = none) := Lib.hid noTo_end
  obtain ⟨q, hq⟩ : ∃ q, mvTo l a = q := ⟨_, rfl⟩
  rw [hq] at HE HN ⊢
  clear hr hH hq
  go_enter Try.func38, Try.ntmps38
  go_wp2_with fail
  go_loopw [10] (fun i wr => ∃ k : Nat, k ≤ l.length ∧ i = .int .i64 k ∧ Hid (noTo l a k) ∧ Below w.heap.size w wr) (fun i _ => l.length - (intOf i).toNat)
  case atStart => exact ⟨0, Nat.zero_le _, rfl, rfl, Below.refl _ _⟩
  case round =>
    obtain ⟨k, hk, rfl, HT, hB⟩ := hrel
    have hz := hB.size
    by_cases hlt : k < l.length
    · obtain ⟨b, off, rfl, hb, p0, p1⟩ := RdM.at_ (Rd.below HR.out hB) hlt
      have HS := Lib.hid (fun h => noTo_succ hlt HT.out h)
      have HE2 := Lib.hid (fun h => HE.out k hlt HT.out h)
      obtain ⟨x, hx⟩ : ∃ x, l[k] = x := ⟨_, rfl⟩
      rw [hx] at p0 p1 HS HE2
      obtain ⟨x1, x2⟩ := x
      dsimp only at p0 p1 HS HE2
      have hk1 : (k : Int) < (l.length : Int) := by omega
      clear hx
      by_cases hxa : x1 = a
      · have e1 : (x1 == a) = true := by rw [beq_iff_eq]; exact hxa
        have HY := Lib.hid (HE2.out hxa)
        clear hxa
        go_wp2_with fail
        go_ret2
        exact ⟨by rw [HY.out]; rfl, hB.alloc hz _⟩
      · have e1 : (x1 == a) = false := by rw [beq_eq_false_iff_ne]; exact hxa
        have HY := Lib.hid (HS.out hxa)
        clear hxa
        go_wp2_with fail
        go_roundw
        case rel => exact ⟨k + 1, by omega, by go_num, HY.out, hB.alloc hz _⟩
        case measure => simp [intOf]; omega
    · have HY := Lib.hid (HN.out (by have := HT.out; rwa [show k = l.length by omega] at this))
      go_wp2_with fail
      go_ret2
      exact ⟨by rw [HY.out]; rfl, hB⟩
end Go.Proofs.Ytpifagclhhaniaa
