/- The law's own helpers of layer 27: another word in a list, a reading's error, where an address goes. -/
import Derived.Test.YtkcancjalpjbgaaSame2
namespace Go.Proofs.Ytkcancjalpjbgaa
open Go.RowKit

/-- A list of words that the call made: it is the call's own. -/
def OwnW (w : World) (xs : List Nat) (e : Ending) (w' : World) : Prop := ∃ g c, e = .returned (.slice (some ⟨g, 0, none⟩) xs.length c) ∧ w'.ownsRow w.heap.size 24 1 (.slice (some ⟨g, 0, none⟩) xs.length c) xs.length (xs.flatMap wordCells) ∧ Below w.heap.size w w'
theorem infoWord : (Try.prog.info? 24).map (fun i => (i.zero, i.size, i.bytes)) = some (some (.int .u64 0), 1, 8) := by kernel_rfl
theorem words_set (ws : List Nat) (a v : Nat) : (ws.set a v).flatMap wordCells = (ws.flatMap wordCells).set a (.int .u64 (v : Int)) := by
  have := flat_set wordCells 1 wordCells_len ws a 0 (by omega) v (.int .u64 (v : Int)) (fun y _ => rfl)
  simpa using this
theorem words_len (ws : List Nat) : (ws.flatMap wordCells).length = ws.length := by
  rw [flat_len wordCells 1 wordCells_len]; omega
theorem words_get (ws : List Nat) (k : Nat) (h : k < ws.length) : (ws.flatMap wordCells)[k]? = some (.int .u64 (ws[k] : Int)) := by
  have := flat_get wordCells 1 wordCells_len ws k 0 h (by omega)
  simpa [wordCells] using this
theorem own_some {w : World} {H n : Nat} {e : TypeId} {sz : Nat} {v : Value} {xs : List Value} (h : w.ownsRow H e sz v n xs) (hn : 0 < n) : ∃ g c, v = .slice (some ⟨g, 0, none⟩) n c := by
  obtain ⟨g, c, h1, _⟩ := h.form hn
  exact ⟨g, c, h1⟩
theorem own_base {w : World} {H : Nat} {e : TypeId} {sz n g c : Nat} {xs : List Value} (h : w.ownsRow H e sz (.slice (some ⟨g, 0, none⟩) n c) n xs) : H ≤ g := by
  rcases h.2 with ⟨h', _⟩ | ⟨g', cap', cur, h', hb, _⟩
  · simp at h'
  · simp only [Value.slice.injEq, Option.some.injEq, Addr.mk.injEq, and_true, true_and] at h'
    omega

set_option maxRecDepth 100000 in
set_option maxHeartbeats 2000000 in
theorem put27_c (A : Option Addr) (ws : List Nat) (c n a v H : Nat) (w : World) (hn : ws.length = n) (hm : n ≤ 1000000) (ha : a < n) (hr : RdW w H A ws) (hH : H ≤ w.heap.size) :
    Calls Try.prog 21 #[.slice A n c, .int .i64 (a : Int), .int .u64 (v : Int)] w fun e w' => OwnW w (ws.set a v) e w' := by
  have HR := Lib.hid (hr.more hH)
  have HN := Lib.hid hn
  have HLN := Lib.hid (words_len ws)
  have HWS := Lib.hid (words_set ws a v)
  have ha1 : (a : Int) < (n : Int) := by omega
  have ha0 : (0 : Int) ≤ (a : Int) := by omega
  clear hr hH hn
  obtain ⟨i0, hi, hz0, hz1, hz2⟩ := info_parts infoWord
  have HI := Lib.hid hi
  have HZ0 := Lib.hid hz0
  have HZ1 := Lib.hid hz1
  have HZ2 := Lib.hid hz2
  clear hi hz0 hz1 hz2
  go_enter Try.func21, Try.ntmps21
  go_wp2_with (at_builtin; refine wpList_append_rd' _ (by rfl) _ _ 22 rfl w.heap.size 24 i0 _ 1 8 Try.underlying22 HI.out HZ0.out HZ1.out HZ2.out rfl (by decide) (.slice (some ⟨w.heap.size, 0, none⟩) 0 0) 0 [] (by rfl) (own_empty w _ _ _ (Nat.le_refl _)) w.heap.size A n _ (ws.flatMap wordCells) (by rfl) (by rw [HLN.out, HN.out]; omega) (Rd.alloc HR.out (Nat.le_refl _) _) (cells_one word_one _) (by unfold maxLen; omega) (by omega) (by simp) ?_; intro v1 wa hown1 hg1; have hBa := below_append0 ((Below.refl w.heap.size w).alloc (Nat.le_refl _) _) (by simp) (own_empty w w.heap.size 24 1 (Nat.le_refl _)) hg1; simp only [Nat.zero_add, List.nil_append] at hown1; obtain ⟨g, c1, rfl⟩ := own_some hown1 (by omega); have hc0 := (hown1.cellAt a (by omega)).trans (words_get ws a (by rw [HN.out]; exact ha)); have hf0 := hown1.frozenAt a; have HOWN := Lib.hid hown1; have HBA := Lib.hid hBa; clear hown1 hBa hg1)
  go_ret
  have hs := (HOWN.out.stored a (.int .u64 (v : Int))).1
  rw [← HWS.out] at hs
  refine ⟨g, c1, by rw [List.length_set, HN.out]; rfl, ?_, HBA.out.setCell (p := ⟨g, a, none⟩) (own_base HOWN.out) _⟩
  rw [List.length_set, HN.out]
  exact hs
theorem rdMv_no {ws : List Nat} {f s : Int} (h : rdErr ws f s ≠ 0) : (rdMv ws f s).length = 0 := by simp [rdMv, h]
theorem rdMv_len (ws : List Nat) (f s : Int) : (rdMv ws f s).length ≤ 2048 := by
  by_cases h : rdErr ws f s = 0
  · obtain ⟨h1, h2, l, h3, h4, h5⟩ := rdErr_zero h
    rw [h5]
    have hb := isImg_bd h1
    have ha := rdArg_no h2
    have h6 := (blocks_chain (by omega) _ _ h3 (by omega) (by omega) (by omega)).1
    have h7 := moves_len_le l s
    omega
  · rw [rdMv_no h]; omega

set_option maxRecDepth 100000 in
set_option maxHeartbeats 2000000 in
theorem reads27_c (A : Option Addr) (ws : List Nat) (c n : Nat) (f s r : Int) (w : World) (hn : ws.length = n) (hm : n ≤ 9223372036854775807) (hf : -9223372036854775808 ≤ f ∧ f ≤ 9223372036854775807) (hs : -9223372036854775808 ≤ s ∧ s ≤ 9223372036854775807) (hr : RdW w w.heap.size A ws) (ho : ∀ x ∈ ws, x < 18446744073709551616) :
    Calls Try.prog 20 #[.slice A n c, .int .i64 f, .int .i64 s, .int .i64 r] w fun e w' => e = .returned (.bool (decide (rdErr ws f s = r))) ∧ Below w.heap.size w w' := by
  have HC := Lib.hid (fwRead_c A ws c n f s w hn hm hf hs hr ho)
  unfold RdRes at HC
  have HM : Hid (rdErr ws f s ≠ 0 → (rdMv ws f s).length = 0) := Lib.hid rdMv_no
  obtain ⟨q, hq⟩ : ∃ q, rdErr ws f s = q := ⟨_, rfl⟩
  obtain ⟨m, hm2⟩ : ∃ m, rdMv ws f s = m := ⟨_, rfl⟩
  rw [hq, hm2] at HC HM
  rw [hq]
  obtain ⟨z, hz⟩ : ∃ z, decide (q = r) = z := ⟨_, rfl⟩
  have HZ : Hid (z = decide (q = r)) := Lib.hid hz.symm
  rw [hz]
  clear hr ho hf hs hm hq hm2 hz
  by_cases h1 : q = r
  · have e1 : (q == r) = true := by rw [beq_iff_eq]; exact h1
    have HY := Lib.hid (show z = true by rw [HZ.out, decide_eq_true_iff]; exact h1)
    by_cases h2 : q = 0
    · have e2 : (q == 0) = true := by rw [beq_iff_eq]; exact h2
      clear h1 h2
      go_enter Try.func20, Try.ntmps20
      go_wp2_with fail
      refine HC.out.mono ?_
      rintro e w1 ⟨⟨A1, c1, rfl, -, -⟩, hB1⟩
      go_wp2_with fail
      go_ret
      exact ⟨by rw [HY.out]; rfl, hB1⟩
    · have e2 : (q == 0) = false := by rw [beq_eq_false_iff_ne]; exact h2
      have HL := Lib.hid (HM.out h2)
      clear h1 h2
      go_enter Try.func20, Try.ntmps20
      go_wp2_with fail
      refine HC.out.mono ?_
      rintro e w1 ⟨⟨A1, c1, rfl, -, -⟩, hB1⟩
      rw [HL.out]
      go_wp2_with fail
      go_ret
      exact ⟨by rw [HY.out]; rfl, hB1⟩
  · have e1 : (q == r) = false := by rw [beq_eq_false_iff_ne]; exact h1
    have HY := Lib.hid (show z = false by rw [HZ.out, decide_eq_false_iff_not]; exact h1)
    clear h1
    go_enter Try.func20, Try.ntmps20
    go_wp2_with fail
    refine HC.out.mono ?_
    rintro e w1 ⟨⟨A1, c1, rfl, -, -⟩, hB1⟩
    go_wp2_with fail
    go_ret
    exact ⟨by rw [HY.out]; rfl, hB1⟩

def noTo (l : List (Int × Int)) (a : Int) (k : Nat) : Prop := mvTo l a = mvTo (l.drop k) a
theorem noTo_succ {l : List (Int × Int)} {a : Int} {k : Nat} (hk : k < l.length) (h : noTo l a k) (h1 : l[k].1 ≠ a) : noTo l a (k + 1) := by
  unfold noTo at h ⊢
  rw [h, List.drop_eq_getElem_cons hk]
  simp [mvTo, h1]
theorem noTo_at {l : List (Int × Int)} {a : Int} {k : Nat} (hk : k < l.length) (h : noTo l a k) (h1 : l[k].1 = a) : mvTo l a = some l[k].2 := by
  unfold noTo at h
  rw [h, List.drop_eq_getElem_cons hk]
  simp [mvTo, h1]
theorem noTo_end {l : List (Int × Int)} {a : Int} (h : noTo l a l.length) : mvTo l a = none := by
  unfold noTo at h
  rw [h, List.drop_length]; rfl
set_option maxRecDepth 100000 in
set_option maxHeartbeats 2000000 in
theorem fwTo_c (A : Option Addr) (l : List (Int × Int)) (c n H : Nat) (a : Int) (w : World) (hn : l.length = n) (hm : n ≤ 1000000) (hr : RdM w H A l) (hH : H ≤ w.heap.size) :
    Calls Try.prog 30 #[.slice A n c, .int .i64 a] w fun e w' => e = .returned (.tuple #[.int .i64 ((mvTo l a).getD 0), .bool (mvTo l a).isSome]) ∧ Below w.heap.size w w' := by
  subst hn
  have HR := Lib.hid (hr.more hH)
  have HE : Hid (∀ k (h : k < l.length), noTo l a k → l[k].1 = a → mvTo l a = some l[k].2) := Lib.hid fun k h h1 h2 => noTo_at h h1 h2
  have HN : Hid (noTo l a l.length → mvTo l a = none) := Lib.hid noTo_end
  obtain ⟨q, hq⟩ : ∃ q, mvTo l a = q := ⟨_, rfl⟩
  rw [hq] at HE HN ⊢
  clear hr hH hq
  go_enter Try.func30, Try.ntmps30
  go_wp2_with fail
  go_loopw [10] (fun i wr => ∃ k : Nat, k ≤ l.length ∧ i = .int .i64 k ∧ Hid (noTo l a k) ∧ Below w.heap.size w wr) (fun i _ => l.length - (intOf i).toNat)
  case atStart => exact ⟨0, Nat.zero_le _, rfl, rfl, Below.refl _ _⟩
  case round =>
    obtain ⟨k, hk, rfl, HT, hB⟩ := hrel
    have hz := hB.size
    by_cases hlt : k < l.length
    · obtain ⟨b, off, rfl, hb, p0, p1⟩ := RdM.at_ (Rd.below HR.out hB) hlt
      have HS := Lib.hid (fun h => noTo_succ hlt HT.out h)
      have HE2 := Lib.hid (fun h => HE.out k hlt HT.out h)
      obtain ⟨x, hx⟩ : ∃ x, l[k] = x := ⟨_, rfl⟩
      rw [hx] at p0 p1 HS HE2
      obtain ⟨x1, x2⟩ := x
      dsimp only at p0 p1 HS HE2
      have hk1 : (k : Int) < (l.length : Int) := by omega
      clear hx
      by_cases hxa : x1 = a
      · have e1 : (x1 == a) = true := by rw [beq_iff_eq]; exact hxa
        have HY := Lib.hid (HE2.out hxa)
        clear hxa
        go_wp2_with fail
        go_ret2
        exact ⟨by rw [HY.out]; rfl, hB.alloc hz _⟩
      · have e1 : (x1 == a) = false := by rw [beq_eq_false_iff_ne]; exact hxa
        have HY := Lib.hid (HS.out hxa)
        clear hxa
        go_wp2_with fail
        go_roundw
        case rel => exact ⟨k + 1, by omega, by go_num, HY.out, hB.alloc hz _⟩
        case measure => simp [intOf]; omega
    · have HY := Lib.hid (HN.out (by have := HT.out; rwa [show k = l.length by omega] at this))
      go_wp2_with fail
      go_ret2
      exact ⟨by rw [HY.out]; rfl, hB⟩
end Go.Proofs.Ytkcancjalpjbgaa
