/- A view after putting a change: what the program returns, for a change whose addresses are right. -/
import Derived.Test.YtpfbppjjegialaaKMove
import Derived.WalkSpells
namespace Go.Proofs.Ytpfbppjjegialaa
open Go.RowKit

set_option maxRecDepth 100000 in
set_option maxHeartbeats 2000000 in
theorem clone_c (A : Option Addr) (ws : List Nat) (c n H : Nat) (w : World) (hn : ws.length = n) (h0 : 0 < n) (hm : n ≤ 1000000) (hr : RdW w H A ws) (hH : H ≤ w.heap.size) :
    Calls Try.prog 55 #[.slice A n c] w fun e w' => OwnW w ws e w' := by
  have HR := Lib.hid (hr.more hH)
  have HN := Lib.hid hn
  have HLN := Lib.hid (words_len ws)
  obtain ⟨b, off, rfl, hb, -⟩ := RdW.at_ hr (show 0 < ws.length by omega)
  have hnil := fun (W : World) => Lib.run_eql_slice_nil (P := Try.prog) (w := W) 22 31 (some ⟨b, off, none⟩) n c 0 0 Try.underlying22
  simp only [Option.isNone_some] at hnil
  clear hr hH hn hb
  obtain ⟨i0, hi, hz0, hz1, hz2⟩ := info_parts infoWord
  have HI := Lib.hid hi
  have HZ0 := Lib.hid hz0
  have HZ1 := Lib.hid hz1
  have HZ2 := Lib.hid hz2
  clear hi hz0 hz1 hz2
  go_enter Try.func55, Try.ntmps55
  go_wp2_with (at_builtin; refine wpList_append_rd' _ (by rfl) _ _ 22 rfl w.heap.size 31 i0 _ 1 8 Try.underlying22 HI.out HZ0.out HZ1.out HZ2.out rfl (by decide) (.slice (some ⟨w.heap.size, 0, none⟩) 0 0) 0 [] (by rfl) (own_empty w _ _ _ (Nat.le_refl _)) w.heap.size (some ⟨b, off, none⟩) n _ (ws.flatMap wordCells) (by rfl) (by rw [HLN.out, HN.out]; omega) (Rd.alloc HR.out (Nat.le_refl _) _) (cells_one word_one _) (by unfold maxLen; omega) (by omega) (by simp) ?_; intro v1 wa hown1 hg1; have hBa := below_append0 ((Below.refl w.heap.size w).alloc (Nat.le_refl _) _) (by simp) (own_empty w w.heap.size 31 1 (Nat.le_refl _)) hg1; simp only [Nat.zero_add, List.nil_append] at hown1; obtain ⟨g, c1, rfl⟩ := own_some hown1 (by omega); have HOWN := Lib.hid hown1; have HBA := Lib.hid hBa; clear hown1 hBa hg1)
  go_ret
  exact ⟨g, c1, by rw [HN.out]; rfl, by rw [HN.out]; exact HOWN.out, HBA.out⟩
/-- A view that the call made, and no error. -/
def OwnV (w : World) (xs : List Nat) (e : Ending) (w' : World) : Prop := ∃ g c, e = .returned (.tuple #[.slice (some ⟨g, 0, none⟩) xs.length c, .int .i64 0]) ∧ w'.ownsRow w.heap.size 31 1 (.slice (some ⟨g, 0, none⟩) xs.length c) xs.length (xs.flatMap wordCells) ∧ Below w.heap.size w w'

set_option maxRecDepth 100000 in
set_option maxHeartbeats 4000000 in
theorem sPut_c (A B : Option Addr) (ws : List Nat) (E : List En) (c d n m H : Nat) (w : World) (hn : ws.length = n) (hm : E.length = m) (hs : sizeOk (n : Int) = true) (hm2 : m ≤ 32) (hE : ∀ e ∈ E, 0 ≤ e.a ∧ e.a < (n : Int)) (hr : RdW w H A ws) (he : RdE w H B E) (hH : H ≤ w.heap.size) :
    Calls Try.prog 33 #[.slice A n c, .slice B m d] w fun e w' => OwnV w (putE ws E) e w' := by
  subst hm
  obtain ⟨b1, b2, -⟩ := (sizeOk_iff _).1 hs
  have HI := Lib.hid (imgErr_ok hs)
  have HR := Lib.hid (hr.more hH)
  have HE := Lib.hid (he.more hH)
  have HN := Lib.hid hn
  have HPL : Hid (∀ k, (putE ws (E.take k)).length = n) := Lib.hid fun k => by rw [putE_len, hn]
  have HIN : Hid (∀ k (h : k < E.length), 0 ≤ E[k].a ∧ E[k].a < (n : Int)) := Lib.hid fun k h => hE _ (List.getElem_mem h)
  have HST : Hid (∀ k (h : k < E.length), putE ws (E.take (k + 1)) = (putE ws (E.take k)).set E[k].a.toNat E[k].v) := Lib.hid fun k h => by rw [putE_take h, hn, if_pos (hE _ (List.getElem_mem h))]
  have HCL := Lib.hid (fun W (h : RdW W W.heap.size A ws) => clone_c A ws c n W.heap.size W hn (by omega) (by omega) h (Nat.le_refl _))
  unfold OwnW at HCL
  rw [hn] at HCL
  have h32 : decide ((32 : Int) < (E.length : Int)) = false := by rw [decide_eq_false_iff_not]; omega
  clear hr he hH hn hE hs
  go_enter Try.func33, Try.ntmps33
  go_wp2_with fail
  refine (imCheck_c A n c w (by omega)).mono ?_
  rintro e w1 ⟨rfl, rfl⟩
  rw [HI.out]
  go_wp2_with fail
  refine (HCL.out _ HR.out).mono ?_
  rintro e w2 ⟨g, c1, rfl, hown, hB2⟩
  have HOWN := Lib.hid hown
  have HBA := Lib.hid hB2
  clear hown hB2
  go_wp2_with fail
  go_loopw [22] (fun i wr => ∃ k : Nat, k ≤ E.length ∧ i = .int .i64 k ∧ wr.ownsRow w.heap.size 31 1 (.slice (some ⟨g, 0, none⟩) n c1) n ((putE ws (E.take k)).flatMap wordCells) ∧ Below w.heap.size w wr) (fun i _ => E.length - (intOf i).toNat)
  case atStart => exact ⟨0, Nat.zero_le _, rfl, HOWN.out, HBA.out⟩
  case round =>
    obtain ⟨k, hk, rfl, hown, hB⟩ := hrel
    have hz := hB.size
    have hgH := own_base hown
    by_cases hlt : k < E.length
    · obtain ⟨b, off, rfl, hb, p0, p1⟩ := RdE.at_ (Rd.below HE.out hB) hlt
      have HS := Lib.hid (HST.out k hlt)
      obtain ⟨g1, g2⟩ := HIN.out k hlt
      obtain ⟨x, hx⟩ : ∃ x, E[k] = x := ⟨_, rfl⟩
      rw [hx] at p0 p1 HS g1 g2
      obtain ⟨xa, xv⟩ := x
      dsimp only at p0 p1 HS g1 g2
      obtain ⟨a, rfl⟩ := Int.eq_ofNat_of_zero_le g1
      rw [Int.toNat_natCast] at HS
      have hk1 : (k : Int) < (E.length : Int) := by omega
      have hk0 : (0 : Int) ≤ (k : Int) := by omega
      obtain ⟨cur, hcur⟩ : ∃ cur, putE ws (E.take k) = cur := ⟨_, rfl⟩
      have hcl := HPL.out k
      rw [hcur] at HS hown hcl
      have c0 := (hown.cellAt a (by omega)).trans (words_get cur a (by omega))
      have f0 := hown.frozenAt a
      obtain ⟨u, hu⟩ : ∃ u, ((cur[a]'(by omega) : Nat) : Int) = u := ⟨_, rfl⟩
      rw [hu] at c0
      have hgw : g < wr.heap.size := (hown.lt g rfl).2
      have c0' := (World.cell?_alloc_lt wr (.cells #[.int .i64 (a : Int), .int .u64 (xv : Int)] 50) ⟨g, a, none⟩ hgw).trans c0
      have HO := Lib.hid (hown.alloc (.cells #[.int .i64 (a : Int), .int .u64 (xv : Int)] 50))
      have f0' := HO.out.frozenAt a
      have HO0 := Lib.hid hown
      clear hx hu hown hcur c0 f0
      go_wp2_with fail
      go_roundw
      case rel =>
        refine ⟨k + 1, by omega, by go_num, ?_, (hB.setCell (p := ⟨g, a, none⟩) hgH _).alloc (by rw [World.size_setCell]; exact hz) _⟩
        rw [HS.out, words_set]
        exact (HO0.out.stored a (.int .u64 (xv : Int))).1.alloc _
      case measure => simp [intOf]; omega
    · rw [List.take_of_length_le (by omega)] at hown
      have hl := HPL.out E.length
      rw [List.take_length] at hl
      go_wp2_with fail
      go_ret2
      exact ⟨g, c1, by rw [hl]; rfl, by rw [hl]; exact hown, hB⟩
end Go.Proofs.Ytpfbppjjegialaa
