/- The program's effort of several changes. -/
import Derived.Test.YtpfbppjjegialaaEff
import Derived.Test.YtpfbppjjegialaaSumP
namespace Go.Proofs.Ytpfbppjjegialaa
open Go.RowKit

def chA (cs : List Ch) : List (List Int) := cs.map fun x => addrs x.l
theorem chA_len (cs : List Ch) : (chA cs).length = cs.length := by simp [chA]
def sumRes (L : List (List Int)) : Value := .tuple #[effV (smS L) (smF L) (smN L), .int .i64 (sumErr L)]
theorem sumRes_err {L : List (List Int)} {k : Nat} {r : Int} (hk : k < L.length) (h : sumErr (L.take k) = 0) (hr : ofErr L[k] = r) (h0 : r ≠ 0) : sumRes L = .tuple #[effV 0 0 0, .int .i64 r] := by
  have h1 := sumErr_take hk h
  rw [hr] at h1
  have h2 := sumErr_pre (cs := L) (k := k + 1) (by rw [h1]; exact h0)
  rw [h1] at h2
  simp [sumRes, smS, smF, smN, h2, h0]
theorem sumRes_ok {L : List (List Int)} (h : sumErr L = 0) : sumRes L = .tuple #[effV (tot ofS L) (tot ofF L) (tot ofN L), .int .i64 0] := by
  simp [sumRes, smS, smF, smN, h]

/-- What the loop over the changes keeps. -/
structure SumRel (H : Nat) (L : List (List Int)) (k : Nat) (w wr : World) : Prop where
  below : Below H w wr
  err : sumErr (L.take k) = 0
  res : Bx wr H 45 #[.int .i64 0, .int .i64 0, .int .i64 0]
  out : Bx wr (H + 1) 45 #[.int .i64 (tot ofS (L.take k)), .int .i64 (tot ofF (L.take k)), .int .i64 (tot ofN (L.take k))]

set_option maxRecDepth 100000 in
set_option maxHeartbeats 800000 in
theorem effSum_c (A : Option Addr) (cs : List Ch) (c : Nat) (w : World) (hm : cs.length ≤ 4294967296) (hr : RdC w w.heap.size A cs) (hok : ∀ x ∈ cs, x.l.length ≤ maxLen ∧ RdE w w.heap.size x.A x.l) :
    Calls Try.prog 19 #[.slice A cs.length c] w fun e w' => e = .returned (sumRes (chA cs)) ∧ Below w.heap.size w w' := by
  have HR := Lib.hid hr
  have HO := Lib.hid hok
  clear hr hok
  go_enter Try.func19, Try.ntmps19
  go_wp2_with fail
  go_loopw [11] (fun i wr => ∃ k : Nat, k ≤ cs.length ∧ i = .int .i64 k ∧ SumRel w.heap.size (chA cs) k w wr) (fun i _ => cs.length - (intOf i).toNat)
  case atStart =>
    refine ⟨0, Nat.zero_le _, rfl, ?_, rfl, ?_, ?_⟩
    · (repeat' (first | with_reducible assumption | with_reducible exact Below.refl _ _ | (with_reducible refine below_drewN ?_ _) | (with_reducible refine Below.drew ?_) | (with_reducible refine Below.alloc ?_ ?_ _) | (with_reducible refine Below.setCell ?_ ?_ _))) <;> (first | exact Nat.le_refl _ | exact Nat.le_succ _ | omega | (dsimp only; omega) | ((repeat (first | (with_reducible refine le_alloc_ ?_) | (with_reducible refine le_set_ ?_) | (with_reducible refine le_drewN_ ?_))); first | exact Nat.le_refl _ | omega))
    · exact (Bx.new w _ _).alloc _
    · have := Bx.new (w.alloc (.cells #[.int .i64 0, .int .i64 0, .int .i64 0] 45)) 45 #[.int .i64 0, .int .i64 0, .int .i64 0]
      rw [World.size_alloc] at this
      exact this
  case round =>
    obtain ⟨k, hk, rfl, hR⟩ := hrel
    have HRel := Lib.hid hR
    clear hR
    by_cases hlt : k < cs.length
    · obtain ⟨b, off, rfl, hb, h2⟩ := HR.out.at_ hlt
      replace h2 := (HRel.out.below.cell (p := ⟨b, off + k, none⟩) hb).trans h2
      have hlA : k < (chA cs).length := by rw [chA_len]; exact hlt
      have HO2 := Lib.hid (HO.out cs[k] (List.getElem_mem hlt))
      have hgA : (chA cs)[k] = addrs cs[k].l := by simp [chA]
      have hs := tot_take ofS hlA
      have hf := tot_take ofF hlA
      have hn := tot_take ofN hlA
      have he := sumErr_take hlA HRel.out.err
      have hend := fun r => sumRes_err (r := r) hlA HRel.out.err
      rw [hgA] at hs hf hn he hend
      generalize cs[k] = x at *
      obtain ⟨xA, xc, xl⟩ := x
      dsimp only at *
      obtain ⟨q1, q2, q3, q4, q5, q6, q7⟩ := HRel.out.res.c3
      obtain ⟨o1, o2, o3, o4, o5, o6, o7⟩ := HRel.out.out.c3
      have hbS := tot_bd ofS 98 ofS_bd ((chA cs).take k)
      have hbF := tot_bd ofF 98 ofF_bd ((chA cs).take k)
      have hbN := tot_bd ofN 98 ofN_bd ((chA cs).take k)
      have hlk : (((chA cs).take k).length : Int) ≤ 4294967296 := by rw [List.length_take, chA_len]; omega
      have hcS := ofS_bd (addrs xl)
      have hcF := ofF_bd (addrs xl)
      have hcN := ofN_bd (addrs xl)
      have hm2 : xl.length ≤ 9223372036854775807 := by have := HO2.out.1; unfold maxLen at this; exact this
      have hrd := Lib.hid (HO2.out.2.up HRel.out.below HRel.out.below.size)
      obtain ⟨s', hs'⟩ : ∃ x, ofS (addrs xl) = x := ⟨_, rfl⟩
      obtain ⟨f', hf'⟩ : ∃ x, ofF (addrs xl) = x := ⟨_, rfl⟩
      obtain ⟨n', hn'⟩ : ∃ x, ofN (addrs xl) = x := ⟨_, rfl⟩
      obtain ⟨r, hr'⟩ : ∃ x, ofErr (addrs xl) = x := ⟨_, rfl⟩
      have HE := Lib.hid (show effRes (addrs xl) = .tuple #[.agg #[.int .i64 s', .int .i64 f', .int .i64 n'], .int .i64 r] by rw [effRes, effV, hs', hf', hn', hr'])
      rw [hs'] at hs hcS
      rw [hf'] at hf hcF
      rw [hn'] at hn hcN
      rw [hr'] at he hend
      clear hs' hf' hn' hr' hgA
      obtain ⟨s0, hs0⟩ : ∃ x, tot ofS ((chA cs).take k) = x := ⟨_, rfl⟩
      obtain ⟨f0, hf0⟩ : ∃ x, tot ofF ((chA cs).take k) = x := ⟨_, rfl⟩
      obtain ⟨n0, hn0⟩ : ∃ x, tot ofN ((chA cs).take k) = x := ⟨_, rfl⟩
      rw [hs0] at hs hbS o1
      rw [hf0] at hf hbF o2
      rw [hn0] at hn hbN o3
      have HS := Lib.hid hs
      have HF := Lib.hid hf
      have HN := Lib.hid hn
      have HEr := Lib.hid he
      have HEnd := Lib.hid (hend r rfl)
      have hout := HRel.out.out
      rw [hs0, hf0, hn0] at hout
      have HOut := Lib.hid hout
      clear hs hf hn he hend hs0 hf0 hn0 hout
      have hbS2 : s0 ≤ 420906795008 := by have := hbS.2; omega
      have hbF2 : f0 ≤ 420906795008 := by have := hbF.2; omega
      have hbN2 : n0 ≤ 420906795008 := by have := hbN.2; omega
      have hbS1 := hbS.1
      have hbF1 := hbF.1
      have hbN1 := hbN.1
      clear hbS hbF hbN
      obtain ⟨c1, c2⟩ := hcS
      obtain ⟨c3, c4⟩ := hcF
      obtain ⟨c5, c6⟩ := hcN
      have hB := HRel.out.below
      have hz := hB.size
      go_wp2_with fail
      refine (of_c xA xl xc _ hm2 hrd.out).mono ?_
      rintro e w2 ⟨rfl, hB2⟩
      rw [HE.out]
      have g1 := HRel.out.res.up hB2 q7
      have g2 := HOut.out.up hB2 o7
      clear q1 q2 q3 q4 q5 q6 o1 o2 o3 o4 o5 o6 h2
      obtain ⟨q1, q2, q3, q4, q5, q6, q7'⟩ := g1.c3
      obtain ⟨o1, o2, o3, o4, o5, o6, o7'⟩ := g2.c3
      have hb2 := hB.trans (hB2.mono hz)
      by_cases h0 : r = 0
      · subst h0
        have G1 := Lib.hid g1
        have G2 := Lib.hid g2
        clear g1 g2
        go_wp2_with fail
        go_roundw
        case rel =>
          refine ⟨k + 1, by omega, by go_num, ?_, HEr.out, ?_, ?_⟩
          · (repeat' (first | with_reducible assumption | with_reducible exact Below.refl _ _ | (with_reducible refine below_drewN ?_ _) | (with_reducible refine Below.drew ?_) | (with_reducible refine Below.alloc ?_ ?_ _) | (with_reducible refine Below.setCell ?_ ?_ _))) <;> (first | exact Nat.le_refl _ | exact Nat.le_succ _ | omega | (dsimp only; omega) | ((repeat (first | (with_reducible refine le_alloc_ ?_) | (with_reducible refine le_set_ ?_) | (with_reducible refine le_drewN_ ?_))); first | exact Nat.le_refl _ | omega))
          · exact (((G1.out.far (by dsimp only; omega) _).far (by dsimp only; omega) _).far (by dsimp only; omega) _).alloc _
          · rw [HS.out, HF.out, HN.out]
            exact (((G2.out.set_ 0 _).set_ 1 _).set_ 2 _).alloc _
        case measure => simp [intOf]; omega
      · have hn1 : (r == 0) = false := by rw [beq_eq_false_iff_ne]; exact h0
        have hn2 : (r != 0) = true := by rw [bne_iff_ne]; exact h0
        have HEnd2 := Lib.hid (HEnd.out h0)
        clear h0
        go_wp2_with fail
        refine bodyPost_ret (v := .tuple #[effV 0 0 0, .int .i64 r]) (by simp [results, Try.results19, go_sem, effV, q1, q2, q3, q7']) rfl ⟨by rw [HEnd2.out], ?_⟩
        (repeat' (first | with_reducible assumption | with_reducible exact Below.refl _ _ | (with_reducible refine below_drewN ?_ _) | (with_reducible refine Below.drew ?_) | (with_reducible refine Below.alloc ?_ ?_ _) | (with_reducible refine Below.setCell ?_ ?_ _))) <;> (first | exact Nat.le_refl _ | exact Nat.le_succ _ | omega | (dsimp only; omega) | ((repeat (first | (with_reducible refine le_alloc_ ?_) | (with_reducible refine le_set_ ?_) | (with_reducible refine le_drewN_ ?_))); first | exact Nat.le_refl _ | omega))
    · have : k = cs.length := by omega
      subst this
      have hB := HRel.out.below
      have hz := hB.size
      have hfin := sumRes_ok (L := chA cs) (by have := HRel.out.err; rwa [← chA_len cs, List.take_length] at this)
      have hout := HRel.out.out
      rw [← chA_len cs, List.take_length] at hout
      obtain ⟨q1, q2, q3, q4, q5, q6, q7⟩ := HRel.out.res.c3
      generalize tot ofS (chA cs) = s0 at *
      generalize tot ofF (chA cs) = f0 at *
      generalize tot ofN (chA cs) = n0 at *
      have HFin := Lib.hid hfin
      obtain ⟨o1, o2, o3, o4, o5, o6, o7⟩ := hout.c3
      clear hfin hout
      go_wp2_with fail
      refine bodyPost_ret (v := .tuple #[effV s0 f0 n0, .int .i64 0]) (by simp [results, Try.results19, go_sem, effV, q1, q2, q3]) rfl ⟨by rw [HFin.out], ?_⟩
      (repeat' (first | with_reducible assumption | with_reducible exact Below.refl _ _ | (with_reducible refine below_drewN ?_ _) | (with_reducible refine Below.drew ?_) | (with_reducible refine Below.alloc ?_ ?_ _) | (with_reducible refine Below.setCell ?_ ?_ _))) <;> (first | exact Nat.le_refl _ | exact Nat.le_succ _ | omega | (dsimp only; omega) | ((repeat (first | (with_reducible refine le_alloc_ ?_) | (with_reducible refine le_set_ ?_) | (with_reducible refine le_drewN_ ?_))); first | exact Nat.le_refl _ | omega))

theorem sum_n (A : Option Addr) (cs : List Ch) (c n : Nat) (w : World) (hn : cs.length = n) (hm : n ≤ 4294967296) (hr : RdC w w.heap.size A cs) (hok : ∀ x ∈ cs, x.l.length ≤ maxLen ∧ RdE w w.heap.size x.A x.l) :
    Calls Try.prog 19 #[.slice A n c] w fun e w' => e = .returned (sumRes (chA cs)) ∧ Below w.heap.size w w' := by
  subst hn
  exact effSum_c A cs c w hm hr hok
end Go.Proofs.Ytpfbppjjegialaa
