/- BreaksParts: the places of a row are those of its first blocks, and of the others from the end of these on. -/
import Derived.Test.YtiaddipbjigaiaaCut
import Derived.Test.YtiaddipbjigaiaaBrkO
namespace Go.Proofs.Ytiaddipbjigaiaa
open Go.RowKit

theorem own2_rd {w : World} {base n : Nat} {e : TypeId} {A : Option Addr} {c : Nat} {a b : List Int} (h : w.ownsRow base e 1 (.slice A n c) n ([] ++ a.flatMap intCells ++ b.flatMap intCells)) : RdI w w.heap.size A (a ++ b) := by
  unfold RdI
  rw [List.flatMap_append]
  have := Rd.of_own h
  simpa using this

set_option maxRecDepth 100000 in
set_option maxHeartbeats 3200000 in
theorem breaksParts_walk (w : World) (A : Option Addr) (l : List Bk) (c : Nat) (hm : l.length ≤ maxLen) (hc : l.length ≤ c) (hr : RdB w w.heap.size A l) (_ho : ∀ x ∈ l, x.ok) (s : Int) (hs : -9223372036854775808 ≤ s ∧ s ≤ 9223372036854775807) (at_ : Int) (ha : -9223372036854775808 ≤ at_ ∧ at_ ≤ 9223372036854775807) :
    Calls Try.prog 9 #[.slice A l.length c, .int .i64 s, .int .i64 at_] w fun e w' => e = .returned (.bool true) ∧ Below w.heap.size w w' := by
  have HR := Lib.hid hr
  have HS := Lib.hid hs
  clear hr hs
  unfold maxLen at hm
  go_enter Try.func9, Try.ntmps9
  go_wp2_with fail
  refine (alive26_c _).mono ?_
  rintro e w0 ⟨rfl, hB0⟩
  have hz0 := hB0.size
  go_wp2_with fail
  refine (great26_c A l.length c _ (by omega)).mono ?_
  rintro e w1 ⟨rfl, rfl⟩
  cases hg : greatB l.length
  case true =>
    clear hg
    go_wp2_with fail
    go_ret
    exact ⟨rfl, hB0⟩
  case false =>
    have hn := greatB_no hg
    have hlen : l.length ≤ 4294967296 := by omega
    clear hg hn hm
    obtain ⟨ha1, ha2⟩ := ha
    by_cases hneg : at_ < 0
    · go_wp2_with fail
      go_ret
      exact ⟨rfl, hB0⟩
    · obtain ⟨k, rfl⟩ := Int.eq_ofNat_of_zero_le (show 0 ≤ at_ by omega)
      clear hneg ha1
      by_cases hge : l.length < k
      · go_wp2_with fail
        go_ret
        exact ⟨rfl, hB0⟩
      · have hlt : k ≤ l.length := by omega
        clear hge
        go_wp2_with fail
        refine (places_c A l c l.length s _ rfl hlen (HR.out.up hB0 hz0) HS.out).mono ?_
        rintro e w1 ⟨⟨P, cp, rfl, hp, hcp⟩, hB1⟩
        have hz1 := hB1.size
        have HP1 := Lib.hid hp
        have hb1 := hB0.trans (hB1.mono hz0)
        clear hp
        go_wp2_with fail
        refine (end_c A l c l.length s _ rfl hlen (HR.out.up hb1 hb1.size) HS.out).mono ?_
        rintro e w2 ⟨rfl, hB2⟩
        have hz2 := hB2.size
        have HP2 := Lib.hid (Rd.below HP1.out hB2)
        have hb2 := hb1.trans (hB2.mono hb1.size)
        clear HP1
        by_cases h0 : stErr l s = 0
        · have HE := Lib.hid (endRes_ok h0)
          have HPL := Lib.hid (plOut_ok h0)
          have hpk := parts_ok h0 hlt
          have HPK := Lib.hid hpk
          have HBD := Lib.hid (stErr_bd h0 hlt)
          have hll : (plOut l s).length = l.length := by rw [HPL.out, placesOf_len]
          have HLL := Lib.hid hll
          rw [HE.out, h0, hll]
          have HT := Lib.hid (HR.out.take_ k)
          have HD := Lib.hid (HR.out.cut k c hc)
          have htl : (l.take k).length = k := by rw [List.length_take]; omega
          have HTL := Lib.hid htl
          have hdl : (l.drop k).length = l.length - k := by rw [List.length_drop]
          have HDL := Lib.hid hdl
          clear h0 hpk hll hcp htl hdl
          have ik1 : (0 : Int) ≤ (k : Int) := by omega
          have ik2 : (k : Int) ≤ (c : Int) := by omega
          have ik3 : (k : Int) ≤ (l.length : Int) := by omega
          obtain ⟨u, hu⟩ : ∃ u, endOf (l.take k) s = u := ⟨_, rfl⟩
          rw [hu] at HPK HBD
          have HU := Lib.hid hu
          have hbu := HBD.out
          obtain ⟨hbu1, hbu2⟩ := hbu
          clear hu
          have HET := Lib.hid (show endRes (l.take k) s = .tuple #[.int .i64 u, .int .i64 0] by rw [endRes_ok HPK.out.1, HU.out])
          have HEd := Lib.hid (show endRes (l.drop k) u = .tuple #[.int .i64 (endOf l s), .int .i64 0] by rw [endRes_ok HPK.out.2.1, HPK.out.2.2.2])
          have HPa := Lib.hid (show plOut (l.take k) s = placesOf (l.take k) s from plOut_ok HPK.out.1)
          have HPb := Lib.hid (show plOut (l.drop k) u = placesOf (l.drop k) u from plOut_ok HPK.out.2.1)
          have HSa := Lib.hid HPK.out.1
          have HSb := Lib.hid HPK.out.2.1
          have HJ := Lib.hid HPK.out.2.2.1
          have HLa := Lib.hid (show (plOut (l.take k) s).length = k by rw [HPa.out, placesOf_len, HTL.out])
          have HLb := Lib.hid (show (plOut (l.drop k) u).length = l.length - k by rw [HPb.out, placesOf_len, HDL.out])
          have HSM := Lib.hid (show sameI (plOut (l.take k) s ++ plOut (l.drop k) u) (plOut l s) = true by rw [HPa.out, HPb.out, HJ.out, HPL.out]; exact sameI_refl _)
          clear HPK HBD HU
          go_wp2_with fail
          refine (places_c A (l.take k) c k s _ HTL.out (by omega) (show RdB w2 w2.heap.size _ _ from HT.out.up hb2 hb2.size) HS.out).mono ?_
          rintro e w3 ⟨⟨Q, cq, rfl, hq, -⟩, hB3⟩
          have hz3 := hB3.size
          have HQ3 := Lib.hid hq
          have HP3 := Lib.hid (Rd.below HP2.out (hB3.mono hz2))
          have hb3 := hb2.trans (hB3.mono hb2.size)
          rw [HLa.out, HSa.out]
          clear hq HP2
          go_wp2_with fail
          refine (end_c A (l.take k) c k s _ HTL.out (by omega) (show RdB w3 w3.heap.size _ _ from HT.out.up hb3 hb3.size) HS.out).mono ?_
          rintro e w4 ⟨rfl, hB4⟩
          have hz4 := hB4.size
          have HQ4 := Lib.hid (Rd.below HQ3.out hB4)
          have HP4 := Lib.hid (Rd.below HP3.out (hB4.mono (by omega)))
          have hb4 := hb3.trans (hB4.mono hb3.size)
          rw [HET.out]
          clear HQ3 HP3
          have hdd := HD.out
          by_cases hck : c = k
          · rw [if_pos hck] at hdd
            have HDx := Lib.hid hdd
            obtain rfl : k = c := hck.symm
            have hl0 : l.length - k = 0 := by omega
            have HDL0 := Lib.hid (show (l.drop k).length = 0 by rw [HDL.out, hl0])
            have HLb0 := Lib.hid (show (plOut (l.drop k) u).length = 0 by rw [HLb.out, hl0])
            clear hdd HD hl0 HDL HLb
            go_wp2_with fail
            refine (places_c _ (l.drop k) _ 0 u _ HDL0.out (by omega) (show RdB w4 w4.heap.size _ _ from HDx.out.up hb4 hb4.size) (by omega)).mono ?_
            rintro e w5 ⟨⟨R, cr, rfl, hq, -⟩, hB5⟩
            have hz5 := hB5.size
            have HR5 := Lib.hid hq
            have HQ5 := Lib.hid (Rd.below HQ4.out (hB5.mono (by omega)))
            have HP5 := Lib.hid (Rd.below HP4.out (hB5.mono (by omega)))
            have hb5 := hb4.trans (hB5.mono hb4.size)
            rw [HLb0.out, HSb.out]
            clear hq HQ4 HP4
            go_wp2_with fail
            refine (end_c _ (l.drop k) _ 0 u _ HDL0.out (by omega) (show RdB w5 w5.heap.size _ _ from HDx.out.up hb5 hb5.size) (by omega)).mono ?_
            rintro e w6 ⟨rfl, hB6⟩
            have hz6 := hB6.size
            have HR6 := Lib.hid (Rd.below HR5.out hB6)
            have HQ6 := Lib.hid (Rd.below HQ5.out (hB6.mono (by omega)))
            have HP6 := Lib.hid (Rd.below HP5.out (hB6.mono (by omega)))
            have hb6 := hb5.trans (hB6.mono hb5.size)
            rw [HEd.out]
            clear HR5 HQ5 HP5
            have hlq : ((plOut (l.take k) s).flatMap intCells).length = k * 1 := by rw [flat_len intCells 1 intCells_len, HLa.out]
            have hlr : ((plOut (l.drop k) u).flatMap intCells).length = 0 * 1 := by rw [flat_len intCells 1 intCells_len, HLb0.out]
            have HLQ := Lib.hid hlq
            have HLR := Lib.hid hlr
            have HB6 := Lib.hid hb6
            clear hlq hlr
            obtain ⟨i0, hi, hz0, hz1, hz2⟩ := info_parts infoInt
            have HI := Lib.hid hi
            have HZ0 := Lib.hid hz0
            have HZ1 := Lib.hid hz1
            have HZ2 := Lib.hid hz2
            clear hi hz0 hz1 hz2
            go_wp2_with (first
              | (at_builtin; (refine wpList_append_rd' _ (by rfl) _ _ 43 rfl w6.heap.size 3 i0 _ 1 8 Try.underlying43 HI.out HZ0.out HZ1.out HZ2.out rfl (by decide) (.slice (some ⟨w6.heap.size, 0, none⟩) 0 0) 0 [] (by rfl) (own_empty w6 _ _ _ (Nat.le_refl _)) w3.heap.size Q k _ ((plOut (l.take k) s).flatMap intCells) (by rfl) HLQ.out (Rd.alloc HQ6.out (by omega) _) (cells_one int_one _) (by unfold maxLen; omega) (by omega) (by simp) ?_); intro v1 wa hown1 hg1; have hBa := below_append0 ((Below.refl w6.heap.size w6).alloc (Nat.le_refl _) _) (by simp) (own_empty w6 w6.heap.size 3 1 (Nat.le_refl _)) hg1)
              | (at_builtin; (refine wpList_append_rd' _ (by rfl) _ _ 43 rfl w6.heap.size 3 i0 _ 1 8 Try.underlying43 HI.out HZ0.out HZ1.out HZ2.out rfl (by decide) v1 (0 + k) ([] ++ (plOut (l.take k) s).flatMap intCells) (by rfl) hown1 w5.heap.size R 0 _ ((plOut (l.drop k) u).flatMap intCells) (by rfl) HLR.out (Rd.below HR6.out (hBa.mono (by omega))) (cells_one int_one _) (by unfold maxLen; omega) (by omega) hBa.size ?_); intro v2 wb hown2 hg2; have hBb := below_append0 hBa hBa.size hown1 hg2; obtain ⟨A2, c2, rfl⟩ := own_slice hown2))
            have hzb := hBb.size
            refine (sameInts_c _ _ (plOut (l.take k) s ++ plOut (l.drop k) u) (plOut l s) _ _ _ _ _ (by rw [List.length_append, HLa.out, HLb0.out]; omega) HLL.out (by omega) (by omega) (own2_rd hown2) (show RdI wb wb.heap.size P (plOut l s) from (Rd.below HP6.out (hBb.mono (by omega))).more (by omega))).mono ?_
            rintro e w7 ⟨rfl, hB7⟩
            rw [HSM.out]
            go_wp2_with fail
            go_ret
            exact ⟨rfl, (HB6.out.trans (hBb.mono HB6.out.size)).trans (hB7.mono (by have := HB6.out.size; omega))⟩
          · rw [if_neg hck] at hdd
            have HDx := Lib.hid hdd
            clear hdd HD
            go_wp2_with fail
            refine (places_c _ (l.drop k) _ (l.length - k) u _ HDL.out (by omega) (show RdB w4 w4.heap.size _ _ from HDx.out.up hb4 hb4.size) (by omega)).mono ?_
            rintro e w5 ⟨⟨R, cr, rfl, hq, -⟩, hB5⟩
            have hz5 := hB5.size
            have HR5 := Lib.hid hq
            have HQ5 := Lib.hid (Rd.below HQ4.out (hB5.mono (by omega)))
            have HP5 := Lib.hid (Rd.below HP4.out (hB5.mono (by omega)))
            have hb5 := hb4.trans (hB5.mono hb4.size)
            rw [HLb.out, HSb.out]
            clear hq HQ4 HP4
            go_wp2_with fail
            refine (end_c _ (l.drop k) _ (l.length - k) u _ HDL.out (by omega) (show RdB w5 w5.heap.size _ _ from HDx.out.up hb5 hb5.size) (by omega)).mono ?_
            rintro e w6 ⟨rfl, hB6⟩
            have hz6 := hB6.size
            have HR6 := Lib.hid (Rd.below HR5.out hB6)
            have HQ6 := Lib.hid (Rd.below HQ5.out (hB6.mono (by omega)))
            have HP6 := Lib.hid (Rd.below HP5.out (hB6.mono (by omega)))
            have hb6 := hb5.trans (hB6.mono hb5.size)
            rw [HEd.out]
            clear HR5 HQ5 HP5
            have hlq : ((plOut (l.take k) s).flatMap intCells).length = k * 1 := by rw [flat_len intCells 1 intCells_len, HLa.out]
            have hlr : ((plOut (l.drop k) u).flatMap intCells).length = (l.length - k) * 1 := by rw [flat_len intCells 1 intCells_len, HLb.out]
            have HLQ := Lib.hid hlq
            have HLR := Lib.hid hlr
            have HB6 := Lib.hid hb6
            clear hlq hlr
            obtain ⟨i0, hi, hz0, hz1, hz2⟩ := info_parts infoInt
            have HI := Lib.hid hi
            have HZ0 := Lib.hid hz0
            have HZ1 := Lib.hid hz1
            have HZ2 := Lib.hid hz2
            clear hi hz0 hz1 hz2
            go_wp2_with (first
              | (at_builtin; (refine wpList_append_rd' _ (by rfl) _ _ 43 rfl w6.heap.size 3 i0 _ 1 8 Try.underlying43 HI.out HZ0.out HZ1.out HZ2.out rfl (by decide) (.slice (some ⟨w6.heap.size, 0, none⟩) 0 0) 0 [] (by rfl) (own_empty w6 _ _ _ (Nat.le_refl _)) w3.heap.size Q k _ ((plOut (l.take k) s).flatMap intCells) (by rfl) HLQ.out (Rd.alloc HQ6.out (by omega) _) (cells_one int_one _) (by unfold maxLen; omega) (by omega) (by simp) ?_); intro v1 wa hown1 hg1; have hBa := below_append0 ((Below.refl w6.heap.size w6).alloc (Nat.le_refl _) _) (by simp) (own_empty w6 w6.heap.size 3 1 (Nat.le_refl _)) hg1)
              | (at_builtin; (refine wpList_append_rd' _ (by rfl) _ _ 43 rfl w6.heap.size 3 i0 _ 1 8 Try.underlying43 HI.out HZ0.out HZ1.out HZ2.out rfl (by decide) v1 (0 + k) ([] ++ (plOut (l.take k) s).flatMap intCells) (by rfl) hown1 w5.heap.size R (l.length - k) _ ((plOut (l.drop k) u).flatMap intCells) (by rfl) HLR.out (Rd.below HR6.out (hBa.mono (by omega))) (cells_one int_one _) (by unfold maxLen; omega) (by omega) hBa.size ?_); intro v2 wb hown2 hg2; have hBb := below_append0 hBa hBa.size hown1 hg2; obtain ⟨A2, c2, rfl⟩ := own_slice hown2))
            have hzb := hBb.size
            refine (sameInts_c _ _ (plOut (l.take k) s ++ plOut (l.drop k) u) (plOut l s) _ _ _ _ _ (by rw [List.length_append, HLa.out, HLb.out]; omega) HLL.out (by omega) (by omega) (own2_rd hown2) (show RdI wb wb.heap.size P (plOut l s) from (Rd.below HP6.out (hBb.mono (by omega))).more (by omega))).mono ?_
            rintro e w7 ⟨rfl, hB7⟩
            rw [HSM.out]
            go_wp2_with fail
            go_ret
            exact ⟨rfl, (HB6.out.trans (hBb.mono HB6.out.size)).trans (hB7.mono (by have := HB6.out.size; omega))⟩
        · have HE := Lib.hid (endRes_no h0)
          obtain ⟨r, hr⟩ : ∃ r, stErr l s = r := ⟨_, rfl⟩
          have hn1 : (r == 0) = false := by rw [← hr, beq_eq_false_iff_ne]; exact h0
          have hn2 : (r != 0) = true := by rw [← hr, bne_iff_ne]; exact h0
          rw [HE.out, hr]
          clear h0 hr hcp
          go_wp2_with fail
          go_ret
          exact ⟨rfl, hb2⟩
end Go.Proofs.Ytiaddipbjigaiaa
