/- BreaksPlaces: Check, Places, End and Gaps return what the reference returns, for every row that is not great and every start. -/
import Derived.Test.YtiaddipbjigaiaaBrkW
namespace Go.Proofs.Ytiaddipbjigaiaa
open Go.RowKit

set_option maxRecDepth 100000 in
set_option maxHeartbeats 1600000 in
theorem breaksPlaces_walk (w : World) (A : Option Addr) (l : List Bk) (c : Nat) (hm : l.length ≤ maxLen) (_hc : l.length ≤ c) (hr : RdB w w.heap.size A l) (_ho : ∀ x ∈ l, x.ok) (s : Int) (hs : -9223372036854775808 ≤ s ∧ s ≤ 9223372036854775807) :
    Calls Try.prog 5 #[.slice A l.length c, .int .i64 s] w fun e w' => e = .returned (.bool true) ∧ Below w.heap.size w w' := by
  have HR := Lib.hid hr
  have HS := Lib.hid hs
  clear hr hs
  unfold maxLen at hm
  go_enter Try.func5, Try.ntmps5
  go_wp2_with fail
  refine (great26_c A l.length c w (by omega)).mono ?_
  rintro e w0 ⟨rfl, rfl⟩
  cases hg : greatB l.length
  case true =>
    clear hg
    go_wp2_with fail
    go_ret
    exact ⟨rfl, Below.refl _ _⟩
  case false =>
    have hn := greatB_no hg
    have hlen : l.length ≤ 4294967296 := by omega
    clear hg hn hm
    go_wp2_with fail
    refine (places_c A l c l.length s _ rfl hlen HR.out HS.out).mono ?_
    rintro e w1 ⟨⟨P, cp, rfl, hp, hcp⟩, hB1⟩
    have hz1 := hB1.size
    have hpl : (plOut l s).length ≤ 4294967296 := by unfold plOut; split <;> simp [placesOf_len]; omega
    have HP1 := Lib.hid hp
    clear hp
    go_wp2_with fail
    refine (refPlaces_c A l c l.length s _ rfl hlen (HR.out.up hB1 hz1) HS.out).mono ?_
    rintro e w2 ⟨⟨Q, cq, rfl, hq, hcq⟩, hB2⟩
    have hz2 := hB2.size
    have HP2 := Lib.hid (Rd.below HP1.out hB2)
    have HQ2 := Lib.hid hq
    have hb2 := hB1.trans (hB2.mono hz1)
    clear hq HP1
    go_wp2_with fail
    refine (end_c A l c l.length s _ rfl hlen (HR.out.up hb2 hb2.size) HS.out).mono ?_
    rintro e w3 ⟨rfl, hB3⟩
    have hz3 := hB3.size
    have HP3 := Lib.hid (Rd.below HP2.out (hB3.mono hz2))
    have HQ3 := Lib.hid (Rd.below HQ2.out hB3)
    have hb3 := hb2.trans (hB3.mono hb2.size)
    clear HP2 HQ2
    obtain ⟨E, hE⟩ : ∃ E, (if stErr l s = 0 then endOf l s else 0) = E := ⟨_, rfl⟩
    obtain ⟨r, hr⟩ : ∃ r, stErr l s = r := ⟨_, rfl⟩
    have he : endRes l s = .tuple #[.int .i64 E, .int .i64 r] := by unfold endRes; rw [hE, hr]
    have HE := Lib.hid he
    rw [he, hr]
    clear he hE hr
    go_wp2_with fail
    refine (refEnd_c A l c l.length s _ rfl hlen (HR.out.up hb3 hb3.size) HS.out).mono ?_
    rintro e w4 ⟨rfl, hB4⟩
    rw [HE.out]
    have hz4 := hB4.size
    have HP4 := Lib.hid (Rd.below HP3.out (hB4.mono (by omega)))
    have HQ4 := Lib.hid (Rd.below HQ3.out (hB4.mono hz3))
    have hb4 := hb3.trans (hB4.mono hb3.size)
    clear HP3 HQ3
    go_wp2_with fail
    refine (gaps_c A l c l.length _ rfl hlen (HR.out.up hb4 hb4.size)).mono ?_
    rintro e w5 ⟨rfl, hB5⟩
    have hz5 := hB5.size
    have HP5 := Lib.hid (Rd.below HP4.out (hB5.mono (by omega)))
    have HQ5 := Lib.hid (Rd.below HQ4.out (hB5.mono (by omega)))
    have hb5 := hb4.trans (hB5.mono hb4.size)
    clear HP4 HQ4
    obtain ⟨G, hG⟩ : ∃ G, (if rowErr l = 0 then gapsOf l else 0) = G := ⟨_, rfl⟩
    obtain ⟨q, hq⟩ : ∃ q, rowErr l = q := ⟨_, rfl⟩
    have he : gapRes l = .tuple #[.int .i64 G, .int .i64 q] := by unfold gapRes; rw [hG, hq]
    have HG := Lib.hid he
    have HQE := Lib.hid hq
    rw [he]
    clear he hG hq
    go_wp2_with fail
    refine (refGaps_c A l c l.length _ rfl hlen (HR.out.up hb5 hb5.size)).mono ?_
    rintro e w6 ⟨rfl, hB6⟩
    rw [HG.out]
    have hz6 := hB6.size
    have HP6 := Lib.hid (Rd.below HP5.out (hB6.mono (by omega)))
    have HQ6 := Lib.hid (Rd.below HQ5.out (hB6.mono (by omega)))
    have hb6 := hb5.trans (hB6.mono hb5.size)
    clear HP5 HQ5
    go_wp2_with fail
    refine (sameInts_c _ _ (plOut l s) (plOut l s) _ _ _ _ _ rfl rfl hpl hpl (HP6.out.more (by omega)) (HQ6.out.more (by omega))).mono ?_
    rintro e w7 ⟨rfl, hB7⟩
    rw [sameI_refl]
    have hb7 := hb6.trans (hB7.mono hb6.size)
    go_wp2_with fail
    refine (check_c A l c l.length _ rfl (by omega) (HR.out.up hb7 hb7.size)).mono ?_
    rintro e w8 ⟨rfl, hB8⟩
    have hb8 := hb7.trans (hB8.mono hb7.size)
    rw [HQE.out]
    go_wp2_with fail
    refine (refCheck_c A l c l.length _ rfl (by omega) (HR.out.up hb8 hb8.size)).mono ?_
    rintro e w9 ⟨rfl, hB9⟩
    have hb9 := hb8.trans (hB9.mono hb8.size)
    rw [HQE.out]
    go_wp2_with fail
    go_ret
    exact ⟨rfl, hb9⟩
end Go.Proofs.Ytiaddipbjigaiaa
