/- BreaksOrder: order and sizes are kept, for every row that is not great and every start. -/
import Derived.Test.YtiaddipbjigaiaaBrkW
import Derived.Test.YtiaddipbjigaiaaBrkX
namespace Go.Proofs.Ytiaddipbjigaiaa
open Go.RowKit

theorem plOut_bd {l : List Bk} {s : Int} {n : Nat} (hl : l.length ≤ n) : (plOut l s).length ≤ n := by unfold plOut; split <;> simp [placesOf_len]; omega
theorem plOut_ok {l : List Bk} {s : Int} (h : stErr l s = 0) : plOut l s = placesOf l s := by simp [plOut, h]
theorem plOut_no {l : List Bk} {s : Int} (h : stErr l s ≠ 0) : plOut l s = [] := by simp [plOut, h]

set_option maxRecDepth 100000 in
set_option maxHeartbeats 3200000 in
theorem breaksOrder_walk (w : World) (A : Option Addr) (l : List Bk) (c : Nat) (hm : l.length ≤ maxLen) (_hc : l.length ≤ c) (hr : RdB w w.heap.size A l) (_ho : ∀ x ∈ l, x.ok) (s : Int) (hs : -9223372036854775808 ≤ s ∧ s ≤ 9223372036854775807) :
    Calls Try.prog 7 #[.slice A l.length c, .int .i64 s] w fun e w' => e = .returned (.bool true) ∧ Below w.heap.size w w' := by
  have HR := Lib.hid hr
  have HS := Lib.hid hs
  clear hr hs
  unfold maxLen at hm
  go_enter Try.func7, Try.ntmps7
  go_wp2_with fail
  refine (alive26_c _).mono ?_
  rintro e w0 ⟨rfl, hB0⟩
  have hz0 := hB0.size
  go_wp2_with fail
  refine (great26_c A l.length c _ (by omega)).mono ?_
  rintro e w1 ⟨rfl, rfl⟩
  cases hg : greatB l.length
  case true =>
    clear hg
    go_wp2_with fail
    go_ret
    exact ⟨rfl, hB0⟩
  case false =>
    have hn := greatB_no hg
    have hlen : l.length ≤ 4294967296 := by omega
    clear hg hn hm
    go_wp2_with fail
    refine (places_c A l c l.length s _ rfl hlen (HR.out.up hB0 hz0) HS.out).mono ?_
    rintro e w1 ⟨⟨P, cp, rfl, hp, hcp⟩, hB1⟩
    have hz1 := hB1.size
    have HP1 := Lib.hid hp
    have hb1 := hB0.trans (hB1.mono hz0)
    clear hp
    go_wp2_with fail
    refine (end_c A l c l.length s _ rfl hlen (HR.out.up hb1 hb1.size) HS.out).mono ?_
    rintro e w2 ⟨rfl, hB2⟩
    have hz2 := hB2.size
    have HP2 := Lib.hid (Rd.below HP1.out hB2)
    have hb2 := hb1.trans (hB2.mono hb1.size)
    clear HP1
    by_cases h0 : stErr l s = 0
    · obtain ⟨hre, hs1, hs2, hs3⟩ := stErr_zero h0
      have H0 := Lib.hid h0
      have HRE := Lib.hid hre
      have HE := Lib.hid (endRes_ok h0)
      have HPL := Lib.hid (plOut_ok h0)
      have HGP := Lib.hid (gapRes_ok hre)
      have hll : (plOut l s).length = l.length := by rw [HPL.out, placesOf_len]
      have hmb := most_bd hre
      have hl2 := (rowErr_zero hre).1
      rw [HE.out, hll, h0]
      clear h0 hre hs3 hcp
      go_wp2_with fail
      refine (gaps_c A l c l.length _ rfl hlen (HR.out.up hb2 hb2.size)).mono ?_
      rintro e w3 ⟨rfl, hB3⟩
      have hz3 := hB3.size
      have HP3 := Lib.hid (Rd.below HP2.out (hB3.mono hz2))
      have hb3 := hb2.trans (hB3.mono hb2.size)
      clear HP2
      rw [HGP.out]
      have HLL := Lib.hid hll
      clear hll
      have HSS := Lib.hid (show 128 ≤ s ∧ s ≤ most l from ⟨hs1, hs2⟩)
      clear hs1 hs2 hmb
      obtain ⟨eE, heE⟩ : ∃ x, endOf l s = x := ⟨_, rfl⟩
      obtain ⟨gG, hgG⟩ : ∃ x, gapsOf l = x := ⟨_, rfl⟩
      rw [heE, hgG]
      have HEE := Lib.hid heE
      have HGG := Lib.hid hgG
      clear heE hgG
      have hw23 : w1.heap.size ≤ w3.heap.size := by omega
      have HBD := Lib.hid (fun (k : Nat) (hk : k ≤ l.length) => endOf_bd HRE.out hk HSS.out.1 HSS.out.2)
      have HGB := Lib.hid (fun (k : Nat) (hk : k ≤ l.length) => gapsOf_bd HRE.out hk)
      clear hw23
      go_wp2_with fail
      go_loopw [12, 13, 14] (fun nx g i wr => ∃ k : Nat, k ≤ l.length ∧ i = .int .i64 k ∧ nx = .int .i64 (endOf (l.take k) s) ∧ g = .int .i64 (gapsOf (l.take k)) ∧ Below w3.heap.size w3 wr) (fun _ _ i _ => l.length - (intOf i).toNat)
      case atStart => exact ⟨0, Nat.zero_le _, rfl, rfl, rfl, Below.refl _ _⟩
      case round =>
        obtain ⟨k, hk, rfl, rfl, rfl, hB⟩ := hrel
        have hz := hB.size
        obtain ⟨sb1, sb2⟩ := HBD.out k hk
        obtain ⟨gb1, gb2⟩ := HGB.out k hk
        have hbb := hb3.trans (hB.mono hb3.size)
        by_cases hlt : k < l.length
        · obtain ⟨b, off, rfl, hb, h0, h1, h2, h3, h4, h5⟩ := HR.out.at_ hlt
          replace h0 := (hbb.cell (p := ⟨b, off + k * 6, none⟩) hb).trans h0
          replace h1 := (hbb.cell (p := ⟨b, off + k * 6 + 1, none⟩) hb).trans h1
          replace h2 := (hbb.cell (p := ⟨b, off + k * 6 + 2, none⟩) hb).trans h2
          replace h4 := (hbb.cell (p := ⟨b, off + k * 6 + 4, none⟩) hb).trans h4
          clear h3 h5
          obtain ⟨g, of2, rfl, hg, hp⟩ := RdI.at_ (show RdI w3 w1.heap.size P (plOut l s) from HP3.out) (k := k) (by rw [HLL.out]; exact hlt)
          replace hp := (hB.cell (p := ⟨g, of2 + k, none⟩) (by dsimp only; omega)).trans hp
          have hpv : (plOut l s)[k]? = some (if liveB (gk l k) then endOf (l.take k) s else 0) := by rw [HPL.out]; exact placesOf_at hlt
          rw [List.getElem?_eq_getElem (by rw [HLL.out]; exact hlt)] at hpv
          injection hpv with hpv
          rw [hpv] at hp
          clear hpv hg
          have hle := rowNext_end HRE.out HSS.out.2 hlt
          have hxb := size_bd HRE.out ⟨k, hlt⟩
          have HE1 : Hid (liveB (gk l k) = true → endOf (l.take (k + 1)) s = endOf (l.take k) s + (gk l k).size) := fun h => endOf_take1 hlt (gk_get l k hlt).symm rfl h
          have HE0 : Hid (liveB (gk l k) = false → endOf (l.take (k + 1)) s = endOf (l.take k) s) := fun h => endOf_take0 hlt (gk_get l k hlt).symm rfl h
          have HG1 : Hid (liveB (gk l k) = true → gapsOf (l.take (k + 1)) = gapsOf (l.take k)) := fun h => gapsOf_take1 hlt (gk_get l k hlt).symm rfl h
          have HG0 : Hid (liveB (gk l k) = false → gapsOf (l.take (k + 1)) = gapsOf (l.take k) + (gk l k).size) := fun h => gapsOf_take0 hlt (gk_get l k hlt).symm rfl h
          rw [← gk_get l k hlt] at h0 h1 h2 h4
          generalize gk l k = x at *
          obtain ⟨u, hu⟩ : ∃ u, endOf (l.take k) s = u := ⟨_, rfl⟩
          obtain ⟨v, hv⟩ : ∃ v, gapsOf (l.take k) = v := ⟨_, rfl⟩
          rw [hu] at sb1 sb2 hp hle HE1 HE0 ⊢
          rw [hv] at gb1 gb2 HG1 HG0 ⊢
          clear hu hv
          obtain ⟨xa, xs, xk, xt, xm, xn⟩ := x
          dsimp only at *
          obtain ⟨x1, x2⟩ := hxb
          have ik1 : (0 : Int) ≤ (k : Int) := by omega
          have ik2 : (k : Int) < (l.length : Int) := by omega
          cases hlb : liveB ⟨xa, xs, xk, xt, xm, xn⟩
          · rw [hlb] at hp
            simp only [Bool.false_eq_true, if_false] at hp
            have HEX := Lib.hid (HE0.out hlb)
            have HGX := Lib.hid (HG0.out hlb)
            by_cases hk1 : xk = 1
            · have hm0 : xm = false := by subst hk1; simpa [liveB] using hlb
              subst hk1 hm0
              clear hlb
              go_wp2_with fail
              go_roundw
              case rel => exact ⟨k + 1, by omega, by go_num, by rw [HEX.out], by rw [HGX.out], hB⟩
              case measure => simp [intOf]; omega
            · have hkb : (xk != 1) = true := by rw [bne_iff_ne]; exact hk1
              clear hlb hk1
              go_wp2_with fail
              go_roundw
              case rel => exact ⟨k + 1, by omega, by go_num, by rw [HEX.out], by rw [HGX.out], hB⟩
              case measure => simp [intOf]; omega
          · rw [hlb] at hp
            simp only [if_true] at hp
            have HEX := Lib.hid (HE1.out hlb)
            have HGX := Lib.hid (HG1.out hlb)
            have h12 : xk = 1 ∧ xm = true := by simpa [liveB] using hlb
            obtain ⟨rfl, rfl⟩ := h12
            clear hlb
            have hd : decide (xa < u) = false := by rw [decide_eq_false_iff_not]; omega
            have hq : (u != u) = false := by simp
            go_wp2_with fail
            go_quiet (fail)
            go_wp2_with fail
            go_roundw
            case rel => exact ⟨k + 1, by omega, by go_num, by rw [HEX.out], by rw [HGX.out], below_drewN hB _⟩
            case measure => simp [intOf]; omega
        · have : k = l.length := by omega
          subst this
          rw [List.take_length] at sb1 sb2 gb1 gb2 ⊢
          rw [HEE.out] at sb1 sb2 ⊢
          rw [HGG.out] at gb1 gb2 ⊢
          by_cases hl0 : 0 < l.length
          · obtain ⟨b, off, rfl, hb, h0, -⟩ := HR.out.at_ hl0
            obtain ⟨b', off', hA, hb', g0, g1, g2, g3, g4, g5⟩ := HR.out.at_ (show l.length - 1 < l.length by omega)
            cases hA
            replace h0 := (hbb.cell (p := ⟨b, off + 0 * 6, none⟩) hb).trans h0
            replace g0 := (hbb.cell (p := ⟨b, off + (l.length - 1) * 6, none⟩) hb).trans g0
            replace g1 := (hbb.cell (p := ⟨b, off + (l.length - 1) * 6 + 1, none⟩) hb).trans g1
            replace g2 := (hbb.cell (p := ⟨b, off + (l.length - 1) * 6 + 2, none⟩) hb).trans g2
            replace g3 := (hbb.cell (p := ⟨b, off + (l.length - 1) * 6 + 3, none⟩) hb).trans g3
            replace g4 := (hbb.cell (p := ⟨b, off + (l.length - 1) * 6 + 4, none⟩) hb).trans g4
            replace g5 := (hbb.cell (p := ⟨b, off + (l.length - 1) * 6 + 5, none⟩) hb).trans g5
            simp only [Nat.zero_mul, Nat.add_zero] at h0
            obtain ⟨r1, r2, r3, r4⟩ := row_last HRE.out HSS.out.2 hl0
            have lb := (bkOk_iff _).1 (rowPre_at (rowErr_zero HRE.out).2 (show l.length - 1 < l.length by omega)).1
            rw [HEE.out] at r1 r2
            rw [HGG.out] at r2
            rw [← gk_get] at h0 g0 g1 g2 g3 g4 g5
            obtain ⟨y0, hy0⟩ : ∃ y, (gk l 0).at_ = y := ⟨_, rfl⟩
            rw [hy0] at h0 r2
            clear hy0
            generalize gk l (l.length - 1) = y at *
            obtain ⟨ya, ys, yk, yt, ym, yn⟩ := y
            dsimp only at *
            obtain ⟨-, lb1, lb2, -, lb3, -, lb4⟩ := lb
            have HR2 := Lib.hid r2
            clear r2
            have htn : ((l.length : Int) - 1).toNat = l.length - 1 := by omega
            have il1 : (1 : Int) ≤ (l.length : Int) := by omega
            have il2 : (0 : Int) ≤ (l.length : Int) - 1 := by omega
            have il3 : (l.length : Int) - 1 < (l.length : Int) := by omega
            have il0 : (0 : Int) < (l.length : Int) := by omega
            have hbw : b < wr.heap.size := by have := hbb.size; omega
            have inz : ((l.length : Int) == 0) = false := by rw [beq_eq_false_iff_ne]; omega
            by_cases hs0 : s = y0
            · have hq2 : (ya + ys - eE == gG) = true := by rw [beq_iff_eq]; exact HR2.out hs0
              have hq1 : (s != y0) = false := by rw [bne_eq_false_iff_eq]; exact hs0
              clear hs0
              go_wp2_with fail
              go_ret
              exact ⟨rfl, hbb.alloc (by have := hbb.size; omega) _⟩
            · have hq1 : (s != y0) = true := by rw [bne_iff_ne]; exact hs0
              clear hs0
              go_wp2_with fail
              go_ret
              exact ⟨rfl, hbb.alloc (by have := hbb.size; omega) _⟩
          · have inz : ((l.length : Int) == 0) = true := by rw [beq_iff_eq]; omega
            go_wp2_with fail
            go_ret
            exact ⟨rfl, hbb⟩
    · have HE := Lib.hid (endRes_no h0)
      have HPL := Lib.hid (plOut_no h0)
      obtain ⟨r, hr⟩ : ∃ r, stErr l s = r := ⟨_, rfl⟩
      have hn1 : (r == 0) = false := by rw [← hr, beq_eq_false_iff_ne]; exact h0
      have hn2 : (r != 0) = true := by rw [← hr, bne_iff_ne]; exact h0
      rw [HE.out, HPL.out, hr]
      clear h0 hr hcp
      go_wp2_with fail
      refine (gaps_c A l c l.length _ rfl hlen (HR.out.up hb2 hb2.size)).mono ?_
      rintro e w3 ⟨rfl, hB3⟩
      have hb3 := hb2.trans (hB3.mono hb2.size)
      obtain ⟨G, hG⟩ : ∃ G, (if rowErr l = 0 then gapsOf l else 0) = G := ⟨_, rfl⟩
      obtain ⟨q, hq⟩ : ∃ q, rowErr l = q := ⟨_, rfl⟩
      have he : gapRes l = .tuple #[.int .i64 G, .int .i64 q] := by unfold gapRes; rw [hG, hq]
      rw [he]
      clear he hG hq
      go_wp2_with fail
      go_ret
      exact ⟨rfl, hb3⟩
end Go.Proofs.Ytiaddipbjigaiaa
