/- Right images: what the reference returns. -/
import Derived.Test.YtoaepffpjoibaaaGreatR19B
import Derived.Test.YtoaepffpjoibaaaGreatKSup
namespace Go.Proofs.YtoaepffpjoibaaaGreat
open Go.RowKit

set_option maxRecDepth 100000 in
set_option maxHeartbeats 2000000 in
theorem r19Types_c (A : Option Addr) (ws : List Nat) (c n t : Nat) (w : World) (hn : ws.length = n) (hs : sizeOk (n : Int) = true) (ht : tyN ws = some t) (hc : n ≤ c) (hr : RdW w w.heap.size A ws) (ho : ∀ x ∈ ws, x < 18446744073709551616) :
    Calls Tryz.prog 64 #[.slice A n c] w fun e w' => TsRes ws t w.heap.size e w' ∧ Below w.heap.size w w' := by
  subst hn
  have hb := (sizeOk_iff _).1 hs
  have HC := Lib.hid (r07Read_c A ws c ws.length w rfl (by omega) hc hr)
  have h0 : tyErr ws = 0 := tyErr_iff.2 ⟨hs, by rw [ht]; rfl⟩
  unfold TwRes at HC
  rw [h0, ht] at HC
  have HT := Lib.hid (fun W (hr : RdW W W.heap.size A ws) => r13Types_c A ws c ws.length t W rfl (by omega) (by omega) hr ho)
  have HR := Lib.hid hr
  clear hs hb h0 ht hr ho
  go_enter Tryz.func64, Tryz.ntmps64
  go_wp2_with fail
  refine HC.out.mono ?_
  rintro e w1 ⟨⟨a, b0, b1, rfl⟩, hB1⟩
  simp only [Option.getD_some]
  have hz1 := hB1.size
  have HB2 := Lib.hid ((hB1.alloc hz1 (.cells #[.int .i64 a, .int .i64 (t : Int)] 113)).alloc (by simp; omega) (.cells #[.bool b0, .bool b1] 114))
  clear hB1
  go_wp2_with fail
  refine (HT.out _ (HR.out.up HB2.out HB2.out.size)).mono ?_
  rintro e w3 ⟨⟨v, L, rfl, hT⟩, hB3⟩
  have HB3 := Lib.hid (HB2.out.trans (hB3.mono HB2.out.size))
  have HTT := Lib.hid hT
  have hz2 := HB2.out.size
  have HMM : Hid (∀ L v, OwnT w3 ((w1.alloc (.cells #[.int .i64 a, .int .i64 (t : Int)] 113)).alloc (.cells #[.bool b0, .bool b1] 114)).heap.size v L → OwnT w3 w.heap.size v L) := Lib.hid fun L v h => ⟨own_mono h.1 HB2.out.size, fun x hx => own_mono (h.2 x hx) HB2.out.size⟩
  clear hT hB3
  go_wp2_with fail
  go_ret2
  exact ⟨⟨v, L, rfl, fun h => ⟨HMM.out _ _ (HTT.out h).1, (HTT.out h).2⟩⟩, HB3.out⟩
theorem lay_iff {ws : List Nat} {t : Nat} {l : List Bk} (ht : tyN ws = some t) (hl : blocks ws 128 = some l) : lay ws = true ↔ zeroL ws 16 = true ∧ zeroL ws 24 = true ∧ tysOk ws t = true ∧ slsOk ws = true ∧ adjOk l = true ∧ (∀ r, 7 ≤ r → r < 12 → ∀ b ∈ objs l, wrK ws (tysL ws t 8) (objs l) r b = false) ∧ ∀ s ∈ slL ws, slHas (objs l) s = true := by
  unfold lay
  rw [ht, hl]
  simp only [Bool.and_eq_true, List.all_eq_true, List.mem_range, Bool.not_eq_true']
  constructor
  · rintro ⟨a1, a2, a3, a4, a5, a6, a7⟩
    refine ⟨a1, a2, a3, a4, a5, fun r h1 h2 b hb => ?_, a7⟩
    have := a6 (r - 7) (by omega) b hb
    rwa [show 7 + (r - 7) = r by omega] at this
  · rintro ⟨a1, a2, a3, a4, a5, a6, a7⟩
    exact ⟨a1, a2, a3, a4, a5, fun r hr b hb => a6 (7 + r) (by omega) (by omega) b hb, a7⟩
theorem lay_no {ws : List Nat} (h : tyN ws = none ∨ blocks ws 128 = none) : lay ws = false := by
  unfold lay
  rcases h with h | h
  · rw [h]
  · rw [h]; cases tyN ws <;> rfl
/-- What the objects of a heap are like. -/
theorem objs_are {ws : List Nat} {l : List Bk} (hl : blocks ws 128 = some l) {b : Bk} (hb : b ∈ objs l) : ∃ a z ty nx : Nat, ∃ mk, b = ⟨(a : Int), (z : Int), 1, (ty : Int), mk, nx⟩ ∧ 128 ≤ a ∧ a + z ≤ ws.length ∧ 2 ≤ z ∧ b = bkAt ws a ∧ stands ws a = true := by
  unfold objs at hb
  obtain ⟨h1, h2⟩ := List.mem_filter.1 hb
  rw [beq_iff_eq] at h2
  obtain ⟨k, hk, rfl⟩ := List.getElem_of_mem h1
  obtain ⟨a, e, a1, a2, a3, a4, -⟩ := blocks_at _ _ hl (by omega) k hk
  have hz := stands_sz a4
  rw [e] at h2
  have e2 : bkAt ws a = ⟨(a : Int), ((szAt ws a : Nat) : Int), 1, (((rawBk (wd ws a)).typ.toNat : Nat) : Int), (rawBk (wd ws a)).mark, wd ws (a + 1)⟩ := by
    have ht : (rawBk (wd ws a)).typ = (((rawBk (wd ws a)).typ.toNat : Nat) : Int) := by
      unfold rawBk; dsimp only; omega
    rw [← ht, ← h2]
    rfl
  exact ⟨a, szAt ws a, (rawBk (wd ws a)).typ.toNat, wd ws (a + 1), (rawBk (wd ws a)).mark, by rw [e, e2], a2, hz.2.2, hz.1, e, a4⟩
theorem objs_len (l : List Bk) : (objs l).length ≤ l.length := by
  unfold objs
  exact List.length_filter_le _ _
/-- The number of a reason: none just where the image is right. -/
def WyRes (ws : List Nat) (e : Ending) : Prop := ∃ r : Int, e = .returned (.int .i64 r) ∧ 0 ≤ r ∧ (r = 0 ↔ lay ws = true)
theorem wy_bad {ws : List Nat} {r : Int} (h : lay ws = false) (hr : 0 < r) : WyRes ws (.returned (.int .i64 r)) := ⟨r, rfl, by omega, by rw [h]; constructor <;> intro h; omega; cases h⟩
theorem wy_ok {ws : List Nat} (h : lay ws = true) : WyRes ws (.returned (.int .i64 0)) := ⟨0, rfl, by omega, by rw [h]; simp⟩
set_option maxRecDepth 100000 in
set_option maxHeartbeats 16000000 in
theorem r19Why_c (A : Option Addr) (ws : List Nat) (c n : Nat) (w : World) (hn : ws.length = n) (hs : sizeOk (n : Int) = true) (hc : n ≤ c) (hr : RdW w w.heap.size A ws) (ho : ∀ x ∈ ws, x < 18446744073709551616) :
    Calls Tryz.prog 42 #[.slice A n c] w fun e w' => WyRes ws e ∧ Below w.heap.size w w' := by
  subst hn
  have hb := (sizeOk_iff _).1 hs
  have HC := Lib.hid (r07Read_c A ws c ws.length w rfl (by omega) hc hr)
  have HR := Lib.hid hr
  have hte : tyErr ws = if (tyN ws).isSome = true then 0 else 50 := by unfold tyErr; rw [if_pos hs]
  unfold TwRes at HC
  have HZ := Lib.hid (fun a ha W (hr : RdW W W.heap.size A ws) => r19Empty_c A ws c ws.length a W rfl ha (by omega) hr)
  have HZ16 := Lib.hid (fun W (hr : RdW W W.heap.size A ws) => (show Calls Tryz.prog 63 #[.slice A ws.length c, .int .i64 16] W fun e w' => e = .returned (.bool (zeroL ws 16)) ∧ W = w' from HZ.out 16 (by omega) W hr))
  have HZ24 := Lib.hid (fun W (hr : RdW W W.heap.size A ws) => (show Calls Tryz.prog 63 #[.slice A ws.length c, .int .i64 24] W fun e w' => e = .returned (.bool (zeroL ws 24)) ∧ W = w' from HZ.out 24 (by omega) W hr))
  have HTL := Lib.hid (fun W (hr : RdW W W.heap.size A ws) => r18Told_c A ws c ws.length W rfl (by omega) (by omega) hr ho)
  have HPA := Lib.hid (fun W (hr : RdW W W.heap.size A ws) => rParsed_c A ws c ws.length W rfl hs hr ho)
  unfold TlRes at HTL
  cases ht : tyN ws with
  | none =>
    rw [ht] at HC hte
    rw [hte] at HC
    have HV := Lib.hid (lay_no (.inl ht))
    simp only [Option.getD_none, Option.isSome_none, Bool.false_eq_true, if_false] at HC
    clear hte ht hs hb hr ho HZ HZ16 HZ24 HTL HPA
    go_enter Tryz.func42, Tryz.ntmps42
    go_wp2_with fail
    refine HC.out.mono ?_
    rintro e w1 ⟨⟨a, b0, b1, rfl⟩, hB1⟩
    have hz1 := hB1.size
    go_wp2_with fail
    go_ret
    exact ⟨wy_bad HV.out (by decide), (hB1.alloc hz1 _).alloc (by simp; omega) _⟩
  | some t =>
    have ht8 := tyN_le ht
    rw [ht] at HC hte
    rw [hte] at HC
    simp only [Option.getD_some, Option.isSome_some, if_true] at HC
    have HTY := Lib.hid (fun W (hr : RdW W W.heap.size A ws) => r19Types_c A ws c ws.length t W rfl hs ht hc hr ho)
    unfold TsRes at HTY
    have HIF := Lib.hid (fun l hl => lay_iff (ws := ws) (t := t) (l := l) ht hl)
    have HNB := Lib.hid (fun h => lay_no (ws := ws) (.inr h))
    have HFL : Hid ((zeroL ws 16 = false ∨ zeroL ws 24 = false ∨ tysOk ws t = false ∨ slsOk ws = false ∨ waOk ws = false) → lay ws = false) := Lib.hid fun h => by
      cases hq : lay ws with
      | false => rfl
      | true =>
        cases hl : blocks ws 128 with
        | none => rw [HNB.out hl] at hq; cases hq
        | some l =>
          obtain ⟨a1, a2, a3, a4, a5, -⟩ := (HIF.out l hl).1 hq
          rw [a1, a2, a3, a4, waOk_some hl, a5] at h
          simp at h
    have HWA := Lib.hid (fun l hl => waOk_some (ws := ws) (l := l) hl)
    have HBN := Lib.hid (fun l (hl : blocks ws 128 = some l) => (blocks_chain (by omega) _ _ hl (by omega) (by omega) (by omega)).1)
    have HO := Lib.hid ho
    have hb256 : 256 ≤ ws.length := by omega
    have hb2048 : ws.length ≤ 2048 := by omega
    clear hte hs hb hr ho HZ ht
    go_enter Tryz.func42, Tryz.ntmps42
    go_wp2_with fail
    refine HC.out.mono ?_
    rintro e w1 ⟨⟨a, b0, b1, rfl⟩, hB1⟩
    have hz1 := hB1.size
    have HB1 := Lib.hid ((hB1.alloc hz1 (.cells #[.int .i64 a, .int .i64 (t : Int)] 113)).alloc (by simp; omega) (.cells #[.bool b0, .bool b1] 114))
    clear hB1
    go_wp2_with fail
    refine (HZ16.out _ (HR.out.up HB1.out HB1.out.size)).mono ?_
    rintro e w2 ⟨rfl, rfl⟩
    cases h16 : zeroL ws 16
    · have HV := Lib.hid (HFL.out (.inl h16))
      clear h16
      go_wp2_with fail
      go_ret
      exact ⟨wy_bad HV.out (by decide), HB1.out⟩
    · have H16 := Lib.hid h16
      clear h16
      go_wp2_with fail
      refine (HZ24.out _ (HR.out.up HB1.out HB1.out.size)).mono ?_
      rintro e w2 ⟨rfl, rfl⟩
      cases h24 : zeroL ws 24
      · have HV := Lib.hid (HFL.out (.inr (.inl h24)))
        clear h24
        go_wp2_with fail
        go_ret
        exact ⟨wy_bad HV.out (by decide), HB1.out⟩
      · have H24 := Lib.hid h24
        clear h24
        go_wp2_with fail
        refine (HTY.out _ (HR.out.up HB1.out HB1.out.size)).mono ?_
        rintro e w3 ⟨⟨v, L, rfl, hT⟩, hB3⟩
        have HB3 := Lib.hid (HB1.out.trans (hB3.mono HB1.out.size))
        have HTT := Lib.hid hT
        have HR3 := Lib.hid (HR.out.up HB3.out HB3.out.size)
        clear hT hB3
        cases hty : tysOk ws t
        · have HV := Lib.hid (HFL.out (.inr (.inr (.inl hty))))
          clear hty
          go_wp2_with fail
          go_ret
          exact ⟨wy_bad HV.out (by decide), HB3.out⟩
        · have HTO := Lib.hid hty
          obtain ⟨hT1, hT2⟩ := HTT.out hty
          obtain ⟨TA, tc, rfl⟩ := own_slice hT1.1
          have HRL := Lib.hid (RdL.of_own hT1 rfl)
          have HTM := Lib.hid hT2
          have hl8 : ∀ x ∈ L, x.l.length ≤ 8 := fun x hx => by
            have : x.l ∈ L.map Ty.l := List.mem_map_of_mem hx
            rw [hT2] at this
            unfold tysL at this
            obtain ⟨i, -, e⟩ := List.mem_map.1 this
            rw [← e]; exact krOut_le _ _
          have HL8 := Lib.hid hl8
          clear hty hT1 hT2 hl8 HTT
          go_wp2_with fail
          refine (HTL.out _ HR3.out).mono ?_
          rintro e w4 ⟨⟨SA, sn, sc, rfl, hS⟩, hB4⟩
          have HB4 := Lib.hid (HB3.out.trans (hB4.mono HB3.out.size))
          have HSS := Lib.hid hS
          have HR4 := Lib.hid (HR.out.up HB4.out HB4.out.size)
          have HRL4 := Lib.hid (HRL.out.up hB4 hB4.size)
          clear hS hB4
          cases hsl : slsOk ws
          · have HV := Lib.hid (HFL.out (.inr (.inr (.inr (.inl hsl)))))
            clear hsl
            go_wp2_with fail
            go_ret
            exact ⟨wy_bad HV.out (by decide), HB4.out⟩
          · have HSL := Lib.hid hsl
            obtain ⟨hsn, hS2, hS3⟩ := HSS.out hsl
            have HSN := Lib.hid hsn
            have HRS := Lib.hid hS3
            clear hsl hS3 HSS hsn
            go_wp2_with fail
            refine (HPA.out _ HR4.out).mono ?_
            rintro e w5 ⟨⟨PA, pn, pc, rfl, hP⟩, hB5⟩
            have HB5 := Lib.hid (HB4.out.trans (hB5.mono HB4.out.size))
            have HPP := Lib.hid hP
            have HRL5 := Lib.hid (HRL4.out.up hB5 hB5.size)
            have HRS5 := Lib.hid (show RdS w5 w5.heap.size SA (slL ws) from Rd.up HRS.out hB5 hB5.size)
            clear hP hB5
            cases hwa : waOk ws
            · have HV := Lib.hid (HFL.out (.inr (.inr (.inr (.inr hwa)))))
              clear hwa
              go_wp2_with fail
              go_ret
              exact ⟨wy_bad HV.out (by decide), HB5.out⟩
            · obtain ⟨l, hl, rfl, hpc, hrd⟩ := HPP.out hwa
              have hbn := HBN.out l hl
              have HLI := Lib.hid (HIF.out l hl)
              have HAD : Hid (adjOk l = true) := Lib.hid (by rw [← HWA.out l hl]; exact hwa)
              have HOB := Lib.hid (r19Objects_c PA l pc l.length w5 rfl (by omega) hrd)
              have hol := objs_len l
              have HAR := Lib.hid (fun b hb => objs_are (b := b) hl hb)
              obtain ⟨O, hO⟩ : ∃ O, objs l = O := ⟨_, rfl⟩
              rw [hO] at HOB HLI hol HAR
              clear hwa hl hrd hO HPP HIF HNB HBN HWA
              go_wp2_with fail
              refine HOB.out.mono ?_
              rintro e w6 ⟨⟨OA, on, oc, rfl, rfl, hoc, hor⟩, hB6⟩
              have HB6 := Lib.hid (HB5.out.trans (hB6.mono HB5.out.size))
              have HRL6 := Lib.hid (HRL5.out.up hB6 hB6.size)
              have HRS6 := Lib.hid (show RdS w6 w6.heap.size SA (slL ws) from Rd.up HRS5.out hB6 hB6.size)
              have HOR := Lib.hid hor
              have HR6 := Lib.hid (HR.out.up HB6.out HB6.out.size)
              clear hB6 hor
              have HOB2 : Hid (∀ b ∈ O, 0 ≤ b.at_ ∧ b.at_ ≤ 1000000) := Lib.hid fun b hb => by
                obtain ⟨a, z, ty, nx, mk, rfl, a1, a2, -⟩ := HAR.out b hb
                dsimp only; omega
              have HWR : Hid (∀ (r j a z ty nx : Nat) (mk : Bool) (hj : j < O.length), O[j] = ⟨(a : Int), (z : Int), 1, (ty : Int), mk, nx⟩ → 7 ≤ r → r ≤ 11 → (9 ≤ r → wrK ws (L.map Ty.l) O 8 O[j] = false) → a + z ≤ ws.length → ∀ W, Below w6.heap.size w6 W → Calls Tryz.prog 68 #[.slice A ws.length c, .slice TA L.length tc, .slice OA O.length oc, .agg #[.int .i64 (a : Int), .int .i64 (z : Int), .int .i64 1, .int .i64 (ty : Int), .bool mk, .int .u64 (nx : Int)], .int .i64 (r : Int)] W fun e w' => e = .returned (.bool (wrK ws (L.map Ty.l) O r O[j])) ∧ Below W.heap.size W w') := Lib.hid fun r j a z ty nx mk hj e h7 h11 h8 haz W hW => by
                have ek : ∀ r, wrK ws (L.map Ty.l) O r O[j] = wrB ws (L.map Ty.l) O a z ty mk nx r := fun r => by
                  rw [e]
                  unfold wrK
                  simp only [Int.toNat_natCast]
                rw [ek r]
                by_cases h9 : 9 ≤ r
                · have h8 := h8 h9
                  rw [ek 8] at h8
                  have h8 : (!decide (ty < (L.map Ty.l).length) || objSz (((L.map Ty.l)[ty]?).getD []).length != z) = false := h8
                  rw [Bool.or_eq_false_iff] at h8
                  have hty : ty < L.length := by
                    have := h8.1
                    rw [List.length_map] at this
                    simpa using this
                  have hz := h8.2
                  rw [List.getElem?_map, List.getElem?_eq_getElem hty, bne_eq_false_iff_eq] at hz
                  exact r19Wrong9_c A TA OA ws L O c ws.length tc L.length oc O.length a z ty nx r 1 mk W rfl rfl hb2048 (by omega) rfl hty (HL8.out _ (List.getElem_mem hty)) hz.symm haz (by omega) (HRL6.out.up hW hW.size) (HR6.out.up hW hW.size) (HOR.out.up hW hW.size) HOB2.out
                · exact r19Wrong78_c A TA OA ws L O c ws.length tc L.length oc O.length a z ty nx r 1 mk W rfl HL8.out (by omega) (HRL6.out.up hW hW.size)
              rw [HTM.out] at HWR
              have HLO : Hid (lay ws = true ↔ (∀ r, 7 ≤ r → r < 12 → ∀ b ∈ O, wrK ws (tysL ws t 8) O r b = false) ∧ ∀ s ∈ slL ws, slHas O s = true) := Lib.hid (by
                rw [HLI.out]
                exact ⟨fun h => h.2.2.2.2.2, fun h => ⟨H16.out, H24.out, HTO.out, HSL.out, HAD.out, h⟩⟩)
              have hO6 : O.length ≤ 1000000 := by omega
              have HSX := Lib.hid (fun W (hr : RdB W W.heap.size OA O) v => r19Index_c OA O oc O.length v W rfl hO6 hr HOB2.out)
              obtain ⟨T, hTT⟩ : ∃ T, tysL ws t 8 = T := ⟨_, rfl⟩
              rw [hTT] at HWR HLO
              have hO24 : O.length ≤ 2048 := by omega
              clear hTT HLI HAD HTO HSL H16 H24 HTM HRL6 HRL5 HRL4 HRL HL8 hbn hol hpc hS2 hoc HOB HR3 HR4 HRS HRS5 HB3 HB4 HB5 HB1 HFL HTY HTL HPA HZ16 HZ24 HC hO24 hb256 hb2048 ht8
              go_wp2_with fail
              go_loopw [11] (fun i wr => ∃ k : Nat, 7 ≤ k ∧ k ≤ 12 ∧ i = .int .i64 k ∧ Hid (∀ r, 7 ≤ r → r < k → ∀ b ∈ O, wrK ws T O r b = false) ∧ Below w6.heap.size w6 wr) (fun i _ => 12 - (intOf i).toNat)
              case atStart => exact ⟨7, Nat.le_refl _, by omega, rfl, Lib.hid fun r h1 h2 => absurd h2 (by omega), Below.refl _ _⟩
              case round =>
                obtain ⟨k, hk7, hk, rfl, HP, hB⟩ := hrel
                have hz := hB.size
                by_cases hlt : k ≤ 11
                · have hki : decide ((k : Int) ≤ 11) = true := by rw [decide_eq_true_iff]; omega
                  have hkn : decide (k ≤ 11) = true := by rw [decide_eq_true_iff]; exact hlt
                  have HBK := Lib.hid hB
                  have HN0 : Hid ((∀ b ∈ O, wrK ws T O k b = false) → ∀ r, 7 ≤ r → r < k + 1 → ∀ b ∈ O, wrK ws T O r b = false) := Lib.hid fun h r h1 h2 => by
                    rcases Nat.lt_or_ge r k with h3 | h3
                    · exact HP.out r h1 h3
                    · have : r = k := by omega
                      subst this; exact h
                  obtain ⟨wk, hwk⟩ : ∃ wk, wr = wk := ⟨_, rfl⟩
                  rw [hwk] at hB HBK hz ⊢
                  clear hwk
                  go_wp2_with fail
                  go_loopw [12] (fun i wr => ∃ j : Nat, j ≤ O.length ∧ i = .int .i64 j ∧ Hid (∀ q (h : q < O.length), q < j → wrK ws T O k O[q] = false) ∧ Below wk.heap.size wk wr) (fun i _ => O.length - (intOf i).toNat)
                  case atStart => exact ⟨0, Nat.zero_le _, rfl, Lib.hid fun q h h2 => absurd h2 (by omega), Below.refl _ _⟩
                  case round =>
                    obtain ⟨j, hj, rfl, HQ, hB2⟩ := hrel
                    have hz2 := hB2.size
                    have hB62 := hB.trans (hB2.mono hz)
                    by_cases hjl : j < O.length
                    · obtain ⟨a, z, ty, nx, mk, ej, a1, a2, -⟩ := HAR.out O[j] (List.getElem_mem hjl)
                      have HCA := Lib.hid (HWR.out k j a z ty nx mk hjl ej hk7 hlt (fun h9 => HP.out 8 (by omega) (by omega) _ (List.getElem_mem hjl)) a2 wr hB62)
                      obtain ⟨b, off, rfl, hb, p0, p1, p2, p3, p4, p5⟩ := RdB.at_ (Rd.below HOR.out hB62) hjl
                      rw [ej] at p0 p1 p2 p3 p4 p5
                      dsimp only at p0 p1 p2 p3 p4 p5
                      have HNX : Hid (wrK ws T O k O[j] = false → ∀ q (h : q < O.length), q < j + 1 → wrK ws T O k O[q] = false) := Lib.hid fun h q hq h2 => by
                        rcases Nat.lt_or_ge q j with h3 | h3
                        · exact HQ.out q hq h3
                        · have : q = j := by omega
                          subst this; exact h
                      have HBD : Hid (wrK ws T O k O[j] = true → lay ws = false) := Lib.hid fun h => by
                        cases hq : lay ws with
                        | false => rfl
                        | true => rw [(HLO.out.1 hq).1 k hk7 (by omega) _ (List.getElem_mem hjl)] at h; cases h
                      obtain ⟨q, hq⟩ : ∃ q, wrK ws T O k O[j] = q := ⟨_, rfl⟩
                      rw [hq] at HCA HNX HBD
                      have hji : (j : Int) < (O.length : Int) := by omega
                      have hj0 : (0 : Int) ≤ (j : Int) := by omega
                      have hkp : (0 : Int) < (k : Int) := by omega
                      have HB22 := Lib.hid hB2
                      have HB62 := Lib.hid hB62
                      clear hq ej a1 a2 hB62
                      cases q
                      · have HN := Lib.hid (HNX.out rfl)
                        clear HNX HBD
                        go_wp2_with fail
                        refine HCA.out.mono ?_
                        rintro e w8 ⟨rfl, hB8⟩
                        have HB8 := Lib.hid (HB22.out.trans (hB8.mono hz2))
                        clear hB8
                        go_wp2_with fail
                        go_roundw
                        case rel => exact ⟨j + 1, by omega, by go_num, HN, HB8.out⟩
                        case measure => simp [intOf]; omega
                      · have HV := Lib.hid (HBD.out rfl)
                        clear HNX HBD
                        go_wp2_with fail
                        refine HCA.out.mono ?_
                        rintro e w8 ⟨rfl, hB8⟩
                        have HB8 := Lib.hid (HB6.out.trans ((HB62.out.trans (hB8.mono (by have := HB62.out.size; omega))).mono HB6.out.size))
                        have HKP := Lib.hid hkp
                        clear hB8 hkp
                        go_wp2_with fail
                        go_ret
                        exact ⟨wy_bad HV.out HKP.out, HB8.out⟩
                    · have HN := Lib.hid (HN0.out fun b hb => by
                        obtain ⟨q, hq, rfl⟩ := List.getElem_of_mem hb
                        exact HQ.out q hq (by omega))
                      have hjn : decide ((j : Int) < (O.length : Int)) = false := by rw [decide_eq_false_iff_not]; omega
                      have hjnn : decide (j < O.length) = false := by rw [decide_eq_false_iff_not]; exact hjl
                      have HB62 := Lib.hid hB62
                      clear hjl hB62
                      go_wp2_with fail
                      go_roundw
                      case rel => exact ⟨k + 1, by omega, by omega, by go_num, HN, HB62.out⟩
                      case measure => simp [intOf]; omega
                · have HR12 : Hid (∀ r, 7 ≤ r → r < 12 → ∀ b ∈ O, wrK ws T O r b = false) := Lib.hid fun r h1 h2 => HP.out r h1 (by omega)
                  have HB12 := Lib.hid hB
                  have hkd : decide ((k : Int) ≤ 11) = false := by rw [decide_eq_false_iff_not]; omega
                  have hkdn : decide (k ≤ 11) = false := by rw [decide_eq_false_iff_not]; exact hlt
                  clear HP hlt hk hk7
                  go_wp2_with fail
                  go_loopw [13] (fun i wr2 => ∃ j : Nat, j ≤ 16 ∧ i = .int .i64 j ∧ Hid (∀ q (h : q < (slL ws).length), q < j → slHas O (slL ws)[q] = true) ∧ Below w6.heap.size w6 wr2) (fun i _ => 16 - (intOf i).toNat)
                  case atStart => exact ⟨0, Nat.zero_le _, rfl, Lib.hid fun q h h2 => absurd h2 (by omega), HB12.out⟩
                  case round =>
                    obtain ⟨j, hj, rfl, HQ, hB2⟩ := hrel
                    have HB12 := Lib.hid hB2
                    rename World => wq
                    by_cases hjl : j < 16
                    · have hjs : j < (slL ws).length := by rw [slL_len]; exact hjl
                      obtain ⟨b, off, rfl, hb, p0, p1, p2⟩ := RdS.at_ (Rd.below HRS6.out HB12.out) hjs
                      have HNX : Hid (slHas O (slL ws)[j] = true → ∀ q (h : q < (slL ws).length), q < j + 1 → slHas O (slL ws)[q] = true) := Lib.hid fun h q hq h2 => by
                        rcases Nat.lt_or_ge q j with h3 | h3
                        · exact HQ.out q hq h3
                        · have : q = j := by omega
                          subst this; exact h
                      have HBD : Hid (slHas O (slL ws)[j] = false → lay ws = false) := Lib.hid fun h => by
                        cases hq : lay ws with
                        | false => rfl
                        | true => rw [(HLO.out.1 hq).2 _ (List.getElem_mem hjs)] at h; cases h
                      have hat : 0 ≤ (slL ws)[j].at_ ∧ (slL ws)[j].at_ ≤ 4294967295 := by
                        rw [slL_get]
                        exact ⟨(slRaw_bd (wd ws (112 + j))).2.2.1, (slRaw_bd (wd ws (112 + j))).2.2.2⟩
                      obtain ⟨x, hx⟩ : ∃ x, (slL ws)[j] = x := ⟨_, rfl⟩
                      rw [hx] at p0 p1 p2 HNX HBD hat
                      obtain ⟨g, u, at_⟩ := x
                      dsimp only at p0 p1 p2 hat
                      obtain ⟨v, rfl⟩ := Int.eq_ofNat_of_zero_le hat.1
                      have HSH : Hid (slHas O ⟨g, u, ((v : Nat) : Int)⟩ = (!u || hasO O v)) := Lib.hid (by unfold slHas; rw [Int.toNat_natCast])
                      have w9 : IntKind.u64.wrap (v : Int) = (v : Int) := IntWalk.u64_in _ (by omega)
                      have hji : (j : Int) < (sn : Int) := by rw [HSN.out]; omega
                      have hjd : decide ((j : Int) < (sn : Int)) = true := by rw [decide_eq_true_iff]; exact hji
                      have hjdn : decide (j < sn) = true := by rw [decide_eq_true_iff, HSN.out]; exact hjl
                      have hj0 : (0 : Int) ≤ (j : Int) := by omega
                      have HSI := Lib.hid (HSX.out wq (HOR.out.up HB12.out HB12.out.size) v)
                      clear hx hat
                      cases u
                      · have HN := Lib.hid (HNX.out (by rw [HSH.out]; rfl))
                        clear HNX HBD
                        go_wp2_with fail
                        go_roundw
                        case rel => exact ⟨j + 1, by omega, by go_num, HN, HB12.out⟩
                        case measure => simp [intOf]; omega
                      · obtain ⟨q, hq⟩ : ∃ q, hasO O v = q := ⟨_, rfl⟩
                        rw [hq] at HSI HSH
                        clear hq
                        cases q
                        · have HV := Lib.hid (HBD.out (by rw [HSH.out]; rfl))
                          clear HNX HBD
                          go_wp2_with fail
                          refine HSI.out.mono ?_
                          rintro e w8 ⟨⟨r, rfl, hr⟩, rfl⟩
                          simp only [Bool.not_false] at hr
                          go_wp2_with fail
                          go_ret
                          exact ⟨wy_bad HV.out (by decide), HB6.out.trans (HB12.out.mono HB6.out.size)⟩
                        · have HN := Lib.hid (HNX.out (by rw [HSH.out]; rfl))
                          clear HNX HBD
                          go_wp2_with fail
                          refine HSI.out.mono ?_
                          rintro e w8 ⟨⟨r, rfl, hr⟩, rfl⟩
                          simp only [Bool.not_true] at hr
                          go_wp2_with fail
                          go_roundw
                          case rel => exact ⟨j + 1, by omega, by go_num, HN, HB12.out⟩
                          case measure => simp [intOf]; omega
                    · have HV : Hid (lay ws = true) := Lib.hid (HLO.out.2 ⟨HR12.out, fun s hs => by
                        obtain ⟨q, hq, rfl⟩ := List.getElem_of_mem hs
                        exact HQ.out q hq (by rw [slL_len] at hq; omega)⟩)
                      have hjd : decide ((j : Int) < (sn : Int)) = false := by rw [decide_eq_false_iff_not, HSN.out]; omega
                      have hjdn : decide (j < sn) = false := by rw [decide_eq_false_iff_not, HSN.out]; exact hjl
                      go_wp2_with fail
                      go_ret
                      exact ⟨wy_ok HV.out, HB6.out.trans (HB12.out.mono HB6.out.size)⟩
set_option maxRecDepth 100000 in
set_option maxHeartbeats 2000000 in
theorem r19Check_c (A : Option Addr) (ws : List Nat) (c n : Nat) (w : World) (hn : ws.length = n) (hm : n ≤ 9223372036854775807) (hc : n ≤ c) (hr : RdW w w.heap.size A ws) (ho : ∀ x ∈ ws, x < 18446744073709551616) :
    Calls Tryz.prog 6 #[.slice A n c] w fun e w' => e = .returned (.int .i64 (layErr ws)) ∧ Below w.heap.size w w' := by
  subst hn
  have HIM := Lib.hid (fun W => refImCheck_c A ws.length c W hm)
  have key : Calls Tryz.prog 21 #[.slice A ws.length c] w fun e w' => (∃ r : Int, e = .returned (.tuple #[.int .i64 r, .int .i64 (imgErr ws.length)]) ∧ 0 ≤ r ∧ (sizeOk (ws.length : Int) = true → (r = 0 ↔ lay ws = true))) ∧ Below w.heap.size w w' := by
    cases hs : sizeOk (ws.length : Int)
    · have HE := Lib.hid (imgErr_no hs)
      rw [imgErr_no hs] at HIM
      have HNS : Hid (∀ {p : Prop}, false = true → p) := Lib.hid fun h => by cases h
      clear hr ho hc hs
      go_enter Tryz.func21, Tryz.ntmps21
      go_wp2_with fail
      refine (HIM.out _).mono ?_
      rintro e w1 ⟨rfl, rfl⟩
      go_wp2_with fail
      go_ret2
      exact ⟨⟨0, by rw [HE.out]; rfl, by omega, fun h => HNS.out h⟩, Below.refl _ _⟩
    · have HE := Lib.hid (imgErr_ok hs)
      rw [imgErr_ok hs] at HIM
      have HWY := Lib.hid (r19Why_c A ws c ws.length w rfl hs hc hr ho)
      unfold WyRes at HWY
      clear hr ho hc hs
      go_enter Tryz.func21, Tryz.ntmps21
      go_wp2_with fail
      refine (HIM.out _).mono ?_
      rintro e w1 ⟨rfl, rfl⟩
      go_wp2_with fail
      refine HWY.out.mono ?_
      rintro e w1 ⟨⟨r, rfl, h0, hr⟩, hB⟩
      have HH := Lib.hid (And.intro h0 hr)
      clear h0 hr
      go_wp2_with fail
      go_ret2
      exact ⟨⟨r, by rw [HE.out]; rfl, HH.out.1, fun _ => HH.out.2⟩, hB⟩
  have HK := Lib.hid key
  have HLE : Hid (layErr ws = if sizeOk (ws.length : Int) = true then (if lay ws = true then 0 else 50) else 8) := Lib.hid rfl
  clear key hr ho hc HIM
  cases hs : sizeOk (ws.length : Int)
  · rw [imgErr_no hs] at HK
    rw [hs] at HLE
    simp only [Bool.false_eq_true, if_false] at HLE
    clear hs
    go_enter Tryz.func6, Tryz.ntmps6
    go_wp2_with fail
    refine HK.out.mono ?_
    rintro e w1 ⟨⟨r, rfl, -, -⟩, hB⟩
    go_wp2_with fail
    go_ret
    exact ⟨by rw [HLE.out]; rfl, hB⟩
  · rw [imgErr_ok hs, hs] at HK
    rw [hs] at HLE
    simp only [if_true] at HLE
    clear hs
    cases hl : lay ws
    · rw [hl] at HK HLE
      clear hl
      go_enter Tryz.func6, Tryz.ntmps6
      go_wp2_with fail
      refine HK.out.mono ?_
      rintro e w1 ⟨⟨r, rfl, h0, hr⟩, hB⟩
      have hr0 : r ≠ 0 := fun h => by have := (hr trivial).1 h; cases this
      have d1 : decide (0 < r) = true := by rw [decide_eq_true_iff]; omega
      clear hr hr0 h0
      go_wp2_with fail
      go_ret
      exact ⟨by rw [HLE.out]; rfl, hB⟩
    · rw [hl] at HK HLE
      clear hl
      go_enter Tryz.func6, Tryz.ntmps6
      go_wp2_with fail
      refine HK.out.mono ?_
      rintro e w1 ⟨⟨r, rfl, h0, hr⟩, hB⟩
      obtain rfl : r = 0 := (hr trivial).2 (by first | exact trivial | rfl)
      clear hr h0
      go_wp2_with fail
      go_ret
      exact ⟨by rw [HLE.out]; rfl, hB⟩
end Go.Proofs.YtoaepffpjoibaaaGreat
