/- All changes of a phase: the walk of stages.All. -/
import Derived.Test.YtpfbppjjegialaaStgO
import Derived.Test.YtpfbppjjegialaaSldU
import Derived.LoopTactic
namespace Go.Proofs.Ytpfbppjjegialaa
open Go.RowKit

theorem allG_nil {p : Nat} : ∀ {f : Nat} {x : List Nat}, (allG p f x).1 ≠ 0 → allG p f x = ((allG p f x).1, [], []) := by
  intro f
  cases f with
  | zero => intro x h; exact absurd rfl h
  | succ f =>
    intro x h
    simp only [allG] at h ⊢
    by_cases h1 : wd x 16 = p
    · simp only [h1, if_true] at h ⊢
      by_cases h2 : (sgOne x).1 = 6
      · simp only [h2, if_true] at h; first | exact absurd rfl h | exact h.elim | (simp at h)
      · simp only [h2, if_false] at h ⊢
        by_cases h3 : (sgOne x).1 = 0
        · simp only [h3, if_true] at h ⊢
          by_cases h4 : (allG p f (putE x (sgOne x).2)).1 = 0
          · simp only [h4, if_true] at h; first | exact absurd rfl h | exact h.elim | (simp at h)
          · simp only [h4, if_false]
        · simp only [h3, if_false]
    · simp only [h1, if_false] at h; first | exact absurd rfl h | exact h.elim | (simp at h)
theorem mzS_le {p : Nat} {x : List Nat} (hx : x.length ≤ 2048) : mzS p x ≤ 2060 := by
  unfold mzS stM
  split
  · split
    · by_cases h : rcErr x = 0
      · rw [wtOut_eq h, List.length_map]
        have h1 := wntL_len (seenL x) (hpOut x)
        have h2 := hpOut_len x
        omega
      · unfold wtOut; rw [if_neg h]; simp
    · split
      · by_cases h : hpErr x = 0
        · have := (wnOut_bd h).1; omega
        · unfold wnOut; rw [if_neg h]; simp
      · omega
  · omega
/-- How all changes go on behind some. -/
def contA (p : Nat) (ws : List Nat) (outs : List (List En)) (x : List Nat) : Prop := allE p ws = if (allE p x).1 = 0 then (0, outs ++ (allE p x).2.1, (allE p x).2.2) else ((allE p x).1, [], [])
theorem contA_start (p : Nat) (ws : List Nat) : contA p ws [] ws := by
  unfold contA
  by_cases h : (allE p ws).1 = 0
  · rw [if_pos h, List.nil_append, ← h]
  · rw [if_neg h]; exact allG_nil h
theorem contA_step {p : Nat} {ws : List Nat} {outs : List (List En)} {x : List Nat} (h : contA p ws outs x) (ho : ∀ v ∈ x, v < 18446744073709551616) (hp : wd x 16 = p) (h0 : (sgOne x).1 = 0) : contA p ws (outs ++ [(sgOne x).2]) (putE x (sgOne x).2) := by
  unfold contA at h ⊢
  rw [h, allE_step ho hp h0]
  by_cases h1 : (allE p (putE x (sgOne x).2)).1 = 0
  · rw [if_pos h1, if_pos rfl, if_pos h1]
    simp
  · rw [if_neg h1, if_neg (by exact h1), if_neg h1]
theorem contA_end {p : Nat} {ws : List Nat} {outs : List (List En)} {x : List Nat} (h : contA p ws outs x) (h2 : wd x 16 ≠ p ∨ wd x 16 = p ∧ (sgOne x).1 = 6) : allE p ws = (0, outs, x) := by
  have e : allE p x = (0, [], x) := by
    rcases h2 with h2 | ⟨h2, h3⟩
    · exact allE_other h2
    · exact allE_none h2 h3
  unfold contA at h
  rw [h, e]
  simp
theorem contA_bad {p : Nat} {ws : List Nat} {outs : List (List En)} {x : List Nat} (h : contA p ws outs x) (hp : wd x 16 = p) (h2 : (sgOne x).1 ≠ 6) (h3 : (sgOne x).1 ≠ 0) : allE p ws = ((sgOne x).1, [], []) := by
  unfold contA at h
  rw [h, allE_err hp h2 h3, if_neg (by exact h3)]
theorem own_grown {w w' : World} {H n sz : Nat} {e : TypeId} {v : Value} {xs : List Value} {row : Option Nat} (h : w.ownsRow H e sz v n xs) (hb : w.grownBy w' row) (hne : v.ownBlock = none ∨ v.ownBlock ≠ row) : w'.ownsRow H e sz v n xs := by
  refine ⟨h.1, ?_⟩
  rcases h.2 with h1 | ⟨g, cap, cur, h1, h2, h3, h4⟩
  · exact .inl h1
  · subst h1
    refine .inr ⟨g, cap, cur, rfl, h2, ?_, h4⟩
    have hlt := (Array.getElem?_eq_some_iff.1 h3).1
    refine (hb.block g hlt ?_).trans h3
    rcases hne with h5 | h5
    · simp [Value.ownBlock] at h5
    · exact h5
theorem infoChs : (Try.prog.info? 24).map (fun i => (i.zero, i.size, i.bytes)) = some (some (.slice none 0 0), 1, 24) := by kernel_rfl
/-- Changes that lie in memory of the call's own. -/
def OwnC (w : World) (H : Nat) (B : Option Addr) (d : Nat) (L : List Ch) : Prop := w.ownsRow H 24 1 (.slice B L.length d) L.length (L.flatMap Ch.cells) ∧ ∀ x ∈ L, w.ownsRow H 50 2 (.slice x.A x.l.length x.c) x.l.length (x.l.flatMap En.cells)
def AlRes (ws : List Nat) (H : Nat) (e : Ending) (w' : World) : Prop := ∃ (L : List Ch) (B : Option Addr) (d : Nat) (vx : Value), e = .returned (.tuple #[.slice B L.length d, vx, .int .i64 (sgAll ws).1]) ∧ L.map Ch.l = (sgAll ws).2.1 ∧ OwnC w' H B d L ∧
  ((sgAll ws).1 = 0 → ∃ g c, vx = .slice (some ⟨g, 0, none⟩) ws.length c ∧ (sgAll ws).2.2.length = ws.length ∧ w'.ownsRow H 31 1 (.slice (some ⟨g, 0, none⟩) ws.length c) ws.length ((sgAll ws).2.2.flatMap wordCells)) ∧ ((sgAll ws).1 ≠ 0 → vx = .slice none 0 0)
theorem alRes_no {ws : List Nat} {H : Nat} {r : Int} {w' : World} (h : sgAll ws = (r, [], [])) (h0 : r ≠ 0) : AlRes ws H (.returned (.tuple #[.slice none 0 0, .slice none 0 0, .int .i64 r])) w' := by
  refine ⟨[], none, 0, .slice none 0 0, by rw [h]; rfl, by rw [h]; rfl, ⟨World.ownsRow_nil _ _ _ _, fun x hx => by simp at hx⟩, fun h1 => ?_, fun _ => rfl⟩
  rw [h] at h1
  exact absurd h1 h0

set_option maxRecDepth 100000 in
set_option maxHeartbeats 16000000 in
theorem sgAll_c (A : Option Addr) (ws : List Nat) (c n : Nat) (w : World) (hn : ws.length = n) (hm : n ≤ 9223372036854775807) (hc : n ≤ c) (hr : RdW w w.heap.size A ws) (ho : ∀ x ∈ ws, x < 18446744073709551616) :
    Calls Try.prog 14 #[.slice A n c] w fun e w' => AlRes ws w.heap.size e w' ∧ Below w.heap.size w w' := by
  subst hn
  have HR := Lib.hid hr
  have HCK := Lib.hid (ckCheck_c A ws c ws.length w rfl hm hc hr ho)
  by_cases h0 : ckErr ws = 0
  · obtain ⟨-, hs, -, -⟩ := ck_parts h0
    have hb := (sizeOk_iff _).1 hs
    have HSA := Lib.hid (show sgAll ws = allE (wd ws 16) ws by unfold sgAll; rw [if_pos h0])
    rw [h0] at HCK
    have HP0 := Lib.hid (fun W (h : RdW W W.heap.size A ws) => sPut_c A none ws [] c 0 ws.length 0 W.heap.size W rfl rfl hs (by omega) (fun e he => absurd he (by simp)) h Rd.nil_ (Nat.le_refl _))
    unfold OwnV at HP0
    simp only [putE] at HP0
    have HPT := Lib.hid (fun A2 B x E c d W (hx : x.length = ws.length) (hE : Small ws.length E) (h : RdW W W.heap.size A2 x) (h2 : RdE W W.heap.size B E) => sPut_c A2 B x E c d ws.length E.length W.heap.size W hx rfl hs hE.le (fun e he => by have := hE.ins e he; omega) h h2 (Nat.le_refl _))
    unfold OwnV at HPT
    have HON := Lib.hid (fun A2 x c2 W (hx : x.length = ws.length) (hc2 : ws.length ≤ c2) (hox : ∀ v ∈ x, v < 18446744073709551616) (h : RdW W W.heap.size A2 x) => sgOne_c A2 x c2 ws.length W hx hm hc2 h hox)
    unfold EnRes at HON
    obtain ⟨p, hp⟩ : ∃ p, wd ws 16 = p := ⟨_, rfl⟩
    rw [hp] at HSA
    have HPH := Lib.hid hp
    have HST := Lib.hid (contA_start p ws)
    have HO := Lib.hid ho
    have hlen : ws.length ≤ 2048 := by omega
    have h16 : 16 < ws.length := by omega
    have hmz := mzS_le (p := p) hlen
    obtain ⟨i0, hi, hz0, hz1, hz2⟩ := info_parts infoChs
    have HI := Lib.hid hi
    have HZ0 := Lib.hid hz0
    have HZ1 := Lib.hid hz1
    have HZ2 := Lib.hid hz2
    clear hi hz0 hz1 hz2
    clear h0 hs hb hp hr ho
    go_enter Try.func14, Try.ntmps14
    go_wp2_with fail
    refine HCK.out.mono ?_
    rintro e w1 ⟨rfl, hB1⟩
    have HB1 := Lib.hid hB1
    have HR1 := Lib.hid (HR.out.up hB1 hB1.size)
    clear hB1
    obtain ⟨b0, o0, eA, hb0, x0⟩ := RdW.at_ HR1.out h16
    subst eA
    rw [← wd_get, HPH.out] at x0
    have i16 : (16 : Int) < (ws.length : Int) := by omega
    go_wp2_with fail
    refine (HP0.out _ HR1.out).mono ?_
    rintro e w2 ⟨g2, c2, rfl, hown2, hB2⟩
    have HB2 := Lib.hid (HB1.out.trans (hB2.mono HB1.out.size))
    have HO2 := Lib.hid (own_mono hown2 HB1.out.size)
    clear hown2 hB2 x0
    go_wp2_with fail
    go_loopg [7, 9] (mzS p ws + 1) (fun gk vx vo wr => ∃ (x : List Nat) (L : List Ch) (g cx : Nat), vx = .slice (some ⟨g, 0, none⟩) ws.length cx ∧ x.length = ws.length ∧ Hid (∀ v ∈ x, v < 18446744073709551616) ∧ Hid (mzS p x < gk) ∧ Hid (contA p ws (L.map Ch.l) x) ∧ L.length + gk ≤ mzS p ws + 1 ∧ wr.ownsRow w.heap.size 31 1 (.slice (some ⟨g, 0, none⟩) ws.length cx) ws.length (x.flatMap wordCells) ∧ wr.ownsRow w.heap.size 24 1 vo L.length (L.flatMap Ch.cells) ∧ Hid (∀ y ∈ L, wr.ownsRow w.heap.size 50 2 (.slice y.A y.l.length y.c) y.l.length (y.l.flatMap En.cells)) ∧ Below w.heap.size w wr)
    case atStart => exact ⟨ws, [], g2, c2, rfl, rfl, HO.out, Nat.lt_succ_self _, HST.out, by simp, HO2.out, World.ownsRow_nil _ _ _ _, fun y hy => absurd hy (by simp), HB2.out⟩
    case round =>
      obtain ⟨x, L, g, cx, rfl, hxl, HOX, HMZ, HCO, hLg, hownX, hownL, HLS, hB⟩ := hrel
      have hz := hB.size
      have c16 := (hownX.cellAt 16 (by omega)).trans (words_get x 16 (by omega))
      rw [← wd_get] at c16
      obtain ⟨q, hq⟩ : ∃ q, wd x 16 = q := ⟨_, rfl⟩
      rw [hq] at c16
      have hcap := own_capR hownX
      have HOX2 := Lib.hid hownX
      have HOL := Lib.hid hownL
      have HB := Lib.hid hB
      have HQ := Lib.hid hq
      have HXL := Lib.hid hxl
      have HCP := Lib.hid hcap
      have HHZ := Lib.hid hz
      by_cases hqp : q = p
      · have HQP := Lib.hid hqp
        have e1 : ((q : Int) == (p : Int)) = true := by rw [beq_iff_eq]; omega
        have e1n : (q == p) = true := by rw [beq_iff_eq]; exact hqp
        have HOx := Lib.hid (HON.out (some ⟨g, 0, none⟩) x cx wr hxl hcap HOX.out (Rd.of_own hownX))
        have HST := Lib.hid (fun h => contA_step HCO.out HOX.out (by rw [hq, hqp]) h)
        have HEN := Lib.hid (fun h => contA_end HCO.out (.inr ⟨by rw [hq, hqp], h⟩))
        have HBD := Lib.hid (fun h h2 => contA_bad HCO.out (by rw [hq, hqp]) h h2)
        have HSM := Lib.hid (fun h => (sg_ok HOX.out h).2.1)
        have HLT := Lib.hid (fun h => putS_lt HOX.out h)
        have HDC := Lib.hid (fun h => mzS_dec HOX.out (by rw [hq, hqp]) h)
        obtain ⟨r, hr⟩ : ∃ r, (sgOne x).1 = r := ⟨_, rfl⟩
        obtain ⟨E, hE⟩ : ∃ E, (sgOne x).2 = E := ⟨_, rfl⟩
        rw [hr, hE] at HOx
        rw [hr] at HEN HBD HST HSM HLT HDC
        rw [hE] at HST HSM HLT HDC
        clear hr hE hqp hq hownX hownL hB hxl hcap hz
        by_cases hr6 : r = 6
        · have HV := Lib.hid (HEN.out hr6)
          subst hr6
          go_wp2_with fail
          refine HOx.out.mono ?_
          rintro e w3 ⟨⟨A3, c3, rfl, -⟩, hB3⟩
          have HB3 := Lib.hid (HB.out.trans (hB3.mono HB.out.size))
          have HX3 := Lib.hid (own_below HOX2.out hB3 (Nat.le_refl _))
          have HL3 := Lib.hid (own_below HOL.out hB3 (Nat.le_refl _))
          have HS3 := Lib.hid (fun y hy => own_below (HLS.out y hy) hB3 (Nat.le_refl _))
          clear hB3
          obtain ⟨Bv, dv, rfl⟩ := own_slice HL3.out
          go_wp2_with fail
          go_ret3
          exact ⟨⟨L, Bv, dv, _, by rw [HSA.out, HV.out]; rfl, by rw [HSA.out, HV.out], ⟨HL3.out, HS3.out⟩, fun _ => ⟨g, cx, rfl, by rw [HSA.out, HV.out]; exact HXL.out, by rw [HSA.out, HV.out]; exact HX3.out⟩, fun h => absurd (by rw [HSA.out, HV.out]) h⟩, HB3.out⟩
        · have e6 : ((r : Int) == 6) = false := by rw [beq_eq_false_iff_ne]; exact hr6
          by_cases hr0 : r = 0
          · have hst := HST.out hr0
            have hsm := HSM.out hr0
            rw [HXL.out] at hsm
            have hlt := HLT.out hr0
            have hdc := HDC.out hr0
            have HPX := Lib.hid (fun A2 B c d W h h2 => HPT.out A2 B x E c d W HXL.out hsm h h2)
            have hyl : (putE x E).length = ws.length := by rw [putE_len]; exact HXL.out
            rw [hyl] at HPX
            obtain ⟨y, hy⟩ : ∃ y, putE x E = y := ⟨_, rfl⟩
            rw [hy] at hst hlt hdc HPX hyl
            have HST2 := Lib.hid hst
            have HLT2 := Lib.hid hlt
            have HDC2 := Lib.hid hdc
            have HYL := Lib.hid hyl
            have hEl : E.length ≤ 32 := hsm.le
            subst hr0
            clear hr6 hst hsm hlt hdc hyl hy
            go_wp2_with fail
            refine HOx.out.mono ?_
            rintro e w3 ⟨⟨A3, c3, rfl, hown3⟩, hB3⟩
            have HB3 := Lib.hid (HB.out.trans (hB3.mono HB.out.size))
            have HX3 := Lib.hid (own_below HOX2.out hB3 (Nat.le_refl _))
            have HL3 := Lib.hid (own_below HOL.out hB3 (Nat.le_refl _))
            have HS3 := Lib.hid (fun y hy => own_below (HLS.out y hy) hB3 (Nat.le_refl _))
            have HE3 := Lib.hid (own_mono hown3 HHZ.out)
            have hz3 := HB3.out.size
            clear hB3 hown3
            go_wp2_with (at_builtin; refine wpList_append_own _ rfl _ _ 39 rfl w.heap.size 24 i0 _ 1 24 Try.underlying39 HI.out HZ0.out HZ1.out HZ2.out rfl (by decide) _ _ _ rfl (HL3.out.alloc _) ⟨_, 0, none⟩ 1 1 [.slice A3 E.length c3] rfl rfl (news_new _ _ _) (by simp [Value.oneCell']) (by unfold maxLen; omega) (by omega) (by simp; omega) ?_; intro v1 w4 hown1 hg1 _; have hB4 := below_append HB3.out hz3 HL3.out hg1; have HX4 := Lib.hid (own_grown (HX3.out.alloc _) hg1 (own_sep HX3.out HL3.out (by decide))); have HE4 := Lib.hid (own_grown (HE3.out.alloc _) hg1 (own_sep HE3.out HL3.out (by decide))); have HS4 := Lib.hid (fun y hy => own_grown ((HS3.out y hy).alloc _) hg1 (own_sep (HS3.out y hy) HL3.out (by decide))); have HB4 := Lib.hid hB4; have HL4 := Lib.hid hown1; clear hB4 hown1 hg1)
            refine (HPX.out _ _ _ _ _ (Rd.of_own HX4.out) (Rd.of_own HE4.out)).mono ?_
            rintro e w5 ⟨g5, c5, rfl, hown5, hB5⟩
            have HB5 := Lib.hid (HB4.out.trans (hB5.mono HB4.out.size))
            have HX5 := Lib.hid (own_mono hown5 HB4.out.size)
            have HL5 := Lib.hid (own_below HL4.out hB5 (Nat.le_refl _))
            have HE5 := Lib.hid (own_below HE4.out hB5 (Nat.le_refl _))
            have HS5 := Lib.hid (fun y hy => own_below (HS4.out y hy) hB5 (Nat.le_refl _))
            clear hown5 hB5
            go_wp2_with fail
            have hmzx := HMZ.out
            go_roundg (mzS p x)
            case rel =>
              refine ⟨y, L ++ [⟨A3, c3, E⟩], g5, c5, rfl, HYL.out, HLT2.out, HDC2.out, ?_, ?_, HX5.out, ?_, ?_, HB5.out⟩
              · rw [List.map_append]; exact HST2.out
              · rw [List.length_append]; show L.length + 1 + _ ≤ _; omega
              · have h5 := HL5.out
                rw [List.length_append, List.flatMap_append]
                exact h5
              · intro z hz
                rcases List.mem_append.1 hz with h6 | h6
                · exact HS5.out z h6
                · rw [List.mem_singleton] at h6
                  subst h6
                  exact HE5.out
            case measure => exact hmzx
          · have HV := Lib.hid (HBD.out hr6 hr0)
            have hne : (r != 0) = true := by rw [bne_iff_ne]; exact hr0
            have HR0 := Lib.hid hr0
            clear hr6 hr0
            go_wp2_with fail
            refine HOx.out.mono ?_
            rintro e w3 ⟨⟨A3, c3, rfl, -⟩, hB3⟩
            have HB3 := Lib.hid (HB.out.trans (hB3.mono HB.out.size))
            clear hB3
            go_wp2_with fail
            go_ret3
            exact ⟨alRes_no (by rw [HSA.out, HV.out]) HR0.out, HB3.out⟩
      · have e1 : ((q : Int) == (p : Int)) = false := by rw [beq_eq_false_iff_ne]; omega
        have e1n : (q == p) = false := by rw [beq_eq_false_iff_ne]; exact hqp
        have HV := Lib.hid (contA_end HCO.out (.inl (by rw [hq]; exact hqp)))
        obtain ⟨Bv, dv, rfl⟩ := own_slice hownL
        clear hqp hq hownX hownL hB hxl hcap hz
        go_wp2_with fail
        go_ret3
        exact ⟨⟨L, Bv, dv, _, by rw [HSA.out, HV.out]; rfl, by rw [HSA.out, HV.out], ⟨HOL.out, HLS.out⟩, fun _ => ⟨g, cx, rfl, by rw [HSA.out, HV.out]; exact HXL.out, by rw [HSA.out, HV.out]; exact HOX2.out⟩, fun h => absurd (by rw [HSA.out, HV.out]) h⟩, HB.out⟩
  · have HV := Lib.hid (show sgAll ws = (ckErr ws, [], []) by unfold sgAll; rw [if_neg h0])
    have hne : (ckErr ws != 0) = true := by rw [bne_iff_ne]; exact h0
    have HH0 := Lib.hid h0
    obtain ⟨r, hr2⟩ : ∃ r, ckErr ws = r := ⟨_, rfl⟩
    rw [hr2] at HCK HV hne HH0
    clear hr ho h0 hr2
    go_enter Try.func14, Try.ntmps14
    go_wp2_with fail
    refine HCK.out.mono ?_
    rintro e w1 ⟨rfl, hB1⟩
    go_wp2_with fail
    go_ret3
    exact ⟨alRes_no HV.out HH0.out, hB1⟩
end Go.Proofs.Ytpfbppjjegialaa
