/- Going on: the walks of resume.All and resume.Steps. -/
import Derived.Test.YtpfbppjjegialaaRsN
import Derived.Test.YtpfbppjjegialaaStgA
namespace Go.Proofs.Ytpfbppjjegialaa
open Go.RowKit

def RaRes (ws : List Nat) (H : Nat) (e : Ending) (w' : World) : Prop := ∃ (L : List Ch) (B : Option Addr) (d : Nat) (vx : Value), e = .returned (.tuple #[.slice B L.length d, vx, .int .i64 (rsAll ws).1]) ∧ L.map Ch.l = (rsAll ws).2.1 ∧ OwnC w' H B d L ∧
  ((rsAll ws).1 = 0 → ∃ g c, vx = .slice (some ⟨g, 0, none⟩) ws.length c ∧ (rsAll ws).2.2.length = ws.length ∧ w'.ownsRow H 31 1 (.slice (some ⟨g, 0, none⟩) ws.length c) ws.length ((rsAll ws).2.2.flatMap wordCells)) ∧ ((rsAll ws).1 ≠ 0 → vx = .slice none 0 0)
theorem raRes_no {ws : List Nat} {H : Nat} {r : Int} {w' : World} (h : rsAll ws = (r, [], [])) (h0 : r ≠ 0) : RaRes ws H (.returned (.tuple #[.slice none 0 0, .slice none 0 0, .int .i64 r])) w' := by
  refine ⟨[], none, 0, .slice none 0 0, by rw [h]; rfl, by rw [h]; rfl, ⟨World.ownsRow_nil _ _ _ _, fun x hx => by simp at hx⟩, fun h1 => ?_, fun _ => rfl⟩
  rw [h] at h1
  exact absurd h1 h0

set_option maxRecDepth 100000 in
set_option maxHeartbeats 16000000 in
theorem rAll_c (A : Option Addr) (ws : List Nat) (c n : Nat) (w : World) (hn : ws.length = n) (hm : n ≤ 9223372036854775807) (hc : n ≤ c) (hr : RdW w w.heap.size A ws) (ho : ∀ x ∈ ws, x < 18446744073709551616) :
    Calls Try.prog 13 #[.slice A n c] w fun e w' => RaRes ws w.heap.size e w' ∧ Below w.heap.size w w' := by
  subst hn
  have HR := Lib.hid hr
  have HCK := Lib.hid (ckCheck_c A ws c ws.length w rfl hm hc hr ho)
  by_cases h0 : ckErr ws = 0
  · obtain ⟨-, hs, -, -⟩ := ck_parts h0
    have hb := (sizeOk_iff _).1 hs
    have HSA := Lib.hid (show rsAll ws = rsE ws by unfold rsAll; rw [if_pos h0])
    rw [h0] at HCK
    have HP0 := Lib.hid (fun W (h : RdW W W.heap.size A ws) => sPut_c A none ws [] c 0 ws.length 0 W.heap.size W rfl rfl hs (by omega) (fun e he => absurd he (by simp)) h Rd.nil_ (Nat.le_refl _))
    unfold OwnV at HP0
    simp only [putE] at HP0
    have HPT := Lib.hid (fun A2 B x E c d W (hx : x.length = ws.length) (hE : Small ws.length E) (h : RdW W W.heap.size A2 x) (h2 : RdE W W.heap.size B E) => sPut_c A2 B x E c d ws.length E.length W.heap.size W hx rfl hs hE.le (fun e he => by have := hE.ins e he; omega) h h2 (Nat.le_refl _))
    unfold OwnV at HPT
    have HON := Lib.hid (fun A2 x c2 W (hx : x.length = ws.length) (hc2 : ws.length ≤ c2) (hox : ∀ v ∈ x, v < 18446744073709551616) (h : RdW W W.heap.size A2 x) => rNext_c A2 x c2 ws.length W hx hm hc2 h hox)
    unfold NxRes at HON
    have HST := Lib.hid (contR_start ho)
    have HO := Lib.hid ho
    have hlen : ws.length ≤ 2048 := by omega
    have h16 : 16 < ws.length := by omega
    have hmz : rzM ws ≤ 3000 := by have := rzM_le hs; omega
    obtain ⟨i0, hi, hz0, hz1, hz2⟩ := info_parts infoChs
    have HI := Lib.hid hi
    have HZ0 := Lib.hid hz0
    have HZ1 := Lib.hid hz1
    have HZ2 := Lib.hid hz2
    clear hi hz0 hz1 hz2
    clear h0 hs hb hr ho
    go_enter Try.func13, Try.ntmps13
    go_wp2_with fail
    refine HCK.out.mono ?_
    rintro e w1 ⟨rfl, hB1⟩
    have HB1 := Lib.hid hB1
    have HR1 := Lib.hid (HR.out.up hB1 hB1.size)
    clear hB1
    go_wp2_with fail
    refine (HP0.out _ HR1.out).mono ?_
    rintro e w2 ⟨g2, c2, rfl, hown2, hB2⟩
    have HB2 := Lib.hid (HB1.out.trans (hB2.mono HB1.out.size))
    have HO2 := Lib.hid (own_mono hown2 HB1.out.size)
    clear hown2 hB2
    go_wp2_with fail
    go_loopg [6, 8] (rzM ws + 1) (fun gk vx vo wr => ∃ (x : List Nat) (L : List Ch) (g cx : Nat), vx = .slice (some ⟨g, 0, none⟩) ws.length cx ∧ x.length = ws.length ∧ Hid (∀ v ∈ x, v < 18446744073709551616) ∧ Hid (rzM x < gk) ∧ Hid (contR ws (L.map Ch.l) x) ∧ L.length + gk ≤ rzM ws + 1 ∧ wr.ownsRow w.heap.size 31 1 (.slice (some ⟨g, 0, none⟩) ws.length cx) ws.length (x.flatMap wordCells) ∧ wr.ownsRow w.heap.size 24 1 vo L.length (L.flatMap Ch.cells) ∧ Hid (∀ y ∈ L, wr.ownsRow w.heap.size 50 2 (.slice y.A y.l.length y.c) y.l.length (y.l.flatMap En.cells)) ∧ Below w.heap.size w wr)
    case atStart => exact ⟨ws, [], g2, c2, rfl, rfl, HO.out, Nat.lt_succ_self _, HST.out, by simp, HO2.out, World.ownsRow_nil _ _ _ _, fun y hy => absurd hy (by simp), HB2.out⟩
    case round =>
      obtain ⟨x, L, g, cx, rfl, hxl, HOX, HMZ, HCO, hLg, hownX, hownL, HLS, hB⟩ := hrel
      have hz := hB.size
      have hcap := own_capR hownX
      have HOX2 := Lib.hid hownX
      have HOL := Lib.hid hownL
      have HB := Lib.hid hB
      have HXL := Lib.hid hxl
      have HCP := Lib.hid hcap
      have HHZ := Lib.hid hz
      have HOx := Lib.hid (HON.out (some ⟨g, 0, none⟩) x cx wr hxl hcap HOX.out (Rd.of_own hownX))
      have HST := Lib.hid (fun h hd => contR_step HCO.out HOX.out h hd)
      have HEN := Lib.hid (fun h hd => contR_end HCO.out h hd)
      have HBD := Lib.hid (fun h => contR_bad HCO.out h)
      have HSM := Lib.hid (fun h hd => rs_ok HOX.out h hd)
      obtain ⟨r, hr⟩ : ∃ r, (rsNx x).1 = r := ⟨_, rfl⟩
      obtain ⟨dn, hdn⟩ : ∃ r, (rsNx x).2.1 = r := ⟨_, rfl⟩
      obtain ⟨E, hE⟩ : ∃ E, (rsNx x).2.2 = E := ⟨_, rfl⟩
      rw [hr, hdn, hE] at HOx
      rw [hr] at HEN HBD HST HSM
      rw [hdn] at HEN HST HSM
      rw [hE] at HST HSM
      clear hr hE hdn hownX hownL hB hxl hcap hz
      by_cases hr0 : r = 0
      · subst hr0
        cases dn with
        | true =>
          have HV := Lib.hid (HEN.out rfl rfl)
          go_wp2_with fail
          refine HOx.out.mono ?_
          rintro e w3 ⟨⟨A3, c3, rfl, -⟩, hB3⟩
          have HB3 := Lib.hid (HB.out.trans (hB3.mono HB.out.size))
          have HX3 := Lib.hid (own_below HOX2.out hB3 (Nat.le_refl _))
          have HL3 := Lib.hid (own_below HOL.out hB3 (Nat.le_refl _))
          have HS3 := Lib.hid (fun y hy => own_below (HLS.out y hy) hB3 (Nat.le_refl _))
          clear hB3
          obtain ⟨Bv, dv, rfl⟩ := own_slice HL3.out
          go_wp2_with fail
          go_ret3
          exact ⟨⟨L, Bv, dv, _, by rw [HSA.out, HV.out]; rfl, by rw [HSA.out, HV.out], ⟨HL3.out, HS3.out⟩, fun _ => ⟨g, cx, rfl, by rw [HSA.out, HV.out]; exact HXL.out, by rw [HSA.out, HV.out]; exact HX3.out⟩, fun h => absurd (by rw [HSA.out, HV.out]) h⟩, HB3.out⟩
        | false =>
          have hst := HST.out rfl rfl
          obtain ⟨hsm, hlt, hdc⟩ := HSM.out rfl rfl
          rw [HXL.out] at hsm
          have HPX := Lib.hid (fun A2 B c d W h h2 => HPT.out A2 B x E c d W HXL.out hsm h h2)
          have hyl : (putE x E).length = ws.length := by rw [putE_len]; exact HXL.out
          rw [hyl] at HPX
          obtain ⟨y, hy⟩ : ∃ y, putE x E = y := ⟨_, rfl⟩
          rw [hy] at hst hlt hdc HPX hyl
          have HST2 := Lib.hid hst
          have HLT2 := Lib.hid hlt
          have HDC2 := Lib.hid hdc
          have HYL := Lib.hid hyl
          have hEl : E.length ≤ 32 := hsm.le
          clear hst hsm hlt hdc hyl hy
          go_wp2_with fail
          refine HOx.out.mono ?_
          rintro e w3 ⟨⟨A3, c3, rfl, hown3⟩, hB3⟩
          have HB3 := Lib.hid (HB.out.trans (hB3.mono HB.out.size))
          have HX3 := Lib.hid (own_below HOX2.out hB3 (Nat.le_refl _))
          have HL3 := Lib.hid (own_below HOL.out hB3 (Nat.le_refl _))
          have HS3 := Lib.hid (fun y hy => own_below (HLS.out y hy) hB3 (Nat.le_refl _))
          have HE3 := Lib.hid (own_mono hown3 HHZ.out)
          have hz3 := HB3.out.size
          clear hB3 hown3
          go_wp2_with (at_builtin; refine wpList_append_own _ rfl _ _ 39 rfl w.heap.size 24 i0 _ 1 24 Try.underlying39 HI.out HZ0.out HZ1.out HZ2.out rfl (by decide) _ _ _ rfl (HL3.out.alloc _) ⟨_, 0, none⟩ 1 1 [.slice A3 E.length c3] rfl rfl (news_new _ _ _) (by simp [Value.oneCell']) (by unfold maxLen; omega) (by omega) (by simp; omega) ?_; intro v1 w4 hown1 hg1 _; have hB4 := below_append HB3.out hz3 HL3.out hg1; have HX4 := Lib.hid (own_grown (HX3.out.alloc _) hg1 (own_sep HX3.out HL3.out (by decide))); have HE4 := Lib.hid (own_grown (HE3.out.alloc _) hg1 (own_sep HE3.out HL3.out (by decide))); have HS4 := Lib.hid (fun y hy => own_grown ((HS3.out y hy).alloc _) hg1 (own_sep (HS3.out y hy) HL3.out (by decide))); have HB4 := Lib.hid hB4; have HL4 := Lib.hid hown1; clear hB4 hown1 hg1)
          refine (HPX.out _ _ _ _ _ (Rd.of_own HX4.out) (Rd.of_own HE4.out)).mono ?_
          rintro e w5 ⟨g5, c5, rfl, hown5, hB5⟩
          have HB5 := Lib.hid (HB4.out.trans (hB5.mono HB4.out.size))
          have HX5 := Lib.hid (own_mono hown5 HB4.out.size)
          have HL5 := Lib.hid (own_below HL4.out hB5 (Nat.le_refl _))
          have HE5 := Lib.hid (own_below HE4.out hB5 (Nat.le_refl _))
          have HS5 := Lib.hid (fun y hy => own_below (HS4.out y hy) hB5 (Nat.le_refl _))
          clear hown5 hB5
          go_wp2_with fail
          have hmzx := HMZ.out
          go_roundg (rzM x)
          case rel =>
            refine ⟨y, L ++ [⟨A3, c3, E⟩], g5, c5, rfl, HYL.out, HLT2.out, HDC2.out, ?_, ?_, HX5.out, ?_, ?_, HB5.out⟩
            · rw [List.map_append]; exact HST2.out
            · rw [List.length_append]; show L.length + 1 + _ ≤ _; omega
            · have h5 := HL5.out
              rw [List.length_append, List.flatMap_append]
              exact h5
            · intro z hz
              rcases List.mem_append.1 hz with h6 | h6
              · exact HS5.out z h6
              · rw [List.mem_singleton] at h6
                subst h6
                exact HE5.out
          case measure => exact hmzx
      · have HV := Lib.hid (HBD.out hr0)
        have hne : (r != 0) = true := by rw [bne_iff_ne]; exact hr0
        have HR0 := Lib.hid hr0
        clear hr0
        go_wp2_with fail
        refine HOx.out.mono ?_
        rintro e w3 ⟨⟨A3, c3, rfl, -⟩, hB3⟩
        have HB3 := Lib.hid (HB.out.trans (hB3.mono HB.out.size))
        clear hB3
        go_wp2_with fail
        go_ret3
        exact ⟨raRes_no (by rw [HSA.out, HV.out]) HR0.out, HB3.out⟩
  · have HV := Lib.hid (show rsAll ws = (ckErr ws, [], []) by unfold rsAll; rw [if_neg h0])
    have hne : (ckErr ws != 0) = true := by rw [bne_iff_ne]; exact h0
    have HH0 := Lib.hid h0
    obtain ⟨r, hr2⟩ : ∃ r, ckErr ws = r := ⟨_, rfl⟩
    rw [hr2] at HCK HV hne HH0
    clear hr ho h0 hr2
    go_enter Try.func13, Try.ntmps13
    go_wp2_with fail
    refine HCK.out.mono ?_
    rintro e w1 ⟨rfl, hB1⟩
    go_wp2_with fail
    go_ret3
    exact ⟨raRes_no HV.out HH0.out, hB1⟩

set_option maxRecDepth 100000 in
set_option maxHeartbeats 4000000 in
theorem rSteps_c (A : Option Addr) (ws : List Nat) (c n : Nat) (w : World) (hn : ws.length = n) (hm : n ≤ 9223372036854775807) (hc : n ≤ c) (hr : RdW w w.heap.size A ws) (ho : ∀ x ∈ ws, x < 18446744073709551616) :
    Calls Try.prog 31 #[.slice A n c] w fun e w' => e = .returned (.tuple #[.int .i64 ((rsAll ws).2.1.length : Nat), .int .i64 (rsAll ws).1]) ∧ Below w.heap.size w w' := by
  subst hn
  have HC := Lib.hid (rAll_c A ws c ws.length w rfl hm hc hr ho)
  unfold RaRes at HC
  generalize (rsAll ws).1 = r at HC ⊢
  generalize (rsAll ws).2.1 = outs at HC ⊢
  clear hr ho
  go_enter Try.func31, Try.ntmps31
  go_wp2_with fail
  refine HC.out.mono ?_
  rintro e w1 ⟨⟨L, B, d, vx, rfl, hL, -, -, -⟩, hB1⟩
  have HLL := Lib.hid (show L.length = outs.length by rw [← hL, List.length_map])
  clear hL
  go_wp2_with fail
  go_ret2
  exact ⟨by rw [HLL.out]; rfl, hB1⟩
end Go.Proofs.Ytpfbppjjegialaa
