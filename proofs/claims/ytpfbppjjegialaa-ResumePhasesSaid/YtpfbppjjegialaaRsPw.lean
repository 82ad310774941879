/- The law ResumePhases: going on does the changes of the phase first, and then those of the phases behind it. -/
import Derived.Test.YtpfbppjjegialaaAl33
import Derived.Test.YtpfbppjjegialaaStgR
import Derived.Test.YtpfbppjjegialaaRsPh
namespace Go.Proofs.Ytpfbppjjegialaa
open Go.RowKit

theorem own_formP {w : World} {H n c : Nat} {e : TypeId} {sz : Nat} {A : Option Addr} {xs : List Value} (h : w.ownsRow H e sz (.slice A n c) n xs) : (A = none ∧ n = 0 ∧ c = 0) ∨ ∃ b o, A = some ⟨b, o, none⟩ := by
  rcases h.2 with ⟨h1, h2⟩ | ⟨g, cap, cur, h1, -⟩
  · cases h1; exact .inl ⟨rfl, by omega, rfl⟩
  · cases h1; exact .inr ⟨g, 0, rfl⟩

set_option maxRecDepth 100000 in
set_option maxHeartbeats 16000000 in
theorem resumePhases_walk (w : World) (A : Option Addr) (ws : List Nat) (c : Nat) (hn : ws.length ≤ maxLen) (_hc : ws.length ≤ c) (hr : RdW w w.heap.size A ws) (ho : ∀ x ∈ ws, x < 18446744073709551616) :
    Calls Try.prog 4 #[.slice A ws.length c] w fun e w' => e = .returned (.bool true) ∧ Below w.heap.size w w' := by
  unfold maxLen at hn
  have HR := Lib.hid hr
  have HO := Lib.hid ho
  clear hr ho
  cases hg : greatW ws.length
  · have HG := Lib.hid hg
    have hgn := greatW_no hg
    have hlen : ws.length ≤ 2060 := by omega
    have HAL := Lib.hid (fun W (h : RdW W W.heap.size A ws) => rAll_c A ws c ws.length W rfl hn _hc h HO.out)
    have HSG := Lib.hid (fun W (h : RdW W W.heap.size A ws) => sgAll_c A ws c ws.length W rfl hn _hc h HO.out)
    obtain ⟨hp1, hp2⟩ := phases_plain HO.out
    obtain ⟨f, hf⟩ : ∃ f, (sgAll ws).1 = f := ⟨_, rfl⟩
    obtain ⟨err, herr⟩ : ∃ err, (rsAll ws).1 = err := ⟨_, rfl⟩
    by_cases f0 : f = 0
    · subst f0
      by_cases e0 : err = 0
      · subst e0
        obtain ⟨outs2, hall, hax⟩ := hp2 hf herr
        obtain ⟨ho2, hl2⟩ := sg_keeps HO.out hf
        obtain ⟨outs1, x, hsg⟩ : ∃ o x, sgAll ws = (0, o, x) := ⟨(sgAll ws).2.1, (sgAll ws).2.2, by rw [← hf]⟩
        obtain ⟨y, hy⟩ : ∃ y, (rsAll ws).2.2 = y := ⟨_, rfl⟩
        rw [hy, hsg] at hall hax
        rw [hsg] at ho2 hl2
        dsimp only at hall hax ho2 hl2
        unfold RaRes at HAL
        unfold AlRes at HSG
        rw [hall] at HAL
        rw [hsg] at HSG
        dsimp only at HAL HSG
        obtain ⟨hck, hre, hfew, hsty, hon, hsm⟩ := rsAll_on HO.out hall
        have hsz := (ck_parts hck).2.1
        have hbd := fr_bd ws hsz
        have HAX := Lib.hid (fun A2 c2 W (hc2 : ws.length ≤ c2) (h : RdW W W.heap.size A2 x) => rAll_c A2 x c2 ws.length W hl2 hn hc2 h ho2)
        unfold RaRes at HAX
        rw [hax, hl2] at HAX
        dsimp only at HAX
        have hol : (outs1 ++ outs2).length ≤ 3000 := by omega
        have HSM : Hid (∀ l ∈ outs1 ++ outs2, l.length ≤ 100000) := Lib.hid fun l hl => by
          obtain ⟨i, hi, e⟩ := List.getElem_of_mem hl
          have := (hsm i hi).le
          rw [e] at this
          omega
        clear hp1 hp2 hf herr hall hax hy hsg hck hre hfew hsty hon hsm hsz hgn hg ho2 hl2
        go_enter Try.func4, Try.ntmps4
        go_wp2_with fail
        refine (alive33_c w).mono ?_
        rintro e w1 ⟨rfl, hB1⟩
        go_wp2_with fail
        refine (great25_c A ws.length c _ hn).mono ?_
        rintro e w1' ⟨rfl, rfl⟩
        rw [HG.out]
        go_wp2_with fail
        refine (HAL.out _ (HR.out.up hB1 hB1.size)).mono ?_
        rintro e w3 ⟨⟨L, B3, d3, vx, rfl, hL, ⟨hLo, hLe⟩, hx, -⟩, hB3⟩
        obtain ⟨g3, c3, rfl, hyn, hx3⟩ := hx trivial
        have HB3 := Lib.hid (hB1.trans (hB3.mono hB1.size))
        have HX3 := Lib.hid (Rd.of_own hx3)
        have HLO := Lib.hid (Rd.of_own hLo)
        have HLE := Lib.hid (fun x hx => Rd.of_own (hLe x hx))
        have HLL := Lib.hid hL
        have hcap := own_capR hLo
        have HFO := Lib.hid (own_formP hLo)
        clear hx hx3 hLo hLe hL hB1 hB3
        go_wp2_with fail
        refine (HSG.out _ (HR.out.up HB3.out HB3.out.size)).mono ?_
        rintro e w4 ⟨⟨L4, B4, d4, vx4, rfl, hL4, ⟨hLo4, hLe4⟩, hx4, -⟩, hB4⟩
        obtain ⟨g4, c4, rfl, -, hx4⟩ := hx4 trivial
        have HB4 := Lib.hid (HB3.out.trans (hB4.mono HB3.out.size))
        have HX4 := Lib.hid (Rd.of_own hx4)
        have hcx4 := own_capR hx4
        have HMO4 := Lib.hid (Rd.of_own hLo4)
        have HME4 := Lib.hid (fun x hx => Rd.of_own (hLe4 x hx))
        have HML4 := Lib.hid hL4
        have HLO4 := Lib.hid (HLO.out.up hB4 hB4.size)
        have HLE4 := Lib.hid (fun x hx => Rd.up (HLE.out x hx) hB4 hB4.size)
        have HY4 := Lib.hid (HX3.out.up hB4 hB4.size)
        have h1 : L4.length = outs1.length := by rw [← hL4, List.length_map]
        have h2 : L.length = outs1.length + outs2.length := by have := congrArg List.length HLL.out; rw [List.length_map, List.length_append] at this; exact this
        have hq : L4.length ≤ L.length := by omega
        rw [List.length_append] at hol
        have hq3 : L4.length ≤ 3000 := by omega
        have hmt : (L.take L4.length).map Ch.l = L4.map Ch.l := by rw [List.map_take, HLL.out, HML4.out, h1, List.take_left]
        have hmd : (L.drop L4.length).map Ch.l = outs2 := by rw [List.map_drop, HLL.out, h1, List.drop_left]
        have HT : Hid (∀ Bc Ac cc W, RdC W W.heap.size Bc (L.take L4.length) → RdC W W.heap.size Ac L4 → (∀ x ∈ L, RdE W W.heap.size x.A x.l) → (∀ x ∈ L4, RdE W W.heap.size x.A x.l) → Calls Try.prog 15 #[.slice Bc L4.length d3, .slice Ac L4.length cc] W fun e w' => e = .returned (.bool true) ∧ Below W.heap.size W w') :=
          Lib.hid fun Bc Ac cc W r1 r2 r3 r4 => sameChs_c Bc Ac (L.take L4.length) L4 d3 cc L4.length L4.length W (by rw [List.length_take]; omega) rfl hmt (by omega) r1 r2 (fun x hx => ⟨r3 x (List.mem_of_mem_take hx), HSM.out _ (by rw [← HLL.out]; exact List.mem_map_of_mem (List.mem_of_mem_take hx))⟩) r4
        have HMD := Lib.hid hmd
        have HO2 := Lib.hid (show outs2.length = L.length - L4.length ∧ outs2.length ≤ 3000 by omega)
        obtain ⟨q, hqe⟩ : ∃ q, L4.length = q := ⟨_, rfl⟩
        rw [hqe] at HT HMD HO2 hq hq3 ⊢
        have ck1 : (q : Int) ≤ (L.length : Int) := by omega
        have ck2 : (q : Int) ≤ (d3 : Int) := by omega
        have dn1 : decide ((L.length : Int) < (q : Int)) = false := by rw [decide_eq_false_iff_not]; omega
        have dn2 : decide (L.length < q) = false := by rw [decide_eq_false_iff_not]; omega
        clear hx4 hLo4 hLe4 hL4 hB4 hmt hmd h1 h2 hol hlen hqe
        go_wp2_with fail
        refine (HT.out _ _ _ w4 (by
          have h9 := HLO4.out.take_ q
          rw [← flat1_take Ch.cells (fun _ => rfl)] at h9
          exact h9) (show RdC _ _ _ _ from HMO4.out) HLE4.out HME4.out).mono ?_
        rintro e w5 ⟨rfl, hB5⟩
        have HB5 := Lib.hid (HB4.out.trans (hB5.mono HB4.out.size))
        have HX5 := Lib.hid (HX4.out.up hB5 hB5.size)
        have HY5 := Lib.hid (HY4.out.up hB5 hB5.size)
        have HLO5 := Lib.hid (HLO4.out.up hB5 hB5.size)
        have HLE5 := Lib.hid (fun x hx => Rd.up (HLE4.out x hx) hB5 hB5.size)
        clear hB5
        go_wp2_with fail
        refine (HAX.out _ _ _ hcx4 HX5.out).mono ?_
        rintro e w6 ⟨⟨L2, B6, d6, vx6, rfl, hL6, ⟨hLo6, hLe6⟩, hx6, -⟩, hB6⟩
        obtain ⟨g6, c6, rfl, -, hx6⟩ := hx6 trivial
        have HB6 := Lib.hid (HB5.out.trans (hB6.mono HB5.out.size))
        have HLO6 := Lib.hid (HLO5.out.up hB6 hB6.size)
        have HLE6 := Lib.hid (fun x hx => Rd.up (HLE5.out x hx) hB6 hB6.size)
        have HY6 := Lib.hid (HY5.out.up hB6 hB6.size)
        have HZ6 := Lib.hid (Rd.of_own hx6)
        have HMO6 := Lib.hid (Rd.of_own hLo6)
        have HME6 := Lib.hid (fun x hx => Rd.of_own (hLe6 x hx))
        have hl2 : L2.length = outs2.length := by rw [← hL6, List.length_map]
        have hmap : L2.map Ch.l = (L.drop q).map Ch.l := by rw [HMD.out, hL6]
        have HSM2 : Hid (∀ x ∈ L2, x.l.length ≤ 100000) := Lib.hid fun x hx => HSM.out _ (List.mem_append_right _ (by rw [← hL6]; exact List.mem_map_of_mem hx))
        have hyl : y.length ≤ 1000000 := by omega
        have HSW := Lib.hid (fun A1 B1 c1 d1 W (h : RdW W W.heap.size A1 y) (h2 : RdW W W.heap.size B1 y) => sameWords_c A1 B1 y y ws.length ws.length c1 d1 W.heap.size W hyn hyn (by omega) h h2 (Nat.le_refl _))
        rw [show decide (y = y) = true by simp] at HSW
        obtain ⟨o21, o22⟩ := HO2.out
        have hl2q : L2.length = L.length - q := by omega
        have hl2b : L2.length ≤ 3000 := by omega
        clear o21 o22
        clear hLo6 hLe6 hx6 hB6 hL6 hyl
        by_cases hqd : q = d3
        · have hL0 : L.length = q := by omega
          have hdn : L.drop q = [] := List.drop_eq_nil_of_le (by omega)
          have h20 : L2.length = 0 := by omega
          rw [hdn] at hmap
          have HSC := Lib.hid (fun (Bc : Option Addr) cc W h1 h3 => sameChs_c B6 Bc L2 [] d6 cc L2.length 0 W rfl rfl hmap (by omega) h1 (fun hne => absurd rfl hne) h3 (fun x hx => absurd hx (by simp)))
          have HL0 := Lib.hid hL0
          subst hqd
          clear hmap hL0 hdn h20 hcap ck1 ck2 dn1 dn2 hl2 hl2q
          rw [HL0.out]
          go_wp2_with fail
          refine (HSC.out _ _ w6 (show RdC _ _ _ _ from HMO6.out) (fun x hx => ⟨HME6.out x hx, HSM2.out x hx⟩)).mono ?_
          rintro e w7 ⟨rfl, hB7⟩
          have HB7 := Lib.hid (HB6.out.trans (hB7.mono HB6.out.size))
          have HY7 := Lib.hid (HY6.out.up hB7 hB7.size)
          have HZ7 := Lib.hid (HZ6.out.up hB7 hB7.size)
          clear hB7
          go_wp2_with fail
          refine (HSW.out _ _ _ _ _ HZ7.out HY7.out).mono ?_
          rintro e w8 ⟨rfl, hB8⟩
          have HB8 := Lib.hid (HB7.out.trans (hB8.mono HB7.out.size))
          clear hB8
          go_wp2_with fail
          go_ret
          exact ⟨rfl, HB8.out⟩
        · obtain ⟨bL, oL, hBe⟩ : ∃ b o, B3 = some ⟨b, o, none⟩ := by
            rcases HFO.out with ⟨-, h1, h2⟩ | h1
            · omega
            · exact h1
          subst hBe
          have HSC := Lib.hid (fun (Bc : Option Addr) W h1 h2 h3 h4 => sameChs_c B6 Bc L2 (L.drop q) d6 (d3 - q) L2.length (L.length - q) W rfl (by rw [List.length_drop]) hmap (by omega) h1 h2 h3 h4)
          have ck3 : q ≠ d3 := hqd
          have ck4 : ¬ (q : Int) = (d3 : Int) := by omega
          clear hmap hqd hl2 hl2q
          go_wp2_with fail
          refine (HSC.out (some ⟨bL, oL + q, none⟩) w6 (show RdC _ _ _ _ from HMO6.out) ?_ (fun x hx => ⟨HME6.out x hx, HSM2.out x hx⟩) (fun x hx => HLE6.out x (List.mem_of_mem_drop hx))).mono ?_
          · have h9 := Rd.drop_ HLO6.out q
            rw [← flat1_drop Ch.cells (fun _ => rfl)] at h9
            have e9 : Option.map (fun x : Addr => x.add q) (some ⟨bL, oL, none⟩) = some ⟨bL, oL + q, none⟩ := by
              simp only [Option.map_some, Addr.add]
              by_cases h0 : q = 0
              · rw [if_pos h0, h0]; rfl
              · rw [if_neg h0]
            rw [e9] at h9
            exact h9
          rintro e w7 ⟨rfl, hB7⟩
          have HB7 := Lib.hid (HB6.out.trans (hB7.mono HB6.out.size))
          have HY7 := Lib.hid (HY6.out.up hB7 hB7.size)
          have HZ7 := Lib.hid (HZ6.out.up hB7 hB7.size)
          clear hB7
          go_wp2_with fail
          refine (HSW.out _ _ _ _ _ HZ7.out HY7.out).mono ?_
          rintro e w8 ⟨rfl, hB8⟩
          have HB8 := Lib.hid (HB7.out.trans (hB8.mono HB7.out.size))
          clear hB8
          go_wp2_with fail
          go_ret
          exact ⟨rfl, HB8.out⟩
      · unfold RaRes at HAL
        unfold AlRes at HSG
        rw [herr] at HAL
        rw [hf] at HSG
        have dn0 : decide (err = 0) = false := by rw [decide_eq_false_iff_not]; exact e0
        have hne : (err != 0) = true := by rw [bne_iff_ne]; exact e0
        clear hp1 hp2 hf herr hgn hg
        go_enter Try.func4, Try.ntmps4
        go_wp2_with fail
        refine (alive33_c w).mono ?_
        rintro e w1 ⟨rfl, hB1⟩
        go_wp2_with fail
        refine (great25_c A ws.length c _ hn).mono ?_
        rintro e w1' ⟨rfl, rfl⟩
        rw [HG.out]
        go_wp2_with fail
        refine (HAL.out _ (HR.out.up hB1 hB1.size)).mono ?_
        rintro e w3 ⟨⟨L, B3, d3, vx, rfl, -, -, -, hvx⟩, hB3⟩
        have HB3 := Lib.hid (hB1.trans (hB3.mono hB1.size))
        rw [hvx e0]
        clear hB1 hB3 hvx e0
        go_wp2_with fail
        refine (HSG.out _ (HR.out.up HB3.out HB3.out.size)).mono ?_
        rintro e w4 ⟨⟨L4, B4, d4, vx4, rfl, -, -, hx4, -⟩, hB4⟩
        obtain ⟨g4, c4, rfl, -, -⟩ := hx4 trivial
        have HB4 := Lib.hid (HB3.out.trans (hB4.mono HB3.out.size))
        clear hx4 hB4
        go_wp2_with fail
        go_ret
        exact ⟨rfl, HB4.out⟩
    · have he := hp1 (by rw [hf]; exact f0)
      rw [hf, herr] at he
      subst he
      unfold RaRes at HAL
      unfold AlRes at HSG
      rw [herr] at HAL
      rw [hf] at HSG
      have dn0 : decide (err = 0) = false := by rw [decide_eq_false_iff_not]; exact f0
      have hne : (err != 0) = true := by rw [bne_iff_ne]; exact f0
      clear hp1 hp2 hf herr hgn hg
      go_enter Try.func4, Try.ntmps4
      go_wp2_with fail
      refine (alive33_c w).mono ?_
      rintro e w1 ⟨rfl, hB1⟩
      go_wp2_with fail
      refine (great25_c A ws.length c _ hn).mono ?_
      rintro e w1' ⟨rfl, rfl⟩
      rw [HG.out]
      go_wp2_with fail
      refine (HAL.out _ (HR.out.up hB1 hB1.size)).mono ?_
      rintro e w3 ⟨⟨L, B3, d3, vx, rfl, -, -, -, hvx⟩, hB3⟩
      have HB3 := Lib.hid (hB1.trans (hB3.mono hB1.size))
      rw [hvx f0]
      clear hB1 hB3 hvx
      go_wp2_with fail
      refine (HSG.out _ (HR.out.up HB3.out HB3.out.size)).mono ?_
      rintro e w4 ⟨⟨L4, B4, d4, vx4, rfl, -, -, -, hx4⟩, hB4⟩
      rw [hx4 f0]
      have HB4 := Lib.hid (HB3.out.trans (hB4.mono HB3.out.size))
      clear hx4 hB4 f0
      go_wp2_with fail
      go_ret
      exact ⟨rfl, HB4.out⟩
  · have HG := Lib.hid hg
    clear hg
    go_enter Try.func4, Try.ntmps4
    go_wp2_with fail
    refine (alive33_c w).mono ?_
    rintro e w1 ⟨rfl, hB1⟩
    go_wp2_with fail
    refine (great25_c A ws.length c _ hn).mono ?_
    rintro e w1' ⟨rfl, rfl⟩
    rw [HG.out]
    go_wp2_with fail
    go_ret
    exact ⟨rfl, hB1⟩
end Go.Proofs.Ytpfbppjjegialaa
