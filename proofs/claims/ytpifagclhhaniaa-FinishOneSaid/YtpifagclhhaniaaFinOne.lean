/- The law FinishOne. -/
import Derived.Test.YtpifagclhhaniaaAl32
import Derived.Test.YtpifagclhhaniaaKHeap
namespace Go.Proofs.Ytpifagclhhaniaa
open Go.RowKit

theorem endOf'_append (a b : List Bk) : ∀ s, endOf' (a ++ b) s = endOf' b (endOf' a s) := by
  induction a with
  | nil => intro s; rfl
  | cons x a ih => intro s; exact ih _
theorem endOf'_ge {l : List Bk} (h : ∀ b ∈ l, 0 ≤ b.size) : ∀ s, s ≤ endOf' l s := by
  induction l with
  | nil => intro s; exact Int.le_refl _
  | cons x l ih =>
    intro s
    have h1 := ih (fun b hb => h b (by simp [hb])) (s + x.size)
    have h2 := h x (by simp)
    show s ≤ endOf' l (s + x.size)
    omega
theorem frN_of {ws : List Nat} (h : enErr ws = 0) : frN ws = ws.length - enTo ws := by simp [frN, h]
/-- What the law's first loop meets. -/
theorem fin_loop {ws : List Nat} (h : enErr ws = 0) {os : List Bk} (o1 : ∀ b ∈ os, b.kind = 1 ∧ b.mark = false ∧ 2 ≤ b.size ∧ b.size ≤ 10) (o2 : endOf' os 128 = (enTo ws : Int)) :
    ∃ E : Nat → Int, E 0 = 128 ∧ E (os ++ finB ws).length = (enTo ws : Int) ∧ (∀ k, 128 ≤ E k ∧ E k ≤ 2048) ∧
    ∀ k (hk : k < (os ++ finB ws).length), ((os ++ finB ws)[k].kind = 1 ∧ 2 ≤ (os ++ finB ws)[k].size ∧ (os ++ finB ws)[k].size ≤ 10 ∧ E (k + 1) = E k + (os ++ finB ws)[k].size ∧ (k + 1 ≠ (os ++ finB ws).length ∨ frN ws = 0)) ∨
      ((os ++ finB ws)[k].kind = 2 ∧ (os ++ finB ws)[k].size = (frN ws : Int) ∧ 0 < frN ws ∧ k + 1 = (os ++ finB ws).length ∧ E (k + 1) = E k) := by
  obtain ⟨hs, -, -, -, h5, h6, -, h8⟩ := en_facts h
  have hi := (inHp_iff _).1 h5
  rw [← h8] at hi h6
  have hfr := frN_of h
  have hge : ∀ k, (128 : Int) ≤ endOf' (os.take k) 128 := fun k => endOf'_ge (fun b hb => by have := (o1 b (List.mem_of_mem_take hb)).2.2.1; omega) 128
  have hle : ∀ k, endOf' (os.take k) 128 ≤ (enTo ws : Int) := fun k => by
    rw [← o2]
    conv => rhs; rw [← List.take_append_drop k os, endOf'_append]
    exact endOf'_ge (fun b hb => by have := (o1 b (List.mem_of_mem_drop hb)).2.2.1; omega) _
  have hlen : (os ++ finB ws).length = os.length + (finB ws).length := List.length_append
  refine ⟨fun k => endOf' (os.take k) 128, rfl, ?_, fun k => ⟨hge k, by have h1 := hle k; have h2 := hi.2.1; show endOf' (os.take k) 128 ≤ 2048; omega⟩, fun k hk => ?_⟩
  · show endOf' (os.take _) 128 = _
    rw [List.take_of_length_le (by omega), o2]
  · by_cases hko : k < os.length
    · left
      rw [List.getElem_append_left hko]
      obtain ⟨g1, -, g3, g4⟩ := o1 _ (List.getElem_mem hko)
      refine ⟨g1, g3, g4, ?_, ?_⟩
      · show endOf' (os.take (k + 1)) 128 = _
        rw [List.take_succ_eq_append_getElem hko, endOf'_append]; rfl
      · by_cases ht : enTo ws = ws.length
        · right; omega
        · left
          have : (finB ws).length = 1 := by simp [finB, ht]
          omega
    · right
      have ht : enTo ws ≠ ws.length := fun ht => by
        have : (finB ws).length = 0 := by simp [finB, ht]
        omega
      have hfl : finB ws = [{ freeBk (ws.length - enTo ws) with at_ := (enTo ws : Int) }] := by simp [finB, ht]
      have hl1 : (finB ws).length = 1 := by rw [hfl]; rfl
      have hk2 : k = os.length := by omega
      subst hk2
      have e : (os ++ finB ws)[os.length]'hk = { freeBk (ws.length - enTo ws) with at_ := (enTo ws : Int) } := by
        rw [List.getElem_append_right (Nat.le_refl _)]
        simp [hfl]
      rw [e]
      refine ⟨rfl, by rw [hfr]; rfl, by omega, by omega, ?_⟩
      show endOf' (os.take (os.length + 1)) 128 = endOf' (os.take os.length) 128
      rw [List.take_of_length_le (by omega), List.take_of_length_le (by omega)]

set_option maxRecDepth 100000 in
set_option maxHeartbeats 16000000 in
theorem finishOne_walk (w : World) (A : Option Addr) (ws : List Nat) (c : Nat) (hn : ws.length ≤ maxLen) (_hc : ws.length ≤ c) (hr : RdW w w.heap.size A ws) (ho : ∀ x ∈ ws, x < 18446744073709551616) :
    Calls Try.prog 12 #[.slice A ws.length c] w fun e w' => e = .returned (.bool true) ∧ Below w.heap.size w w' := by
  unfold maxLen at hn
  have HR := Lib.hid hr
  have HO := Lib.hid ho
  clear hr ho
  cases hg : greatW ws.length
  · have HG := Lib.hid hg
    have HCH := Lib.hid (fun W (h : RdW W W.heap.size A ws) => fChange_c A ws c ws.length W rfl hn _hc h HO.out)
    unfold ChRes at HCH
    have HFR := Lib.hid (fun W (h : RdW W W.heap.size A ws) => fFree_c A ws c ws.length W rfl hn _hc h HO.out)
    by_cases h0 : enErr ws = 0
    · obtain ⟨hs, hln, hlw, h16, h5, h6, -, h8⟩ := en_facts h0
      have hbd := fr_bd ws hs
      have hi := (inHp_iff _).1 h5
      have HLN := Lib.hid (fun W (h : RdW W W.heap.size A ws) => line_c A ws c ws.length W rfl hn _hc h HO.out)
      have hlv : lnV ws = phV (wd ws 16) (wd ws 17) (wd ws 18) := by simp [lnV, hln]
      rw [hln, hlv, ← h8] at HLN
      unfold phV at HLN
      obtain ⟨os, o1, o2, o3, p1, p2, p3, p4, p5, p6, p7⟩ := fin_plain h0
      obtain ⟨E, E0, Et, Eb, EL⟩ := fin_loop h0 o1 o2
      have hwx := put_ch h0
      have hfn := frN_of h0
      have hel : (chOut ws).length ≤ 5 := by simp only [chOut, h0, if_true]; split <;> simp [phE]
      have hxlt : ∀ x ∈ putE ws (chOut ws), x < 18446744073709551616 := putE_lt _ _ HO.out (fun e he => by
        simp only [chOut, h0, if_true] at he
        rcases List.mem_append.1 he with he | he
        · simp only [phE, List.mem_cons, List.not_mem_nil, or_false] at he
          rcases he with rfl | rfl | rfl <;> decide
        · split at he
          · cases he
          · rename_i hne
            simp only [List.mem_cons, List.not_mem_nil, or_false] at he
            rcases he with rfl | rfl
            · exact headW_lt (free_hd h0 hne)
            · show (0 : Nat) < 18446744073709551616; omega)
      have HPT := Lib.hid (fun B d W (h : RdW W W.heap.size A ws) (h2 : RdE W W.heap.size B (chOut ws)) => put25_c A B ws (chOut ws) c d ws.length (chOut ws).length W.heap.size W rfl rfl (by omega) (by omega) (by omega) h h2 (Nat.le_refl _))
      unfold OwnW at HPT
      have HLX := Lib.hid (fun A2 d W (hd : ws.length ≤ d) (h : RdW W W.heap.size A2 (putE ws (chOut ws))) => line_c A2 (putE ws (chOut ws)) d ws.length W p7 hn hd h hxlt)
      rw [p4, p5] at HLX
      unfold phV at HLX
      have HFX := Lib.hid (fun A2 d W (h : RdW W W.heap.size A2 (putE ws (chOut ws))) => from_c A2 (putE ws (chOut ws)) d ws.length 128 W p7 hn h hxlt)
      unfold FrRes at HFX
      have hfx := frErr_some (a := 128) (ws := putE ws (chOut ws)) (by rw [p7]; exact hs) (by rw [p7]; exact frErr_128 hs) p3
      rw [hfx.1, hfx.2] at HFX
      have HMX := Lib.hid (fun A2 d W (h : RdW W W.heap.size A2 (putE ws (chOut ws))) => mMarked_c A2 (putE ws (chOut ws)) d ws.length W p7 hn h hxlt)
      unfold MdRes at HMX
      rw [p1, p2, p6] at HMX
      have HKX := Lib.hid (fun A2 d W (h : RdW W W.heap.size A2 (putE ws (chOut ws))) => mCheck_c A2 (putE ws (chOut ws)) d ws.length W p7 hn h hxlt)
      rw [p1] at HKX
      rw [p7] at HPT
      rw [h0] at HCH HFR
      rw [← h8] at h6 hi
      simp only [Int.cast_ofNat_Int, List.length_nil] at HLX HMX
      obtain ⟨N, hN⟩ : ∃ N, frN ws = N := ⟨_, rfl⟩
      obtain ⟨t, ht⟩ : ∃ t, enTo ws = t := ⟨_, rfl⟩
      rw [hN] at HFR hfn EL
      rw [ht] at hfn hwx Et h6 hi HLN
      have HXW : Hid (∀ k, ¬ (k = 16 ∨ k = 17 ∨ k = 18) → (k < t ∨ t + 1 < k) → wd (putE ws (chOut ws)) k = wd ws k) := Lib.hid fun k h1 h2 => by
        rw [hwx, if_neg h1, if_neg (fun h => by omega), if_neg (fun h => by omega)]
      have HEL := Lib.hid EL
      have HEB := Lib.hid Eb
      have HET := Lib.hid Et
      have HE0 := Lib.hid E0
      have hlx : (os ++ finB ws).length ≤ 4096 := by
        rw [List.length_append]
        have : (finB ws).length ≤ 1 := by unfold finB; split <;> simp
        omega
      clear hg h0 hs hln hlw h16 h5 h8 hlv o1 o2 o3 p1 p2 p3 p4 p5 p6 E0 Et Eb EL hwx hfx hxlt hN ht
      generalize os ++ finB ws = L at HFX HEL HET hlx
      generalize chOut ws = CH at HCH HPT HLX HFX HMX HKX hel HXW p7
      generalize putE ws CH = x at HPT HLX HFX HMX HKX HXW p7
      obtain ⟨y1, hy1⟩ : ∃ y, wd ws 16 = y := ⟨_, rfl⟩
      obtain ⟨y2, hy2⟩ : ∃ y, wd ws 17 = y := ⟨_, rfl⟩
      rw [hy1, hy2] at HLN
      clear hy1 hy2
      have hwN : IntKind.i64.wrap ((ws.length : Int) - (N : Int)) = (t : Int) := by rw [IntWalk.i64_in _ (by omega)]; omega
      have htt : ((t : Int) != (t : Int)) = false := by simp
      clear hfn
      go_enter Try.func12, Try.ntmps12
      go_wp2_with fail
      refine (alive32_c w).mono ?_
      rintro e w1 ⟨rfl, hB1⟩
      have HB1 := Lib.hid hB1
      have HR1 := Lib.hid (HR.out.up hB1 hB1.size)
      clear hB1
      go_wp2_with fail
      refine (great25_c A ws.length c _ hn).mono ?_
      rintro e w1' ⟨rfl, rfl⟩
      rw [HG.out]
      go_wp2_with fail
      refine (HCH.out _ HR1.out).mono ?_
      rintro e w2 ⟨⟨A2, c2, rfl, hrd2, -⟩, hB2⟩
      have HB2 := Lib.hid (HB1.out.trans (hB2.mono HB1.out.size))
      have HR2 := Lib.hid (HR.out.up HB2.out HB2.out.size)
      have HE2 := Lib.hid hrd2
      clear hB2 hrd2
      go_wp2_with fail
      refine (HFR.out _ HR2.out).mono ?_
      rintro e w3 ⟨rfl, hB3⟩
      have HB3 := Lib.hid (HB2.out.trans (hB3.mono HB2.out.size))
      have HR3 := Lib.hid (HR.out.up HB3.out HB3.out.size)
      have HE3 := Lib.hid (HE2.out.up hB3 hB3.size)
      clear hB3
      go_wp2_with fail
      refine (HLN.out _ HR3.out).mono ?_
      rintro e w4 ⟨rfl, hB4⟩
      have hb4 := HB3.out.trans (hB4.mono HB3.out.size)
      have HB4 := Lib.hid (hb4.alloc hb4.size (.cells #[.int .i64 (y1 : Int), .int .i64 (y2 : Int), .int .i64 (t : Int)] 61))
      have BX4 := Lib.hid (Bx.new w4 61 #[.int .i64 (y1 : Int), .int .i64 (y2 : Int), .int .i64 (t : Int)])
      have HE4 := Lib.hid (Rd.more (Rd.alloc (HE3.out.up hB4 hB4.size) (Nat.le_refl _) (.cells #[.int .i64 (y1 : Int), .int .i64 (y2 : Int), .int .i64 (t : Int)] 61)) (show w4.heap.size ≤ (w4.alloc (.cells #[.int .i64 (y1 : Int), .int .i64 (y2 : Int), .int .i64 (t : Int)] 61)).heap.size by simp))
      have HR4 := Lib.hid (HR.out.up HB4.out HB4.out.size)
      clear hB4 hb4
      go_upto_region 9 with (fail)
      obtain ⟨W4, hW4⟩ : ∃ W, w4.alloc (.cells #[.int .i64 (y1 : Int), .int .i64 (y2 : Int), .int .i64 (t : Int)] 61) = W := ⟨_, rfl⟩
      rw [hW4] at HB4 BX4 HE4 HR4 ⊢
      clear hW4
      go_wp2_with fail
      refine (HPT.out _ _ _ HR4.out HE4.out).mono ?_
      rintro e w5 ⟨g, c5, rfl, hown5, hB5⟩
      have hc5 := own_cap hown5
      have HB5 := Lib.hid (HB4.out.trans (hB5.mono HB4.out.size))
      have BX5 := Lib.hid (BX4.out.up hB5 BX4.out.lt)
      have HX5 := Lib.hid (Rd.of_own hown5)
      clear hB5 hown5
      go_wp2_with fail
      refine (HLX.out _ _ _ hc5 HX5.out).mono ?_
      rintro e w6 ⟨rfl, hB6⟩
      have hb6 := HB5.out.trans (hB6.mono HB5.out.size)
      have HB6 := Lib.hid (hb6.alloc hb6.size (.cells #[.int .i64 0, .int .i64 0, .int .i64 0] 61))
      have BX6 := Lib.hid ((BX5.out.up hB6 BX5.out.lt).alloc (.cells #[.int .i64 0, .int .i64 0, .int .i64 0] 61))
      have BY6 := Lib.hid (Bx.new w6 61 #[.int .i64 0, .int .i64 0, .int .i64 0])
      have HX6 := Lib.hid (Rd.more (Rd.alloc (HX5.out.up hB6 hB6.size) (Nat.le_refl _) (.cells #[.int .i64 0, .int .i64 0, .int .i64 0] 61)) (show w6.heap.size ≤ (w6.alloc (.cells #[.int .i64 0, .int .i64 0, .int .i64 0] 61)).heap.size by simp))
      clear hB6 hb6
      go_upto_region 11 with (fail)
      obtain ⟨W6, hW6⟩ : ∃ W, w6.alloc (.cells #[.int .i64 0, .int .i64 0, .int .i64 0] 61) = W := ⟨_, rfl⟩
      rw [hW6] at HB6 BX6 BY6 HX6 ⊢
      clear hW6
      go_wp2_with fail
      refine (HFX.out _ _ _ HX6.out).mono ?_
      rintro e w7 ⟨⟨A7, c7, rfl, hrd7, -⟩, hB7⟩
      have HB7 := Lib.hid (HB6.out.trans (hB7.mono HB6.out.size))
      have BX7 := Lib.hid (BX6.out.up hB7 BX6.out.lt)
      have BY7 := Lib.hid (BY6.out.up hB7 BY6.out.lt)
      have HX7 := Lib.hid (HX6.out.up hB7 hB7.size)
      have HL7 := Lib.hid hrd7
      clear hB7 hrd7
      go_wp2_with fail
      refine (HMX.out _ _ _ HX7.out).mono ?_
      rintro e w8 ⟨⟨A8, c8, rfl, -, -⟩, hB8⟩
      have HB8 := Lib.hid (HB7.out.trans (hB8.mono HB7.out.size))
      have BX8 := Lib.hid (BX7.out.up hB8 BX7.out.lt)
      have BY8 := Lib.hid (BY7.out.up hB8 BY7.out.lt)
      have HX8 := Lib.hid (HX7.out.up hB8 hB8.size)
      have HL8 := Lib.hid (HL7.out.up hB8 hB8.size)
      obtain ⟨p0, p1, p2, -⟩ := BX8.out.c3
      obtain ⟨q0, q1, q2, -⟩ := BY8.out.c3
      clear hB8
      go_wp2_with fail
      refine (HKX.out _ _ _ HX8.out).mono ?_
      rintro e w9 ⟨rfl, hB9⟩
      have HB9 := Lib.hid (HB8.out.trans (hB9.mono HB8.out.size))
      have BX9 := Lib.hid (BX8.out.up hB9 BX8.out.lt)
      have HX9 := Lib.hid (HX8.out.up hB9 hB9.size)
      have HL9 := Lib.hid (HL8.out.up hB9 hB9.size)
      have HR9 := Lib.hid (HR.out.up HB9.out HB9.out.size)
      clear hB9 p0 p1 p2 q0 q1 q2
      go_wp2_with fail
      go_loopw [17, 18] (fun en i wr => ∃ k : Nat, k ≤ L.length ∧ i = .int .i64 k ∧ en = .int .i64 (E k) ∧ Below w9.heap.size w9 wr) (fun _ i _ => L.length - (intOf i).toNat)
      case atStart => exact ⟨0, Nat.zero_le _, rfl, by rw [HE0.out], Below.refl _ _⟩
      case round =>
        obtain ⟨k, hk, rfl, rfl, hB⟩ := hrel
        have hz := hB.size
        by_cases hlt : k < L.length
        · obtain ⟨b, off, rfl, hbw, q0, q1, q2, q3, q4, q5⟩ := RdB.at_ (Rd.below HL9.out hB) hlt
          obtain ⟨hb1, hb2⟩ := HEB.out k
          have hel2 := HEL.out k hlt
          obtain ⟨x', hx⟩ : ∃ x, L[k] = x := ⟨_, rfl⟩
          rw [hx] at q0 q1 q2 q3 q4 q5 hel2
          obtain ⟨xa, xs, xk, xt, xm, xn⟩ := x'
          dsimp only at q0 q1 q2 q3 q4 q5 hel2
          obtain ⟨e, he⟩ : ∃ e, E k = e := ⟨_, rfl⟩
          obtain ⟨e', he'⟩ : ∃ e, E (k + 1) = e := ⟨_, rfl⟩
          have HEN := Lib.hid he'
          rw [he] at hb1 hb2 hel2 ⊢
          rw [he'] at hel2
          have hlm : (k : Int) < (L.length : Int) := by omega
          have hk0 : (0 : Int) ≤ (k : Int) := by omega
          have hwm : IntKind.i64.wrap ((L.length : Int) - 1) = (L.length : Int) - 1 := IntWalk.i64_in _ (by omega)
          clear hx he he' q0 q3 q4 q5
          rcases hel2 with ⟨g1, g2, g3, g4, g5⟩ | ⟨g1, g2, g3, g4, g5⟩
          · have hkk : (xk == 2) = false := by rw [beq_eq_false_iff_ne]; omega
            have hwe : IntKind.i64.wrap (e + xs) = e + xs := IntWalk.i64_in _ (by omega)
            have HG4 := Lib.hid g4
            have hlast : ((k : Int) == (L.length : Int) - 1) = false ∨ ((k : Int) == (L.length : Int) - 1) = true ∧ decide ((0 : Int) < (N : Int)) = false ∧ decide (0 < N) = false := by
              by_cases h : k + 1 = L.length
              · right
                have h0 : N = 0 := g5.resolve_left (fun h2 => h2 h)
                exact ⟨by rw [beq_iff_eq]; omega, by rw [decide_eq_false_iff_not]; omega, by rw [decide_eq_false_iff_not]; omega⟩
              · left; rw [beq_eq_false_iff_ne]; omega
            clear g1 g2 g3 g4 g5 hb1 hb2
            rcases hlast with hl1 | ⟨hl1, hl2, hl3⟩
            all_goals
              go_wp2_with fail
              go_roundw
              case rel => exact ⟨k + 1, by omega, by go_num, by rw [HEN.out, HG4.out], hB⟩
              case measure => simp [intOf]; omega
          · have hkk : (xk == 2) = true := by rw [beq_iff_eq]; exact g1
            have hl1 : ((k : Int) == (L.length : Int) - 1) = true := by rw [beq_iff_eq]; omega
            have hl2 : decide ((0 : Int) < (N : Int)) = true := by rw [decide_eq_true_iff]; omega
            have hl3 : decide (0 < N) = true := by rw [decide_eq_true_iff]; exact g3
            have hss : (xs != (N : Int)) = false := by rw [bne_eq_false_iff_eq]; exact g2
            have HG5 := Lib.hid g5
            clear g1 g2 g3 g4 g5 hb1 hb2
            go_wp2_with fail
            go_roundw
            case rel => exact ⟨k + 1, by omega, by go_num, by rw [HEN.out, HG5.out], hB⟩
            case measure => simp [intOf]; omega
        · obtain rfl : k = L.length := by omega
          rw [HET.out]
          have HBq := Lib.hid (HB9.out.trans (hB.mono HB9.out.size))
          have BXq := Lib.hid (BX9.out.up hB BX9.out.lt)
          have HXq := Lib.hid (HX9.out.up hB hB.size)
          have HRq := Lib.hid (HR9.out.up hB hB.size)
          rename World => wq
          clear hB
          go_wp2_with fail
          go_loopw [20] (fun i wr => ∃ k : Nat, k ≤ ws.length ∧ i = .int .i64 k ∧ Below wq.heap.size wq wr) (fun i _ => ws.length - (intOf i).toNat)
          case atStart => exact ⟨0, Nat.zero_le _, rfl, Below.refl _ _⟩
          case round =>
            obtain ⟨k, hk, rfl, hB⟩ := hrel
            have hz := hB.size
            have bxr := BXq.out.up hB BXq.out.lt
            obtain ⟨p0, p1, p2, -⟩ := bxr.c3
            clear bxr p0 p1
            by_cases hlt : k < ws.length
            · obtain ⟨b, off, rfl, hbw, r0⟩ := RdW.at_ (Rd.below HRq.out hB) hlt
              obtain ⟨b2, off2, hA2, hbw2, s0⟩ := RdW.at_ (Rd.below HXq.out hB) (show k < x.length by omega)
              cases hA2
              rw [← wd_get] at r0 s0
              rw [Nat.zero_add] at s0
              have hki : (k : Int) < (ws.length : Int) := by omega
              have hk0 : (0 : Int) ≤ (k : Int) := by omega
              have hwt1 : IntKind.i64.wrap ((t : Int) + 1) = (t : Int) + 1 := IntWalk.i64_in _ (by omega)
              have HXK := Lib.hid (HXW.out k)
              obtain ⟨u, hu⟩ : ∃ u, wd ws k = u := ⟨_, rfl⟩
              obtain ⟨v, hv⟩ : ∃ v, wd x k = v := ⟨_, rfl⟩
              rw [hu] at r0 HXK
              rw [hv] at s0 HXK
              clear hu hv
              by_cases c1 : k = 16 ∨ k = 17 ∨ k = 18
              · have d1 : decide ((k : Int) < 16) = false := by rw [decide_eq_false_iff_not]; omega
                have d1n : decide (k < 16) = false := by rw [decide_eq_false_iff_not]; omega
                have d2 : decide ((18 : Int) < (k : Int)) = false := by rw [decide_eq_false_iff_not]; omega
                have d2n : decide (18 < k) = false := by rw [decide_eq_false_iff_not]; omega
                clear c1 HXK
                go_wp2_with fail
                go_quiet (fail)
                go_wp2_with fail
                go_roundw
                case rel => exact ⟨k + 1, by omega, by go_num, by first | exact hB | exact below_drewN hB _ | exact hB.drew⟩
                case measure => simp [intOf]; omega
              · have hdd : (decide ((k : Int) < 16) = true ∧ decide (k < 16) = true) ∨ (decide ((k : Int) < 16) = false ∧ decide (k < 16) = false) ∧ (decide ((18 : Int) < (k : Int)) = true ∧ decide (18 < k) = true) := by
                  by_cases h : k < 16
                  · left; exact ⟨by rw [decide_eq_true_iff]; omega, by rw [decide_eq_true_iff]; exact h⟩
                  · right; exact ⟨⟨by rw [decide_eq_false_iff_not]; omega, by rw [decide_eq_false_iff_not]; exact h⟩, by rw [decide_eq_true_iff]; omega, by rw [decide_eq_true_iff]; omega⟩
                have htw : ((decide ((k : Int) < (t : Int)) = true ∧ decide (k < t) = true) ∨ (decide ((k : Int) < (t : Int)) = false ∧ decide (k < t) = false) ∧ decide ((t : Int) + 1 < (k : Int)) = true) ∧ v = u ∨ (decide ((k : Int) < (t : Int)) = false ∧ decide (k < t) = false) ∧ decide ((t : Int) + 1 < (k : Int)) = false := by
                  by_cases h : k < t
                  · left; exact ⟨.inl ⟨by rw [decide_eq_true_iff]; omega, by rw [decide_eq_true_iff]; exact h⟩, HXK.out c1 (.inl h)⟩
                  · by_cases h2 : t + 1 < k
                    · left; exact ⟨.inr ⟨⟨by rw [decide_eq_false_iff_not]; omega, by rw [decide_eq_false_iff_not]; exact h⟩, by rw [decide_eq_true_iff]; omega⟩, HXK.out c1 (.inr h2)⟩
                    · right; exact ⟨⟨by rw [decide_eq_false_iff_not]; omega, by rw [decide_eq_false_iff_not]; exact h⟩, by rw [decide_eq_false_iff_not]; omega⟩
                clear c1 HXK
                rcases htw with ⟨⟨h1, h2⟩ | ⟨⟨h1, h2⟩, h3⟩, hvu⟩ | ⟨⟨h1, h2⟩, h3⟩
                · subst hvu
                  have huu : ((v : Int) != (v : Int)) = false := by simp
                  rcases hdd with ⟨d1, d2⟩ | ⟨⟨d1, d2⟩, d3, d4⟩
                  all_goals
                    go_wp2_with fail
                    go_quiet (fail)
                    go_wp2_with fail
                    go_roundw
                    case rel => exact ⟨k + 1, by omega, by go_num, by first | exact hB | exact below_drewN hB _ | exact hB.drew⟩
                    case measure => simp [intOf]; omega
                · subst hvu
                  have huu : ((v : Int) != (v : Int)) = false := by simp
                  rcases hdd with ⟨d1, d2⟩ | ⟨⟨d1, d2⟩, d3, d4⟩
                  all_goals
                    go_wp2_with fail
                    go_quiet (fail)
                    go_wp2_with fail
                    go_roundw
                    case rel => exact ⟨k + 1, by omega, by go_num, by first | exact hB | exact below_drewN hB _ | exact hB.drew⟩
                    case measure => simp [intOf]; omega
                · rcases hdd with ⟨d1, d2⟩ | ⟨⟨d1, d2⟩, d3, d4⟩
                  all_goals
                    go_wp2_with fail
                    go_quiet (fail)
                    go_wp2_with fail
                    go_roundw
                    case rel => exact ⟨k + 1, by omega, by go_num, by first | exact hB | exact below_drewN hB _ | exact hB.drew⟩
                    case measure => simp [intOf]; omega
            · go_wp2_with fail
              go_ret
              exact ⟨by simp, HBq.out.trans (hB.mono HBq.out.size)⟩
    · obtain ⟨r, hr⟩ : ∃ r, enErr ws = r := ⟨_, rfl⟩
      obtain ⟨m, hm⟩ : ∃ m, (chOut ws).length = m := ⟨_, rfl⟩
      obtain ⟨f, hf⟩ : ∃ f, frN ws = f := ⟨_, rfl⟩
      rw [hr, hm] at HCH
      rw [hr, hf] at HFR
      rw [hr] at h0
      have hrn : (r != 0) = true := by rw [bne_iff_ne]; exact h0
      clear hg h0 hr hm hf
      go_enter Try.func12, Try.ntmps12
      go_wp2_with fail
      refine (alive32_c w).mono ?_
      rintro e w1 ⟨rfl, hB1⟩
      have HB1 := Lib.hid hB1
      have HR1 := Lib.hid (HR.out.up hB1 hB1.size)
      clear hB1
      go_wp2_with fail
      refine (great25_c A ws.length c _ hn).mono ?_
      rintro e w1' ⟨rfl, rfl⟩
      rw [HG.out]
      go_wp2_with fail
      refine (HCH.out _ HR1.out).mono ?_
      rintro e w2 ⟨⟨A2, c2, rfl, -, -⟩, hB2⟩
      have HB2 := Lib.hid (HB1.out.trans (hB2.mono HB1.out.size))
      have HR2 := Lib.hid (HR.out.up HB2.out HB2.out.size)
      clear hB2
      go_wp2_with fail
      refine (HFR.out _ HR2.out).mono ?_
      rintro e w3 ⟨rfl, hB3⟩
      have HB3 := Lib.hid (HB2.out.trans (hB3.mono HB2.out.size))
      clear hB3
      go_wp2_with fail
      go_ret
      exact ⟨by simp, HB3.out⟩
  · have HG := Lib.hid hg
    clear hg
    go_enter Try.func12, Try.ntmps12
    go_wp2_with fail
    refine (alive32_c w).mono ?_
    rintro e w1 ⟨rfl, hB1⟩
    go_wp2_with fail
    refine (great25_c A ws.length c _ hn).mono ?_
    rintro e w1' ⟨rfl, rfl⟩
    rw [HG.out]
    go_wp2_with fail
    go_ret
    exact ⟨rfl, hB1⟩
end Go.Proofs.Ytpifagclhhaniaa
