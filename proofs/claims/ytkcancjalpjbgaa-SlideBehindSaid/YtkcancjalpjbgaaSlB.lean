/- The law SlideBehind. -/
import Derived.Test.YtkcancjalpjbgaaSlP
namespace Go.Proofs.Ytkcancjalpjbgaa
open Go.RowKit

set_option maxRecDepth 100000 in
set_option maxHeartbeats 8000000 in
theorem slideBehind_walk (w : World) (A : Option Addr) (ws : List Nat) (c : Nat) (hn : ws.length ≤ maxLen) (_hc : ws.length ≤ c) (hr : RdW w w.heap.size A ws) (ho : ∀ x ∈ ws, x < 18446744073709551616) (f : Int) (hf : -9223372036854775808 ≤ f ∧ f ≤ 9223372036854775807) (t : Int) (ht : -9223372036854775808 ≤ t ∧ t ≤ 9223372036854775807) :
    Calls Try.prog 7 #[.slice A ws.length c, .int .i64 f, .int .i64 t] w fun e w' => e = .returned (.bool true) ∧ Below w.heap.size w w' := by
  unfold maxLen at hn
  have HR := Lib.hid hr
  have HO := Lib.hid ho
  clear hr ho
  cases hg : greatW ws.length
  · have HG := Lib.hid hg
    have hgn := greatW_no hg
    have hlen : ws.length ≤ 2060 := by omega
    have HMV := Lib.hid (fun W (h : RdW W W.heap.size A ws) => sMove_c A ws c ws.length f t W rfl hn hf ht h HO.out)
    unfold MvRes at HMV
    by_cases h0 : mvErr ws f t = 0
    · obtain ⟨a, u, n, rfl, rfl, hnn, n2, n10, hu, hua, han, hst, hlv, ⟨l, b1, b2, b3, b4, b5⟩, -, hun⟩ := slide_plain h0
      have hout : mvOut ws (a : Int) (u : Int) = mvEn ws a u := by simp [mvOut, h0]
      have hel : (mvEn ws a u).length = n := by rw [mvEn_len, hnn]
      rw [h0, hout, hel] at HMV
      have hin : u + szAt ws a ≤ ws.length := by omega
      have hpx := putE_mv (ws := ws) (a := a) (u := u) hin
      rw [← hpx] at b3 b4 b5
      have hxo := putE_lt (mvEn ws a u) ws HO.out (mvEn_lt HO.out hun)
      have hxl : (putE ws (mvEn ws a u)).length = ws.length := putE_len _ _
      have hei := mvEn_in (ws := ws) (a := a) (u := u) hin
      obtain ⟨g1, g2, -⟩ := rdErr_zero b4
      rw [isImg_size] at g1
      obtain ⟨j1, j2⟩ := frErr_some g1 (frArg_rd g2) (l := l) (by rw [Int.toNat_natCast]; exact b3)
      rw [hxl] at g1 g2
      obtain ⟨k1, k2⟩ := frErr_some g1 (frArg_rd g2) (l := l) (by rw [Int.toNat_natCast]; exact b2)
      have hrd0 : rdErr ws (a : Int) (u : Int) = 0 := (mvErr_zero h0).1
      have HPT := Lib.hid (fun A2 B d W (h : RdW W W.heap.size A2 ws) (h2 : RdE W W.heap.size B (mvEn ws a u)) => sPut_c A2 B ws (mvEn ws a u) c d ws.length n W.heap.size W rfl hel g1 (by omega) hei h h2 (Nat.le_refl _))
      unfold OwnV at HPT
      rw [hxl] at HPT
      have HRO := Lib.hid (fun W (h : RdW W W.heap.size A ws) => fwRead_c A ws c ws.length (a : Int) (u : Int) W rfl hn hf ht h HO.out)
      unfold RdRes at HRO
      have HRN := Lib.hid (fun A2 c2 W (h : RdW W W.heap.size A2 (putE ws (mvEn ws a u))) => fwRead_c A2 (putE ws (mvEn ws a u)) c2 ws.length ((a + n : Nat) : Int) ((u + n : Nat) : Int) W hxl hn (by omega) (by omega) h hxo)
      unfold RdRes at HRN
      have HFO := Lib.hid (fun W (h : RdW W W.heap.size A ws) => from_c A ws c ws.length ((a + n : Nat) : Int) W rfl hn h HO.out)
      unfold FrRes at HFO
      have HFN := Lib.hid (fun A2 c2 W (h : RdW W W.heap.size A2 (putE ws (mvEn ws a u))) => from_c A2 (putE ws (mvEn ws a u)) c2 ws.length ((a + n : Nat) : Int) W hxl hn h hxo)
      unfold FrRes at HFN
      rw [hrd0, b5] at HRO
      rw [b4] at HRN
      rw [k1, k2] at HFO
      rw [j1, j2] at HFN
      have hll := (blocks_chain (ws := ws) (by have := fr_bd ws g1; omega) _ _ b2 (by omega) (by have := (frArg_no (frArg_rd g2)); omega) (by omega)).1
      have hml : (rdMv (putE ws (mvEn ws a u)) ((a + n : Nat) : Int) ((u + n : Nat) : Int)).length ≤ l.length := by
        unfold rdMv; rw [if_pos b4, Int.toNat_natCast, b3]; exact moves_len_le _ _
      clear hg hgn h0 b1 b2 b3 b4 b5 hst hlv hun hout hel hin hpx hxo hxl hei g1 g2 j1 j2 k1 k2 hrd0 hnn
      generalize rdMv (putE ws (mvEn ws a u)) ((a + n : Nat) : Int) ((u + n : Nat) : Int) = mv at HRO HRN hml
      generalize putE ws (mvEn ws a u) = x at HPT HRN HFN
      generalize mvEn ws a u = E at HMV HPT
      have e1 : ((a + n : Nat) : Int) = (a : Int) + (n : Int) := by omega
      have e2 : ((u + n : Nat) : Int) = (u : Int) + (n : Int) := by omega
      rw [e1, e2] at HRN
      rw [e1] at HFO HFN
      rw [List.length_cons] at HRO
      have hw1 : IntKind.i64.wrap ((a : Int) + (n : Int)) = (a : Int) + (n : Int) := IntWalk.i64_in _ (by omega)
      have hw2 : IntKind.i64.wrap ((u : Int) + (n : Int)) = (u : Int) + (n : Int) := IntWalk.i64_in _ (by omega)
      have hl3 : l.length ≤ 2060 := by omega
      have hm3 : mv.length ≤ 2060 := by omega
      have hne : (((mv.length + 1 : Nat) : Int) != (mv.length : Int) + 1) = false := by rw [bne_eq_false_iff_eq]; omega
      clear e1 e2 hll hml hf ht
      go_enter Try.func7, Try.ntmps7
      go_wp2_with fail
      refine (alive29_c w).mono ?_
      rintro e w1 ⟨rfl, hB1⟩
      go_wp2_with fail
      refine (great25_c A ws.length c _ hn).mono ?_
      rintro e w1' ⟨rfl, rfl⟩
      rw [HG.out]
      go_wp2_with fail
      refine (HMV.out _ (HR.out.up hB1 hB1.size)).mono ?_
      rintro e w2 ⟨⟨A2, c2, rfl, hr2, -⟩, hB2⟩
      have hb2 := hB1.trans (hB2.mono hB1.size)
      have HE2 := Lib.hid hr2
      clear hr2
      go_wp2_with fail
      refine (HPT.out _ _ _ _ (HR.out.up hb2 hb2.size) HE2.out).mono ?_
      rintro e w3 ⟨g3, c3, rfl, hown3, hB3⟩
      have hb3 := hb2.trans (hB3.mono hb2.size)
      have HX3 := Lib.hid (Rd.of_own hown3)
      clear hown3
      go_wp2_with fail
      refine (HRO.out _ (HR.out.up hb3 hb3.size)).mono ?_
      rintro e w4 ⟨⟨A4, c4, rfl, hr4, -⟩, hB4⟩
      have hb4 := hb3.trans (hB4.mono hb3.size)
      have HM4 := Lib.hid hr4
      have HX4 := Lib.hid (HX3.out.up hB4 hB4.size)
      clear hr4
      go_wp2_with fail
      refine (HRN.out _ _ _ HX4.out).mono ?_
      rintro e w5 ⟨⟨A5, c5, rfl, hr5, -⟩, hB5⟩
      have hb5 := hb4.trans (hB5.mono hb4.size)
      have HN5 := Lib.hid hr5
      have HM5 := Lib.hid (HM4.out.up hB5 hB5.size)
      have HX5 := Lib.hid (HX4.out.up hB5 hB5.size)
      clear hr5
      go_wp2_with fail
      refine (HFO.out _ (HR.out.up hb5 hb5.size)).mono ?_
      rintro e w6 ⟨⟨A6, c6, rfl, hr6, -⟩, hB6⟩
      have hb6 := hb5.trans (hB6.mono hb5.size)
      have HF6 := Lib.hid hr6
      have HN6 := Lib.hid (HN5.out.up hB6 hB6.size)
      have HM6 := Lib.hid (HM5.out.up hB6 hB6.size)
      have HX6 := Lib.hid (HX5.out.up hB6 hB6.size)
      clear hr6
      go_wp2_with fail
      refine (HFN.out _ _ _ HX6.out).mono ?_
      rintro e w7 ⟨⟨A7, c7, rfl, hr7, -⟩, hB7⟩
      have HB7 := Lib.hid (hb6.trans (hB7.mono hb6.size))
      have HG7 := Lib.hid hr7
      have HF7 := Lib.hid (HF6.out.up hB7 hB7.size)
      have HN7 := Lib.hid (HN6.out.up hB7 hB7.size)
      have HM7 := Lib.hid (HM6.out.up hB7 hB7.size)
      clear hr7 hB7 hb6 hB6 hb5 hB5 hb4 hB4 hb3 hB3 hb2 hB2 hB1 HX3 HX4 HX5 HX6 HN5 HN6 HM4 HM5 HM6 HF6 HE2 HFO HFN HRO HRN HPT HMV
      go_wp2_with fail
      go_loopw [20] (fun i wr => ∃ m : Nat, m ≤ mv.length ∧ i = .int .i64 m ∧ Below w7.heap.size w7 wr) (fun i _ => mv.length - (intOf i).toNat)
      case atStart => exact ⟨0, by omega, rfl, Below.refl _ _⟩
      case round =>
        obtain ⟨m, hm, rfl, hB⟩ := hrel
        have hz := hB.size
        by_cases hlt : m < mv.length
        · obtain ⟨b2, off2, rfl, hbw2, r0, r1⟩ := RdM.at_ (Rd.below HN7.out hB) hlt
          obtain ⟨b3, off3, rfl, hbw3, s0, s1⟩ := RdM.at_ (Rd.below HM7.out hB) (show m + 1 < _ by rw [List.length_cons]; omega)
          rw [List.getElem_cons_succ] at s0 s1
          obtain ⟨y, hy⟩ : ∃ y, mv[m] = y := ⟨_, rfl⟩
          rw [hy] at r0 r1 s0 s1
          obtain ⟨y1, y2⟩ := y
          dsimp only at r0 r1 s0 s1
          have hmi : (m : Int) < (mv.length : Int) := by omega
          have hm0 : (0 : Int) ≤ (m : Int) := by omega
          have hmw : IntKind.i64.wrap ((m : Int) + 1) = (m : Int) + 1 := IntWalk.i64_in _ (by omega)
          have hmt : ((m : Int) + 1).toNat = m + 1 := by omega
          have hmi1 : (m : Int) + 1 < (mv.length : Int) + 1 := by omega
          have hm01 : (0 : Int) ≤ (m : Int) + 1 := by omega
          clear hy
          go_wp2_with fail
          go_quiet (fail)
          go_wp2_with fail
          go_roundw
          case rel => exact ⟨m + 1, by omega, by go_num, by first | exact hB | exact below_drewN hB _ | exact hB.drew⟩
          case measure => simp [intOf]; omega
        · obtain rfl : m = mv.length := by omega
          have HBr := Lib.hid (HB7.out.trans (hB.mono HB7.out.size))
          have HGr := Lib.hid (Rd.below HG7.out hB)
          have HFr := Lib.hid (Rd.below HF7.out hB)
          clear hB
          go_wp2_with fail
          go_loopw [21] (fun i wr2 => ∃ m : Nat, m ≤ l.length ∧ i = .int .i64 m ∧ Below w7.heap.size wr wr2) (fun i _ => l.length - (intOf i).toNat)
          case atStart => exact ⟨0, by omega, rfl, Below.refl _ _⟩
          case round =>
            obtain ⟨m, hm, rfl, hB⟩ := hrel
            have hz2 := hB.size
            by_cases hlt : m < l.length
            · obtain ⟨b2, off2, rfl, hbw2, r0, r1, r2, r3, r4, r5⟩ := RdB.at_ (show RdB _ _ _ _ from Rd.below HGr.out hB) hlt
              obtain ⟨b3, off3, rfl, hbw3, s0, s1, s2, s3, s4, s5⟩ := RdB.at_ (show RdB _ _ _ _ from Rd.below HFr.out hB) hlt
              obtain ⟨y, hy⟩ : ∃ y, l[m] = y := ⟨_, rfl⟩
              rw [hy] at r0 r1 r2 r3 r4 r5 s0 s1 s2 s3 s4 s5
              obtain ⟨y1, y2, y3, y4, y5, y6⟩ := y
              dsimp only at r0 r1 r2 r3 r4 r5 s0 s1 s2 s3 s4 s5
              have hmi : (m : Int) < (l.length : Int) := by omega
              have hm0 : (0 : Int) ≤ (m : Int) := by omega
              clear hy
              go_wp2_with fail
              go_quiet (fail)
              go_wp2_with fail
              go_roundw
              case rel => exact ⟨m + 1, by omega, by go_num, by first | exact hB | exact below_drewN hB _ | exact hB.drew⟩
              case measure => simp [intOf]; omega
            · obtain rfl : m = l.length := by omega
              go_wp2_with fail
              go_ret
              exact ⟨rfl, HBr.out.trans (hB.mono HB7.out.size)⟩
    · have hn1 : (mvErr ws f t != 0) = true := by rw [bne_iff_ne]; exact h0
      obtain ⟨r, hr⟩ : ∃ r, mvErr ws f t = r := ⟨_, rfl⟩
      obtain ⟨q, hq⟩ : ∃ q, (mvOut ws f t).length = q := ⟨_, rfl⟩
      rw [hr, hq] at HMV
      rw [hr] at hn1
      clear hg hgn h0 hr hq
      go_enter Try.func7, Try.ntmps7
      go_wp2_with fail
      refine (alive29_c w).mono ?_
      rintro e w1 ⟨rfl, hB1⟩
      go_wp2_with fail
      refine (great25_c A ws.length c _ hn).mono ?_
      rintro e w1' ⟨rfl, rfl⟩
      rw [HG.out]
      go_wp2_with fail
      refine (HMV.out _ (HR.out.up hB1 hB1.size)).mono ?_
      rintro e w2 ⟨⟨A2, c2, rfl, -, -⟩, hB2⟩
      have hb2 := hB1.trans (hB2.mono hB1.size)
      go_wp2_with fail
      go_ret
      exact ⟨rfl, hb2⟩
  · have HG := Lib.hid hg
    clear hg
    go_enter Try.func7, Try.ntmps7
    go_wp2_with fail
    refine (alive29_c w).mono ?_
    rintro e w1 ⟨rfl, hB1⟩
    go_wp2_with fail
    refine (great25_c A ws.length c _ hn).mono ?_
    rintro e w1' ⟨rfl, rfl⟩
    rw [HG.out]
    go_wp2_with fail
    go_ret
    exact ⟨rfl, hB1⟩
end Go.Proofs.Ytkcancjalpjbgaa
