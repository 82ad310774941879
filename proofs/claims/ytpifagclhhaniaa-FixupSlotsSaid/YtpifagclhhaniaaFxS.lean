/- The slots that are fixed: the law's walk. -/
import Derived.Test.YtpifagclhhaniaaFxSP
import Derived.Test.YtpifagclhhaniaaAl28
import Derived.Test.YtpifagclhhaniaaKMove
namespace Go.Proofs.Ytpifagclhhaniaa
open Go.RowKit

theorem entry_at {l : List En} (h : ∀ e ∈ l, (112 ≤ e.a ∧ e.a < 128) ∧ e.v < 18446744073709551616) {k : Nat} (hk : k < l.length) : 112 ≤ l[k].a ∧ l[k].a < 128 := (h _ (List.getElem_mem hk)).1
theorem entry_lt {l : List En} (h : l.Pairwise (fun a b => a.a < b.a)) {j k : Nat} (hk : k < l.length) (hj : j < k) : l[j].a < l[k].a := List.pairwise_iff_getElem.1 h j k (by omega) hk hj

set_option maxRecDepth 100000 in
set_option maxHeartbeats 16000000 in
theorem fixupSlots_walk (w : World) (A : Option Addr) (ws : List Nat) (c : Nat) (hn : ws.length ≤ maxLen) (_hc : ws.length ≤ c) (hr : RdW w w.heap.size A ws) (ho : ∀ x ∈ ws, x < 18446744073709551616) :
    Calls Try.prog 9 #[.slice A ws.length c] w fun e w' => e = .returned (.bool true) ∧ Below w.heap.size w w' := by
  unfold maxLen at hn
  have HR := Lib.hid hr
  have HO := Lib.hid ho
  clear hr ho
  cases hg : greatW ws.length
  · have HG := Lib.hid hg
    have hgn := greatW_no hg
    have HFS := Lib.hid (fun W (h : RdW W W.heap.size A ws) => fxSlots_c A ws c ws.length W rfl hn h HO.out)
    unfold FsRes at HFS
    by_cases h0 : fsErr ws = 0
    · obtain ⟨g1, g2, g3, g4, g5, g6, g7, g8, g9, g10, g11, g12⟩ := fs_plain h0
      rw [h0] at HFS
      have hxl : (putE ws (fsOut ws)).length = ws.length := putE_len _ _
      have hxo := putE_lt (fsOut ws) ws HO.out (fun e he => (g8 e he).2)
      have hmvl := rdMv_len ws 128 128
      have HRD := Lib.hid (fun W (h : RdW W W.heap.size A ws) => fwRead_c A ws c ws.length 128 128 W rfl hn (by omega) (by omega) h HO.out)
      unfold RdRes at HRD
      rw [g3] at HRD
      have HPT := Lib.hid (fun B d W (h : RdW W W.heap.size A ws) (h2 : RdE W W.heap.size B (fsOut ws)) => put25_c A B ws (fsOut ws) c d ws.length (fsOut ws).length W.heap.size W rfl rfl (by omega) (by omega) (by omega) h h2 (Nat.le_refl _))
      unfold OwnW at HPT
      rw [hxl] at HPT
      have HH1 := Lib.hid (fun W (h : RdW W W.heap.size A ws) => hAll_c A ws c ws.length W rfl hn h HO.out)
      unfold HaRes at HH1
      rw [g4, g5, slL_len] at HH1
      have HH2 := Lib.hid (fun A2 c2 W (h : RdW W W.heap.size A2 (putE ws (fsOut ws))) => hAll_c A2 (putE ws (fsOut ws)) c2 ws.length W hxl hn h hxo)
      unfold HaRes at HH2
      rw [g6, g7, slL_len] at HH2
      have HTO := Lib.hid (fun A2 c2 a W (h : RdM W W.heap.size A2 (rdMv ws 128 128)) => fwTo_c A2 (rdMv ws 128 128) c2 (rdMv ws 128 128).length W.heap.size a W rfl (by omega) h (Nat.le_refl _))
      have HE1 := Lib.hid (fun k (hk : k < (fsOut ws).length) => entry_at g8 hk)
      have HE2 := Lib.hid (fun j k (hk : k < (fsOut ws).length) (hj : j < k) => entry_lt g9 hk hj)
      have HN1 : Hid (∀ i (h : i < (slL (putE ws (fsOut ws))).length), (slL (putE ws (fsOut ws)))[i] = nwS ws (rdMv ws 128 128) i) := Lib.hid fun i h => by
        rw [slL_get]
        exact g11 i (by rw [slL_len] at h; exact h)
      have HN2 : Hid (∀ i (h : i < (slL ws).length), (slL ws)[i] = slAt ws i) := Lib.hid fun i h => slL_get ws h
      have HN3 : Hid (∀ i, nwS ws (rdMv ws 128 128) i = if (slAt ws i).used = true then ⟨(slAt ws i).gen, true, (mvTo (rdMv ws 128 128) (slAt ws i).at_).getD 0⟩ else slAt ws i) := Lib.hid fun i => rfl
      have HN4 := Lib.hid g12
      have HL1 := Lib.hid (slL_len ws)
      have HL2 := Lib.hid (slL_len (putE ws (fsOut ws)))
      generalize nwS ws (rdMv ws 128 128) = nw at HN1 HN3
      generalize rdMv ws 128 128 = mv at HRD HTO HN3 HN4 hmvl
      generalize slL (putE ws (fsOut ws)) = L2 at HH2 HN1 HL2
      generalize putE ws (fsOut ws) = x at HPT HH2
      generalize fsOut ws = E at HFS HPT HE1 HE2 g10
      generalize slAt ws = sa at HN2 HN3 HN4
      generalize slL ws = L1 at HH1 HN2 HL1
      clear hg hgn h0 g2 g3 g4 g5 g6 g7 g8 g9 g11 g12 hxl hxo
      go_enter Try.func9, Try.ntmps9
      go_wp2_with fail
      refine (alive28_c w).mono ?_
      rintro e w1 ⟨rfl, hB1⟩
      go_wp2_with fail
      refine (great25_c A ws.length c _ hn).mono ?_
      rintro e w1' ⟨rfl, rfl⟩
      rw [HG.out]
      go_wp2_with fail
      refine (HFS.out _ (HR.out.up hB1 hB1.size)).mono ?_
      rintro e w2 ⟨⟨A2, c2, rfl, hr2, -⟩, hB2⟩
      have hb2 := hB1.trans (hB2.mono hB1.size)
      have HE2' := Lib.hid hr2
      have HB2 := Lib.hid hb2
      have HRW := Lib.hid (HR.out.up hb2 hb2.size)
      clear hr2 hB2 hB1 hb2
      go_wp2_with fail
      go_loopw [6] (fun i wr => ∃ m : Nat, m ≤ E.length ∧ i = .int .i64 m ∧ Below w2.heap.size w2 wr) (fun i _ => E.length - (intOf i).toNat)
      case atStart => exact ⟨0, by omega, rfl, Below.refl _ _⟩
      case round =>
        obtain ⟨m, hm, rfl, hB⟩ := hrel
        have hz := hB.size
        by_cases hlt : m < E.length
        · obtain ⟨e1, e2⟩ := HE1.out m hlt
          obtain ⟨b2, off2, rfl, hbw2, r0, -⟩ := RdE.at_ (Rd.below HE2'.out hB) hlt
          have e3 := fun (h : m - 1 < m) => HE2.out (m - 1) m hlt h
          obtain ⟨y, hy⟩ : ∃ y, E[m].a = y := ⟨_, rfl⟩
          rw [hy] at r0 e1 e2 e3
          have hmi : (m : Int) < (E.length : Int) := by omega
          have hm0 : (0 : Int) ≤ (m : Int) := by omega
          clear hy
          have hd1 : decide (y < 112) = false := by rw [decide_eq_false_iff_not]; omega
          have hd2 : decide (128 ≤ y) = false := by rw [decide_eq_false_iff_not]; omega
          by_cases hc0 : m = 0
          · have hd0 : decide ((0 : Int) < (m : Int)) = false := by rw [decide_eq_false_iff_not]; omega
            have hd0n : decide (0 < m) = false := by rw [decide_eq_false_iff_not]; omega
            clear e3 hc0
            go_wp2_with fail
            go_quiet (fail)
            go_wp2_with fail
            go_roundw
            case rel => exact ⟨m + 1, by omega, by go_num, by first | exact hB | exact below_drewN hB _ | exact hB.drew⟩
            case measure => simp [intOf]; omega
          · have hlm1 : m - 1 < E.length := by omega
            have e4 := e3 (by omega)
            obtain ⟨b4, off4, hA4, hbw4, r2, -⟩ := RdE.at_ (Rd.below HE2'.out hB) hlm1
            cases hA4
            obtain ⟨y2, hy2⟩ : ∃ y2, E[m - 1].a = y2 := ⟨_, rfl⟩
            rw [hy2] at r2 e4
            have hm0' : (0 : Int) < (m : Int) := by omega
            have hd0 : decide ((0 : Int) < (m : Int)) = true := by rw [decide_eq_true_iff]; omega
            have hd0n : decide (0 < m) = true := by rw [decide_eq_true_iff]; omega
            have hmi1 : (m : Int) - 1 < (E.length : Int) := by omega
            have hmi2 : (0 : Int) ≤ (m : Int) - 1 := by omega
            have hmw : IntKind.i64.wrap ((m : Int) - 1) = (m : Int) - 1 := IntWalk.i64_in _ (by omega)
            have hmt : ((m : Int) - 1).toNat = m - 1 := by omega
            have hd3 : decide (y ≤ y2) = false := by rw [decide_eq_false_iff_not]; omega
            clear e3 hy2 hc0
            go_wp2_with fail
            go_quiet (fail)
            go_wp2_with fail
            go_roundw
            case rel => exact ⟨m + 1, by omega, by go_num, by first | exact hB | exact below_drewN hB _ | exact hB.drew⟩
            case measure => simp [intOf]; omega
        · obtain rfl : m = E.length := by omega
          have hRWr := Lib.hid (HRW.out.up hB hz)
          have HBr := Lib.hid (HB2.out.trans (hB.mono HB2.out.size))
          have HEr := Lib.hid (show RdE wr wr.heap.size A2 E from HE2'.out.up hB hz)
          clear hB hz
          go_wp2_with fail
          refine (HRD.out wr hRWr.out).mono ?_
          rintro e w4 ⟨⟨A4, c4, rfl, hr4, -⟩, hB4⟩
          have HB4 := Lib.hid (HBr.out.trans (hB4.mono HBr.out.size))
          have HM4 := Lib.hid hr4
          have HRW4 := Lib.hid (hRWr.out.up hB4 hB4.size)
          have HE4 := Lib.hid (HEr.out.up hB4 hB4.size)
          clear hr4 hB4
          go_wp2_with fail
          refine (HH1.out w4 HRW4.out).mono ?_
          rintro e w5 ⟨⟨A5, c5, rfl, hr5, -⟩, hB5⟩
          have HB5 := Lib.hid (HB4.out.trans (hB5.mono HB4.out.size))
          have HM5 := Lib.hid (HM4.out.up hB5 hB5.size)
          have HRW5 := Lib.hid (HRW4.out.up hB5 hB5.size)
          have HE5 := Lib.hid (HE4.out.up hB5 hB5.size)
          have HS5 := Lib.hid hr5
          clear hr5 hB5
          go_wp2_with fail
          refine (HPT.out A2 _ w5 HRW5.out (show RdE _ _ _ _ from HE5.out)).mono ?_
          rintro e w6 ⟨g6, c6, rfl, hown6, hB6⟩
          have HB6 := Lib.hid (HB5.out.trans (hB6.mono HB5.out.size))
          have HM6 := Lib.hid (HM5.out.up hB6 hB6.size)
          have HS6 := Lib.hid (HS5.out.up hB6 hB6.size)
          have HX6 := Lib.hid (Rd.of_own hown6)
          clear hown6 hB6
          go_wp2_with fail
          refine (HH2.out _ _ w6 (show RdW _ _ _ _ from HX6.out)).mono ?_
          rintro e w7 ⟨⟨A7, c7, rfl, hr7, -⟩, hB7⟩
          have HB7 := Lib.hid (HB6.out.trans (hB7.mono HB6.out.size))
          have HM7 := Lib.hid (HM6.out.up hB7 hB7.size)
          have HS7 := Lib.hid (HS6.out.up hB7 hB7.size)
          have HT7 := Lib.hid hr7
          clear hr7 hB7
          go_wp2_with fail
          go_loopw [13] (fun i wr => ∃ q : Nat, q ≤ 16 ∧ i = .int .i64 q ∧ Below w7.heap.size w7 wr) (fun i _ => 16 - (intOf i).toNat)
          case atStart => exact ⟨0, by omega, rfl, Below.refl _ _⟩
          case round =>
            obtain ⟨q, hq, rfl, hB⟩ := hrel
            have hz := hB.size
            by_cases hlt : q < 16
            · obtain ⟨bS, oS, rfl, hbS, q0, q1, q2⟩ := RdS.at_ (Rd.below HS7.out hB) (show q < L1.length by rw [HL1.out]; exact hlt)
              obtain ⟨bT, oT, rfl, hbT, t0, t1, t2⟩ := RdS.at_ (Rd.below HT7.out hB) (show q < L2.length by rw [HL2.out]; exact hlt)
              rw [HN2.out] at q0 q1 q2
              rw [HN1.out, HN3.out] at t0 t1 t2
              have hs4 := HN4.out q hlt
              have HMr := Lib.hid (HM7.out.up hB hz)
              obtain ⟨s, hs⟩ : ∃ s, sa q = s := ⟨_, rfl⟩
              rw [hs] at q0 q1 q2 t0 t1 t2 hs4
              obtain ⟨sg, su, sat⟩ := s
              dsimp only at q0 q1 q2 t0 t1 t2 hs4
              have hki : (q : Int) < 16 := by omega
              have hk0 : (0 : Int) ≤ (q : Int) := by omega
              have HBr := Lib.hid hB
              have BN := Lib.hid (Bx.new wr 35 #[.int .i64 sg, .bool su, .int .i64 sat])
              have hT0 := (World.cell?_alloc_lt wr (.cells #[.int .i64 sg, .bool su, .int .i64 sat] 35) ⟨bT, oT + q * 3, none⟩ (by show bT < wr.heap.size; omega)).trans t0
              have hT1 := (World.cell?_alloc_lt wr (.cells #[.int .i64 sg, .bool su, .int .i64 sat] 35) ⟨bT, oT + q * 3 + 1, none⟩ (by show bT < wr.heap.size; omega)).trans t1
              have hT2 := (World.cell?_alloc_lt wr (.cells #[.int .i64 sg, .bool su, .int .i64 sat] 35) ⟨bT, oT + q * 3 + 2, none⟩ (by show bT < wr.heap.size; omega)).trans t2
              have HTT := Lib.hid (And.intro hT0 (And.intro hT1 hT2))
              have HBN := Lib.hid (hB.alloc hz (.cells #[.int .i64 sg, .bool su, .int .i64 sat] 35))
              have HMn := Lib.hid (Rd.more (Rd.alloc HMr.out (Nat.le_refl _) (.cells #[.int .i64 sg, .bool su, .int .i64 sat] 35)) (show wr.heap.size ≤ (wr.alloc (.cells #[.int .i64 sg, .bool su, .int .i64 sat] 35)).heap.size by simp))
              have hbt : bT < (wr.alloc (.cells #[.int .i64 sg, .bool su, .int .i64 sat] 35)).heap.size := by simp; omega
              clear hs hT0 hT1 hT2 t0 t1 t2 hB
              go_upto_region 21 with (fail)
              obtain ⟨wn, hwn⟩ : ∃ wn, wr.alloc (.cells #[.int .i64 sg, .bool su, .int .i64 sat] 35) = wn := ⟨_, rfl⟩
              rw [hwn] at HBN HMn BN HTT hbt ⊢
              clear hwn
              obtain ⟨p0, p1, p2, f0, f1, f2, hgn⟩ := BN.out.c3
              cases su
              · obtain ⟨t0, t1, t2⟩ := HTT.out
                rw [if_neg (by simp)] at t0 t1 t2
                dsimp only at t0 t1 t2
                go_wp2_with fail
                go_quiet (fail)
                go_wp2_with fail
                go_roundw
                case rel => exact ⟨q + 1, by omega, by go_num, by first | exact HBN.out | exact below_drewN HBN.out _ | exact HBN.out.drew⟩
                case measure => simp [intOf]; omega
              · have HT := Lib.hid (HTO.out A4 c4 sat wn HMn.out)
                obtain ⟨tt, htt⟩ := Option.isSome_iff_exists.1 (hs4 rfl)
                rw [htt] at HT HTT
                rw [if_pos rfl] at HTT
                dsimp only [Option.getD_some, Option.isSome_some] at HT HTT
                have HOL := Lib.hid hbS
                clear htt hs4 q0 q1 q2
                go_wp2_with fail
                refine HT.out.mono ?_
                rintro e w9 ⟨rfl, hB9⟩
                have HB9 := Lib.hid (HBN.out.trans (hB9.mono HBN.out.size))
                have bn9 := BN.out.up hB9 hgn
                have x0 := (hB9.cell (p := ⟨bT, oT + q * 3, none⟩) hbt).trans HTT.out.1
                have x1 := (hB9.cell (p := ⟨bT, oT + q * 3 + 1, none⟩) hbt).trans HTT.out.2.1
                have x2 := (hB9.cell (p := ⟨bT, oT + q * 3 + 2, none⟩) hbt).trans HTT.out.2.2
                have hz9 := hB9.size
                clear hB9 p0 p1 p2 f0 f1 f2
                obtain ⟨p0, p1, p2, f0, f1, f2, hgn9⟩ := bn9.c3
                have hne1 : bT ≠ wr.heap.size := by omega
                have hne2 : wr.heap.size ≠ bT := by omega
                clear bn9
                go_wp2_with fail
                go_quiet (fail)
                go_wp2_with fail
                go_roundw
                case rel => exact ⟨q + 1, by omega, by go_num, by first | exact HB9.out.setCell (p := ⟨wr.heap.size, 2, none⟩) hz _ | exact below_drewN (HB9.out.setCell (p := ⟨wr.heap.size, 2, none⟩) hz _) _ | exact (HB9.out.setCell (p := ⟨wr.heap.size, 2, none⟩) hz _).drew⟩
                case measure => simp [intOf]; omega
            · obtain rfl : q = 16 := by omega
              go_wp2_with fail
              go_ret
              exact ⟨rfl, HB7.out.trans (hB.mono HB7.out.size)⟩
    · obtain ⟨r, hr⟩ : ∃ r, fsErr ws = r := ⟨_, rfl⟩
      have hq : fsOut ws = [] := by simp [fsOut, h0]
      rw [hr, hq] at HFS
      rw [hr] at h0
      have hrn : (r != 0) = true := by rw [bne_iff_ne]; exact h0
      clear hr hq hg hgn
      go_enter Try.func9, Try.ntmps9
      go_wp2_with fail
      refine (alive28_c w).mono ?_
      rintro e w1 ⟨rfl, hB1⟩
      go_wp2_with fail
      refine (great25_c A ws.length c _ hn).mono ?_
      rintro e w1' ⟨rfl, rfl⟩
      rw [HG.out]
      go_wp2_with fail
      refine (HFS.out _ (HR.out.up hB1 hB1.size)).mono ?_
      rintro e w2 ⟨⟨A2, c2, rfl, -, -⟩, hB2⟩
      have hb2 := hB1.trans (hB2.mono hB1.size)
      go_wp2_with fail
      go_ret
      exact ⟨rfl, hb2⟩
  · have HG := Lib.hid hg
    clear hg
    go_enter Try.func9, Try.ntmps9
    go_wp2_with fail
    refine (alive28_c w).mono ?_
    rintro e w1 ⟨rfl, hB1⟩
    go_wp2_with fail
    refine (great25_c A ws.length c _ hn).mono ?_
    rintro e w1' ⟨rfl, rfl⟩
    rw [HG.out]
    go_wp2_with fail
    go_ret
    exact ⟨rfl, hB1⟩
end Go.Proofs.Ytpifagclhhaniaa
