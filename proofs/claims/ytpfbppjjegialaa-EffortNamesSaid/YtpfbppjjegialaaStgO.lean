/- The next change of a view: the walk of stages.One. -/
import Derived.Test.YtpfbppjjegialaaStgW
import Derived.Test.YtpfbppjjegialaaStgS
import Derived.Test.YtpfbppjjegialaaKCursor
namespace Go.Proofs.Ytpfbppjjegialaa
open Go.RowKit

set_option maxRecDepth 100000 in
set_option maxHeartbeats 16000000 in
theorem sgOne_c (A : Option Addr) (ws : List Nat) (c n : Nat) (w : World) (hn : ws.length = n) (hm : n ≤ 9223372036854775807) (hc : n ≤ c) (hr : RdW w w.heap.size A ws) (ho : ∀ x ∈ ws, x < 18446744073709551616) :
    Calls Try.prog 28 #[.slice A n c] w fun e w' => EnRes w.heap.size (sgOne ws).1 (sgOne ws).2 e w' ∧ Below w.heap.size w w' := by
  subst hn
  have HR := Lib.hid hr
  have HCK := Lib.hid (ckCheck_c A ws c ws.length w rfl hm hc hr ho)
  have HLN := Lib.hid (fun W (h : RdW W W.heap.size A ws) => line_c A ws c ws.length W rfl hm hc h ho)
  by_cases h0 : ckErr ws = 0
  · obtain ⟨hpr, hs, hl, hph⟩ := ck_parts h0
    have hln := ck_ln h0
    have hb := (sizeOk_iff _).1 hs
    obtain ⟨⟨l1, l2, l3⟩, -⟩ := (lineW_iff ws).1 hl
    have hlv : lnV ws = phV (wd ws 16) (wd ws 17) (wd ws 18) := by unfold lnV; rw [if_pos hln]
    rw [hlv, hln] at HLN
    rw [h0] at HCK
    unfold phV at HLN
    have hlen : ws.length ≤ 2048 := by omega
    obtain ⟨f, hf⟩ : ∃ f, wd ws 17 = f := ⟨_, rfl⟩
    obtain ⟨t, ht⟩ : ∃ t, wd ws 18 = t := ⟨_, rfl⟩
    rw [hf, ht] at HLN
    rw [hf] at l2
    rw [ht] at l3
    by_cases p1 : wd ws 16 = 1
    · rw [p1] at HLN
      simp only [Int.cast_ofNat_Int] at HLN
      have HWN := Lib.hid (fun W (h : RdW W W.heap.size A ws) => mWantedF_c A ws c ws.length W rfl hm h ho)
      unfold EnRes at HWN
      by_cases hrc : rcErr ws = 0
      · have HV := Lib.hid (show sgOne ws = (0, batE (wtOut ws) 2) by unfold sgOne; rw [if_pos h0, if_pos p1, if_pos hrc])
        have hel : (wtOut ws).length ≤ 1024 := by
          rw [wtOut_eq hrc, List.length_map]
          have h1 := wntL_len (seenL ws) (hpOut ws)
          have h2 := hpOut_len ws
          omega
        rw [hrc] at HWN
        obtain ⟨E, hE⟩ : ∃ E, wtOut ws = E := ⟨_, rfl⟩
        rw [hE] at HWN HV hel
        have HBT := Lib.hid (fun A1 c1 H W hown hH => sgBatch_c A1 E c1 E.length 2 H W rfl (by omega) (by omega) hown hH)
        clear hr ho h0 hpr hs hl hph hln hlv hf ht p1 hrc hE hb l1 l2 l3
        go_enter Try.func28, Try.ntmps28
        go_wp2_with fail
        refine HCK.out.mono ?_
        rintro e w1 ⟨rfl, hB1⟩
        have HB1 := Lib.hid hB1
        clear hB1
        go_wp2_with fail
        refine (HLN.out _ (HR.out.up HB1.out HB1.out.size)).mono ?_
        rintro e w2 ⟨rfl, hB2⟩
        have hb2 := HB1.out.trans (hB2.mono HB1.out.size)
        have XN := Lib.hid (Bx.new w2 57 #[.int .i64 1, .int .i64 (f : Int), .int .i64 (t : Int)])
        have HBn := Lib.hid (hb2.alloc hb2.size (.cells #[.int .i64 1, .int .i64 (f : Int), .int .i64 (t : Int)] 57))
        have HRn := Lib.hid (HR.out.up HBn.out HBn.out.size)
        clear hB2 hb2
        go_wp2_with fail
        obtain ⟨q0, q1, q2, -⟩ := XN.out.c3
        refine (HWN.out _ HRn.out).mono ?_
        rintro e w3 ⟨⟨A3, c3, rfl, hown3⟩, hB3⟩
        have HB3 := Lib.hid (HBn.out.trans (hB3.mono HBn.out.size))
        have HO3 := Lib.hid (own_mono hown3 HBn.out.size)
        clear hown3 hB3 q0 q1 q2
        go_wp2_with fail
        refine (HBT.out _ _ _ _ HO3.out HB3.out.size).mono ?_
        rintro e w4 ⟨⟨A4, c4, rfl, hown4⟩, hB4⟩
        have HB4 := Lib.hid (HB3.out.trans (hB4.mono HB3.out.size))
        have HO4 := Lib.hid hown4
        clear hown4 hB4
        go_wp2_with fail
        go_ret2
        rw [HV.out]
        exact ⟨⟨A4, c4, rfl, HO4.out⟩, HB4.out⟩
      · have HV := Lib.hid (show sgOne ws = (rcErr ws, []) by unfold sgOne; rw [if_pos h0, if_pos p1, if_neg hrc])
        have hne : (rcErr ws != 0) = true := by rw [bne_iff_ne]; exact hrc
        obtain ⟨E, hE⟩ : ∃ E, wtOut ws = E := ⟨_, rfl⟩
        obtain ⟨r, hr2⟩ : ∃ r, rcErr ws = r := ⟨_, rfl⟩
        rw [hE, hr2] at HWN
        rw [hr2] at HV hne
        clear hr ho h0 hpr hs hl hph hln hlv hf ht p1 hrc hE hb l1 l2 l3 hr2
        go_enter Try.func28, Try.ntmps28
        go_wp2_with fail
        refine HCK.out.mono ?_
        rintro e w1 ⟨rfl, hB1⟩
        have HB1 := Lib.hid hB1
        clear hB1
        go_wp2_with fail
        refine (HLN.out _ (HR.out.up HB1.out HB1.out.size)).mono ?_
        rintro e w2 ⟨rfl, hB2⟩
        have hb2 := HB1.out.trans (hB2.mono HB1.out.size)
        have XN := Lib.hid (Bx.new w2 57 #[.int .i64 1, .int .i64 (f : Int), .int .i64 (t : Int)])
        have HBn := Lib.hid (hb2.alloc hb2.size (.cells #[.int .i64 1, .int .i64 (f : Int), .int .i64 (t : Int)] 57))
        have HRn := Lib.hid (HR.out.up HBn.out HBn.out.size)
        clear hB2 hb2
        go_wp2_with fail
        refine (HWN.out _ HRn.out).mono ?_
        rintro e w3 ⟨⟨A3, c3, rfl, -⟩, hB3⟩
        have HB3 := Lib.hid (HBn.out.trans (hB3.mono HBn.out.size))
        clear hB3
        go_wp2_with fail
        go_ret2
        rw [HV.out]
        exact ⟨enRes_no rfl rfl, HB3.out⟩
    · by_cases p2 : wd ws 16 = 2
      · rw [p2] at HLN
        simp only [Int.cast_ofNat_Int] at HLN
        have HWN := Lib.hid (fun W (h : RdW W W.heap.size A ws) => fwWantedF_c A ws c ws.length W rfl hm h ho)
        unfold EnRes at HWN
        by_cases hrc : hpErr ws = 0
        · have HV := Lib.hid (show sgOne ws = (0, batE (wnOut ws) 3) by unfold sgOne; rw [if_pos h0, if_neg p1, if_pos p2, if_pos hrc])
          have hel : (wnOut ws).length ≤ 1024 := (wnOut_bd hrc).1
          rw [hrc] at HWN
          obtain ⟨E, hE⟩ : ∃ E, wnOut ws = E := ⟨_, rfl⟩
          rw [hE] at HWN HV hel
          have HBT := Lib.hid (fun A1 c1 H W hown hH => sgBatch_c A1 E c1 E.length 3 H W rfl (by omega) (by omega) hown hH)
          clear hr ho h0 hpr hs hl hph hln hlv hf ht p1 p2 hrc hE hb l1 l2 l3
          go_enter Try.func28, Try.ntmps28
          go_wp2_with fail
          refine HCK.out.mono ?_
          rintro e w1 ⟨rfl, hB1⟩
          have HB1 := Lib.hid hB1
          clear hB1
          go_wp2_with fail
          refine (HLN.out _ (HR.out.up HB1.out HB1.out.size)).mono ?_
          rintro e w2 ⟨rfl, hB2⟩
          have hb2 := HB1.out.trans (hB2.mono HB1.out.size)
          have XN := Lib.hid (Bx.new w2 57 #[.int .i64 2, .int .i64 (f : Int), .int .i64 (t : Int)])
          have HBn := Lib.hid (hb2.alloc hb2.size (.cells #[.int .i64 2, .int .i64 (f : Int), .int .i64 (t : Int)] 57))
          have HRn := Lib.hid (HR.out.up HBn.out HBn.out.size)
          clear hB2 hb2
          go_wp2_with fail
          refine (HWN.out _ HRn.out).mono ?_
          rintro e w3 ⟨⟨A3, c3, rfl, hown3⟩, hB3⟩
          have HB3 := Lib.hid (HBn.out.trans (hB3.mono HBn.out.size))
          have HO3 := Lib.hid (own_mono hown3 HBn.out.size)
          clear hown3 hB3
          go_wp2_with fail
          refine (HBT.out _ _ _ _ HO3.out HB3.out.size).mono ?_
          rintro e w4 ⟨⟨A4, c4, rfl, hown4⟩, hB4⟩
          have HB4 := Lib.hid (HB3.out.trans (hB4.mono HB3.out.size))
          have HO4 := Lib.hid hown4
          clear hown4 hB4
          go_wp2_with fail
          go_ret2
          rw [HV.out]
          exact ⟨⟨A4, c4, rfl, HO4.out⟩, HB4.out⟩
        · have HV := Lib.hid (show sgOne ws = (hpErr ws, []) by unfold sgOne; rw [if_pos h0, if_neg p1, if_pos p2, if_neg hrc])
          have hne : (hpErr ws != 0) = true := by rw [bne_iff_ne]; exact hrc
          obtain ⟨E, hE⟩ : ∃ E, wnOut ws = E := ⟨_, rfl⟩
          obtain ⟨r, hr2⟩ : ∃ r, hpErr ws = r := ⟨_, rfl⟩
          rw [hE, hr2] at HWN
          rw [hr2] at HV hne
          clear hr ho h0 hpr hs hl hph hln hlv hf ht p1 p2 hrc hE hb l1 l2 l3 hr2
          go_enter Try.func28, Try.ntmps28
          go_wp2_with fail
          refine HCK.out.mono ?_
          rintro e w1 ⟨rfl, hB1⟩
          have HB1 := Lib.hid hB1
          clear hB1
          go_wp2_with fail
          refine (HLN.out _ (HR.out.up HB1.out HB1.out.size)).mono ?_
          rintro e w2 ⟨rfl, hB2⟩
          have hb2 := HB1.out.trans (hB2.mono HB1.out.size)
          have XN := Lib.hid (Bx.new w2 57 #[.int .i64 2, .int .i64 (f : Int), .int .i64 (t : Int)])
          have HBn := Lib.hid (hb2.alloc hb2.size (.cells #[.int .i64 2, .int .i64 (f : Int), .int .i64 (t : Int)] 57))
          have HRn := Lib.hid (HR.out.up HBn.out HBn.out.size)
          clear hB2 hb2
          go_wp2_with fail
          refine (HWN.out _ HRn.out).mono ?_
          rintro e w3 ⟨⟨A3, c3, rfl, -⟩, hB3⟩
          have HB3 := Lib.hid (HBn.out.trans (hB3.mono HBn.out.size))
          clear hB3
          go_wp2_with fail
          go_ret2
          rw [HV.out]
          exact ⟨enRes_no rfl rfl, HB3.out⟩
      · by_cases p3 : wd ws 16 = 3
        · rw [p3] at HLN
          simp only [Int.cast_ofNat_Int] at HLN
          have HV := Lib.hid (show sgOne ws = sgFixAt ws f by unfold sgOne; rw [if_pos h0, if_neg p1, if_neg p2, if_pos p3, sgFix_at, hf])
          have HFX := Lib.hid (fun W (h : RdW W W.heap.size A ws) => sgFix_c A ws c ws.length f 3 (t : Int) W rfl hlen (by omega) h ho)
          unfold EnRes at HFX
          obtain ⟨r, hr2⟩ : ∃ r, (sgFixAt ws f).1 = r := ⟨_, rfl⟩
          obtain ⟨E, hE⟩ : ∃ E, (sgFixAt ws f).2 = E := ⟨_, rfl⟩
          have HV2 : Hid (sgOne ws = (r, E)) := Lib.hid (by rw [HV.out, ← hr2, ← hE])
          rw [hr2, hE] at HFX
          clear hr ho h0 hpr hs hl hph hln hlv hf ht p1 p2 p3 hb l1 l2 l3 hr2 hE HV
          go_enter Try.func28, Try.ntmps28
          go_wp2_with fail
          refine HCK.out.mono ?_
          rintro e w1 ⟨rfl, hB1⟩
          have HB1 := Lib.hid hB1
          clear hB1
          go_wp2_with fail
          refine (HLN.out _ (HR.out.up HB1.out HB1.out.size)).mono ?_
          rintro e w2 ⟨rfl, hB2⟩
          have hb2 := HB1.out.trans (hB2.mono HB1.out.size)
          have XN := Lib.hid (Bx.new w2 57 #[.int .i64 3, .int .i64 (f : Int), .int .i64 (t : Int)])
          have HBn := Lib.hid (hb2.alloc hb2.size (.cells #[.int .i64 3, .int .i64 (f : Int), .int .i64 (t : Int)] 57))
          have HRn := Lib.hid (HR.out.up HBn.out HBn.out.size)
          clear hB2 hb2
          go_wp2_with fail
          refine (HFX.out _ HRn.out).mono ?_
          rintro e w3 ⟨⟨A3, c3, rfl, hown3⟩, hB3⟩
          have HB3 := Lib.hid (HBn.out.trans (hB3.mono HBn.out.size))
          have HO3 := Lib.hid (own_mono hown3 HBn.out.size)
          clear hown3 hB3
          go_wp2_with fail
          go_ret2
          rw [HV2.out]
          exact ⟨⟨A3, c3, rfl, HO3.out⟩, HB3.out⟩
        · by_cases p4 : wd ws 16 = 4
          · rw [p4] at HLN
            simp only [Int.cast_ofNat_Int] at HLN
            have hin := (phOk_iff _ _ _).1 hph
            have HNX := Lib.hid (fun W (h : RdW W W.heap.size A ws) => next_c A ws c ws.length ((f : Nat) : Int) W rfl hm (by omega) h ho)
            have HW1 : Hid (∀ (v : Int) (W : World), 0 ≤ v ∧ v ≤ 9223372036854775807 → Calls Try.prog 47 #[.int .i64 1, .int .i64 v] W fun e w' => e = .returned (.agg #[.int .i64 17, .int .u64 v]) ∧ Below W.heap.size W w') := Lib.hid fun v W hv => sgWord_c 1 v W (by omega) hv
            have HW2 : Hid (∀ (v : Int) (W : World), 0 ≤ v ∧ v ≤ 9223372036854775807 → Calls Try.prog 47 #[.int .i64 2, .int .i64 v] W fun e w' => e = .returned (.agg #[.int .i64 18, .int .u64 v]) ∧ Below W.heap.size W w') := Lib.hid fun v W hv => sgWord_c 2 v W (by omega) hv
            have hsg : sgOne ws = sgSld ws := by unfold sgOne; rw [if_pos h0, if_neg p1, if_neg p2, if_neg p3, if_pos p4]
            by_cases hnx : nxtErr ws (f : Int) = 0
            · obtain ⟨-, a1, a2, m, em, m1, m2, m3, m4, m5, m6, m7, m8, -⟩ := nxt_at hnx
              have hval : (nxtB ws (f : Int)).val = .agg #[.int .i64 (m : Int), .int .i64 ((szAt ws m : Nat) : Int), .int .i64 1, .int .i64 (bkAt ws m).typ, .bool true, .int .u64 ((bkAt ws m).next : Int)] := by
                rw [em]; unfold Bk.val; rw [m7, m8]; rfl
              rw [hval, hnx] at HNX
              have HMV := Lib.hid (fun W (h : RdW W W.heap.size A ws) => sMoveF_c A ws c ws.length (m : Int) (t : Int) W rfl hm (by omega) (by omega) h ho)
              unfold EnRes at HMV
              by_cases hmv : mvErr ws (m : Int) (t : Int) = 0
              · have e2 : sgSld ws = (0, ⟨17, m + szAt ws m⟩ :: ⟨18, t + szAt ws m⟩ :: mvOut ws (m : Int) (t : Int)) := by
                  unfold sgSld
                  rw [hf, ht, if_pos hnx, em, bkAt_at, if_pos hmv, bkAt_size, show ((m : Int) + ((szAt ws m : Nat) : Int)).toNat = m + szAt ws m by omega, show ((t : Int) + ((szAt ws m : Nat) : Int)).toNat = t + szAt ws m by omega]
                have HV := Lib.hid (hsg.trans e2)
                obtain ⟨a, u, k, ea, eu, en, n2, n10, hu, hua, han, -⟩ := slide_plain hmv
                have ea : m = a := by omega
                have eu : t = u := by omega
                subst ea eu
                have hml : (mvOut ws (m : Int) (t : Int)).length ≤ 10 := by
                  unfold mvOut
                  rw [if_pos hmv, Int.toNat_natCast, Int.toNat_natCast, mvEn_len]; omega
                rw [hmv] at HMV
                obtain ⟨z, hz2⟩ : ∃ z, szAt ws m = z := ⟨_, rfl⟩
                obtain ⟨T, hT⟩ : ∃ T, (bkAt ws m).typ = T := ⟨_, rfl⟩
                obtain ⟨N, hN⟩ : ∃ N, (bkAt ws m).next = N := ⟨_, rfl⟩
                obtain ⟨E, hE⟩ : ∃ E, mvOut ws (m : Int) (t : Int) = E := ⟨_, rfl⟩
                rw [hz2, hT, hN] at HNX
                rw [hz2, hE] at HV
                rw [hz2] at m3 m5
                rw [hE] at HMV hml
                have waz : IntKind.i64.wrap ((m : Int) + (z : Int)) = (m : Int) + (z : Int) := IntWalk.i64_in _ (by omega)
                have wuz : IntKind.i64.wrap ((t : Int) + (z : Int)) = (t : Int) + (z : Int) := IntWalk.i64_in _ (by omega)
                have HCA : Hid ((((m + z : Nat)) : Int) = (m : Int) + (z : Int)) := Lib.hid (by omega)
                have HCU : Hid ((((t + z : Nat)) : Int) = (t : Int) + (z : Int)) := Lib.hid (by omega)
                have hz10 : 2 ≤ z := m3
                have haz : m + z ≤ ws.length := m5
                have huz : t + z ≤ ws.length := by omega
                obtain ⟨i0, hi, hz0, hz1, hz2⟩ := info_parts infoEntry
                have HI := Lib.hid hi
                have HZ0 := Lib.hid hz0
                have HZ1 := Lib.hid hz1
                have HZ2 := Lib.hid hz2
                clear hi hz0 hz1 hz2
                clear hr ho h0 hpr hs hl hph hln hlv hf p1 p2 p3 p4 hb l1 l2 l3 hin hsg hnx a1 a2 em m1 m2 m3 m4 m5 m6 m7 m8 hval hmv e2 ea eu en n2 n10 hu hua han hz2 hT hN hE
                go_enter Try.func28, Try.ntmps28
                go_wp2_with fail
                refine HCK.out.mono ?_
                rintro e w1 ⟨rfl, hB1⟩
                have HB1 := Lib.hid hB1
                clear hB1
                go_wp2_with fail
                refine (HLN.out _ (HR.out.up HB1.out HB1.out.size)).mono ?_
                rintro e w2 ⟨rfl, hB2⟩
                have hb2 := HB1.out.trans (hB2.mono HB1.out.size)
                have XN := Lib.hid (Bx.new w2 57 #[.int .i64 4, .int .i64 (f : Int), .int .i64 (t : Int)])
                have HBn := Lib.hid (hb2.alloc hb2.size (.cells #[.int .i64 4, .int .i64 (f : Int), .int .i64 (t : Int)] 57))
                have HRn := Lib.hid (HR.out.up HBn.out HBn.out.size)
                clear hB2 hb2
                go_wp2_with fail
                obtain ⟨q0, q1, q2, -⟩ := XN.out.c3
                refine (HNX.out _ HRn.out).mono ?_
                rintro e w3 ⟨rfl, hB3⟩
                have hb3 := HBn.out.trans (hB3.mono HBn.out.size)
                have XB := Lib.hid (Bx.new w3 33 #[.int .i64 (m : Int), .int .i64 (z : Int), .int .i64 1, .int .i64 T, .bool true, .int .u64 (N : Int)])
                have HB4 := Lib.hid (hb3.alloc hb3.size (.cells #[.int .i64 (m : Int), .int .i64 (z : Int), .int .i64 1, .int .i64 T, .bool true, .int .u64 (N : Int)] 33))
                have HR4 := Lib.hid (HR.out.up HB4.out HB4.out.size)
                have XP4 := Lib.hid ((XN.out.up hB3 XN.out.lt).alloc (.cells #[.int .i64 (m : Int), .int .i64 (z : Int), .int .i64 1, .int .i64 T, .bool true, .int .u64 (N : Int)] 33))
                clear hB3 hb3 q0 q1 q2
                obtain ⟨q0, q1, q2, -⟩ := XP4.out.c3
                obtain ⟨b0, b1, -⟩ := XB.out.c6
                go_wp2_with fail
                refine (HMV.out _ HR4.out).mono ?_
                rintro e w5 ⟨⟨A5, c5, rfl, hown5⟩, hB5⟩
                have HB5 := Lib.hid (HB4.out.trans (hB5.mono HB4.out.size))
                have HE5 := Lib.hid (Rd.of_own hown5)
                have x5 := XB.out.up hB5 XB.out.lt
                have y5 := XP4.out.up hB5 XP4.out.lt
                have X5 := Lib.hid x5
                have Y5 := Lib.hid y5
                clear q0 q1 q2 b0 b1 hown5 hB5
                obtain ⟨-, -, r2, -, -, -, gr⟩ := y5.c3
                obtain ⟨s0, s1, -, -, -, -, -, gs⟩ := x5.c6
                clear x5 y5
                go_wp2_with fail
                refine wp_region_held_drew (S := fun X : World => X.cell? ⟨w3.heap.size, 0, none⟩ = some (.int .i64 (m : Int)) ∧ X.cell? ⟨w3.heap.size, 1, none⟩ = some (.int .i64 (z : Int)) ∧ X.cell? ⟨w2.heap.size, 2, none⟩ = some (.int .i64 (t : Int))) (by kernel_rfl) ⟨s0, s1, r2⟩ (fun hHeld => ?_)
                show wpAnyH _ _ _ _ _ 17 #[false, false, false, false, false, false, false, false, false, false, false, false, false, false, false, false, false] _ _
                refine wpAnyH_take (i := 0) (v := .pointer (some ⟨w3.heap.size, 0, none⟩)) rfl (by kernel_rfl) (by kernel_rfl) (by kernel_rfl) (fun _ _ _ h => h) (Or.inl ⟨by kernel_rfl, ?_⟩) (by assumption) ?_
                · intro X hX
                  (try dsimp only at hX)
                  go_simp
                dsimp only [Act.put, List.getElem_toArray, List.getElem_cons_zero, List.getElem_cons_succ, List.setIfInBounds_toArray, List.set_cons_zero, List.set_cons_succ]
                refine wpAnyH_take (i := 1) (v := .int .i64 (m : Int)) rfl (by kernel_rfl) (by kernel_rfl) (by kernel_rfl) (fun _ _ _ h => h) (Or.inl ⟨by kernel_rfl, ?_⟩) (by assumption) ?_
                · intro X hX
                  (try dsimp only at hX)
                  go_simp
                dsimp only [Act.put, List.getElem_toArray, List.getElem_cons_zero, List.getElem_cons_succ, List.setIfInBounds_toArray, List.set_cons_zero, List.set_cons_succ]
                refine wpAnyH_take (i := 2) (v := .pointer (some ⟨w3.heap.size, 1, none⟩)) rfl (by kernel_rfl) (by kernel_rfl) (by kernel_rfl) (fun _ _ _ h => h) (Or.inl ⟨by kernel_rfl, ?_⟩) (by assumption) ?_
                · intro X hX
                  (try dsimp only at hX)
                  go_simp
                dsimp only [Act.put, List.getElem_toArray, List.getElem_cons_zero, List.getElem_cons_succ, List.setIfInBounds_toArray, List.set_cons_zero, List.set_cons_succ]
                refine wpAnyH_take (i := 3) (v := .int .i64 (z : Int)) rfl (by kernel_rfl) (by kernel_rfl) (by kernel_rfl) (fun _ _ _ h => h) (Or.inl ⟨by kernel_rfl, ?_⟩) (by assumption) ?_
                · intro X hX
                  (try dsimp only at hX)
                  go_simp
                dsimp only [Act.put, List.getElem_toArray, List.getElem_cons_zero, List.getElem_cons_succ, List.setIfInBounds_toArray, List.set_cons_zero, List.set_cons_succ]
                refine wpAnyH_take (i := 4) (v := .int .i64 ((m : Int) + (z : Int))) rfl (by kernel_rfl) (by kernel_rfl) (by kernel_rfl) (fun _ _ _ h => h) (Or.inl ⟨by kernel_rfl, ?_⟩) (by assumption) ?_
                · intro X hX
                  (try dsimp only at hX)
                  go_simp
                dsimp only [Act.put, List.getElem_toArray, List.getElem_cons_zero, List.getElem_cons_succ, List.setIfInBounds_toArray, List.set_cons_zero, List.set_cons_succ]
                refine wpAnyH_take (i := 6) (v := .pointer (some ⟨w2.heap.size, 2, none⟩)) rfl (by kernel_rfl) (by kernel_rfl) (by kernel_rfl) (fun _ _ _ h => h) (Or.inl ⟨by kernel_rfl, ?_⟩) (by assumption) ?_
                · intro X hX
                  (try dsimp only at hX)
                  go_simp
                dsimp only [Act.put, List.getElem_toArray, List.getElem_cons_zero, List.getElem_cons_succ, List.setIfInBounds_toArray, List.set_cons_zero, List.set_cons_succ]
                refine wpAnyH_take (i := 7) (v := .int .i64 (t : Int)) rfl (by kernel_rfl) (by kernel_rfl) (by kernel_rfl) (fun _ _ _ h => h) (Or.inl ⟨by kernel_rfl, ?_⟩) (by assumption) ?_
                · intro X hX
                  (try dsimp only at hX)
                  go_simp
                dsimp only [Act.put, List.getElem_toArray, List.getElem_cons_zero, List.getElem_cons_succ, List.setIfInBounds_toArray, List.set_cons_zero, List.set_cons_succ]
                refine wpAnyH_take (i := 8) (v := .pointer (some ⟨w3.heap.size, 1, none⟩)) rfl (by kernel_rfl) (by kernel_rfl) (by kernel_rfl) (fun _ _ _ h => h) (Or.inl ⟨by kernel_rfl, ?_⟩) (by assumption) ?_
                · intro X hX
                  (try dsimp only at hX)
                  go_simp
                dsimp only [Act.put, List.getElem_toArray, List.getElem_cons_zero, List.getElem_cons_succ, List.setIfInBounds_toArray, List.set_cons_zero, List.set_cons_succ]
                refine wpAnyH_take (i := 9) (v := .int .i64 (z : Int)) rfl (by kernel_rfl) (by kernel_rfl) (by kernel_rfl) (fun _ _ _ h => h) (Or.inl ⟨by kernel_rfl, ?_⟩) (by assumption) ?_
                · intro X hX
                  (try dsimp only at hX)
                  go_simp
                dsimp only [Act.put, List.getElem_toArray, List.getElem_cons_zero, List.getElem_cons_succ, List.setIfInBounds_toArray, List.set_cons_zero, List.set_cons_succ]
                refine wpAnyH_take (i := 10) (v := .int .i64 ((t : Int) + (z : Int))) rfl (by kernel_rfl) (by kernel_rfl) (by kernel_rfl) (fun _ _ _ h => h) (Or.inl ⟨by kernel_rfl, ?_⟩) (by assumption) ?_
                · intro X hX
                  (try dsimp only at hX)
                  go_simp
                dsimp only [Act.put, List.getElem_toArray, List.getElem_cons_zero, List.getElem_cons_succ, List.setIfInBounds_toArray, List.set_cons_zero, List.set_cons_succ]
                refine wpAnyH_take (i := 13) (v := .slice A5 E.length c5) rfl (by kernel_rfl) (by kernel_rfl) (by kernel_rfl) (fun _ _ _ h => h) (Or.inl ⟨by kernel_rfl, ?_⟩) (by assumption) ?_
                · intro X hX
                  (try dsimp only at hX)
                  go_simp
                dsimp only [Act.put, List.getElem_toArray, List.getElem_cons_zero, List.getElem_cons_succ, List.setIfInBounds_toArray, List.set_cons_zero, List.set_cons_succ]
                simp only [List.setIfInBounds_toArray, List.set_cons_zero, List.set_cons_succ]
                refine wpAnyH_ready (rs := [5]) (by kernel_rfl) (by simp) ?_
                refine AllReadyH.cons rfl (fun K hK => ?_) AllReadyH.nil
                go_simp
                refine (HW1.out _ _ (by omega)).mono ?_
                rintro e w6 ⟨rfl, hB6⟩
                go_simp
                have HB6 := Lib.hid (HB5.out.trans (((Below.refl w5.heap.size w5).drew.trans hB6).mono HB5.out.size))
                have HE6 := Lib.hid (HE5.out.up ((Below.refl w5.heap.size w5).drew.trans hB6) hB6.size)
                have s0 := (hB6.cell (p := ⟨w3.heap.size, 0, none⟩) gs).trans s0
                have s1 := (hB6.cell (p := ⟨w3.heap.size, 1, none⟩) gs).trans s1
                have r2 := (hB6.cell (p := ⟨w2.heap.size, 2, none⟩) gr).trans r2
                have gs : w3.heap.size < w6.heap.size := Nat.lt_of_lt_of_le gs hB6.size
                have gr : w2.heap.size < w6.heap.size := Nat.lt_of_lt_of_le gr hB6.size
                refine hK.out _ _ ⟨s0, s1, r2⟩ (fun HS1 => ?_)
                clear hK K hB6 hHeld
                refine wpAnyH_ready (rs := [11]) (by kernel_rfl) (by simp) ?_
                refine AllReadyH.cons rfl (fun K hK => ?_) AllReadyH.nil
                go_simp
                refine (HW2.out _ _ (by omega)).mono ?_
                rintro e w7 ⟨rfl, hB7⟩
                go_simp
                have HB7 := Lib.hid (HB6.out.trans (hB7.mono HB6.out.size))
                have HE7 := Lib.hid (HE6.out.up hB7 hB7.size)
                have s0 := (hB7.cell (p := ⟨w3.heap.size, 0, none⟩) gs).trans s0
                have s1 := (hB7.cell (p := ⟨w3.heap.size, 1, none⟩) gs).trans s1
                have r2 := (hB7.cell (p := ⟨w2.heap.size, 2, none⟩) gr).trans r2
                have gs : w3.heap.size < w7.heap.size := Nat.lt_of_lt_of_le gs hB7.size
                have gr : w2.heap.size < w7.heap.size := Nat.lt_of_lt_of_le gr hB7.size
                refine hK.out _ _ ⟨s0, s1, r2⟩ (fun HS2 => ?_)
                clear hK K hB7 HS1
                refine wpAnyH_ready (rs := [12]) (by kernel_rfl) (by simp) ?_
                refine AllReadyH.cons rfl (fun K hK => ?_) AllReadyH.nil
                go_simp
                refine hK.out _ _ ⟨(World.cell?_alloc_lt w7 _ ⟨w3.heap.size, 0, none⟩ gs).trans s0, (World.cell?_alloc_lt w7 _ ⟨w3.heap.size, 1, none⟩ gs).trans s1, (World.cell?_alloc_lt w7 _ ⟨w2.heap.size, 2, none⟩ gr).trans r2⟩ (fun HS3 => ?_)
                clear hK K HS2
                refine wpAnyH_ready (rs := [14]) (by kernel_rfl) (by simp) ?_
                refine AllReadyH.cons rfl (fun K hK => ?_) AllReadyH.nil
                rw [if_pos (by rfl)]
                refine wp_append_rd _ _ _ 24 (by rfl) w7.heap.size 50 i0 _ 2 16 Try.underlying24 HI.out HZ0.out HZ1.out HZ2.out rfl (by decide) (.slice (some ⟨w7.heap.size, 0, none⟩) 2 2) 2 [.int .i64 17, .int .u64 ((m : Int) + (z : Int)), .int .i64 18, .int .u64 ((t : Int) + (z : Int))] (by rfl) (own_made (n := 2) (sz := 2) w7 50 #[.int .i64 17, .int .u64 ((m : Int) + (z : Int)), .int .i64 18, .int .u64 ((t : Int) + (z : Int))] (Nat.le_refl _) (by rfl) (by unfold maxLen; omega)) w7.heap.size A5 E.length c5 (E.flatMap En.cells) (by rfl) (by rw [flat_len En.cells 2 En.len]) (Rd.alloc HE7.out (Nat.le_refl _) _) (cells_one En.one _) (by unfold maxLen; omega) (by omega) (by simp) ?_
                intro v1 w8 hown1 hg1
                have hB8 := below_append0 ((Below.refl w7.heap.size w7).alloc (Nat.le_refl _) _) (by simp) (own_made (n := 2) (sz := 2) w7 50 #[.int .i64 17, .int .u64 ((m : Int) + (z : Int)), .int .i64 18, .int .u64 ((t : Int) + (z : Int))] (Nat.le_refl _) (by rfl) (by unfold maxLen; omega)) hg1
                refine hK.out _ _ ⟨(hB8.cell (p := ⟨w3.heap.size, 0, none⟩) gs).trans s0, (hB8.cell (p := ⟨w3.heap.size, 1, none⟩) gs).trans s1, (hB8.cell (p := ⟨w2.heap.size, 2, none⟩) gr).trans r2⟩ (fun HS4 => ?_)
                have HB8 := Lib.hid (HB7.out.trans (hB8.mono HB7.out.size))
                have h1 := own_mono hown1 HB7.out.size
                rw [Nat.add_comm] at h1
                have H1 := Lib.hid h1
                clear hK K HS3 hB8 hown1 hg1 h1
                simp only [Act.put, List.setIfInBounds_toArray, List.set_cons_zero, List.set_cons_succ]
                refine wpAnyH_take (i := 15) (v := v1) rfl (by kernel_rfl) (by kernel_rfl) (by kernel_rfl) (fun _ _ _ h => h) (Or.inl ⟨by kernel_rfl, ?_⟩) (by assumption) ?_
                · intro X hX
                  (try dsimp only at hX)
                  go_simp
                dsimp only [Act.put, List.getElem_toArray, List.getElem_cons_zero, List.getElem_cons_succ, List.setIfInBounds_toArray, List.set_cons_zero, List.set_cons_succ]
                refine wpAnyH_take (i := 16) (v := .int .i64 0) rfl (by kernel_rfl) (by kernel_rfl) (by kernel_rfl) (fun _ _ _ h => h) (Or.inl ⟨by kernel_rfl, ?_⟩) (by assumption) ?_
                · intro X hX
                  (try dsimp only at hX)
                  go_simp
                dsimp only [Act.put, List.getElem_toArray, List.getElem_cons_zero, List.getElem_cons_succ, List.setIfInBounds_toArray, List.set_cons_zero, List.set_cons_succ]
                refine wpAnyH_done (by kernel_rfl) ?_ _
                obtain ⟨A9, c9, rfl⟩ := own_slice H1.out
                go_simp
                go_wp2_with fail
                go_ret2
                rw [HV.out]
                refine ⟨⟨A9, c9, rfl, ?_⟩, HB8.out⟩
                have h2 := H1.out
                rw [← HCA.out, ← HCU.out] at h2
                exact h2
              · have HV := Lib.hid (show sgOne ws = (mvErr ws (m : Int) (t : Int), []) by rw [hsg]; unfold sgSld; rw [hf, ht, if_pos hnx, em, bkAt_at, if_neg hmv])
                have hne : (mvErr ws (m : Int) (t : Int) != 0) = true := by rw [bne_iff_ne]; exact hmv
                obtain ⟨z, hz2⟩ : ∃ z, szAt ws m = z := ⟨_, rfl⟩
                obtain ⟨T, hT⟩ : ∃ T, (bkAt ws m).typ = T := ⟨_, rfl⟩
                obtain ⟨N, hN⟩ : ∃ N, (bkAt ws m).next = N := ⟨_, rfl⟩
                obtain ⟨E, hE⟩ : ∃ E, mvOut ws (m : Int) (t : Int) = E := ⟨_, rfl⟩
                obtain ⟨r, hr2⟩ : ∃ r, mvErr ws (m : Int) (t : Int) = r := ⟨_, rfl⟩
                rw [hz2, hT, hN] at HNX
                rw [hE, hr2] at HMV
                rw [hr2] at HV hne
                clear hr ho h0 hpr hs hl hph hln hlv hf p1 p2 p3 p4 hb l1 l2 l3 hin hsg hnx a1 a2 em m1 m2 m3 m4 m5 m6 m7 m8 hval hmv hz2 hT hN hE hr2
                go_enter Try.func28, Try.ntmps28
                go_wp2_with fail
                refine HCK.out.mono ?_
                rintro e w1 ⟨rfl, hB1⟩
                have HB1 := Lib.hid hB1
                clear hB1
                go_wp2_with fail
                refine (HLN.out _ (HR.out.up HB1.out HB1.out.size)).mono ?_
                rintro e w2 ⟨rfl, hB2⟩
                have hb2 := HB1.out.trans (hB2.mono HB1.out.size)
                have XN := Lib.hid (Bx.new w2 57 #[.int .i64 4, .int .i64 (f : Int), .int .i64 (t : Int)])
                have HBn := Lib.hid (hb2.alloc hb2.size (.cells #[.int .i64 4, .int .i64 (f : Int), .int .i64 (t : Int)] 57))
                have HRn := Lib.hid (HR.out.up HBn.out HBn.out.size)
                clear hB2 hb2
                go_wp2_with fail
                obtain ⟨q0, q1, q2, -⟩ := XN.out.c3
                refine (HNX.out _ HRn.out).mono ?_
                rintro e w3 ⟨rfl, hB3⟩
                have hb3 := HBn.out.trans (hB3.mono HBn.out.size)
                have XB := Lib.hid (Bx.new w3 33 #[.int .i64 (m : Int), .int .i64 (z : Int), .int .i64 1, .int .i64 T, .bool true, .int .u64 (N : Int)])
                have HB4 := Lib.hid (hb3.alloc hb3.size (.cells #[.int .i64 (m : Int), .int .i64 (z : Int), .int .i64 1, .int .i64 T, .bool true, .int .u64 (N : Int)] 33))
                have HR4 := Lib.hid (HR.out.up HB4.out HB4.out.size)
                have XP4 := Lib.hid ((XN.out.up hB3 XN.out.lt).alloc (.cells #[.int .i64 (m : Int), .int .i64 (z : Int), .int .i64 1, .int .i64 T, .bool true, .int .u64 (N : Int)] 33))
                clear hB3 hb3 q0 q1 q2
                obtain ⟨q0, q1, q2, -⟩ := XP4.out.c3
                obtain ⟨b0, b1, -⟩ := XB.out.c6
                go_wp2_with fail
                refine (HMV.out _ HR4.out).mono ?_
                rintro e w5 ⟨⟨A5, c5, rfl, -⟩, hB5⟩
                have HB5 := Lib.hid (HB4.out.trans (hB5.mono HB4.out.size))
                clear q0 q1 q2 b0 b1 hB5
                go_wp2_with fail
                go_ret2
                rw [HV.out]
                exact ⟨enRes_no rfl rfl, HB5.out⟩
            · have HV := Lib.hid (show sgOne ws = (6, []) by rw [hsg]; unfold sgSld; rw [hf, if_neg hnx])
              have hne : (nxtErr ws (f : Int) != 0) = true := by rw [bne_iff_ne]; exact hnx
              obtain ⟨r, hr2⟩ : ∃ r, nxtErr ws (f : Int) = r := ⟨_, rfl⟩
              obtain ⟨B, hBv⟩ : ∃ B, nxtB ws (f : Int) = B := ⟨_, rfl⟩
              rw [hr2, hBv] at HNX
              rw [hr2] at hne
              obtain ⟨xa, xs, xk, xt, xm, xn⟩ := B
              unfold Bk.val at HNX
              dsimp only at HNX
              clear hr ho h0 hpr hs hl hph hln hlv hf p1 p2 p3 p4 hb l1 l2 l3 hin hsg hnx hr2 hBv
              go_enter Try.func28, Try.ntmps28
              go_wp2_with fail
              refine HCK.out.mono ?_
              rintro e w1 ⟨rfl, hB1⟩
              have HB1 := Lib.hid hB1
              clear hB1
              go_wp2_with fail
              refine (HLN.out _ (HR.out.up HB1.out HB1.out.size)).mono ?_
              rintro e w2 ⟨rfl, hB2⟩
              have hb2 := HB1.out.trans (hB2.mono HB1.out.size)
              have XN := Lib.hid (Bx.new w2 57 #[.int .i64 4, .int .i64 (f : Int), .int .i64 (t : Int)])
              have HBn := Lib.hid (hb2.alloc hb2.size (.cells #[.int .i64 4, .int .i64 (f : Int), .int .i64 (t : Int)] 57))
              have HRn := Lib.hid (HR.out.up HBn.out HBn.out.size)
              clear hB2 hb2
              go_wp2_with fail
              obtain ⟨q0, q1, q2, -⟩ := XN.out.c3
              refine (HNX.out _ HRn.out).mono ?_
              rintro e w3 ⟨rfl, hB3⟩
              have hb3 := HBn.out.trans (hB3.mono HBn.out.size)
              have HB4 := Lib.hid (hb3.alloc hb3.size (.cells #[.int .i64 xa, .int .i64 xs, .int .i64 xk, .int .i64 xt, .bool xm, .int .u64 (xn : Int)] 33))
              clear hB3 hb3 q0 q1 q2
              go_wp2_with fail
              go_ret2
              rw [HV.out]
              exact ⟨enRes_no rfl rfl, HB4.out⟩
          · have p0 : wd ws 16 = 0 := by
              rcases (phOk_iff _ _ _).1 hph with h | h | h <;> omega
            rw [p0] at HLN
            simp only [Int.cast_ofNat_Int] at HLN
            have HV := Lib.hid (show sgOne ws = (6, []) by unfold sgOne; rw [if_pos h0, if_neg p1, if_neg p2, if_neg p3, if_neg p4])
            clear hr ho h0 hpr hs hl hph hln hlv hf ht p1 p2 p3 p4 p0 hb l1 l2 l3
            go_enter Try.func28, Try.ntmps28
            go_wp2_with fail
            refine HCK.out.mono ?_
            rintro e w1 ⟨rfl, hB1⟩
            have HB1 := Lib.hid hB1
            clear hB1
            go_wp2_with fail
            refine (HLN.out _ (HR.out.up HB1.out HB1.out.size)).mono ?_
            rintro e w2 ⟨rfl, hB2⟩
            have hb2 := HB1.out.trans (hB2.mono HB1.out.size)
            have XN := Lib.hid (Bx.new w2 57 #[.int .i64 0, .int .i64 (f : Int), .int .i64 (t : Int)])
            have HBn := Lib.hid (hb2.alloc hb2.size (.cells #[.int .i64 0, .int .i64 (f : Int), .int .i64 (t : Int)] 57))
            have HRn := Lib.hid (HR.out.up HBn.out HBn.out.size)
            clear hB2 hb2
            go_wp2_with fail
            go_ret2
            rw [HV.out]
            exact ⟨enRes_no rfl rfl, HBn.out⟩
  · have HV := Lib.hid (show sgOne ws = (ckErr ws, []) by unfold sgOne; rw [if_neg h0])
    have hne : (ckErr ws != 0) = true := by rw [bne_iff_ne]; exact h0
    obtain ⟨r, hr2⟩ : ∃ r, ckErr ws = r := ⟨_, rfl⟩
    rw [hr2] at HCK HV hne
    clear hr ho h0 hr2 HLN
    go_enter Try.func28, Try.ntmps28
    go_wp2_with fail
    refine HCK.out.mono ?_
    rintro e w1 ⟨rfl, hB1⟩
    go_wp2_with fail
    go_ret2
    rw [HV.out]
    exact ⟨enRes_no rfl rfl, hB1⟩
end Go.Proofs.Ytpfbppjjegialaa
