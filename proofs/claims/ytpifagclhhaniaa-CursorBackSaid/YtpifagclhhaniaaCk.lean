/- The error of a view: what the program returns. -/
import Derived.Test.YtpifagclhhaniaaCur1
import Derived.Test.YtpifagclhhaniaaMvd
import Derived.Test.YtpifagclhhaniaaFwr
namespace Go.Proofs.Ytpifagclhhaniaa
open Go.RowKit

theorem ckErr_ln {ws : List Nat} {r : Int} (h : lnErr ws = r) (h0 : r ≠ 0) : ckErr ws = r := by
  subst h
  simp [ckErr, h0]
theorem lnV_no {ws : List Nat} (h0 : lnErr ws ≠ 0) : lnV ws = phV 0 0 0 := by simp [lnV, h0]
theorem ckErr_mv {ws : List Nat} (h : lnErr ws = 0) (h4 : wd ws 16 = 4) (hm : mvd ws 128 (wd ws 18) = false) : ckErr ws = 50 := by simp [ckErr, h, h4, hm]
theorem ckErr_sl {ws : List Nat} (h : lnErr ws = 0) (h4 : wd ws 16 = 4) (hm : mvd ws 128 (wd ws 18) = true) : ckErr ws = rdErr ws (wd ws 17 : Nat) (wd ws 18 : Nat) := by simp [ckErr, h, h4, hm]
theorem ckErr_fx {ws : List Nat} (h : lnErr ws = 0) (h3 : wd ws 16 = 3) : ckErr ws = rdErr ws 128 128 := by simp [ckErr, h, h3]
theorem ckErr_mk {ws : List Nat} (h : lnErr ws = 0) (h3 : wd ws 16 < 3) : ckErr ws = hpErr ws := by
  unfold ckErr
  rw [if_pos h, if_neg (by omega), if_neg (by omega)]

set_option maxRecDepth 100000 in
set_option maxHeartbeats 4000000 in
theorem cCheck_c (A : Option Addr) (ws : List Nat) (c n : Nat) (w : World) (hn : ws.length = n) (hm : n ≤ 9223372036854775807) (hc : n ≤ c) (hr : RdW w w.heap.size A ws) (ho : ∀ x ∈ ws, x < 18446744073709551616) :
    Calls Try.prog 64 #[.slice A n c] w fun e w' => e = .returned (.tuple #[lnV ws, .int .i64 (ckErr ws)]) ∧ Below w.heap.size w w' := by
  subst hn
  have HR := Lib.hid hr
  have HO := Lib.hid ho
  clear hr ho
  have b0 := Bx.new w 61 #[.int .i64 0, .int .i64 0, .int .i64 0]
  have HC := Lib.hid (line_c A ws c ws.length (w.alloc (.cells #[.int .i64 0, .int .i64 0, .int .i64 0] 61)) rfl hm hc ((HR.out.alloc (Nat.le_refl _) _).more (by simp)) HO.out)
  rw [World.size_alloc] at HC
  by_cases h0 : lnErr ws = 0
  · obtain ⟨h1, h2⟩ := lnErr_zero h0
    obtain ⟨hs, h3, h4⟩ := prErr_zero h1
    obtain ⟨⟨l0, l1, l2⟩, -⟩ := (lineW_iff ws).1 h3
    have hbd := fr_bd ws hs
    have hlv : lnV ws = phV (wd ws 16) (wd ws 17) (wd ws 18) := by simp [lnV, h0]
    have hp4 : wd ws 16 ≤ 4 := by rcases (phOk_iff _ _ _).1 h4 with h | h | h <;> omega
    have HMV := Lib.hid (fun W (h : RdW W W.heap.size A ws) => moved_c A ws c ws.length (wd ws 18) W rfl (by omega) (by omega) l2 h HO.out)
    have HRD := Lib.hid (fun (f s : Int) hf hs W (h : RdW W W.heap.size A ws) => fwRead_c A ws c ws.length f s W rfl hm hf hs h HO.out)
    have HMC := Lib.hid (fun W (h : RdW W W.heap.size A ws) => mCheck_c A ws c ws.length W rfl hm h HO.out)
    have HL0 := Lib.hid h0
    have HE1 := Lib.hid (fun h4 hm => ckErr_mv HL0.out h4 hm)
    have HE2 := Lib.hid (fun h4 hm => ckErr_sl HL0.out h4 hm)
    have HE3 := Lib.hid (fun h3 => ckErr_fx HL0.out h3)
    have HE4 := Lib.hid (fun h3 => ckErr_mk HL0.out h3)
    have HRU : Hid (∀ w1 : World, Below w.heap.size w w1 → RdW (w1.alloc (.cells #[.int .i64 (wd ws 16 : Int), .int .i64 (wd ws 17 : Int), .int .i64 (wd ws 18 : Int)] 61)) (w1.alloc (.cells #[.int .i64 (wd ws 16 : Int), .int .i64 (wd ws 17 : Int), .int .i64 (wd ws 18 : Int)] 61)).heap.size A ws) := Lib.hid fun w1 h2 => ((HR.out.up h2 h2.size).alloc (Nat.le_refl _) _).more (by simp)
    rw [h0, hlv] at HC
    rw [hlv]
    unfold phV at HC ⊢
    have hlen2 : ws.length ≤ 2048 := hbd.2.1
    clear h0 h1 h2 hs h3 h4 hlv b0 hbd
    obtain ⟨x, hx⟩ : ∃ x, wd ws 16 = x := ⟨_, rfl⟩
    obtain ⟨y, hy⟩ : ∃ y, wd ws 17 = y := ⟨_, rfl⟩
    obtain ⟨z, hz⟩ : ∃ z, wd ws 18 = z := ⟨_, rfl⟩
    rw [hx] at hp4
    rw [hx, hy, hz] at HC HRU ⊢
    rw [hx, hz] at HE1
    rw [hx, hy, hz] at HE2
    rw [hx] at HE3 HE4
    rw [hz] at HMV l2
    rw [hy] at l1
    clear hx hy hz l0
    by_cases x4 : x = 4
    · have e4 : ((x : Int) == 4) = true := by rw [beq_iff_eq]; omega
      have e4n : (x == 4) = true := by rw [beq_iff_eq]; exact x4
      obtain ⟨m, hm2⟩ : ∃ m, mvd ws 128 z = m := ⟨_, rfl⟩
      rw [hm2] at HMV HE1 HE2
      cases m
      · have HV := Lib.hid (HE1.out x4 rfl)
        clear HE1 HE2 HE3 HE4 x4 hm2
        go_enter Try.func64, Try.ntmps64
        go_wp2_with fail
        refine HC.out.mono ?_
        rintro e w1 ⟨rfl, hB1⟩
        have hb1 := below_call hB1
        have HRW := Lib.hid (HRU.out _ hb1)
        have b1 := Bx.of_new hB1
        have B1 := Lib.hid b1
        have HB1 := Lib.hid hb1
        obtain ⟨q0, q1, q2, f0, f1, f2, hgl⟩ := b1.c3
        clear hB1 hb1 b1
        go_wp2_with fail
        have bw := Bx.new w1 61 #[.int .i64 (x : Int), .int .i64 (y : Int), .int .i64 (z : Int)]
        have hbw := HB1.out.alloc HB1.out.size (.cells #[.int .i64 (x : Int), .int .i64 (y : Int), .int .i64 (z : Int)] 61)
        have hgw := B1.out.alloc (.cells #[.int .i64 (x : Int), .int .i64 (y : Int), .int .i64 (z : Int)] 61)
        obtain ⟨W0, hW0⟩ : ∃ W0, w1.alloc (.cells #[.int .i64 (x : Int), .int .i64 (y : Int), .int .i64 (z : Int)] 61) = W0 := ⟨_, rfl⟩
        rw [hW0] at bw hbw hgw HRW ⊢
        clear hW0 q0 q1 q2 f0 f1 f2
        have hg1 := bw.lt
        have hg0 := hgw.lt
        obtain ⟨p0, p1, p2, -⟩ := bw.c3
        have BW := Lib.hid bw
        have HBW := Lib.hid hbw
        have HGW := Lib.hid hgw
        clear bw hbw hgw
        go_quiet (fail)
        go_wp2_with fail
        refine (HMV.out _ (show RdW (W0.drewN _) (W0.drewN _).heap.size A ws from HRW.out)).mono ?_
        rintro e w2 ⟨rfl, hB2⟩
        have hb2 := (below_drewN (Below.refl W0.heap.size W0) _).trans hB2
        have BW2 := Lib.hid (BW.out.up hb2 BW.out.lt)
        have HG2 := Lib.hid (HGW.out.up hb2 HGW.out.lt)
        have HB2 := Lib.hid (HBW.out.trans (hb2.mono HBW.out.size))
        have HR2 := Lib.hid (HRW.out.up hb2 hb2.size)
        obtain ⟨p0, p1, p2, -⟩ := BW2.out.c3
        obtain ⟨q0, q1, q2, f0, f1, f2, hgl⟩ := HG2.out.c3
        clear hB2 hb2
        go_wp2_with fail
        exact bodyPost_ret (v := .tuple #[.agg #[.int .i64 (x : Int), .int .i64 (y : Int), .int .i64 (z : Int)], .int .i64 50]) (results_ph Try.results64 _ (((HG2.out.set_ 0 _).set_ 1 _).set_ 2 _) rfl rfl) rfl ⟨by rw [HV.out], ((HB2.out.setCell (Nat.le_refl _) _).setCell (Nat.le_refl _) _).setCell (Nat.le_refl _) _⟩
      · have HV := Lib.hid (HE2.out x4 rfl)
        have HRQ := Lib.hid (fun W h => HRD.out (y : Int) (z : Int) (by omega) (by omega) W h)
        unfold RdRes at HRQ
        obtain ⟨r, hr⟩ : ∃ r, rdErr ws (y : Int) (z : Int) = r := ⟨_, rfl⟩
        obtain ⟨q, hq⟩ : ∃ q, rdMv ws (y : Int) (z : Int) = q := ⟨_, rfl⟩
        rw [hr, hq] at HRQ
        rw [hr] at HV
        clear HE1 HE2 HE3 HE4 x4 hm2 hr hq
        go_enter Try.func64, Try.ntmps64
        go_wp2_with fail
        refine HC.out.mono ?_
        rintro e w1 ⟨rfl, hB1⟩
        have hb1 := below_call hB1
        have HRW := Lib.hid (HRU.out _ hb1)
        have b1 := Bx.of_new hB1
        have B1 := Lib.hid b1
        have HB1 := Lib.hid hb1
        obtain ⟨q0, q1, q2, f0, f1, f2, hgl⟩ := b1.c3
        clear hB1 hb1 b1
        go_wp2_with fail
        have bw := Bx.new w1 61 #[.int .i64 (x : Int), .int .i64 (y : Int), .int .i64 (z : Int)]
        have hbw := HB1.out.alloc HB1.out.size (.cells #[.int .i64 (x : Int), .int .i64 (y : Int), .int .i64 (z : Int)] 61)
        have hgw := B1.out.alloc (.cells #[.int .i64 (x : Int), .int .i64 (y : Int), .int .i64 (z : Int)] 61)
        obtain ⟨W0, hW0⟩ : ∃ W0, w1.alloc (.cells #[.int .i64 (x : Int), .int .i64 (y : Int), .int .i64 (z : Int)] 61) = W0 := ⟨_, rfl⟩
        rw [hW0] at bw hbw hgw HRW ⊢
        clear hW0 q0 q1 q2 f0 f1 f2
        have hg1 := bw.lt
        have hg0 := hgw.lt
        obtain ⟨p0, p1, p2, -⟩ := bw.c3
        have BW := Lib.hid bw
        have HBW := Lib.hid hbw
        have HGW := Lib.hid hgw
        clear bw hbw hgw
        go_quiet (fail)
        go_wp2_with fail
        refine (HMV.out _ (show RdW (W0.drewN _) (W0.drewN _).heap.size A ws from HRW.out)).mono ?_
        rintro e w2 ⟨rfl, hB2⟩
        have hb2 := (below_drewN (Below.refl W0.heap.size W0) _).trans hB2
        have BW2 := Lib.hid (BW.out.up hb2 BW.out.lt)
        have HG2 := Lib.hid (HGW.out.up hb2 HGW.out.lt)
        have HB2 := Lib.hid (HBW.out.trans (hb2.mono HBW.out.size))
        have HR2 := Lib.hid (HRW.out.up hb2 hb2.size)
        obtain ⟨p0, p1, p2, -⟩ := BW2.out.c3
        obtain ⟨q0, q1, q2, f0, f1, f2, hgl⟩ := HG2.out.c3
        clear hB2 hb2
        go_wp2_with fail
        refine (HRQ.out _ HR2.out).mono ?_
        rintro e w3 ⟨⟨A1, c1, rfl, -, -⟩, hB3⟩
        have hb3 := (Below.refl w2.heap.size w2).trans hB3
        have BW3 := Lib.hid (BW2.out.up hb3 BW2.out.lt)
        have HG3 := Lib.hid (HG2.out.up hb3 HG2.out.lt)
        have HB3 := Lib.hid (HB2.out.trans (hb3.mono HB2.out.size))
        obtain ⟨p0, p1, p2, -⟩ := BW3.out.c3
        obtain ⟨q0, q1, q2, f0, f1, f2, hgl⟩ := HG3.out.c3
        clear hB3 hb3
        by_cases hr0 : r = 0
        · subst hr0
          go_wp2_with fail
          exact bodyPost_ret (v := .tuple #[.agg #[.int .i64 (x : Int), .int .i64 (y : Int), .int .i64 (z : Int)], .int .i64 0]) (results_ph Try.results64 _ (((HG3.out.set_ 0 _).set_ 1 _).set_ 2 _) rfl rfl) rfl ⟨by rw [HV.out], ((HB3.out.setCell (Nat.le_refl _) _).setCell (Nat.le_refl _) _).setCell (Nat.le_refl _) _⟩
        · have hrn : (r != 0) = true := by rw [bne_iff_ne]; exact hr0
          clear hr0
          go_wp2_with fail
          exact bodyPost_ret (v := .tuple #[.agg #[.int .i64 (x : Int), .int .i64 (y : Int), .int .i64 (z : Int)], .int .i64 r]) (results_ph Try.results64 _ (((HG3.out.set_ 0 _).set_ 1 _).set_ 2 _) rfl rfl) rfl ⟨by rw [HV.out], ((HB3.out.setCell (Nat.le_refl _) _).setCell (Nat.le_refl _) _).setCell (Nat.le_refl _) _⟩
    · have e4 : ((x : Int) == 4) = false := by rw [beq_eq_false_iff_ne]; omega
      have e4n : (x == 4) = false := by rw [beq_eq_false_iff_ne]; exact x4
      by_cases x3 : x = 3
      · have e3 : ((x : Int) == 3) = true := by rw [beq_iff_eq]; omega
        have e3n : (x == 3) = true := by rw [beq_iff_eq]; exact x3
        have HV := Lib.hid (HE3.out x3)
        have HRQ := Lib.hid (fun W h => HRD.out 128 128 (by omega) (by omega) W h)
        unfold RdRes at HRQ
        obtain ⟨r, hr⟩ : ∃ r, rdErr ws 128 128 = r := ⟨_, rfl⟩
        obtain ⟨q, hq⟩ : ∃ q, rdMv ws 128 128 = q := ⟨_, rfl⟩
        rw [hr, hq] at HRQ
        rw [hr] at HV
        clear HE1 HE2 HE3 HE4 x4 x3 hr hq
        go_enter Try.func64, Try.ntmps64
        go_wp2_with fail
        refine HC.out.mono ?_
        rintro e w1 ⟨rfl, hB1⟩
        have hb1 := below_call hB1
        have HRW := Lib.hid (HRU.out _ hb1)
        have b1 := Bx.of_new hB1
        have B1 := Lib.hid b1
        have HB1 := Lib.hid hb1
        obtain ⟨q0, q1, q2, f0, f1, f2, hgl⟩ := b1.c3
        clear hB1 hb1 b1
        go_wp2_with fail
        have bw := Bx.new w1 61 #[.int .i64 (x : Int), .int .i64 (y : Int), .int .i64 (z : Int)]
        have hbw := HB1.out.alloc HB1.out.size (.cells #[.int .i64 (x : Int), .int .i64 (y : Int), .int .i64 (z : Int)] 61)
        have hgw := B1.out.alloc (.cells #[.int .i64 (x : Int), .int .i64 (y : Int), .int .i64 (z : Int)] 61)
        obtain ⟨W0, hW0⟩ : ∃ W0, w1.alloc (.cells #[.int .i64 (x : Int), .int .i64 (y : Int), .int .i64 (z : Int)] 61) = W0 := ⟨_, rfl⟩
        rw [hW0] at bw hbw hgw HRW ⊢
        clear hW0 q0 q1 q2 f0 f1 f2
        have hg1 := bw.lt
        have hg0 := hgw.lt
        obtain ⟨p0, p1, p2, -⟩ := bw.c3
        have BW := Lib.hid bw
        have HBW := Lib.hid hbw
        have HGW := Lib.hid hgw
        clear bw hbw hgw
        refine (HRQ.out _ HRW.out).mono ?_
        rintro e w3 ⟨⟨A1, c1, rfl, -, -⟩, hB3⟩
        have hb3 := (Below.refl W0.heap.size W0).trans hB3
        have BW3 := Lib.hid (BW.out.up hb3 BW.out.lt)
        have HG3 := Lib.hid (HGW.out.up hb3 HGW.out.lt)
        have HB3 := Lib.hid (HBW.out.trans (hb3.mono HBW.out.size))
        obtain ⟨p0, p1, p2, -⟩ := BW3.out.c3
        obtain ⟨q0, q1, q2, f0, f1, f2, hgl⟩ := HG3.out.c3
        clear hB3 hb3
        by_cases hr0 : r = 0
        · subst hr0
          go_wp2_with fail
          exact bodyPost_ret (v := .tuple #[.agg #[.int .i64 (x : Int), .int .i64 (y : Int), .int .i64 (z : Int)], .int .i64 0]) (results_ph Try.results64 _ (((HG3.out.set_ 0 _).set_ 1 _).set_ 2 _) rfl rfl) rfl ⟨by rw [HV.out], ((HB3.out.setCell (Nat.le_refl _) _).setCell (Nat.le_refl _) _).setCell (Nat.le_refl _) _⟩
        · have hrn : (r != 0) = true := by rw [bne_iff_ne]; exact hr0
          clear hr0
          go_wp2_with fail
          exact bodyPost_ret (v := .tuple #[.agg #[.int .i64 (x : Int), .int .i64 (y : Int), .int .i64 (z : Int)], .int .i64 r]) (results_ph Try.results64 _ (((HG3.out.set_ 0 _).set_ 1 _).set_ 2 _) rfl rfl) rfl ⟨by rw [HV.out], ((HB3.out.setCell (Nat.le_refl _) _).setCell (Nat.le_refl _) _).setCell (Nat.le_refl _) _⟩
      · have e3 : ((x : Int) == 3) = false := by rw [beq_eq_false_iff_ne]; omega
        have e3n : (x == 3) = false := by rw [beq_eq_false_iff_ne]; exact x3
        have HV := Lib.hid (HE4.out (by omega))
        obtain ⟨r, hr⟩ : ∃ r, hpErr ws = r := ⟨_, rfl⟩
        rw [hr] at HMC HV
        clear HE1 HE2 HE3 HE4 x4 x3 hr
        go_enter Try.func64, Try.ntmps64
        go_wp2_with fail
        refine HC.out.mono ?_
        rintro e w1 ⟨rfl, hB1⟩
        have hb1 := below_call hB1
        have HRW := Lib.hid (HRU.out _ hb1)
        have b1 := Bx.of_new hB1
        have B1 := Lib.hid b1
        have HB1 := Lib.hid hb1
        obtain ⟨q0, q1, q2, f0, f1, f2, hgl⟩ := b1.c3
        clear hB1 hb1 b1
        go_wp2_with fail
        have bw := Bx.new w1 61 #[.int .i64 (x : Int), .int .i64 (y : Int), .int .i64 (z : Int)]
        have hbw := HB1.out.alloc HB1.out.size (.cells #[.int .i64 (x : Int), .int .i64 (y : Int), .int .i64 (z : Int)] 61)
        have hgw := B1.out.alloc (.cells #[.int .i64 (x : Int), .int .i64 (y : Int), .int .i64 (z : Int)] 61)
        obtain ⟨W0, hW0⟩ : ∃ W0, w1.alloc (.cells #[.int .i64 (x : Int), .int .i64 (y : Int), .int .i64 (z : Int)] 61) = W0 := ⟨_, rfl⟩
        rw [hW0] at bw hbw hgw HRW ⊢
        clear hW0 q0 q1 q2 f0 f1 f2
        have hg1 := bw.lt
        have hg0 := hgw.lt
        obtain ⟨p0, p1, p2, -⟩ := bw.c3
        have BW := Lib.hid bw
        have HBW := Lib.hid hbw
        have HGW := Lib.hid hgw
        clear bw hbw hgw
        have hne : w1.heap.size ≠ w.heap.size := by omega
        go_region_held3 (fun X : World => X.cell? ⟨w1.heap.size, 0, none⟩ = some (.int .i64 (x : Int)) ∧ X.cell? ⟨w1.heap.size, 1, none⟩ = some (.int .i64 (y : Int)) ∧ X.cell? ⟨w1.heap.size, 2, none⟩ = some (.int .i64 (z : Int))) (first | exact ⟨(((BW3.out.far hne _).far hne _).far hne _).cell 0, (((BW3.out.far hne _).far hne _).far hne _).cell 1, (((BW3.out.far hne _).far hne _).far hne _).cell 2⟩ | go_keep)
          (first | (go_at_call 46; refine (HMC.out _ (show RdW W0.drew W0.drew.heap.size A ws from HRW.out)).mono ?_; rintro e w3 ⟨rfl, hB3⟩; have m0 := (hB3.cell (p := ⟨w1.heap.size, 0, none⟩) hg1).trans p0; have m1 := (hB3.cell (p := ⟨w1.heap.size, 1, none⟩) hg1).trans p1; have m2 := (hB3.cell (p := ⟨w1.heap.size, 2, none⟩) hg1).trans p2; have hb3 : Below W0.heap.size W0 w3 := (Below.refl W0.heap.size W0).drew.trans hB3; have HG3 := Lib.hid (HGW.out.up hb3 hg0); have BW3 := Lib.hid (BW.out.up hb3 hg1); have HB3 := Lib.hid (HBW.out.trans (hb3.mono HBW.out.size)); clear hB3 hb3; obtain ⟨q0, q1, q2, f0, f1, f2, hgl⟩ := HG3.out.c3))
        go_wp2_with fail
        exact bodyPost_ret (v := .tuple #[.agg #[.int .i64 (x : Int), .int .i64 (y : Int), .int .i64 (z : Int)], .int .i64 r]) (results_ph Try.results64 _ (((HG3.out.set_ 0 _).set_ 1 _).set_ 2 _) rfl rfl) rfl ⟨by rw [HV.out], ((HB3.out.setCell (Nat.le_refl _) _).setCell (Nat.le_refl _) _).setCell (Nat.le_refl _) _⟩
  · have HV := Lib.hid (fun r h => ckErr_ln (ws := ws) (r := r) h)
    rw [lnV_no h0] at HC ⊢
    obtain ⟨r, hr⟩ : ∃ r, lnErr ws = r := ⟨_, rfl⟩
    rw [hr] at HC h0
    have HV := Lib.hid (HV.out r hr h0)
    have hrn : (r != 0) = true := by rw [bne_iff_ne]; exact h0
    unfold phV at HC ⊢
    simp only [Int.cast_ofNat_Int] at HC ⊢
    have HRU : Hid (∀ w1 : World, Below w.heap.size w w1 → True) := Lib.hid fun _ _ => trivial
    clear h0 hr b0
    go_enter Try.func64, Try.ntmps64
    go_wp2_with fail
    refine HC.out.mono ?_
    rintro e w1 ⟨rfl, hB1⟩
    have hb1 := below_call hB1
    have HRW := Lib.hid (HRU.out _ hb1)
    have b1 := Bx.of_new hB1
    have B1 := Lib.hid b1
    have HB1 := Lib.hid hb1
    obtain ⟨q0, q1, q2, f0, f1, f2, hgl⟩ := b1.c3
    clear hB1 hb1 b1
    go_wp2_with fail
    exact bodyPost_ret (v := .tuple #[.agg #[.int .i64 0, .int .i64 0, .int .i64 0], .int .i64 r]) (results_ph Try.results64 _ ((((B1.out.set_ 0 _).set_ 1 _).set_ 2 _).alloc _) rfl rfl) rfl ⟨by rw [HV.out], (((HB1.out.setCell (Nat.le_refl _) _).setCell (Nat.le_refl _) _).setCell (Nat.le_refl _) _).alloc (by simp; exact HB1.out.size) _⟩

set_option maxRecDepth 100000 in
set_option maxHeartbeats 2000000 in
theorem ckCheck_c (A : Option Addr) (ws : List Nat) (c n : Nat) (w : World) (hn : ws.length = n) (hm : n ≤ 9223372036854775807) (hc : n ≤ c) (hr : RdW w w.heap.size A ws) (ho : ∀ x ∈ ws, x < 18446744073709551616) :
    Calls Try.prog 32 #[.slice A n c] w fun e w' => e = .returned (.int .i64 (ckErr ws)) ∧ Below w.heap.size w w' := by
  have HC := Lib.hid (cCheck_c A ws c n w hn hm hc hr ho)
  have hv : ∃ x y z : Nat, lnV ws = phV x y z := by
    unfold lnV
    split
    · exact ⟨_, _, _, rfl⟩
    · exact ⟨0, 0, 0, rfl⟩
  obtain ⟨x, y, z, hv⟩ := hv
  rw [hv] at HC
  unfold phV at HC
  obtain ⟨r, hr2⟩ : ∃ r, ckErr ws = r := ⟨_, rfl⟩
  rw [hr2] at HC ⊢
  clear hr2 hv hr ho hn
  go_enter Try.func32, Try.ntmps32
  go_wp2_with fail
  refine HC.out.mono ?_
  rintro e w1 ⟨rfl, hB1⟩
  go_wp2_with fail
  go_ret
  exact ⟨rfl, hB1.alloc hB1.size _⟩
end Go.Proofs.Ytpifagclhhaniaa
