/- The law FinishFew. -/
import Derived.Test.YtpifagclhhaniaaAl32
import Derived.Test.YtpifagclhhaniaaPhW
namespace Go.Proofs.Ytpifagclhhaniaa
open Go.RowKit

theorem few_ways {ws : List Nat} (h : enErr ws = 0) : (frN ws = 0 ∧ chOut ws = phE 0 0 0) ∨ (∃ t : Nat, t < ws.length ∧ frN ws = ws.length - t ∧ hdOk (freeBk (ws.length - t)) = true ∧ chOut ws = phE 0 0 0 ++ [⟨(t : Int), headW (freeBk (ws.length - t))⟩, ⟨((t + 1 : Nat) : Int), 0⟩]) := by
  obtain ⟨-, -, -, -, -, h6, -, h8⟩ := en_facts h
  rw [← h8] at h6
  have h9 := free_hd h
  by_cases ht : enTo ws = ws.length
  · left; simp [frN, chOut, h, ht]
  · right
    exact ⟨enTo ws, by omega, by simp [frN, h], h9 ht, by simp [chOut, h, ht]⟩

set_option maxRecDepth 100000 in
set_option maxHeartbeats 4000000 in
theorem finishFew_walk (w : World) (A : Option Addr) (ws : List Nat) (c : Nat) (hn : ws.length ≤ maxLen) (_hc : ws.length ≤ c) (hr : RdW w w.heap.size A ws) (ho : ∀ x ∈ ws, x < 18446744073709551616) :
    Calls Try.prog 13 #[.slice A ws.length c] w fun e w' => e = .returned (.bool true) ∧ Below w.heap.size w w' := by
  unfold maxLen at hn
  have HR := Lib.hid hr
  have HO := Lib.hid ho
  clear hr ho
  cases hg : greatW ws.length
  · have HG := Lib.hid hg
    have hgn := greatW_no hg
    have hlen : ws.length ≤ 2060 := by omega
    have HCH := Lib.hid (fun W (h : RdW W W.heap.size A ws) => fChange_c A ws c ws.length W rfl hn _hc h HO.out)
    unfold ChRes at HCH
    have HFR := Lib.hid (fun W (h : RdW W W.heap.size A ws) => fFree_c A ws c ws.length W rfl hn _hc h HO.out)
    have HWR := Lib.hid (fun W => pWrite_c 0 0 0 W (by omega) (by omega) (by omega) (by decide))
    unfold phV at HWR
    simp only [Int.cast_ofNat_Int] at HWR
    by_cases h0 : enErr ws = 0
    · rcases few_ways h0 with ⟨hf, hch⟩ | ⟨t, htl, hf, hfh, hch⟩
      · rw [h0, hch, phE_len] at HCH
        rw [h0, hf] at HFR
        simp only [Int.cast_ofNat_Int] at HFR
        have HSM := Lib.hid (fun A2 B2 c2 d2 W (h1 : RdE W W.heap.size A2 (phE 0 0 0)) (h2 : RdE W W.heap.size B2 (phE 0 0 0)) => sameEntries_c A2 B2 (phE 0 0 0) (phE 0 0 0) 3 3 c2 d2 W.heap.size W rfl rfl (by omega) h1 h2 (Nat.le_refl _))
        rw [show decide (phE 0 0 0 = phE 0 0 0) = true by simp] at HSM
        clear hg hgn h0 hf hch
        go_enter Try.func13, Try.ntmps13
        go_wp2_with fail
        refine (alive32_c w).mono ?_
        rintro e w1 ⟨rfl, hB1⟩
        have HB1 := Lib.hid hB1
        have HR1 := Lib.hid (HR.out.up hB1 hB1.size)
        clear hB1
        go_wp2_with fail
        refine (great25_c A ws.length c _ hn).mono ?_
        rintro e w1' ⟨rfl, rfl⟩
        rw [HG.out]
        go_wp2_with fail
        refine (HCH.out _ HR1.out).mono ?_
        rintro e w2 ⟨⟨A2, c2, rfl, hrd2, hc2⟩, hB2⟩
        have HB2 := Lib.hid (HB1.out.trans (hB2.mono HB1.out.size))
        have HR2 := Lib.hid (HR.out.up HB2.out HB2.out.size)
        have HE2 := Lib.hid hrd2
        clear hB2 hrd2
        go_wp2_with fail
        refine (HFR.out _ HR2.out).mono ?_
        rintro e w3 ⟨rfl, hB3⟩
        have HB3 := Lib.hid (HB2.out.trans (hB3.mono HB2.out.size))
        have HE3 := Lib.hid (HE2.out.up hB3 hB3.size)
        clear hB3
        go_wp2_with fail
        refine (HWR.out _).mono ?_
        rintro e w4 ⟨⟨A4, c4, rfl, hrd4, -⟩, hB4⟩
        have HB4 := Lib.hid (HB3.out.trans (hB4.mono HB3.out.size))
        have HE4 := Lib.hid (HE3.out.up hB4 hB4.size)
        have HP4 := Lib.hid hrd4
        have hc3 : (3 : Int) ≤ (c2 : Int) := by omega
        clear hB4 hrd4
        go_wp2_with fail
        refine (HSM.out _ _ _ _ _ HE4.out HP4.out).mono ?_
        rintro e w5 ⟨rfl, hB5⟩
        have HB5 := Lib.hid (HB4.out.trans (hB5.mono HB4.out.size))
        clear hB5
        go_wp2_with fail
        go_ret
        exact ⟨rfl, HB5.out⟩
      · have HWD := Lib.hid (fun W => hdWord_c (freeBk (ws.length - t)) W)
        rw [show hwVal (freeBk (ws.length - t)) = headW (freeBk (ws.length - t)) by simp [hwVal, hfh], hdErr_ok hfh] at HWD
        rw [show (freeBk (ws.length - t)).val = .agg #[.int .i64 0, .int .i64 ((ws.length - t : Nat) : Int), .int .i64 2, .int .i64 0, .bool false, .int .u64 0] from rfl] at HWD
        rw [h0, hch, show (phE 0 0 0 ++ [(⟨(t : Int), headW (freeBk (ws.length - t))⟩ : En), ⟨((t + 1 : Nat) : Int), 0⟩]).length = 5 from rfl] at HCH
        rw [h0, hf] at HFR
        obtain ⟨hw, hhw⟩ : ∃ hw, headW (freeBk (ws.length - t)) = hw := ⟨_, rfl⟩
        rw [hhw] at HWD HCH
        obtain ⟨F, hF⟩ : ∃ F, ws.length - t = F := ⟨_, rfl⟩
        have hF0 : ((F : Int) == 0) = false := by rw [beq_eq_false_iff_ne]; omega
        have hF0n : (F == 0) = false := by rw [beq_eq_false_iff_ne]; omega
        have hwF : IntKind.i64.wrap ((ws.length : Int) - (F : Int)) = (t : Int) := by rw [IntWalk.i64_in _ (by omega)]; omega
        have hwt : IntKind.i64.wrap ((t : Int) + 1) = (t : Int) + 1 := IntWalk.i64_in _ (by omega)
        rw [hF] at HWD HFR
        have HSM := Lib.hid (fun A2 B2 c2 d2 W (h1 : RdE W W.heap.size A2 (phE 0 0 0)) (h2 : RdE W W.heap.size B2 (phE 0 0 0)) => sameEntries_c A2 B2 (phE 0 0 0) (phE 0 0 0) 3 3 c2 d2 W.heap.size W rfl rfl (by omega) h1 h2 (Nat.le_refl _))
        rw [show decide (phE 0 0 0 = phE 0 0 0) = true by simp] at HSM
        have HSN := Lib.hid (fun A2 B2 c2 d2 W (h1 : RdE W W.heap.size A2 [⟨(t : Int), hw⟩, ⟨((t + 1 : Nat) : Int), 0⟩]) (h2 : RdE W W.heap.size B2 [⟨(t : Int), hw⟩, ⟨((t + 1 : Nat) : Int), 0⟩]) => sameEntries_c A2 B2 [⟨(t : Int), hw⟩, ⟨((t + 1 : Nat) : Int), 0⟩] [⟨(t : Int), hw⟩, ⟨((t + 1 : Nat) : Int), 0⟩] 2 2 c2 d2 W.heap.size W rfl rfl (by omega) h1 h2 (Nat.le_refl _))
        simp only [decide_true] at HSN
        clear hg hgn h0 hf hch hfh hhw hF htl
        go_enter Try.func13, Try.ntmps13
        go_wp2_with fail
        refine (alive32_c w).mono ?_
        rintro e w1 ⟨rfl, hB1⟩
        have HB1 := Lib.hid hB1
        have HR1 := Lib.hid (HR.out.up hB1 hB1.size)
        clear hB1
        go_wp2_with fail
        refine (great25_c A ws.length c _ hn).mono ?_
        rintro e w1' ⟨rfl, rfl⟩
        rw [HG.out]
        go_wp2_with fail
        refine (HCH.out _ HR1.out).mono ?_
        rintro e w2 ⟨⟨A2, c2, rfl, hrd2, hc2⟩, hB2⟩
        have HB2 := Lib.hid (HB1.out.trans (hB2.mono HB1.out.size))
        have HR2 := Lib.hid (HR.out.up HB2.out HB2.out.size)
        obtain ⟨b, off, rfl, hb, -⟩ := RdE.at_ hrd2 (show 0 < (phE 0 0 0 ++ [(⟨(t : Int), hw⟩ : En), ⟨((t + 1 : Nat) : Int), 0⟩]).length by show (0 : Nat) < 5; omega)
        have HE2 := Lib.hid hrd2
        clear hB2 hrd2
        go_wp2_with fail
        refine (HFR.out _ HR2.out).mono ?_
        rintro e w3 ⟨rfl, hB3⟩
        have HB3 := Lib.hid (HB2.out.trans (hB3.mono HB2.out.size))
        have HE3 := Lib.hid (HE2.out.up hB3 hB3.size)
        clear hB3
        go_wp2_with fail
        refine (HWR.out _).mono ?_
        rintro e w4 ⟨⟨A4, c4, rfl, hrd4, -⟩, hB4⟩
        have HB4 := Lib.hid (HB3.out.trans (hB4.mono HB3.out.size))
        have HE4 := Lib.hid (HE3.out.up hB4 hB4.size)
        have HP4 := Lib.hid hrd4
        have HT4 := Lib.hid (show RdE w4 w4.heap.size (some ⟨b, off, none⟩) (phE 0 0 0) from HE4.out.take_ 6)
        have hc3 : (3 : Int) ≤ (c2 : Int) := by omega
        have hc3e : ((c2 : Int) == 3) = false := by rw [beq_eq_false_iff_ne]; omega
        have hc3n : (c2 == 3) = false := by rw [beq_eq_false_iff_ne]; omega
        have hne : ¬ c2 = 3 := by omega
        clear hB4 hrd4
        go_wp2_with fail
        refine (HSM.out _ _ _ _ _ HT4.out HP4.out).mono ?_
        rintro e w5 ⟨rfl, hB5⟩
        have HB5 := Lib.hid (HB4.out.trans (hB5.mono HB4.out.size))
        have HE5 := Lib.hid (HE4.out.up hB5 hB5.size)
        clear hB5
        go_wp2_with fail
        refine (HWD.out _).mono ?_
        rintro e w6 ⟨rfl, hB6⟩
        have HB6 := Lib.hid (HB5.out.trans (hB6.mono HB5.out.size))
        have HE6 := Lib.hid (HE5.out.up hB6 hB6.size)
        clear hB6
        go_wp2_with fail
        have hdr := HE6.out.drop_ 6
        rw [Option.map_some, Addr.add_mid] at hdr
        have x0 := Bx.new w6 43 #[.int .i64 (t : Int), .int .u64 (hw : Int), .int .i64 ((t : Int) + 1), .int .u64 0]
        have hd7 : RdE (w6.alloc (.cells #[.int .i64 (t : Int), .int .u64 (hw : Int), .int .i64 ((t : Int) + 1), .int .u64 0] 43)) (w6.alloc (.cells #[.int .i64 (t : Int), .int .u64 (hw : Int), .int .i64 ((t : Int) + 1), .int .u64 0] 43)).heap.size (some ⟨b, off + 6, none⟩) [⟨(t : Int), hw⟩, ⟨((t + 1 : Nat) : Int), 0⟩] := (Rd.alloc hdr (Nat.le_refl _) _).more (by simp)
        have hx7 : RdE (w6.alloc (.cells #[.int .i64 (t : Int), .int .u64 (hw : Int), .int .i64 ((t : Int) + 1), .int .u64 0] 43)) (w6.alloc (.cells #[.int .i64 (t : Int), .int .u64 (hw : Int), .int .i64 ((t : Int) + 1), .int .u64 0] 43)).heap.size (some ⟨w6.heap.size, 0, none⟩) [⟨(t : Int), hw⟩, ⟨((t + 1 : Nat) : Int), 0⟩] := by
          have h8 := Rd.of_box x0 x0.lt
          show Rd _ _ _ [.int .i64 (t : Int), .int .u64 (hw : Int), .int .i64 ((t + 1 : Nat) : Int), .int .u64 ((0 : Nat) : Int)]
          rw [Int.natCast_add]; exact h8
        have HD7 := Lib.hid hd7
        have HX7 := Lib.hid hx7
        have HB7 := Lib.hid (HB6.out.alloc HB6.out.size (.cells #[.int .i64 (t : Int), .int .u64 (hw : Int), .int .i64 ((t : Int) + 1), .int .u64 0] 43))
        clear hdr x0 hd7 hx7
        refine (HSN.out _ _ _ _ _ HD7.out HX7.out).mono ?_
        rintro e w8 ⟨rfl, hB8⟩
        have HB8 := Lib.hid (HB7.out.trans (hB8.mono HB7.out.size))
        clear hB8
        go_wp2_with fail
        go_ret
        exact ⟨rfl, HB8.out⟩
    · obtain ⟨r, hr⟩ : ∃ r, enErr ws = r := ⟨_, rfl⟩
      obtain ⟨m, hm⟩ : ∃ m, (chOut ws).length = m := ⟨_, rfl⟩
      obtain ⟨f, hf⟩ : ∃ f, frN ws = f := ⟨_, rfl⟩
      rw [hr, hm] at HCH
      rw [hr, hf] at HFR
      rw [hr] at h0
      have hrn : (r != 0) = true := by rw [bne_iff_ne]; exact h0
      clear hg hgn h0 hr hm hf
      go_enter Try.func13, Try.ntmps13
      go_wp2_with fail
      refine (alive32_c w).mono ?_
      rintro e w1 ⟨rfl, hB1⟩
      have HB1 := Lib.hid hB1
      have HR1 := Lib.hid (HR.out.up hB1 hB1.size)
      clear hB1
      go_wp2_with fail
      refine (great25_c A ws.length c _ hn).mono ?_
      rintro e w1' ⟨rfl, rfl⟩
      rw [HG.out]
      go_wp2_with fail
      refine (HCH.out _ HR1.out).mono ?_
      rintro e w2 ⟨⟨A2, c2, rfl, -, -⟩, hB2⟩
      have HB2 := Lib.hid (HB1.out.trans (hB2.mono HB1.out.size))
      have HR2 := Lib.hid (HR.out.up HB2.out HB2.out.size)
      clear hB2
      go_wp2_with fail
      refine (HFR.out _ HR2.out).mono ?_
      rintro e w3 ⟨rfl, hB3⟩
      have HB3 := Lib.hid (HB2.out.trans (hB3.mono HB2.out.size))
      clear hB3
      go_wp2_with fail
      go_ret
      exact ⟨by simp, HB3.out⟩
  · have HG := Lib.hid hg
    clear hg
    go_enter Try.func13, Try.ntmps13
    go_wp2_with fail
    refine (alive32_c w).mono ?_
    rintro e w1 ⟨rfl, hB1⟩
    go_wp2_with fail
    refine (great25_c A ws.length c _ hn).mono ?_
    rintro e w1' ⟨rfl, rfl⟩
    rw [HG.out]
    go_wp2_with fail
    go_ret
    exact ⟨rfl, hB1⟩
end Go.Proofs.Ytpifagclhhaniaa
