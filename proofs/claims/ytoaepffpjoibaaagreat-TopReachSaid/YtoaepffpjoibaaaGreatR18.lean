/- Root slots: what the reference returns. -/
import Derived.Test.YtoaepffpjoibaaaGreatKRch
import Derived.Test.YtoaepffpjoibaaaGreatKRefs
import Derived.Test.YtoaepffpjoibaaaGreatKHead
namespace Go.Proofs.YtoaepffpjoibaaaGreat
open Go.RowKit

def slChk (s : Sl) : Int := if slOk s = true then 0 else 8
set_option maxRecDepth 100000 in
set_option maxHeartbeats 1000000 in
theorem r18Check_c (g : Int) (u : Bool) (a : Int) (w : World) (h1 : 0 ≤ g) (h2 : g ≤ 2147483647) :
    Calls Tryz.prog 102 #[.agg #[.int .i64 g, .bool u, .int .i64 a]] w fun e w' => e = .returned (.int .i64 (slChk ⟨g, u, a⟩)) ∧ Below w.heap.size w w' := by
  have hB := (Below.refl w.heap.size w).alloc (Nat.le_refl _) (.cells #[.int .i64 g, .bool u, .int .i64 a] 90)
  have HB := Lib.hid hB
  have d1 : decide (0 ≤ g) = true := by rw [decide_eq_true_iff]; omega
  have d2 : decide (g ≤ 2147483647) = true := by rw [decide_eq_true_iff]; omega
  clear hB
  cases u
  · have H : Hid (slChk ⟨g, false, a⟩ = if (a == 0) = true then 0 else 8) := Lib.hid rfl
    obtain ⟨b, hb⟩ : ∃ b, (a == 0) = b := ⟨_, rfl⟩
    rw [hb] at H
    cases b
    all_goals
      go_enter Tryz.func102, Tryz.ntmps102
      go_wp2_with fail
      go_ret
      exact ⟨by rw [H.out]; rfl, HB.out⟩
  · have H : Hid (slChk ⟨g, true, a⟩ = if (decide (0 < g) && (decide (128 ≤ a) && decide (a < 2048))) = true then 0 else 8) := Lib.hid rfl
    have e0 : decide (1 ≤ g) = decide (0 < g) := by rw [decide_eq_decide]; omega
    obtain ⟨b1, e1⟩ : ∃ b, decide (0 < g) = b := ⟨_, rfl⟩
    obtain ⟨b2, e2⟩ : ∃ b, decide (128 ≤ a) = b := ⟨_, rfl⟩
    obtain ⟨b3, e3⟩ : ∃ b, decide (a < 2048) = b := ⟨_, rfl⟩
    rw [e1] at e0
    rw [e1, e2, e3] at H
    clear h1 h2 e1
    cases b1 <;> cases b2 <;> cases b3
    all_goals
      go_enter Tryz.func102, Tryz.ntmps102
      go_wp2_with fail
      go_ret
      exact ⟨by rw [H.out]; rfl, HB.out⟩
set_option maxRecDepth 100000 in
set_option maxHeartbeats 2000000 in
theorem r18Split_c (x : Nat) (w : World) (hx : x < 18446744073709551616) :
    Calls Tryz.prog 87 #[.int .u64 (x : Int)] w fun e w' => e = .returned (.tuple #[(slB x).val, .int .i64 (slErr x)]) ∧ Below w.heap.size w w' := by
  obtain ⟨r1, r2, r3, r4⟩ := slRaw_bd x
  have HOK := Lib.hid (fun h => sl_ok (x := x) h)
  have HNO := Lib.hid (fun h => sl_no (x := x) h)
  have HV1 := Lib.hid (fun W => value_c x 32 31 W hx (by omega))
  have HV2 := Lib.hid (fun W => value_c x 63 1 W hx (by omega))
  have HV3 := Lib.hid (fun W => value_c x 0 32 W hx (by omega))
  have e1 : ((fieldOf x 32 31 : Nat) : Int) = (slRaw x).gen := by unfold fieldOf slRaw; rfl
  have e2 : (((fieldOf x 63 1 : Nat) : Int) == 1) = (slRaw x).used := by
    have : fieldOf x 63 1 = x / 9223372036854775808 := by unfold fieldOf; omega
    rw [this]
    show _ = (x / 9223372036854775808 == 1)
    rw [Bool.eq_iff_iff, beq_iff_eq, beq_iff_eq]; omega
  have e3 : ((fieldOf x 0 32 : Nat) : Int) = (slRaw x).at_ := by unfold fieldOf slRaw; simp
  rw [e1] at HV1
  rw [e3] at HV3
  obtain ⟨q, hq⟩ : ∃ q : Int, ((fieldOf x 63 1 : Nat) : Int) = q := ⟨_, rfl⟩
  rw [hq] at HV2 e2
  have HC := Lib.hid (fun W => r18Check_c (slRaw x).gen (slRaw x).used (slRaw x).at_ W r1 r2)
  obtain ⟨s, hs⟩ : ∃ s, slRaw x = s := ⟨_, rfl⟩
  rw [hs] at e2 r1 r2 r3 r4 HOK HNO HV1 HV3 HC
  obtain ⟨g, u, a⟩ := s
  dsimp only at e2 r1 r2 r3 r4 HV1 HV3 HC
  have w1 : IntKind.i64.wrap g = g := IntWalk.i64_in _ (by omega)
  have w2 : IntKind.i64.wrap a = a := IntWalk.i64_in _ (by omega)
  clear e1 e3 hq hs hx
  have x0 := Bx.new w 90 #[.int .i64 0, .bool false, .int .i64 0]
  have hB0 := (Below.refl w.heap.size w).alloc (Nat.le_refl _) (.cells #[.int .i64 0, .bool false, .int .i64 0] 90)
  have X1 := Lib.hid (x0.alloc (.cells #[.int .i64 g, .bool u, .int .i64 a] 90))
  have HB1 := Lib.hid (hB0.alloc (by simp) (.cells #[.int .i64 g, .bool u, .int .i64 a] 90))
  have x2 := Bx.new (w.alloc (.cells #[.int .i64 0, .bool false, .int .i64 0] 90)) 90 #[.int .i64 g, .bool u, .int .i64 a]
  rw [World.size_alloc] at x2
  have X2 := Lib.hid x2
  clear x0 hB0 x2
  cases hok : slOk ⟨g, u, a⟩
  · have HV := Lib.hid (HNO.out hok)
    unfold slChk at HC
    rw [hok] at HC
    clear hok HOK HNO
    go_enter Tryz.func87, Tryz.ntmps87
    go_wp2_with fail
    refine (HV1.out _).mono ?_
    rintro e w3 ⟨rfl, rfl⟩
    go_wp2_with fail
    refine (HV2.out _).mono ?_
    rintro e w3 ⟨rfl, rfl⟩
    go_wp2_with fail
    refine (HV3.out _).mono ?_
    rintro e w3 ⟨rfl, rfl⟩
    go_wp2_with fail
    refine (HC.out _).mono ?_
    rintro e w5 ⟨rfl, hB5⟩
    have x5 := X1.out.up hB5 X1.out.lt
    have HB5 := Lib.hid (HB1.out.trans (hB5.mono HB1.out.size))
    obtain ⟨p0, p1, p2, f0, f1, f2, hg⟩ := x5.c3
    have X5 := Lib.hid x5
    clear x5 hB5
    go_wp2_with fail
    exact bodyPost_ret (v := .tuple #[.agg #[.int .i64 0, .bool false, .int .i64 0], .int .i64 50]) (results_sl Tryz.results87 _ (((X5.out.set_ 0 _).set_ 1 _).set_ 2 _) rfl rfl) rfl ⟨by rw [HV.out.1, HV.out.2]; rfl, (((HB5.out.setCell (Nat.le_refl _) _).setCell (Nat.le_refl _) _).setCell (Nat.le_refl _) _)⟩
  · have HV := Lib.hid (HOK.out hok)
    unfold slChk at HC
    rw [hok] at HC
    clear hok HOK HNO
    go_enter Tryz.func87, Tryz.ntmps87
    go_wp2_with fail
    refine (HV1.out _).mono ?_
    rintro e w3 ⟨rfl, rfl⟩
    go_wp2_with fail
    refine (HV2.out _).mono ?_
    rintro e w3 ⟨rfl, rfl⟩
    go_wp2_with fail
    refine (HV3.out _).mono ?_
    rintro e w3 ⟨rfl, rfl⟩
    go_wp2_with fail
    refine (HC.out _).mono ?_
    rintro e w5 ⟨rfl, hB5⟩
    have x5 := X1.out.up hB5 X1.out.lt
    have y5 := X2.out.up hB5 X2.out.lt
    have HB5 := Lib.hid (HB1.out.trans (hB5.mono HB1.out.size))
    obtain ⟨p0, p1, p2, f0, f1, f2, hg⟩ := x5.c3
    obtain ⟨q0, q1, q2, -, -, -, hg2⟩ := y5.c3
    have X5 := Lib.hid x5
    clear x5 y5 hB5
    go_wp2_with fail
    exact bodyPost_ret (v := .tuple #[.agg #[.int .i64 g, .bool u, .int .i64 a], .int .i64 0]) (results_sl Tryz.results87 _ (((X5.out.set_ 0 _).set_ 1 _).set_ 2 _) rfl rfl) rfl ⟨by rw [HV.out.1, HV.out.2]; rfl, (((HB5.out.setCell (Nat.le_refl _) _).setCell (Nat.le_refl _) _).setCell (Nat.le_refl _) _)⟩
theorem infoSlot : (Tryz.prog.info? 90).map (fun i => (i.zero, i.size, i.bytes)) = some (some (.agg #[.int .i64 0, .bool false, .int .i64 0]), 3, 24) := by kernel_rfl
/-- What is told of all slots. -/
def TlRes (ws : List Nat) (e : Ending) (w' : World) : Prop := ∃ A n c, e = .returned (.tuple #[.slice A n c, .bool (slsOk ws)]) ∧ (slsOk ws = true → n = 16 ∧ n ≤ c ∧ RdS w' w'.heap.size A (slL ws))
set_option maxRecDepth 100000 in
set_option maxHeartbeats 4000000 in
theorem r18Told_c (A : Option Addr) (ws : List Nat) (c n : Nat) (w : World) (hn : ws.length = n) (h2 : 256 ≤ n) (hm : n ≤ 2048) (hr : RdW w w.heap.size A ws) (ho : ∀ x ∈ ws, x < 18446744073709551616) :
    Calls Tryz.prog 65 #[.slice A n c] w fun e w' => TlRes ws e w' ∧ Below w.heap.size w w' := by
  subst hn
  have HR := Lib.hid hr
  have HLT : Hid (∀ k, wd ws k < 18446744073709551616) := Lib.hid (wd_lt ho)
  clear hr ho
  obtain ⟨i2, hi, hz0, hz1, hz2⟩ := info_parts infoSlot
  have HJ := Lib.hid hi
  have HJ0 := Lib.hid hz0
  have HJ1 := Lib.hid hz1
  have HJ2 := Lib.hid hz2
  clear hi hz0 hz1 hz2
  go_enter Tryz.func65, Tryz.ntmps65
  go_wp2_with fail
  go_loopw [4, 5] (fun v i wr => ∃ k : Nat, k ≤ 16 ∧ i = .int .i64 k ∧ Hid (slsTo ws k) ∧ wr.ownsRow w.heap.size 90 3 v k (((slL ws).take k).flatMap Sl.cells) ∧ Below w.heap.size w wr) (fun _ i _ => 16 - (intOf i).toNat)
  case atStart => exact ⟨0, Nat.zero_le _, rfl, slsTo_zero ws, World.ownsRow_nil _ _ _ _, Below.refl _ _⟩
  case round =>
    obtain ⟨k, hk, rfl, HOK, hown, hB⟩ := hrel
    have hz := hB.size
    by_cases hlt : k < 16
    · obtain ⟨b, off, rfl, hb, h0⟩ := RdW.at_ (Rd.below HR.out hB) (show 112 + k < ws.length by omega)
      rw [← wd_get] at h0
      have HSP := Lib.hid (fun W => r18Split_c (wd ws (112 + k)) W (HLT.out _))
      have HSU := Lib.hid (fun h => slsTo_succ HOK.out h)
      have HBD := Lib.hid (fun h => slsOk_bad (ws := ws) hlt h)
      have hsa : slRaw (wd ws (112 + k)) = slAt ws k := rfl
      have hkl : k < (slL ws).length := by rw [slL_len]; exact hlt
      have HFL := Lib.hid (show ((slL ws).take (k + 1)).flatMap Sl.cells = ((slL ws).take k).flatMap Sl.cells ++ (slAt ws k).cells by
        rw [List.take_succ_eq_append_getElem hkl, flat_snoc, slL_get])
      have i1 : (0 : Int) ≤ 112 + (k : Int) := by omega
      have i2' : (112 : Int) + (k : Int) < (ws.length : Int) := by omega
      have n1 : ((112 : Int) + (k : Int)).toNat = 112 + k := by omega
      have hk1 : (k : Int) < 16 := by omega
      have hk0 : (0 : Int) ≤ (k : Int) := by omega
      obtain ⟨x, hx⟩ : ∃ x, wd ws (112 + k) = x := ⟨_, rfl⟩
      rw [hx] at h0 HSP hsa
      cases hso : slOk (slAt ws k)
      · have HV := Lib.hid (HBD.out hso)
        rw [← hsa] at hso
        rw [(sl_no hso).1, (sl_no hso).2] at HSP
        unfold Sl.val at HSP
        dsimp only at HSP
        clear hx hso hsa HBD HSU hown
        go_wp2_with fail
        refine (HSP.out _).mono ?_
        rintro e w3 ⟨rfl, hB3⟩
        have hB4 := hB.trans (hB3.mono hz)
        have hz4 := hB4.size
        clear hB3
        go_wp2_with fail
        go_ret2
        exact ⟨⟨none, 0, 0, by rw [HV.out]; rfl, fun h => by rw [HV.out] at h; cases h⟩, hB4.alloc hz4 _⟩
      · have HSU2 := Lib.hid (HSU.out hso)
        rw [← hsa] at hso
        rw [(sl_ok hso).1, (sl_ok hso).2, hsa] at HSP
        obtain ⟨s, hs2⟩ : ∃ s, slAt ws k = s := ⟨_, rfl⟩
        rw [hs2] at HSP HFL
        obtain ⟨sg, su, sa⟩ := s
        unfold Sl.val at HSP
        dsimp only at HSP
        clear hx hso hsa hs2 HBD HSU
        go_wp2_with fail
        refine (HSP.out _).mono ?_
        rintro e w3 ⟨rfl, hB3⟩
        have hb3 := hB.trans (hB3.mono hz)
        have hz3 := hb3.size
        have hownw := own_below hown hB3 (Nat.le_refl _)
        clear hB3 hown
        go_wp2_with (at_builtin; refine wpList_append_own _ rfl _ _ 86 rfl w.heap.size 90 i2 _ 3 24 Tryz.underlying86 HJ.out HJ0.out HJ1.out HJ2.out rfl (by decide) _ _ _ rfl ((hownw.alloc _).alloc _) ⟨_, 0, none⟩ 1 1 [.int .i64 sg, .bool su, .int .i64 sa] rfl rfl (news_at _ _ _ (World.size_alloc _ _)) (by simp [Value.oneCell']) (by unfold maxLen; omega) (by omega) (by simp; omega) ?_; intro v1 w6 hown1 hg1 _; have hB6 := below_append (hb3.alloc hz3 (.cells #[.int .i64 sg, .bool su, .int .i64 sa] 90)) (by simp; omega) (hownw.alloc _) hg1)
        go_roundw
        case rel => exact ⟨k + 1, by omega, by go_num, HSU2.out, by rw [HFL.out]; exact hown1, hB6⟩
        case measure => simp [intOf]; omega
    · obtain rfl : k = 16 := by omega
      have hT : slsOk ws = true := (slsOk_iff ws).2 HOK.out
      have HT := Lib.hid hT
      rw [List.take_of_length_le (by rw [slL_len]; exact Nat.le_refl _)] at hown
      obtain ⟨A1, c1, rfl⟩ := own_slice hown
      have hc1 : 16 ≤ c1 := by
        rcases hown.2 with ⟨h1, h2⟩ | ⟨g, cap, cur, h1, -, -, h2, -⟩
        · cases h2
        · simp only [Value.slice.injEq] at h1; omega
      have HRD := Lib.hid (Rd.of_own hown)
      clear hT hown
      go_wp2_with fail
      go_ret2
      exact ⟨⟨A1, 16, c1, by rw [HT.out]; rfl, fun _ => ⟨rfl, hc1, HRD.out⟩⟩, hB⟩
end Go.Proofs.YtoaepffpjoibaaaGreat
