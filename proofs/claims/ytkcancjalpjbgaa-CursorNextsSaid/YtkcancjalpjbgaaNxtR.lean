/- The next marked object from an address on: what the reference returns. -/
import Derived.Test.YtkcancjalpjbgaaNxtP
import Derived.Test.YtkcancjalpjbgaaAgg
import Derived.Test.YtkcancjalpjbgaaRef15F
namespace Go.Proofs.Ytkcancjalpjbgaa
open Go.RowKit

set_option maxRecDepth 100000 in
set_option maxHeartbeats 1000000 in
theorem refLive_c (b : Bk) (w : World) : Calls Try.prog 50 #[b.val] w fun e w' => e = .returned (.bool (liveB b)) ∧ Below w.heap.size w w' := by
  have HL : Hid (liveB b = (b.kind == 1 && b.mark)) := Lib.hid rfl
  obtain ⟨q, hq⟩ : ∃ q, liveB b = q := ⟨_, rfl⟩
  rw [hq] at HL ⊢
  clear hq
  obtain ⟨xa, xs, xk, xt, xm, xn⟩ := b
  dsimp only at HL
  unfold Bk.val
  cases xm
  all_goals
    go_enter Try.func50, Try.ntmps50
    go_wp2_with fail
    all_goals
      go_ret
      refine ⟨ret_bool' ?_, (Below.refl _ _).alloc (Nat.le_refl _) _⟩
      rw [HL.out]
      simp <;> assumption

theorem refFrom_fr {ws : List Nat} {a : Nat} (h : sizeOk (ws.length : Int) = true) (h2 : frArg ws.length (a : Int) = false) : (blocks ws a = none → frErr ws (a : Int) = 50) ∧ ((blocks ws a).isSome = true → frErr ws (a : Int) = 0) ∧ ((blocks ws a).isSome = true → frOut ws (a : Int) = rfOut ws a) := by
  refine ⟨fun h3 => frErr_none h h2 (by rw [Int.toNat_natCast]; exact h3), fun h3 => ?_, fun h3 => ?_⟩
  all_goals
    cases hb : blocks ws a with
    | none => rw [hb] at h3; cases h3
    | some l =>
      obtain ⟨g1, g2⟩ := frErr_some h h2 (l := l) (by rw [Int.toNat_natCast]; exact hb)
      first
        | exact g1
        | (rw [g2]; simp [rfOut, hb])

set_option maxRecDepth 100000 in
set_option maxHeartbeats 2000000 in
theorem refNext_c (A : Option Addr) (ws : List Nat) (c n : Nat) (a : Int) (w : World) (hn : ws.length = n) (hm : n ≤ 9223372036854775807) (ha : -9223372036854775808 ≤ a ∧ a ≤ 9223372036854775807) (hr : RdW w w.heap.size A ws) (ho : ∀ x ∈ ws, x < 18446744073709551616) :
    Calls Try.prog 17 #[.slice A n c, .int .i64 a] w fun e w' => e = .returned (.tuple #[(nxtB ws a).val, .int .i64 (nxtErr ws a)]) ∧ Below w.heap.size w w' := by
  subst hn
  have HR := Lib.hid hr
  have HO := Lib.hid ho
  obtain ⟨a1, a2⟩ := ha
  clear hr ho
  have hbd := Bx.new w 26 #[.int .i64 0, .int .i64 0, .int .i64 0, .int .i64 0, .bool false, .int .u64 0]
  cases hs : sizeOk (ws.length : Int)
  · have HI := Lib.hid (imgErr_no hs)
    obtain ⟨g1, g2⟩ := nx_err (frErr_img (a := a) hs) (by omega)
    have G1 := Lib.hid g1
    have G2 := Lib.hid g2
    have BD := Lib.hid hbd
    clear hs g1 g2 hbd
    go_enter Try.func17, Try.ntmps17
    go_wp2_with fail
    refine (refImCheck_c A ws.length c _ hm).mono ?_
    rintro e w1 ⟨rfl, rfl⟩
    rw [HI.out]
    go_wp2_with fail
    refine bodyPost_ret (v := .tuple #[.agg #[.int .i64 0, .int .i64 0, .int .i64 0, .int .i64 0, .bool false, .int .u64 0], .int .i64 8]) (results_blk Try.results17 _ BD.out rfl rfl) rfl ⟨by rw [G1.out, G2.out]; rfl, (Below.refl _ _).alloc (Nat.le_refl _) _⟩
  · have HI := Lib.hid (imgErr_ok hs)
    have hb := imgErr_zero (imgErr_ok hs)
    obtain ⟨hb1, hb2, hb3⟩ := hb
    have HB3 := Lib.hid hb3
    have HS := Lib.hid hs
    clear hs hb3 hm
    by_cases hbad : 128 ≤ a ∧ a ≤ (ws.length : Int) ∧ a % 2 = 0
    · obtain ⟨a3, a4, a5⟩ := hbad
      have hev : (a % 2 != 0) = false := by rw [bne_eq_false_iff_eq]; exact a5
      have d1 : decide (a < 128) = false := by rw [decide_eq_false_iff_not]; omega
      have d2 : decide ((ws.length : Int) < a) = false := by rw [decide_eq_false_iff_not]; omega
      have harg : frArg ws.length a = false := by simp only [frArg, Bool.or_eq_false_iff, decide_eq_false_iff_not, bne_eq_false_iff_eq]; omega
      obtain ⟨i, rfl⟩ := Int.eq_ofNat_of_zero_le (show 0 ≤ a by omega)
      have d2n : decide (ws.length < i) = false := by rw [decide_eq_false_iff_not]; omega
      have HFE := Lib.hid (refFrom_fr HS.out harg)
      have HFR := Lib.hid (rfFrom_c A ws c ws.length i (w.alloc (.cells #[.int .i64 0, .int .i64 0, .int .i64 0, .int .i64 0, .bool false, .int .u64 0] 26)) rfl (by omega) (by have := HB3.out; omega) (by omega) (by omega) ((HR.out.alloc (Nat.le_refl _) _).more (by simp)) HO.out)
      rw [World.size_alloc] at HFR
      have BD := Lib.hid hbd
      clear a5 hbd harg
      go_enter Try.func17, Try.ntmps17
      go_wp2_with fail
      refine (refImCheck_c A ws.length c _ (by omega)).mono ?_
      rintro e w1 ⟨rfl, rfl⟩
      rw [HI.out]
      go_wp2_with fail
      refine HFR.out.mono ?_
      rintro e w1 ⟨⟨A1, c1, rfl, hrd, hcl⟩, hB1⟩
      have hb1 := below_call hB1
      have hz1 := hb1.size
      have b0 := Bx.of_new hB1
      have hz1' := b0.lt
      have HRD := Lib.hid hrd
      clear hrd hcl
      cases hbl : blocks ws i with
      | none =>
        have G := Lib.hid (nx_err (HFE.out.1 hbl) (by omega))
        rw [show (none : Option (List Bk)).isSome = false from rfl]
        obtain ⟨l, hl⟩ : ∃ l, rfOut ws i = l := ⟨_, rfl⟩
        rw [hl]
        obtain ⟨c0, c1', c2, c3, c4, c5, cf, cz⟩ := b0.c6
        have cf0 := cf 0
        have cf1 := cf 1
        have cf2 := cf 2
        have cf3 := cf 3
        have cf4 := cf 4
        have cf5 := cf 5
        have B0 := Lib.hid b0
        clear hbl hl cf b0 hB1
        go_wp2_with fail
        refine bodyPost_ret (v := .tuple #[.agg #[.int .i64 0, .int .i64 0, .int .i64 0, .int .i64 0, .bool false, .int .u64 0], .int .i64 50]) (results_blk Try.results17 _ (six_bx B0.out _ _ _ _ _ _) rfl rfl) rfl ⟨by rw [G.out.1, G.out.2]; rfl, six_below hb1 (Nat.le_refl _) _ _ _ _ _ _⟩
      | some l' =>
        have HER := Lib.hid (HFE.out.2.1 (by rw [hbl]; rfl))
        have HL := Lib.hid (HFE.out.2.2 (by rw [hbl]; rfl))
        have hlen := frOut_len ws (i : Int)
        have HLV := Lib.hid (fun (k : Nat) (hk : k < (frOut ws (i : Int)).length) => fr_live HER.out hk)
        rw [show (some l').isSome = true from rfl]
        rw [HL.out] at hlen HLV
        obtain ⟨l, hl⟩ : ∃ l, rfOut ws i = l := ⟨_, rfl⟩
        rw [hl] at HL HRD hlen HLV ⊢
        clear hbl hl
        have HB0 := Lib.hid b0
        have HB1 := Lib.hid hb1
        clear b0 hb1 hB1
        go_wp2_with fail
        go_loopw [9] (fun p wr => ∃ k : Nat, k ≤ l.length ∧ p = .int .i64 k ∧ Hid (noMark l k) ∧ Below w1.heap.size w1 wr) (fun p _ => l.length - (intOf p).toNat)
        case atStart => exact ⟨0, by omega, rfl, noMark_zero l, Below.refl _ _⟩
        case round =>
          obtain ⟨k, hk, rfl, HNM, hB⟩ := hrel
          have hz := hB.size
          by_cases hlt : k < l.length
          · obtain ⟨b, off, rfl, hbw, q0, q1, q2, q3, q4, q5⟩ := RdB.at_ (HRD.out.below hB) hlt
            have HGK := Lib.hid (gk_get l k hlt)
            have hlv := HLV.out k hlt
            rw [HGK.out] at hlv
            obtain ⟨x, hx⟩ : ∃ x, l[k] = x := ⟨_, rfl⟩
            rw [hx] at q0 q1 q2 q3 q4 q5 HGK hlv
            have HC := Lib.hid (fun W => refLive_c x W)
            have hlb : liveB x = x.mark := by
              unfold liveB
              cases hm : x.mark with
              | true => rw [hm] at hlv; simpa using hlv
              | false => simp
            rw [hlb] at HC
            obtain ⟨xa, xs, xk, xt, xm, xn⟩ := x
            unfold Bk.val at HC
            dsimp only at q0 q1 q2 q3 q4 q5 HC
            have hlm : (k : Int) < (l.length : Int) := by omega
            clear hx hlv hlb
            cases xm
            · go_wp2_with fail
              refine (HC.out _).mono ?_
              rintro e w2 ⟨rfl, hB2⟩
              have hb2 := hB.trans (hB2.mono hz)
              go_wp2_with fail
              go_roundw
              case rel => exact ⟨k + 1, by omega, by go_num, noMark_succ HNM.out (by rw [HGK.out]), hb2⟩
              case measure => simp [intOf]; omega
            · go_wp2_with fail
              refine (HC.out _).mono ?_
              rintro e w2 ⟨rfl, hB2⟩
              have hb2 := hB.trans (hB2.mono hz)
              have HB2 := Lib.hid hb2
              have HD := Lib.hid (HB0.out.up hb2 (by omega))
              replace q0 := (hB2.cell (p := ⟨b, off + k * 6, none⟩) (by dsimp only; omega)).trans q0
              replace q1 := (hB2.cell (p := ⟨b, off + k * 6 + 1, none⟩) (by dsimp only; omega)).trans q1
              replace q2 := (hB2.cell (p := ⟨b, off + k * 6 + 2, none⟩) (by dsimp only; omega)).trans q2
              replace q3 := (hB2.cell (p := ⟨b, off + k * 6 + 3, none⟩) (by dsimp only; omega)).trans q3
              replace q4 := (hB2.cell (p := ⟨b, off + k * 6 + 4, none⟩) (by dsimp only; omega)).trans q4
              replace q5 := (hB2.cell (p := ⟨b, off + k * 6 + 5, none⟩) (by dsimp only; omega)).trans q5
              have hi6 := infoBlkS
              clear hb2
              go_wp2_with ((with_reducible refine at_store 26 (.tmp 4) _ ?_); refine wpList_store_agg rfl _ _ _ rfl w.heap.size 26 #[.int .i64 0, .int .i64 0, .int .i64 0, .int .i64 0, .bool false, .int .u64 0] #[.int .i64 xa, .int .i64 xs, .int .i64 xk, .int .i64 xt, .bool true, .int .u64 (xn : Int)] (by rfl) (by rfl) HD.out rfl hi6 (six_one _ _ _ _ _ _) ?_; intro w3 hb3 ha3; have HB3 := Lib.hid hb3; have HA3 := Lib.hid ha3; clear hb3 ha3)
              obtain ⟨g1, g2⟩ := nx_some HER.out HL.out hlt HNM.out (by rw [HGK.out])
              exact bodyPost_ret (v := .tuple #[.agg #[.int .i64 xa, .int .i64 xs, .int .i64 xk, .int .i64 xt, .bool true, .int .u64 (xn : Int)], .int .i64 0]) (results_blk Try.results17 _ HB3.out rfl rfl) rfl ⟨by rw [g1, g2, HGK.out]; rfl, HA3.out.below (HB1.out.trans (HB2.out.mono hz1)) (Nat.le_refl _)⟩
          · have hk2 : k = l.length := by omega
            have hd := HB0.out.up hB (by omega)
            have HD := Lib.hid hd
            have hi6 := infoBlkS
            have HG := Lib.hid (nx_none HER.out HL.out (by rw [← hk2]; exact HNM.out))
            clear hd hk2
            go_wp2_with ((with_reducible refine at_store 26 (.tmp 4) _ ?_); refine wpList_store_agg rfl _ _ _ rfl w.heap.size 26 #[.int .i64 0, .int .i64 0, .int .i64 0, .int .i64 0, .bool false, .int .u64 0] #[.int .i64 0, .int .i64 0, .int .i64 0, .int .i64 0, .bool false, .int .u64 0] (by rfl) (by rfl) HD.out rfl hi6 (six_one _ _ _ _ _ _) ?_; intro w3 hb3 ha3; have HB3 := Lib.hid hb3; have HA3 := Lib.hid ha3; clear hb3 ha3)
            exact bodyPost_ret (v := .tuple #[.agg #[.int .i64 0, .int .i64 0, .int .i64 0, .int .i64 0, .bool false, .int .u64 0], .int .i64 6]) (results_blk Try.results17 _ HB3.out rfl rfl) rfl ⟨by rw [HG.out.1, HG.out.2]; rfl, HA3.out.below (HB1.out.trans (hB.mono hz1)) (Nat.le_refl _)⟩
    · have HE := Lib.hid (frErr_arg HS.out (frArg_yes hbad))
      obtain ⟨g1, g2⟩ := nx_err HE.out (by omega)
      have G1 := Lib.hid g1
      have G2 := Lib.hid g2
      have BD := Lib.hid hbd
      clear g1 g2 hbd
      have hways := arg_ways hbad
      clear hbad
      rcases hways with ⟨h1, h2⟩ | ⟨⟨h1, h2⟩, h3⟩ | ⟨h1, h2, h3⟩
      all_goals
        go_enter Try.func17, Try.ntmps17
        go_wp2_with fail
        refine (refImCheck_c A ws.length c _ (by omega)).mono ?_
        rintro e w1 ⟨rfl, rfl⟩
        rw [HI.out]
        go_wp2_with fail
        refine bodyPost_ret (v := .tuple #[.agg #[.int .i64 0, .int .i64 0, .int .i64 0, .int .i64 0, .bool false, .int .u64 0], .int .i64 2]) (results_blk Try.results17 _ BD.out rfl rfl) rfl ⟨by rw [G1.out, G2.out]; rfl, (Below.refl _ _).alloc (Nat.le_refl _) _⟩
end Go.Proofs.Ytkcancjalpjbgaa
