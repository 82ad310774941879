/- EffortMade: a change that is made on a device takes as many operations as its effort says, for every slice of entries and every number of words. -/
import Derived.Test.YtiaddipbjigaiaaEnt3
import Derived.Test.YtiaddipbjigaiaaEff
namespace Go.Proofs.Ytiaddipbjigaiaa
open Go.RowKit Go.Maps

/-- How many of the first i lines hold one of the first n addresses. -/
def cntLines (ad : List Int) (n : Nat) : Nat → Nat
  | 0 => 0
  | i + 1 => cntLines ad n i + if lineSeen ad (8 * (i : Int)) n then 1 else 0
theorem cntLines_le (ad : List Int) (n i : Nat) : cntLines ad n i ≤ i := by
  induction i with
  | zero => simp [cntLines]
  | succ i ih => simp only [cntLines]; split <;> omega
theorem cntLines_zero (ad : List Int) (i : Nat) : cntLines ad 0 i = 0 := by
  induction i with
  | zero => rfl
  | succ i ih => simp [cntLines, ih, lineSeen]
theorem cntLines_succ (ad : List Int) (n : Nat) (x : Nat) (hx : ad[n]?.getD 0 = (x : Int)) (i : Nat) :
    cntLines ad (n + 1) i = cntLines ad n i + if x / 8 < i ∧ lineSeen ad (x : Int) n = false then 1 else 0 := by
  induction i with
  | zero => simp [cntLines]
  | succ i ih =>
    simp only [cntLines, ih, lineSeen, hx]
    by_cases e : x / 8 = i
    · have h1 : ((x : Int) / 8 == 8 * (i : Int) / 8) = true := by rw [beq_iff_eq]; omega
      have h2 : lineSeen ad (8 * (i : Int)) n = lineSeen ad (x : Int) n := lineSeen_eq ad _ _ (by omega) n
      have n1 : ¬ (x / 8 < i ∧ lineSeen ad (x : Int) n = false) := by rintro ⟨a, _⟩; omega
      have n2 : x / 8 < i + 1 := by omega
      rw [h1, h2, if_neg n1]
      cases lineSeen ad (x : Int) n <;> simp [n2]
    · have h1 : ((x : Int) / 8 == 8 * (i : Int) / 8) = false := by rw [beq_eq_false_iff_ne]; omega
      rw [h1, Bool.or_false]
      have h3 : (x / 8 < i + 1 ∧ lineSeen ad (x : Int) n = false) ↔ (x / 8 < i ∧ lineSeen ad (x : Int) n = false) := by
        constructor <;> rintro ⟨a, b⟩ <;> exact ⟨by omega, b⟩
      simp only [h3]
      omega
theorem cntLines_eq (ad : List Int) {n : Nat} (h : ∀ k, k < n → 0 ≤ ad[k]?.getD 0 ∧ ad[k]?.getD 0 < 2048) : cntLines ad n 256 = nLines ad n := by
  induction n with
  | zero => rw [cntLines_zero]; rfl
  | succ n ih =>
    obtain ⟨h1, h2⟩ := h n (Nat.lt_succ_self n)
    obtain ⟨x, hx⟩ := Int.eq_ofNat_of_zero_le h1
    rw [cntLines_succ ad n x hx, ih (fun k hk => h k (by omega))]
    simp only [nLines, hx]
    rw [hx] at h2
    cases lineSeen ad (x : Int) n
    · rw [if_pos ⟨by omega, rfl⟩]; simp
    · rw [if_neg (by simp)]; simp
theorem ent_rng {ad : List Int} {ws : Int} (h : entErr ad ws = 0) : ∀ k, k < ad.length → 0 ≤ ad[k]?.getD 0 ∧ ad[k]?.getD 0 < 2048 := fun k hk => by
  obtain ⟨hs, h32, hpre⟩ := entErr_zero h
  have h1 := (mayB_iff _ _).1 (entPre_at hpre hk).1
  have h2 := (sizeOk_iff ws).1 hs
  omega

theorem infoBool : (Try.prog.info? 4).map (fun i => (i.zero, i.size, i.bytes)) = some (some (.bool false), 1, 1) := by kernel_rfl
theorem aggBool (w : World) : (isAgg 4).run Try.prog w = .ok false w := by kernel_rfl

set_option maxRecDepth 100000 in
set_option maxHeartbeats 1600000 in
theorem repOps_c (A : Option Addr) (l : List En) (c n : Nat) (w : World) (hn : l.length = n) (hm : n ≤ 32) (h0n : 0 < n) (hr : RdE w w.heap.size A l) (ho : ∀ k, k < l.length → 0 ≤ (addrs l)[k]?.getD 0 ∧ (addrs l)[k]?.getD 0 < 2048) :
    Calls Try.prog 47 #[.slice A n c] w fun e w' => e = .returned (.tuple #[.int .i64 ((n : Int) + 4 + (nLines (addrs l) n : Int)), .int .i64 0]) ∧ Below w.heap.size w w' := by
  subst hn
  have HR := Lib.hid hr
  have HO := Lib.hid ho
  clear hr ho
  have hgt : decide ((32 : Int) < (l.length : Int)) = false := by rw [decide_eq_false_iff_not]; omega
  have inz : ((l.length : Int) == 0) = false := by rw [beq_eq_false_iff_ne]; omega
  obtain ⟨i0, hi, hz0, hz1, hz2⟩ := info_parts infoBool
  have HI := Lib.hid hi
  have HZ0 := Lib.hid hz0
  have HZ1 := Lib.hid hz1
  have HZ2 := Lib.hid hz2
  clear hi hz0 hz1 hz2
  go_enter Try.func47, Try.ntmps47
  go_wp2_with fail
  go_loopw [14] (fun i wr => ∃ k : Nat, k ≤ l.length ∧ i = .int .i64 k ∧ Below w.heap.size w wr) (fun i _ => l.length - (intOf i).toNat)
  case atStart => exact ⟨0, Nat.zero_le _, rfl, Below.refl _ _⟩
  case round =>
    obtain ⟨k, hk, rfl, hB⟩ := hrel
    have hz := hB.size
    by_cases hlt : k < l.length
    · obtain ⟨b, off, rfl, hb, h0, h1⟩ := HR.out.at_ hlt
      replace h0 := (hB.cell (p := ⟨b, off + k * 2, none⟩) hb).trans h0
      replace h1 := (hB.cell (p := ⟨b, off + k * 2 + 1, none⟩) hb).trans h1
      obtain ⟨o1, o2⟩ := HO.out k hlt
      rw [← addrs_get l k hlt] at h0
      obtain ⟨x, hx⟩ : ∃ x, (addrs l)[k]?.getD 0 = x := ⟨_, rfl⟩
      rw [hx] at h0 o1 o2
      have ik1 : (0 : Int) ≤ (k : Int) := by omega
      have ik2 : (k : Int) < (l.length : Int) := by omega
      clear hx
      go_wp2_with fail
      go_roundw
      case rel => exact ⟨k + 1, by omega, by go_num, hB.alloc hz _⟩
      case measure => simp [intOf]; omega
    · obtain rfl : k = l.length := by omega
      go_wp2_with fail
      refine (lines_c A l c l.length wr rfl (by omega) (HR.out.up hB hz) HO.out).mono ?_
      rintro e w2 ⟨⟨cs, rfl, hln⟩, hB2⟩
      have hb2 := hB.trans (hB2.mono hz)
      have HLN := Lib.hid hln
      have hcb := fun i => cntLines_le (addrs l) l.length i
      have HCB := Lib.hid hcb
      have HCE := Lib.hid (cntLines_eq (addrs l) (n := l.length) HO.out)
      clear hln hcb
      go_wp2_with fail
      go_loopw [6, 35] (fun t i wr => ∃ k : Nat, k ≤ 256 ∧ i = .int .i64 k ∧ t = .int .i64 ((l.length : Int) + 4 + (cntLines (addrs l) l.length k : Int)) ∧ Below w.heap.size w wr) (fun _ i _ => 256 - (intOf i).toNat)
      case atStart => exact ⟨0, Nat.zero_le _, rfl, by simp [cntLines], hb2⟩
      case round =>
        obtain ⟨k, hk2, rfl, rfl, hB3⟩ := hrel
        have hcb := HCB.out k
        by_cases hlt2 : k < 256
        · have hrun := run_index_agg (P := Try.prog) Try.underlying67 HI.out HZ1.out aggBool hlt2 (HLN.out.2 k hlt2)
          have HNX : Hid (cntLines (addrs l) l.length (k + 1) = cntLines (addrs l) l.length k + if lineSeen (addrs l) (8 * (k : Int)) l.length then 1 else 0) := Lib.hid rfl
          obtain ⟨q, hq⟩ : ∃ q, cntLines (addrs l) l.length k = q := ⟨_, rfl⟩
          rw [hq] at HNX hcb ⊢
          clear hq
          cases hls : lineSeen (addrs l) (8 * (k : Int)) l.length
          · rw [hls] at HNX hrun
            clear hls
            go_wp2_with fail
            go_roundw
            case rel => exact ⟨k + 1, by omega, by go_num, by rw [HNX.out]; simp, hB3⟩
            case measure => simp [intOf]; omega
          · rw [hls] at HNX hrun
            clear hls
            go_wp2_with fail
            go_roundw
            case rel => exact ⟨k + 1, by omega, by go_num, by rw [HNX.out]; simp; omega, hB3⟩
            case measure => simp [intOf]; omega
        · obtain rfl : k = 256 := by omega
          rw [HCE.out]
          go_wp2_with fail
          go_ret2
          exact ⟨rfl, hB3⟩

set_option maxRecDepth 100000 in
set_option maxHeartbeats 1600000 in
theorem atOps_c (A : Option Addr) (l : List En) (c n : Nat) (ws : Int) (w : World) (hn : l.length = n) (hm : n ≤ 9223372036854775807) (hr : RdE w w.heap.size A l) (ho : ∀ e ∈ l, e.ok) (h0 : entErr (addrs l) ws = 0) :
    Calls Try.prog 34 #[.slice A n c, .int .i64 ws] w fun e w' => e = .returned (.tuple #[.int .i64 (eStores (addrs l) + eFlushes (addrs l) + eFences (addrs l)), .int .i64 0]) ∧ Below w.heap.size w w' := by
  subst hn
  have HR := Lib.hid hr
  have HO := Lib.hid ho
  have H0 := Lib.hid h0
  have h32 := (entErr_zero h0).2.1
  rw [addrs_len] at h32
  have hrng := ent_rng h0
  rw [addrs_len] at hrng
  have HRNG := Lib.hid hrng
  clear hr ho h0 hrng
  have hwl : (entWords l ws).length = 2 * l.length := by simp only [entWords, H0.out, if_true, entWl_len]
  have HWL := Lib.hid hwl
  clear hwl
  go_enter Try.func34, Try.ntmps34
  go_wp2_with fail
  refine (entWords_c A l c l.length ws w rfl hm HR.out HO.out).mono ?_
  rintro e w1 ⟨⟨P, cp, rfl, -, -⟩, hB1⟩
  rw [HWL.out, H0.out]
  have hz1 := hB1.size
  by_cases hl : l.length = 0
  · have HE := Lib.hid (show eStores (addrs l) + eFlushes (addrs l) + eFences (addrs l) = 0 by simp [eStores, eFlushes, eFences, addrs_len, hl])
    have inz : ((l.length : Int) == 0) = true := by rw [beq_iff_eq]; omega
    clear hl
    go_wp2_with fail
    go_ret2
    exact ⟨by rw [HE.out]; rfl, hB1⟩
  · have hl0 : 0 < l.length := by omega
    have inz : ((l.length : Int) == 0) = false := by rw [beq_eq_false_iff_ne]; omega
    have HE := Lib.hid (show eStores (addrs l) + eFlushes (addrs l) + eFences (addrs l) = 2 * (l.length : Int) + (2 * (l.length : Int) + 8 - 1) / 8 + 4 + ((l.length : Int) + 4 + (nLines (addrs l) l.length : Int)) by
      simp only [eStores, eFlushes, eFences, addrs_len, hl, if_false]; omega)
    have hnl := nLines_le (addrs l) l.length
    clear hl
    go_wp2_with fail
    refine (repOps_c A l c l.length w1 rfl h32 hl0 (HR.out.up hB1 hz1) HRNG.out).mono ?_
    rintro e w2 ⟨rfl, hB2⟩
    obtain ⟨q, hq⟩ : ∃ q, nLines (addrs l) l.length = q := ⟨_, rfl⟩
    rw [hq] at HE hnl ⊢
    clear hq
    go_wp2_with fail
    go_ret2
    exact ⟨by rw [HE.out]; simp, hB1.trans (hB2.mono hz1)⟩

set_option maxRecDepth 100000 in
set_option maxHeartbeats 1600000 in
theorem effortMade_walk (w : World) (A : Option Addr) (l : List En) (c : Nat) (hm : l.length ≤ maxLen) (_hc : l.length ≤ c) (hr : RdE w w.heap.size A l) (ho : ∀ e ∈ l, e.ok) (ws : Int) (_hw : -9223372036854775808 ≤ ws ∧ ws ≤ 9223372036854775807) :
    Calls Try.prog 10 #[.slice A l.length c, .int .i64 ws] w fun e w' => e = .returned (.bool true) ∧ Below w.heap.size w w' := by
  have HR := Lib.hid hr
  have HO := Lib.hid ho
  clear hr ho
  unfold maxLen at hm
  go_enter Try.func10, Try.ntmps10
  go_wp2_with fail
  refine (alive34_c _).mono ?_
  rintro e w0 ⟨rfl, hB0⟩
  have hz0 := hB0.size
  by_cases h40 : 40 < l.length
  · go_wp2_with fail
    go_ret
    exact ⟨rfl, hB0⟩
  by_cases h1 : ws < 256
  · go_wp2_with fail
    go_ret
    exact ⟨rfl, hB0⟩
  by_cases h2 : 2048 < ws
  · go_wp2_with fail
    go_ret
    exact ⟨rfl, hB0⟩
  by_cases h3 : ws % 8 = 0
  case neg =>
    have hq : (ws % 8 != 0) = true := by rw [bne_iff_ne]; exact h3
    have h1' : 256 ≤ ws := by omega
    clear h3
    go_wp2_with fail
    go_ret
    exact ⟨rfl, hB0⟩
  have hq : (ws % 8 != 0) = false := by rw [bne_eq_false_iff_eq]; exact h3
  have h1' : 256 ≤ ws := by omega
  have hle : l.length ≤ 40 := by omega
  have d40 : decide ((40 : Int) < (l.length : Int)) = false := by rw [decide_eq_false_iff_not]; omega
  have d1 : decide (ws < 256) = false := by rw [decide_eq_false_iff_not]; omega
  have d2 : decide ((2048 : Int) < ws) = false := by rw [decide_eq_false_iff_not]; omega
  clear h1 h2 h3 h40
  go_wp2_with fail
  refine (refCheck08_c A l c l.length ws _ rfl (by omega) (HR.out.up hB0 hz0)).mono ?_
  rintro e w1 ⟨rfl, hB1⟩
  have hb1 := hB0.trans (hB1.mono hz0)
  by_cases h0 : entErr (addrs l) ws = 0
  · have H0 := Lib.hid h0
    rw [h0]
    clear h0
    go_wp2_with fail
    refine (of_c A l c _ (by omega) (HR.out.up hb1 hb1.size)).mono ?_
    rintro e w2 ⟨rfl, hB2⟩
    obtain ⟨hs, h32, hpre⟩ := entErr_zero H0.out
    have hoe : ofErr (addrs l) = 0 := ofErr_ok h32 (okPre_of_ent ((sizeOk_iff ws).1 hs).2.1 hpre)
    rw [addrs_len] at h32
    have hnl := nLines_le (addrs l) l.length
    have hsb : 0 ≤ eStores (addrs l) ∧ eStores (addrs l) ≤ 200 := by unfold eStores; split <;> (try simp only [addrs_len]) <;> omega
    have hfb : 0 ≤ eFlushes (addrs l) ∧ eFlushes (addrs l) ≤ 200 := by unfold eFlushes; split <;> (try simp only [addrs_len]) <;> omega
    have hnb : 0 ≤ eFences (addrs l) ∧ eFences (addrs l) ≤ 200 := by unfold eFences; split <;> omega
    have hres : effRes (addrs l) = .tuple #[.agg #[.int .i64 (eStores (addrs l)), .int .i64 (eFlushes (addrs l)), .int .i64 (eFences (addrs l))], .int .i64 0] := by simp [effRes, effV, ofS, ofF, ofN, hoe]
    rw [hres]
    have hz1 := hb1.size
    have hb2 := hb1.trans (hB2.mono hz1)
    have hat := fun W (hW : RdE W W.heap.size A l) => atOps_c A l c l.length ws W rfl (by omega) hW HO.out H0.out
    obtain ⟨a, ha⟩ : ∃ a, eStores (addrs l) = a := ⟨_, rfl⟩
    obtain ⟨b, hb⟩ : ∃ b, eFlushes (addrs l) = b := ⟨_, rfl⟩
    obtain ⟨q, hq⟩ : ∃ q, eFences (addrs l) = q := ⟨_, rfl⟩
    rw [ha] at hsb hat ⊢
    rw [hb] at hfb hat ⊢
    rw [hq] at hnb hat ⊢
    have HAT := Lib.hid hat
    obtain ⟨s1, s2⟩ := hsb
    obtain ⟨f1, f2⟩ := hfb
    obtain ⟨n1, n2⟩ := hnb
    have hqq : (a + b + q == a + b + q) = true := by simp
    clear hs hpre hoe hres hnl hat ha hb hq
    go_wp2_with fail
    refine (HAT.out _ (((HR.out.up hb2 hb2.size).alloc (Nat.le_refl _) _).more (by simp))).mono ?_
    rintro e w3 ⟨rfl, hB3⟩
    rw [World.size_alloc] at hB3
    obtain ⟨c0, c1, c2, -⟩ := (Bx.of_new hB3).c3
    have hb3 := hb2.trans ((below_call hB3).mono hb2.size)
    go_wp2_with fail
    go_ret
    exact ⟨rfl, hb3⟩
  · obtain ⟨r, hr⟩ : ∃ r, entErr (addrs l) ws = r := ⟨_, rfl⟩
    have hn1 : (r == 0) = false := by rw [← hr, beq_eq_false_iff_ne]; exact h0
    have hn2 : (r != 0) = true := by rw [← hr, bne_iff_ne]; exact h0
    rw [hr]
    clear h0 hr
    go_wp2_with fail
    go_ret
    exact ⟨rfl, hb1⟩
end Go.Proofs.Ytiaddipbjigaiaa
