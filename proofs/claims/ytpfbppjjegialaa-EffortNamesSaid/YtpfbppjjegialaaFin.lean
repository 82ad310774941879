/- The last change: what the program returns. -/
import Derived.Test.YtpfbppjjegialaaFinP
import Derived.Test.YtpfbppjjegialaaKHeap
import Derived.Test.YtpfbppjjegialaaKRch
import Derived.Laws.OwnMore
namespace Go.Proofs.Ytpfbppjjegialaa
open Go.RowKit

set_option maxRecDepth 100000 in
set_option maxHeartbeats 4000000 in
theorem fEnd_c (A : Option Addr) (ws : List Nat) (c n : Nat) (w : World) (hn : ws.length = n) (hm : n ≤ 9223372036854775807) (hc : n ≤ c) (hr : RdW w w.heap.size A ws) (ho : ∀ x ∈ ws, x < 18446744073709551616) :
    Calls Try.prog 51 #[.slice A n c] w fun e w' => e = .returned (.tuple #[.int .i64 (enTo ws : Nat), .int .i64 (enErr ws)]) ∧ Below w.heap.size w w' := by
  subst hn
  have HR := Lib.hid hr
  have HCK := Lib.hid (fun W (h : RdW W W.heap.size A ws) => ckCheck_c A ws c ws.length W rfl hm hc h ho)
  have HLN := Lib.hid (fun W (h : RdW W W.heap.size A ws) => line_c A ws c ws.length W rfl hm hc h ho)
  have HLF := Lib.hid (fun W (h : RdW W W.heap.size A ws) => cLeft_c A ws c ws.length W rfl hm hc h ho)
  clear hr ho
  by_cases h0 : ckErr ws = 0
  · have hln := ck_ln h0
    have hlv : lnV ws = phV (wd ws 16) (wd ws 17) (wd ws 18) := by simp [lnV, hln]
    have HV1 := Lib.hid (fun h2 h3 => enErr_ok h0 h2 h3)
    have HV2 := Lib.hid (fun h2 => enErr_no h0 h2)
    have HTO : Hid (enErr ws = 6 → enTo ws = 0) := Lib.hid fun h => by simp [enTo, h]
    rw [h0] at HCK HLF
    rw [hln, hlv] at HLN
    unfold phV at HLN
    obtain ⟨x, hx⟩ : ∃ x, wd ws 16 = x := ⟨_, rfl⟩
    obtain ⟨y, hy⟩ : ∃ y, wd ws 17 = y := ⟨_, rfl⟩
    obtain ⟨z, hz⟩ : ∃ z, wd ws 18 = z := ⟨_, rfl⟩
    obtain ⟨N, hN⟩ : ∃ N, lfN ws = N := ⟨_, rfl⟩
    rw [hx, hy, hz] at HLN
    rw [hx, hN] at HV1 HV2
    rw [hz] at HV1
    rw [hN] at HLF
    have hways : (x = 4 ∧ N = 0) ∨ (x = 4 ∧ N ≠ 0) ∨ x ≠ 4 := by omega
    clear h0 hln hlv hx hy hz hN
    rcases hways with ⟨x4, n0⟩ | ⟨x4, n0⟩ | x4
    · have HV := Lib.hid (HV1.out x4 n0)
      subst x4 n0
      simp only [Int.cast_ofNat_Int] at HLN HLF
      clear HV1 HV2
      go_enter Try.func51, Try.ntmps51
      go_wp2_with fail
      refine (HCK.out _ HR.out).mono ?_
      rintro e w1 ⟨rfl, hB1⟩
      have HB1 := Lib.hid hB1
      have HR1 := Lib.hid (HR.out.up hB1 hB1.size)
      clear hB1
      go_wp2_with fail
      refine (HLN.out _ HR1.out).mono ?_
      rintro e w2 ⟨rfl, hB2⟩
      have HB2 := Lib.hid ((HB1.out.trans (hB2.mono HB1.out.size)).alloc (by have := hB2.size; have := HB1.out.size; omega) (.cells #[.int .i64 4, .int .i64 (y : Int), .int .i64 (z : Int)] 57))
      have HR2 := Lib.hid (HR.out.up HB2.out HB2.out.size)
      have BX2 := Lib.hid (Bx.new w2 57 #[.int .i64 4, .int .i64 (y : Int), .int .i64 (z : Int)])
      clear hB2
      go_wp2_with fail
      refine (HLF.out _ HR2.out).mono ?_
      rintro e w3 ⟨rfl, hB3⟩
      have bx3 := BX2.out.up hB3 BX2.out.lt
      obtain ⟨p0, p1, p2, -⟩ := bx3.c3
      have HB3 := Lib.hid (HB2.out.trans (hB3.mono HB2.out.size))
      clear hB3 bx3
      go_wp2_with fail
      go_ret2
      exact ⟨by rw [HV.out.1, HV.out.2]; rfl, HB3.out⟩
    all_goals
      have HV := Lib.hid (HV2.out (by omega))
      have HT0 := Lib.hid (HTO.out HV.out)
      have hxw : (x = 4 ∧ ((x : Int) != 4) = false ∧ (x != 4) = false ∧ decide ((0 : Int) < (N : Int)) = true ∧ decide (0 < N) = true) ∨ ((x : Int) != 4) = true ∧ (x != 4) = true := by
        by_cases h : x = 4
        · left; exact ⟨h, by rw [bne_eq_false_iff_eq]; omega, by rw [bne_eq_false_iff_eq]; exact h, by rw [decide_eq_true_iff]; omega, by rw [decide_eq_true_iff]; omega⟩
        · right; exact ⟨by rw [bne_iff_ne]; omega, by rw [bne_iff_ne]; exact h⟩
      clear HV1 HV2 HTO
      (try clear n0)
      clear x4
      rcases hxw with ⟨-, hx1, hx2, hx3, hx4⟩ | ⟨hx1, hx2⟩
      all_goals
        go_enter Try.func51, Try.ntmps51
        go_wp2_with fail
        refine (HCK.out _ HR.out).mono ?_
        rintro e w1 ⟨rfl, hB1⟩
        have HB1 := Lib.hid hB1
        have HR1 := Lib.hid (HR.out.up hB1 hB1.size)
        clear hB1
        go_wp2_with fail
        refine (HLN.out _ HR1.out).mono ?_
        rintro e w2 ⟨rfl, hB2⟩
        have HB2 := Lib.hid ((HB1.out.trans (hB2.mono HB1.out.size)).alloc (by have := hB2.size; have := HB1.out.size; omega) (.cells #[.int .i64 (x : Int), .int .i64 (y : Int), .int .i64 (z : Int)] 57))
        have HR2 := Lib.hid (HR.out.up HB2.out HB2.out.size)
        have BX2 := Lib.hid (Bx.new w2 57 #[.int .i64 (x : Int), .int .i64 (y : Int), .int .i64 (z : Int)])
        clear hB2
        go_wp2_with fail
        refine (HLF.out _ HR2.out).mono ?_
        rintro e w3 ⟨rfl, hB3⟩
        have bx3 := BX2.out.up hB3 BX2.out.lt
        obtain ⟨p0, p1, p2, -⟩ := bx3.c3
        have HB3 := Lib.hid (HB2.out.trans (hB3.mono HB2.out.size))
        clear hB3 bx3
        go_wp2_with fail
        go_ret2
        exact ⟨by rw [HV.out, HT0.out]; rfl, HB3.out⟩
  · have HV := Lib.hid (enErr_ck (ws := ws) rfl h0)
    have HT0 : Hid (enTo ws = 0) := Lib.hid (by simp [enTo, HV.out, h0])
    obtain ⟨r, hr⟩ : ∃ r, ckErr ws = r := ⟨_, rfl⟩
    rw [hr] at HCK h0 HV
    have hrn : (r != 0) = true := by rw [bne_iff_ne]; exact h0
    clear h0 hr
    go_enter Try.func51, Try.ntmps51
    go_wp2_with fail
    refine (HCK.out _ HR.out).mono ?_
    rintro e w1 ⟨rfl, hB1⟩
    go_wp2_with fail
    go_ret2
    exact ⟨by rw [HV.out, HT0.out]; rfl, hB1⟩

/-! The last change -/
theorem Ch.atE {w : World} {B : Nat} {A : Option Addr} {l : List Ch} (h : Rd w B A (l.flatMap Ch.cells)) {k : Nat} (hk : k < l.length) : ∃ b off, A = some ⟨b, off, none⟩ ∧ b < B ∧ w.cell? ⟨b, off + k, none⟩ = some (.slice l[k].A l[k].l.length l[k].c) := RdC.at_ h hk
def joinE (l : List Ch) : List En := l.flatMap Ch.l
set_option maxRecDepth 100000 in
set_option maxHeartbeats 2000000 in
theorem joined_c (A : Option Addr) (l : List Ch) (c n H : Nat) (w : World) (hn : l.length = n) (hlen : ∀ k, (joinE (l.take k)).length ≤ 1000) (hsm : ∀ x ∈ l, x.l.length ≤ 1000) (hm : n ≤ 1000) (hr : Rd w H A (l.flatMap Ch.cells)) (he : ∀ x ∈ l, RdE w H x.A x.l ∧ (x.A = none → x.c = 0)) (hH : H ≤ w.heap.size) :
    Calls Try.prog 53 #[.slice A n c] w fun e w' => (∃ v, e = .returned v ∧ w'.ownsRow w.heap.size 50 2 v (joinE l).length ((joinE l).flatMap En.cells)) ∧ Below w.heap.size w w' := by
  subst hn
  have HR := Lib.hid (hr.more hH)
  have HEE : Hid (∀ k (h : k < l.length), RdE w w.heap.size l[k].A l[k].l ∧ (l[k].A = none → l[k].c = 0)) := Lib.hid fun k h => ⟨(he _ (List.getElem_mem h)).1.more hH, (he _ (List.getElem_mem h)).2⟩
  have HSM : Hid (∀ k (h : k < l.length), l[k].l.length ≤ 1000) := Lib.hid fun k h => hsm _ (List.getElem_mem h)
  have HLE := Lib.hid hlen
  have HTK : Hid (∀ k (h : k < l.length), joinE (l.take (k + 1)) = joinE (l.take k) ++ l[k].l) := Lib.hid fun k h => by unfold joinE; rw [List.take_succ_eq_append_getElem h, List.flatMap_append]; simp
  clear hr he hH hlen hsm
  obtain ⟨i0, hi, hz0, hz1, hz2⟩ := info_parts infoEntry
  have HI := Lib.hid hi
  have HZ0 := Lib.hid hz0
  have HZ1 := Lib.hid hz1
  have HZ2 := Lib.hid hz2
  clear hi hz0 hz1 hz2
  go_enter Try.func53, Try.ntmps53
  go_wp2_with fail
  go_loopw [3, 8] (fun v i wr => ∃ k : Nat, k ≤ l.length ∧ i = .int .i64 k ∧ wr.ownsRow w.heap.size 50 2 v (joinE (l.take k)).length ((joinE (l.take k)).flatMap En.cells) ∧ Below w.heap.size w wr) (fun _ i _ => l.length - (intOf i).toNat)
  case atStart => exact ⟨0, Nat.zero_le _, rfl, World.ownsRow_nil _ _ _ _, Below.refl _ _⟩
  case round =>
    obtain ⟨k, hk, rfl, hown, hB⟩ := hrel
    have hz := hB.size
    by_cases hlt : k < l.length
    · obtain ⟨b, off, rfl, hb, p0⟩ := Ch.atE (Rd.below HR.out hB) hlt
      obtain ⟨he1, he2⟩ := HEE.out k hlt
      have hsm := HSM.out k hlt
      have hle := HLE.out k
      have HTS := Lib.hid (HTK.out k hlt)
      obtain ⟨x, hx⟩ : ∃ x, l[k] = x := ⟨_, rfl⟩
      rw [hx] at p0 he1 he2 hsm HTS
      obtain ⟨xA, xc, xl⟩ := x
      dsimp only at p0 he1 he2 hsm HTS
      obtain ⟨m, hm2⟩ : ∃ m, joinE (l.take k) = m := ⟨_, rfl⟩
      rw [hm2] at hown HTS hle
      have hk1 : (k : Int) < (l.length : Int) := by omega
      have hk0 : (0 : Int) ≤ (k : Int) := by omega
      have HE1 := Lib.hid (Rd.below he1 hB)
      have HXL := Lib.hid (flat_len En.cells 2 En.len xl)
      clear hx hm2 he1 he2
      go_wp2_with (at_builtin; refine wpList_append_rd' _ (by rfl) _ _ 24 rfl w.heap.size 50 i0 _ 2 16 Try.underlying24 HI.out HZ0.out HZ1.out HZ2.out rfl (by decide) _ _ _ (by rfl) hown w.heap.size xA xl.length _ (xl.flatMap En.cells) (by rfl) HXL.out HE1.out (cells_one En.one _) (by unfold maxLen; omega) (by omega) hz ?_; intro v1 wa hown1 hg1; have hB1 := below_append0 hB hz hown hg1)
      go_roundw
      case rel => exact ⟨k + 1, by omega, by go_num, by rw [HTS.out, List.length_append, List.flatMap_append]; exact hown1, hB1⟩
      case measure => simp [intOf]; omega
    · rw [List.take_of_length_le (by omega)] at hown
      go_wp2_with fail
      go_ret
      exact ⟨⟨_, rfl, hown⟩, hB⟩

def lnE (k : Nat) : List En := (List.range 3).map fun i => (⟨if i < k then ((16 + i : Nat) : Int) else 0, 0⟩ : En)
theorem lnE_len (k : Nat) : (lnE k).length = 3 := by simp [lnE]
theorem lnE_step {k : Nat} (hk : k < 3) : lnE (k + 1) = (lnE k).set k ⟨16 + (k : Int), 0⟩ := by
  match k, hk with
  | 0, _ => rfl
  | 1, _ => rfl
  | 2, _ => rfl
theorem lnE_get {k : Nat} (hk : k < 3) : (lnE k)[k]? = some ⟨0, 0⟩ := by
  match k, hk with
  | 0, _ => rfl
  | 1, _ => rfl
  | 2, _ => rfl
theorem en_seta (l : List En) (k : Nat) (x : En) (a : Int) (hk : l[k]? = some x) : (l.set k ⟨a, x.v⟩).flatMap En.cells = (l.flatMap En.cells).set (k * 2) (.int .i64 a) :=
  flat_set En.cells 2 En.len l k 0 (by omega) ⟨a, x.v⟩ (.int .i64 a) (fun y hy => by rw [hk] at hy; cases hy; rfl)
theorem zero_en3 : (madeCells #[Value.int .i64 0, .int .u64 0] (3 * 2)).toList = (lnE 0).flatMap En.cells := by kernel_rfl
def ChRes (ws : List Nat) (e : Ending) (w' : World) : Prop := ∃ A c, e = .returned (.tuple #[.slice A (chOut ws).length c, .int .i64 (enErr ws)]) ∧ RdE w' w'.heap.size A (chOut ws) ∧ (chOut ws).length ≤ c

set_option maxRecDepth 100000 in
set_option maxHeartbeats 4000000 in
theorem fChangeF_c (A : Option Addr) (ws : List Nat) (c n : Nat) (w : World) (hn : ws.length = n) (hm : n ≤ 9223372036854775807) (hc : n ≤ c) (hr : RdW w w.heap.size A ws) (ho : ∀ x ∈ ws, x < 18446744073709551616) :
    Calls Try.prog 30 #[.slice A n c] w fun e w' => EnRes w.heap.size (enErr ws) (chOut ws) e w' ∧ Below w.heap.size w w' := by
  subst hn
  have HC := Lib.hid (fEnd_c A ws c ws.length w rfl hm hc hr ho)
  clear hr ho
  by_cases h0 : enErr ws = 0
  · obtain ⟨hs, -, -, -, h5, h6, -, h8⟩ := en_facts h0
    have hb := (sizeOk_iff _).1 hs
    have hi := (inHp_iff _).1 h5
    rw [← h8] at hi h6
    have HFH := Lib.hid (fun h => free_hd h0 h)
    have HE := Lib.hid h0
    have HOUT : Hid (chOut ws = phE 0 0 0 ++ (if enTo ws = ws.length then [] else [⟨(enTo ws : Int), headW (freeBk (ws.length - enTo ws))⟩, ⟨((enTo ws + 1 : Nat) : Int), 0⟩])) := Lib.hid (by simp [chOut, h0])
    rw [h0] at HC
    obtain ⟨t, ht⟩ : ∃ t, enTo ws = t := ⟨_, rfl⟩
    rw [ht] at HC HFH HOUT hi h6
    have hlen : ws.length ≤ 2048 := by omega
    have ht1 : t ≤ 2048 := hi.2.1
    obtain ⟨i0, hi0, hz0, hz1, hz2⟩ := info_parts infoEntry
    have HIE := Lib.hid (And.intro hi0 (And.intro hz0 (And.intro hz1 hz2)))
    clear ht h0 h8 h5 hs hb hi hi0 hz0 hz1 hz2
    go_enter Try.func30, Try.ntmps30
    go_wp2_with fail
    refine HC.out.mono ?_
    rintro e w1 ⟨rfl, hB1⟩
    obtain ⟨W0, hmk, hown0, hg0⟩ := run_make_full (P := Try.prog) w1 w1.heap.size 24 50 i0 (.agg #[.int .i64 0, .int .u64 0]) 2 Try.underlying24 HIE.out.1 HIE.out.2.1 HIE.out.2.2.1 .i64 .i64 3 (by rw [HIE.out.2.2.2]; omega) (by unfold maxLen; omega) (Nat.le_refl _)
    have hown1 : W0.ownsRow w1.heap.size 50 2 (.slice (some ⟨w1.heap.size, 0, none⟩) 3 3) 3 ((lnE 0).flatMap En.cells) := by
      rw [← zero_en3]; exact hown0
    have HOW := Lib.hid hown1
    have HB1 := Lib.hid hB1
    have HBW := Lib.hid ((Below.refl w1.heap.size w1).grown hg0 (Nat.le_refl _) (fun k hk => by cases hk))
    simp only [Int.cast_ofNat_Int] at hmk
    clear hown0 hg0 hown1 hB1
    go_wp2_with fail
    clear hmk
    go_loopw [19] (fun i wr => ∃ k : Nat, k ≤ 3 ∧ i = .int .i64 k ∧ wr.ownsRow w1.heap.size 50 2 (.slice (some ⟨w1.heap.size, 0, none⟩) 3 3) 3 ((lnE k).flatMap En.cells) ∧ Below w1.heap.size w1 wr) (fun i _ => 3 - (intOf i).toNat)
    case atStart => exact ⟨0, Nat.zero_le _, rfl, HOW.out, HBW.out⟩
    case round =>
      obtain ⟨k, hk, rfl, hown, hB⟩ := hrel
      have hz := hB.size
      by_cases hlt : k < 3
      · have HS := Lib.hid (show (lnE (k + 1)).flatMap En.cells = ((lnE k).flatMap En.cells).set (k * 2) (.int .i64 (16 + (k : Int))) by
          rw [lnE_step hlt]; exact en_seta _ _ ⟨0, 0⟩ _ (lnE_get hlt))
        obtain ⟨u0, hu0⟩ : ∃ u0, ((lnE k).flatMap En.cells)[k * 2]? = some u0 := ⟨_, List.getElem?_eq_getElem (by rw [flat_len En.cells 2 En.len, lnE_len]; omega)⟩
        have d0 := (hown.cellAt (k * 2) (by omega)).trans hu0
        have e0 := hown.frozenAt (k * 2)
        have HOWN := Lib.hid hown
        have hk1 : (k : Int) < 3 := by omega
        have hk0 : (0 : Int) ≤ (k : Int) := by omega
        clear hu0 hown
        go_wp2_with fail
        go_roundw
        case rel => exact ⟨k + 1, by omega, by go_num, by rw [HS.out]; exact (HOWN.out.stored (k * 2) _).1, hB.setCell (p := ⟨w1.heap.size, k * 2, none⟩) (Nat.le_refl _) _⟩
        case measure => simp [intOf]; omega
      · obtain rfl : k = 3 := by omega
        rw [show lnE 3 = phE 0 0 0 from rfl] at hown
        have HOWN := Lib.hid hown
        clear hown
        by_cases hte : t = ws.length
        · have he1 : ((t : Int) == (ws.length : Int)) = true := by rw [beq_iff_eq]; omega
          have he1n : (t == ws.length) = true := by rw [beq_iff_eq]; exact hte
          have HO := Lib.hid (show chOut ws = phE 0 0 0 by rw [HOUT.out, if_pos hte, List.append_nil])
          clear hte HOUT
          go_wp2_with fail
          go_ret2
          exact ⟨⟨some ⟨w1.heap.size, 0, none⟩, 3, by rw [HO.out, HE.out]; rfl, by rw [HO.out]; exact own_mono HOWN.out HB1.out.size⟩, HB1.out.trans (hB.mono HB1.out.size)⟩
        · have he1 : ((t : Int) == (ws.length : Int)) = false := by rw [beq_eq_false_iff_ne]; omega
          have he1n : (t == ws.length) = false := by rw [beq_eq_false_iff_ne]; exact hte
          have HO := Lib.hid (show chOut ws = phE 0 0 0 ++ [⟨(t : Int), headW (freeBk (ws.length - t))⟩, ⟨((t + 1 : Nat) : Int), 0⟩] by rw [HOUT.out, if_neg hte])
          have hfh := HFH.out hte
          have HWD := Lib.hid (fun W => hdWord_c (freeBk (ws.length - t)) W)
          rw [show hwVal (freeBk (ws.length - t)) = headW (freeBk (ws.length - t)) by simp [hwVal, hfh], hdErr_ok hfh] at HWD
          rw [show (freeBk (ws.length - t)).val = .agg #[.int .i64 0, .int .i64 ((ws.length - t : Nat) : Int), .int .i64 2, .int .i64 0, .bool false, .int .u64 0] from rfl] at HWD
          have hws : IntKind.i64.wrap ((ws.length : Int) - (t : Int)) = ((ws.length - t : Nat) : Int) := by rw [IntWalk.i64_in _ (by omega)]; omega
          have hwt : IntKind.i64.wrap ((t : Int) + 1) = (t : Int) + 1 := IntWalk.i64_in _ (by omega)
          obtain ⟨hw, hhw⟩ : ∃ hw, headW (freeBk (ws.length - t)) = hw := ⟨_, rfl⟩
          rw [hhw] at HWD HO
          have HBz := Lib.hid (HB1.out.trans (hB.mono HB1.out.size))
          clear hte HOUT HFH hfh hhw
          go_wp2_with fail
          refine (HWD.out _).mono ?_
          rintro e w4 ⟨rfl, hB4⟩
          have HB4 := Lib.hid (HBz.out.trans (hB4.mono HBz.out.size))
          have HL4 := Lib.hid (own_below HOWN.out hB4 (Nat.le_refl _))
          clear hB4
          go_wp2_with fail
          have x0 := Bx.new w4 50 #[.int .i64 (t : Int), .int .u64 (hw : Int), .int .i64 ((t : Int) + 1), .int .u64 0]
          have x1 := Bx.new (w4.alloc (.cells #[.int .i64 (t : Int), .int .u64 (hw : Int), .int .i64 ((t : Int) + 1), .int .u64 0] 50)) 24 #[.slice (some ⟨w1.heap.size, 0, none⟩) 3 3, .slice (some ⟨w4.heap.size, 0, none⟩) 2 2]
          simp only [World.size_alloc] at x1
          have hBZ := (HB4.out.alloc HB4.out.size (.cells #[.int .i64 (t : Int), .int .u64 (hw : Int), .int .i64 ((t : Int) + 1), .int .u64 0] 50)).alloc (le_alloc_ HB4.out.size) (.cells #[.slice (some ⟨w1.heap.size, 0, none⟩) 3 3, .slice (some ⟨w4.heap.size, 0, none⟩) 2 2] 24)
          have hLZ := (HL4.out.alloc (.cells #[.int .i64 (t : Int), .int .u64 (hw : Int), .int .i64 ((t : Int) + 1), .int .u64 0] 50)).alloc (.cells #[.slice (some ⟨w1.heap.size, 0, none⟩) 3 3, .slice (some ⟨w4.heap.size, 0, none⟩) 2 2] 24)
          replace x0 := x0.alloc (.cells #[.slice (some ⟨w1.heap.size, 0, none⟩) 3 3, .slice (some ⟨w4.heap.size, 0, none⟩) 2 2] 24)
          obtain ⟨Z, hZ⟩ : ∃ Z, (w4.alloc (.cells #[.int .i64 (t : Int), .int .u64 (hw : Int), .int .i64 ((t : Int) + 1), .int .u64 0] 50)).alloc (.cells #[.slice (some ⟨w1.heap.size, 0, none⟩) 3 3, .slice (some ⟨w4.heap.size, 0, none⟩) 2 2] 24) = Z := ⟨_, rfl⟩
          rw [hZ] at x0 x1 hBZ hLZ ⊢
          clear hZ
          have hcz := Int.natCast_add t 1
          have HJ := joined_c (some ⟨w4.heap.size + 1, 0, none⟩) [⟨some ⟨w1.heap.size, 0, none⟩, 3, phE 0 0 0⟩, ⟨some ⟨w4.heap.size, 0, none⟩, 2, [⟨(t : Int), hw⟩, ⟨((t + 1 : Nat) : Int), 0⟩]⟩] 2 2 Z.heap.size Z rfl (fun k => by
            match k with
            | 0 => show (0 : Nat) ≤ 1000; omega
            | 1 => show (3 : Nat) ≤ 1000; omega
            | k + 2 => rw [List.take_of_length_le (by simp)]; show (5 : Nat) ≤ 1000; omega) (fun x hx => by
            simp only [List.mem_cons, List.not_mem_nil, or_false] at hx
            rcases hx with rfl | rfl
            · show (3 : Nat) ≤ 1000; omega
            · show (2 : Nat) ≤ 1000; omega) (by omega) (show Rd Z _ _ _ from Rd.of_box x1 x1.lt) (fun x hx => by
            simp only [List.mem_cons, List.not_mem_nil, or_false] at hx
            rcases hx with rfl | rfl
            · exact ⟨Rd.of_own hLZ, fun h => by cases h⟩
            · refine ⟨?_, fun h => by cases h⟩
              have := Rd.of_box x0 x0.lt
              show Rd Z _ _ [.int .i64 (t : Int), .int .u64 (hw : Int), .int .i64 ((t + 1 : Nat) : Int), .int .u64 ((0 : Nat) : Int)]
              rw [hcz]; exact this) (Nat.le_refl _)
          have HJJ := Lib.hid HJ
          have HBZ := Lib.hid hBZ
          clear HJ x0 x1 hBZ hLZ hcz
          refine HJJ.out.mono ?_
          rintro e w5 ⟨⟨v, rfl, hown5⟩, hB5⟩
          obtain ⟨A5, c5, rfl, hle5, hrd5⟩ := slice_of hown5
          have HW5 := Lib.hid (own_mono hown5 HBZ.out.size)
          have HB5 := Lib.hid (HBZ.out.trans (hB5.mono HBZ.out.size))
          clear hown5 hrd5 hle5 hB5
          go_wp2_with fail
          go_ret2
          exact ⟨⟨A5, c5, by rw [HO.out, HE.out]; rfl, by rw [HO.out]; exact HW5.out⟩, HB5.out⟩
  · have ho : chOut ws = [] := by simp [chOut, h0]
    have HO := Lib.hid ho
    obtain ⟨r, hr⟩ : ∃ r, enErr ws = r := ⟨_, rfl⟩
    have HE := Lib.hid hr
    rw [hr] at HC h0
    have hrn : (r != 0) = true := by rw [bne_iff_ne]; exact h0
    obtain ⟨t, ht⟩ : ∃ t, enTo ws = t := ⟨_, rfl⟩
    rw [ht] at HC
    clear h0 hr ht ho
    go_enter Try.func30, Try.ntmps30
    go_wp2_with fail
    refine HC.out.mono ?_
    rintro e w1 ⟨rfl, hB1⟩
    go_wp2_with fail
    go_ret2
    exact ⟨enRes_no HE.out HO.out, hB1⟩
theorem fChange_c (A : Option Addr) (ws : List Nat) (c n : Nat) (w : World) (hn : ws.length = n) (hm : n ≤ 9223372036854775807) (hc : n ≤ c) (hr : RdW w w.heap.size A ws) (ho : ∀ x ∈ ws, x < 18446744073709551616) :
    Calls Try.prog 30 #[.slice A n c] w fun e w' => ChRes ws e w' ∧ Below w.heap.size w w' := (fChangeF_c A ws c n w hn hm hc hr ho).mono fun _ _ ⟨h1, h2⟩ => ⟨h1.old, h2⟩
end Go.Proofs.Ytpfbppjjegialaa
