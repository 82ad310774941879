/- The next change of a view: the walk. -/
import Derived.Test.YtpfbppjjegialaaStgP
import Derived.Test.YtpfbppjjegialaaKFix
import Derived.Test.YtpfbppjjegialaaNxt
import Derived.Test.YtpfbppjjegialaaKHead
namespace Go.Proofs.Ytpfbppjjegialaa
open Go.RowKit

theorem own_made (w : World) {H n sz : Nat} (e : TypeId) (cs : Array Value) (hH : H ≤ w.heap.size) (hn : cs.size = n * sz) (hm : n ≤ maxLen) : (w.alloc (.cells cs e)).ownsRow H e sz (.slice (some ⟨w.heap.size, 0, none⟩) n n) n cs.toList :=
  ⟨by rw [Array.length_toList]; exact hn, .inr ⟨w.heap.size, n, cs, rfl, hH, heap_alloc_new w _, Nat.le_refl _, hm, hn, by rw [List.take_of_length_le (by rw [Array.length_toList, hn]; exact Nat.le_refl _)]⟩⟩
theorem own_take {w : World} {H n c m sz g : Nat} {e : TypeId} {xs : List Value} (h : w.ownsRow H e sz (.slice (some ⟨g, 0, none⟩) n c) n xs) (hm : m ≤ n) : w.ownsRow H e sz (.slice (some ⟨g, 0, none⟩) m c) m (xs.take (m * sz)) := by
  have hms : m * sz ≤ n * sz := Nat.mul_le_mul_right _ hm
  refine ⟨by rw [List.length_take, h.1]; omega, .inr ?_⟩
  rcases h.2 with ⟨h1, _⟩ | ⟨g', cap, cur, h1, h2, h3, h4, h5, h6, h7⟩
  · cases h1
  · simp only [Value.slice.injEq, Option.some.injEq, Addr.mk.injEq, and_true, true_and] at h1
    obtain ⟨rfl, rfl⟩ := h1
    refine ⟨g, c, cur, rfl, h2, h3, by omega, h5, h6, ?_⟩
    rw [← h7, List.take_take, Nat.min_eq_left hms]

set_option maxRecDepth 100000 in
set_option maxHeartbeats 1000000 in
theorem sgWord_c (i v : Int) (w : World) (hi : 0 ≤ i ∧ i ≤ 1000) (hv : 0 ≤ v ∧ v ≤ 9223372036854775807) :
    Calls Try.prog 47 #[.int .i64 i, .int .i64 v] w fun e w' => e = .returned (.agg #[.int .i64 (16 + i), .int .u64 v]) ∧ Below w.heap.size w w' := by
  have w1 : IntKind.i64.wrap (16 + i) = 16 + i := IntWalk.i64_in _ (by omega)
  have w2 : IntKind.u64.wrap v = v := IntWalk.u64_in _ (by omega)
  clear hi hv
  go_enter Try.func47, Try.ntmps47
  go_wp2_with fail
  exact bodyPost_ret (v := .agg #[.int .i64 (16 + i), .int .u64 v]) (by simp [results, Try.results47, go_sem]) rfl ⟨rfl, (Below.refl _ _).alloc (Nat.le_refl _) _⟩

set_option maxRecDepth 100000 in
set_option maxHeartbeats 2000000 in
theorem sgBatch_c (A : Option Addr) (E : List En) (c n p H : Nat) (w : World) (hn : E.length = n) (hm : n ≤ 100000) (hp : p ≤ 100) (hown : w.ownsRow H 50 2 (.slice A n c) n (E.flatMap En.cells)) (hH : H ≤ w.heap.size) :
    Calls Try.prog 42 #[.slice A n c, .int .i64 (p : Int)] w fun e w' => (∃ A' c', e = .returned (.slice A' (batE E p).length c') ∧ w'.ownsRow H 50 2 (.slice A' (batE E p).length c') (batE E p).length ((batE E p).flatMap En.cells)) ∧ Below w.heap.size w w' := by
  subst hn
  by_cases h : 32 ≤ E.length
  · have hb := batE_great (p := p) h
    obtain ⟨g, c', e⟩ := own_some hown (by omega)
    have hcap := own_capR hown
    cases e
    have HOW := Lib.hid (own_take hown (show 31 ≤ E.length by omega))
    have hl : (E.take 31).length = 31 := by rw [List.length_take]; omega
    have HB := Lib.hid (And.intro hb hl)
    have d32 : decide ((32 : Int) ≤ (E.length : Int)) = true := by rw [decide_eq_true_iff]; omega
    have d32n : decide (32 ≤ E.length) = true := by rw [decide_eq_true_iff]; omega
    have c31 : (31 : Int) ≤ (c : Int) := by omega
    have l31 : (31 : Int) ≤ (E.length : Int) := by omega
    clear hb hl h hown hcap
    go_enter Try.func42, Try.ntmps42
    go_wp2_with fail
    go_ret
    refine ⟨⟨some ⟨g, 0, none⟩, c, by rw [HB.out.1, HB.out.2]; rfl, ?_⟩, Below.refl _ _⟩
    rw [HB.out.1, HB.out.2, flat_take En.cells 2 En.len]
    exact HOW.out
  · have HB := Lib.hid (batE_few (p := p) h)
    have HR := Lib.hid (Rd.of_own hown)
    have HWD := Lib.hid (fun W => sgWord_c 0 (p : Int) W (by omega) (by omega))
    have d32 : decide ((32 : Int) ≤ (E.length : Int)) = false := by rw [decide_eq_false_iff_not]; omega
    have d32n : decide (32 ≤ E.length) = false := by rw [decide_eq_false_iff_not]; omega
    have hEl : E.length ≤ 31 := by omega
    have HH := Lib.hid hH
    clear h hown hH hm
    obtain ⟨i0, hi, hz0, hz1, hz2⟩ := info_parts infoEntry
    have HI := Lib.hid hi
    have HZ0 := Lib.hid hz0
    have HZ1 := Lib.hid hz1
    have HZ2 := Lib.hid hz2
    clear hi hz0 hz1 hz2
    go_enter Try.func42, Try.ntmps42
    go_wp2_with fail
    refine (HWD.out _).mono ?_
    rintro e w1 ⟨rfl, hB1⟩
    have HB1 := Lib.hid hB1
    have HR1 := Lib.hid (HR.out.up hB1 hB1.size)
    simp only [Int.add_zero]
    clear hB1
    go_wp2_with (at_builtin; refine wpList_append_rd' _ (by rfl) _ _ 24 rfl w1.heap.size 50 i0 _ 2 16 Try.underlying24 HI.out HZ0.out HZ1.out HZ2.out rfl (by decide) (.slice (some ⟨w1.heap.size, 0, none⟩) 1 1) 1 [.int .i64 16, .int .u64 (p : Int)] (by rfl) (own_made (n := 1) (sz := 2) w1 50 #[.int .i64 16, .int .u64 (p : Int)] (Nat.le_refl _) (by rfl) (by unfold maxLen; omega)) w1.heap.size (A) (E.length) c (E.flatMap En.cells) (by rfl) (by rw [flat_len En.cells 2 En.len]) (Rd.alloc (HR1.out) (Nat.le_refl _) _) (cells_one En.one _) (by unfold maxLen; omega) (by omega) (by simp) ?_; intro v1 wa hown1 hg1; have hBa := below_append0 ((Below.refl w1.heap.size w1).alloc (Nat.le_refl _) _) (by simp) (own_made (n := 1) (sz := 2) w1 50 #[.int .i64 16, .int .u64 (p : Int)] (Nat.le_refl _) (by rfl) (by unfold maxLen; omega)) hg1; have HOWN := Lib.hid hown1; have HBA := Lib.hid hBa; clear hown1 hBa hg1)
    go_ret
    have h1 := own_mono HOWN.out (show H ≤ w1.heap.size from Nat.le_trans HH.out HB1.out.size)
    rw [Nat.add_comm] at h1
    obtain ⟨A9, c9, rfl⟩ := own_slice h1
    refine ⟨⟨A9, c9, by rw [HB.out]; rfl, ?_⟩, HB1.out.trans (HBA.out.mono HB1.out.size)⟩
    rw [HB.out, List.length_cons]
    exact h1
/-- The next change of PhFix, with the first cursor told. -/
def sgFixAt (ws : List Nat) (f : Nat) : Int × List En := if f = 0 then (if fsErr ws = 0 then (0, ⟨17, 128⟩ :: fsOut ws) else (fsErr ws, [])) else fixE ws f
theorem sgFix_at (ws : List Nat) : sgFix ws = sgFixAt ws (wd ws 17) := rfl

set_option maxRecDepth 100000 in
set_option maxHeartbeats 8000000 in
theorem sgFix_c (A : Option Addr) (ws : List Nat) (c n f : Nat) (q t : Int) (w : World) (hn : ws.length = n) (hm : n ≤ 2048) (hf : f ≤ n) (hr : RdW w w.heap.size A ws) (ho : ∀ x ∈ ws, x < 18446744073709551616) :
    Calls Try.prog 44 #[.slice A n c, .agg #[.int .i64 q, .int .i64 (f : Int), .int .i64 t]] w fun e w' => EnRes w.heap.size (sgFixAt ws f).1 (sgFixAt ws f).2 e w' ∧ Below w.heap.size w w' := by
  subst hn
  have HR := Lib.hid hr
  have HFS := Lib.hid (fun W (h : RdW W W.heap.size A ws) => fxSlotsF_c A ws c ws.length W rfl (by omega) h ho)
  unfold EnRes at HFS
  have HNX := Lib.hid (fun a (h1 : a ≤ 4096) W (h : RdW W W.heap.size A ws) => next_c A ws c ws.length ((a : Nat) : Int) W rfl (by omega) (by omega) h ho)
  have HRS := Lib.hid (fun a W (h : RdW W W.heap.size A ws) => fxRefsAt_c A ws c ws.length ((a : Nat) : Int) W rfl (by omega) h ho)
  unfold RsRes at HRS
  have HOB := Lib.hid (fun a W (h : RdW W W.heap.size A ws) => fxObjectF_c A ws c ws.length ((a : Nat) : Int) W rfl (by omega) h ho)
  unfold EnRes at HOB
  have HW0 : Hid (∀ (v : Int) (W : World), 0 ≤ v ∧ v ≤ 9223372036854775807 → Calls Try.prog 47 #[.int .i64 0, .int .i64 v] W fun e w' => e = .returned (.agg #[.int .i64 16, .int .u64 v]) ∧ Below W.heap.size W w') := Lib.hid fun v W hv => sgWord_c 0 v W (by omega) hv
  have HW1 : Hid (∀ (v : Int) (W : World), 0 ≤ v ∧ v ≤ 9223372036854775807 → Calls Try.prog 47 #[.int .i64 1, .int .i64 v] W fun e w' => e = .returned (.agg #[.int .i64 17, .int .u64 v]) ∧ Below W.heap.size W w') := Lib.hid fun v W hv => sgWord_c 1 v W (by omega) hv
  have HW2 : Hid (∀ (v : Int) (W : World), 0 ≤ v ∧ v ≤ 9223372036854775807 → Calls Try.prog 47 #[.int .i64 2, .int .i64 v] W fun e w' => e = .returned (.agg #[.int .i64 18, .int .u64 v]) ∧ Below W.heap.size W w') := Lib.hid fun v W hv => sgWord_c 2 v W (by omega) hv
  have HFL : Hid (∀ m : Nat, obErr ws (m : Int) = 0 → (obOut ws (m : Int)).length ≤ 8) := Lib.hid fun m h => by obtain ⟨f, -, -, -, -, q5, -⟩ := ob_plain h; exact q5
  clear hr ho
  have xb := Bx.new w 57 #[.int .i64 q, .int .i64 (f : Int), .int .i64 t]
  have HBX := Lib.hid ((Below.refl w.heap.size w).alloc (Nat.le_refl _) (.cells #[.int .i64 q, .int .i64 (f : Int), .int .i64 t] 57))
  have HRX := Lib.hid ((HR.out.alloc (Nat.le_refl _) (.cells #[.int .i64 q, .int .i64 (f : Int), .int .i64 t] 57)).more (show w.heap.size ≤ (w.alloc (.cells #[.int .i64 q, .int .i64 (f : Int), .int .i64 t] 57)).heap.size by simp))
  have XB := Lib.hid xb
  clear xb
  by_cases hf0 : f = 0
  · subst hf0
    by_cases h0 : fsErr ws = 0
    · have HV := Lib.hid (show sgFixAt ws 0 = (0, ⟨17, 128⟩ :: fsOut ws) by unfold sgFixAt; rw [if_pos rfl, if_pos h0])
      have hl : (fsOut ws).length ≤ 16 := by obtain ⟨-, -, -, -, -, -, -, -, -, q3, -⟩ := fs_plain h0; exact q3
      rw [h0] at HFS
      obtain ⟨E, hE⟩ : ∃ E, fsOut ws = E := ⟨_, rfl⟩
      rw [hE] at HFS HV hl
      clear h0 hE
      obtain ⟨i0, hi, hz0, hz1, hz2⟩ := info_parts infoEntry
      have HI := Lib.hid hi
      have HZ0 := Lib.hid hz0
      have HZ1 := Lib.hid hz1
      have HZ2 := Lib.hid hz2
      clear hi hz0 hz1 hz2
      simp only [Int.cast_ofNat_Int] at XB HBX HRX ⊢
      go_enter Try.func44, Try.ntmps44
      go_wp2_with fail
      refine (HFS.out _ HRX.out).mono ?_
      rintro e w1 ⟨⟨A1, c1, rfl, hown1⟩, hB1⟩
      have HB1 := Lib.hid (HBX.out.trans (hB1.mono HBX.out.size))
      have HE1 := Lib.hid (Rd.of_own hown1)
      clear hown1 hB1
      go_wp2_with fail
      refine (HW1.out 128 _ (by omega)).mono ?_
      rintro e w2 ⟨rfl, hB2⟩
      have HB2 := Lib.hid (HB1.out.trans (hB2.mono HB1.out.size))
      have HE2 := Lib.hid (HE1.out.up hB2 hB2.size)
      clear hB2
      go_wp2_with (at_builtin; refine wpList_append_rd' _ (by rfl) _ _ 24 rfl w2.heap.size 50 i0 _ 2 16 Try.underlying24 HI.out HZ0.out HZ1.out HZ2.out rfl (by decide) (.slice (some ⟨w2.heap.size, 0, none⟩) 1 1) 1 [.int .i64 17, .int .u64 128] (by rfl) (own_made (n := 1) (sz := 2) w2 50 #[.int .i64 17, .int .u64 128] (Nat.le_refl _) (by rfl) (by unfold maxLen; omega)) w2.heap.size (A1) (E.length) c1 (E.flatMap En.cells) (by rfl) (by rw [flat_len En.cells 2 En.len]) (Rd.alloc (HE2.out) (Nat.le_refl _) _) (cells_one En.one _) (by unfold maxLen; omega) (by omega) (by simp) ?_; intro v1 wa hown1 hg1; have hBa := below_append0 ((Below.refl w2.heap.size w2).alloc (Nat.le_refl _) _) (by simp) (own_made (n := 1) (sz := 2) w2 50 #[.int .i64 17, .int .u64 128] (Nat.le_refl _) (by rfl) (by unfold maxLen; omega)) hg1; have HOWN := Lib.hid hown1; have HBA := Lib.hid hBa; clear hown1 hBa hg1)
      have h1 := own_mono HOWN.out HB2.out.size
      rw [Nat.add_comm] at h1
      obtain ⟨A9, c9, rfl⟩ := own_slice h1
      have H1 := Lib.hid h1
      clear h1
      go_ret2
      rw [HV.out]
      exact ⟨⟨A9, c9, rfl, H1.out⟩, HB2.out.trans (HBA.out.mono HB2.out.size)⟩
    · have HV := Lib.hid (show sgFixAt ws 0 = (fsErr ws, []) by unfold sgFixAt; rw [if_pos rfl, if_neg h0])
      have hne : (fsErr ws != 0) = true := by rw [bne_iff_ne]; exact h0
      obtain ⟨r, hr⟩ : ∃ r, fsErr ws = r := ⟨_, rfl⟩
      obtain ⟨E, hE⟩ : ∃ E, fsOut ws = E := ⟨_, rfl⟩
      rw [hr] at HFS HV hne
      rw [hE] at HFS
      clear h0 hr hE
      simp only [Int.cast_ofNat_Int] at XB HBX HRX ⊢
      go_enter Try.func44, Try.ntmps44
      go_wp2_with fail
      refine (HFS.out _ HRX.out).mono ?_
      rintro e w1 ⟨⟨A1, c1, rfl, -⟩, hB1⟩
      have HB1 := Lib.hid (HBX.out.trans (hB1.mono HBX.out.size))
      clear hB1
      go_wp2_with fail
      go_ret2
      rw [HV.out]
      exact ⟨enRes_no rfl rfl, HB1.out⟩
  · have HV : Hid (sgFixAt ws f = fixE ws f) := Lib.hid (by unfold sgFixAt; rw [if_neg hf0])
    have f0 : ((f : Int) == 0) = false := by rw [beq_eq_false_iff_ne]; omega
    have f0n : (f == 0) = false := by rw [beq_eq_false_iff_ne]; exact hf0
    clear hf0
    obtain ⟨wP, hwP⟩ : ∃ wP, w.alloc (.cells #[.int .i64 q, .int .i64 (f : Int), .int .i64 t] 57) = wP := ⟨_, rfl⟩
    rw [hwP] at HBX HRX XB
    obtain ⟨p0, p1, p2, -⟩ := XB.out.c3
    obtain ⟨i0, hi, hz0, hz1, hz2⟩ := info_parts infoEntry
    have HI := Lib.hid hi
    have HZ0 := Lib.hid hz0
    have HZ1 := Lib.hid hz1
    have HZ2 := Lib.hid hz2
    clear hi hz0 hz1 hz2
    go_enter Try.func44, Try.ntmps44
    go_wp2_with fail
    clear p0 p1 p2 f0 f0n
    go_loopw [8] (fun i wr => ∃ a : Nat, a ≤ ws.length ∧ i = .int .i64 a ∧ Hid (fixE ws a = fixE ws f) ∧ Below w.heap.size w wr) (fun i _ => ws.length + 1 - (intOf i).toNat)
    case atStart => exact ⟨f, hf, rfl, rfl, HBX.out⟩
    case round =>
      obtain ⟨a, ha, rfl, HFX, hB⟩ := hrel
      have hz := hB.size
      have HQ := Lib.hid (HNX.out a (by omega) wr (HR.out.up hB hz))
      have HBW := Lib.hid hB
      by_cases h0 : nxtErr ws (a : Int) = 0
      · obtain ⟨hs, a1, a2, m, em, m1, m2, m3, m4, m5, m6, m7, m8, -⟩ := nxt_at h0
        have hval : (nxtB ws (a : Int)).val = .agg #[.int .i64 (m : Int), .int .i64 ((szAt ws m : Nat) : Int), .int .i64 1, .int .i64 (bkAt ws m).typ, .bool true, .int .u64 ((bkAt ws m).next : Int)] := by
          rw [em]; unfold Bk.val; rw [m7, m8]; rfl
        rw [hval, h0] at HQ
        have HSK := Lib.hid (fun h => fixE_skip h0 em h)
        have HBD := Lib.hid (fun h h2 => fixE_bad h0 em h h2)
        have HOK := Lib.hid (fun h h2 => fixE_ok h0 em h h2)
        obtain ⟨z, hz2⟩ : ∃ z, szAt ws m = z := ⟨_, rfl⟩
        obtain ⟨T, hT⟩ : ∃ T, (bkAt ws m).typ = T := ⟨_, rfl⟩
        obtain ⟨N, hN⟩ : ∃ N, (bkAt ws m).next = N := ⟨_, rfl⟩
        rw [hz2, hT, hN] at HQ
        rw [hz2] at HSK HOK m3 m5
        have HRm := Lib.hid (fun W h => HRS.out m W h)
        have HOm := Lib.hid (fun W h => HOB.out m W h)
        have HFm := Lib.hid (HFL.out m)
        have wmz : IntKind.i64.wrap ((m : Int) + (z : Int)) = (m : Int) + (z : Int) := IntWalk.i64_in _ (by omega)
        have hcast : (((m + z : Nat)) : Int) = (m : Int) + (z : Int) := by omega
        have HCA := Lib.hid hcast
        have hmz : m + z ≤ ws.length := m5
        have hz02 : 2 ≤ z := m3
        have ham : a ≤ m := m1
        clear hs a1 a2 m1 m2 m3 m4 m5 m6 m7 m8 hval h0 em hz2 hT hN hcast hB
        by_cases hrs : rsOut ws (m : Int) = []
        · have HX := Lib.hid ((HSK.out hrs).symm.trans HFX.out)
          rw [hrs] at HRm
          clear hrs
          go_wp2_with fail
          refine HQ.out.mono ?_
          rintro e w1 ⟨rfl, hB1⟩
          have HB1 := Lib.hid (HBW.out.trans (hB1.mono hz))
          have XN0 := Bx.new w1 33 #[.int .i64 (m : Int), .int .i64 (z : Int), .int .i64 1, .int .i64 T, .bool true, .int .u64 (N : Int)]
          have HBn := Lib.hid (HB1.out.alloc HB1.out.size (.cells #[.int .i64 (m : Int), .int .i64 (z : Int), .int .i64 1, .int .i64 T, .bool true, .int .u64 (N : Int)] 33))
          have HRn := Lib.hid (HR.out.up HBn.out HBn.out.size)
          have XN := Lib.hid XN0
          clear hB1 XN0
          go_wp2_with fail
          refine (HRm.out _ HRn.out).mono ?_
          rintro e w2 ⟨⟨A2, c2, rfl, -, -⟩, hB2⟩
          have HB2 := Lib.hid (HBn.out.trans (hB2.mono HBn.out.size))
          clear hB2
          simp only [List.length_nil]
          go_wp2_with fail
          go_roundw
          case rel => exact ⟨m + z, hmz, by rw [HCA.out], HX.out, HB2.out⟩
          case measure => simp [intOf]; omega
        · have hlr : ¬ (rsOut ws (m : Int)).length = 0 := fun h => hrs (List.eq_nil_of_length_eq_zero h)
          obtain ⟨lr, hlr2⟩ : ∃ lr, (rsOut ws (m : Int)).length = lr := ⟨_, rfl⟩
          rw [hlr2] at HRm hlr
          have l0 : ((lr : Int) == 0) = false := by rw [beq_eq_false_iff_ne]; omega
          have l0n : (lr == 0) = false := by rw [beq_eq_false_iff_ne]; exact hlr
          by_cases ho : obErr ws (m : Int) = 0
          · have HX := Lib.hid (show sgFixAt ws f = (0, ⟨17, m + z⟩ :: obOut ws (m : Int)) by rw [HV.out, ← HFX.out]; exact HOK.out hrs ho)
            have hE8 := HFm.out ho
            rw [ho] at HOm
            obtain ⟨E, hE⟩ : ∃ E, obOut ws (m : Int) = E := ⟨_, rfl⟩
            rw [hE] at HOm HX hE8
            clear hrs hlr hlr2 ho hE
            go_wp2_with fail
            refine HQ.out.mono ?_
            rintro e w1 ⟨rfl, hB1⟩
            have HB1 := Lib.hid (HBW.out.trans (hB1.mono hz))
            have XN0 := Bx.new w1 33 #[.int .i64 (m : Int), .int .i64 (z : Int), .int .i64 1, .int .i64 T, .bool true, .int .u64 (N : Int)]
            have HBn := Lib.hid (HB1.out.alloc HB1.out.size (.cells #[.int .i64 (m : Int), .int .i64 (z : Int), .int .i64 1, .int .i64 T, .bool true, .int .u64 (N : Int)] 33))
            have HRn := Lib.hid (HR.out.up HBn.out HBn.out.size)
            have XN := Lib.hid XN0
            clear hB1 XN0
            go_wp2_with fail
            refine (HRm.out _ HRn.out).mono ?_
            rintro e w2 ⟨⟨A2, c2, rfl, -, -⟩, hB2⟩
            have HB2 := Lib.hid (HBn.out.trans (hB2.mono HBn.out.size))
            have HR2 := Lib.hid (HRn.out.up hB2 hB2.size)
            have x2 := XN.out.up hB2 XN.out.lt
            obtain ⟨p0, p1, -⟩ := x2.c6
            clear hB2 x2
            go_wp2_with fail
            refine (HOm.out _ HR2.out).mono ?_
            rintro e w3 ⟨⟨A3, c3, rfl, hown3⟩, hB3⟩
            have HB3 := Lib.hid (HB2.out.trans (hB3.mono HB2.out.size))
            have HE3 := Lib.hid (Rd.of_own hown3)
            clear hown3 hB3 p0 p1
            go_wp2_with fail
            refine (HW1.out _ _ (by omega)).mono ?_
            rintro e w4 ⟨rfl, hB4⟩
            have HB4 := Lib.hid (HB3.out.trans (hB4.mono HB3.out.size))
            have HE4 := Lib.hid (HE3.out.up hB4 hB4.size)
            clear hB4
            go_wp2_with (at_builtin; refine wpList_append_rd' _ (by rfl) _ _ 24 rfl w4.heap.size 50 i0 _ 2 16 Try.underlying24 HI.out HZ0.out HZ1.out HZ2.out rfl (by decide) (.slice (some ⟨w4.heap.size, 0, none⟩) 1 1) 1 [.int .i64 17, .int .u64 ((m : Int) + (z : Int))] (by rfl) (own_made (n := 1) (sz := 2) w4 50 #[.int .i64 17, .int .u64 ((m : Int) + (z : Int))] (Nat.le_refl _) (by rfl) (by unfold maxLen; omega)) w4.heap.size (A3) (E.length) c3 (E.flatMap En.cells) (by rfl) (by rw [flat_len En.cells 2 En.len]) (Rd.alloc (HE4.out) (Nat.le_refl _) _) (cells_one En.one _) (by unfold maxLen; omega) (by omega) (by simp) ?_; intro v1 wa hown1 hg1; have hBa := below_append0 ((Below.refl w4.heap.size w4).alloc (Nat.le_refl _) _) (by simp) (own_made (n := 1) (sz := 2) w4 50 #[.int .i64 17, .int .u64 ((m : Int) + (z : Int))] (Nat.le_refl _) (by rfl) (by unfold maxLen; omega)) hg1; have HOWN := Lib.hid hown1; have HBA := Lib.hid hBa; clear hown1 hBa hg1)
            have h1 := own_mono HOWN.out HB4.out.size
            rw [Nat.add_comm] at h1
            obtain ⟨A9, c9, rfl⟩ := own_slice h1
            have H1 := Lib.hid h1
            clear h1
            go_ret2
            rw [HX.out]
            refine ⟨⟨A9, c9, rfl, ?_⟩, HB4.out.trans (HBA.out.mono HB4.out.size)⟩
            have h2 := H1.out
            rw [← HCA.out] at h2
            exact h2
          · have HX := Lib.hid (show sgFixAt ws f = (obErr ws (m : Int), []) by rw [HV.out, ← HFX.out]; exact HBD.out hrs ho)
            have hne : (obErr ws (m : Int) != 0) = true := by rw [bne_iff_ne]; exact ho
            obtain ⟨r, hr⟩ : ∃ r, obErr ws (m : Int) = r := ⟨_, rfl⟩
            obtain ⟨E, hE⟩ : ∃ E, obOut ws (m : Int) = E := ⟨_, rfl⟩
            rw [hE, hr] at HOm
            rw [hr] at HX hne
            clear hrs hlr hlr2 ho hE hr
            go_wp2_with fail
            refine HQ.out.mono ?_
            rintro e w1 ⟨rfl, hB1⟩
            have HB1 := Lib.hid (HBW.out.trans (hB1.mono hz))
            have XN0 := Bx.new w1 33 #[.int .i64 (m : Int), .int .i64 (z : Int), .int .i64 1, .int .i64 T, .bool true, .int .u64 (N : Int)]
            have HBn := Lib.hid (HB1.out.alloc HB1.out.size (.cells #[.int .i64 (m : Int), .int .i64 (z : Int), .int .i64 1, .int .i64 T, .bool true, .int .u64 (N : Int)] 33))
            have HRn := Lib.hid (HR.out.up HBn.out HBn.out.size)
            have XN := Lib.hid XN0
            clear hB1 XN0
            go_wp2_with fail
            refine (HRm.out _ HRn.out).mono ?_
            rintro e w2 ⟨⟨A2, c2, rfl, -, -⟩, hB2⟩
            have HB2 := Lib.hid (HBn.out.trans (hB2.mono HBn.out.size))
            have HR2 := Lib.hid (HRn.out.up hB2 hB2.size)
            have x2 := XN.out.up hB2 XN.out.lt
            obtain ⟨p0, p1, -⟩ := x2.c6
            clear hB2 x2
            go_wp2_with fail
            refine (HOm.out _ HR2.out).mono ?_
            rintro e w3 ⟨⟨A3, c3, rfl, -⟩, hB3⟩
            have HB3 := Lib.hid (HB2.out.trans (hB3.mono HB2.out.size))
            clear hB3 p0 p1
            go_wp2_with fail
            go_ret2
            rw [HX.out]
            exact ⟨enRes_no rfl rfl, HB3.out⟩
      · have HX := Lib.hid (show sgFixAt ws f = (0, slidesE) by rw [HV.out, ← HFX.out]; exact fixE_no h0)
        have hne : (nxtErr ws (a : Int) != 0) = true := by rw [bne_iff_ne]; exact h0
        obtain ⟨r, hr⟩ : ∃ r, nxtErr ws (a : Int) = r := ⟨_, rfl⟩
        obtain ⟨B, hBv⟩ : ∃ B, nxtB ws (a : Int) = B := ⟨_, rfl⟩
        rw [hr, hBv] at HQ
        rw [hr] at hne
        obtain ⟨xa, xs, xk, xt, xm, xn⟩ := B
        unfold Bk.val at HQ
        dsimp only at HQ
        clear h0 hr hBv hB
        go_wp2_with fail
        refine HQ.out.mono ?_
        rintro e w1 ⟨rfl, hB1⟩
        have HB1 := Lib.hid ((HBW.out.trans (hB1.mono hz)).alloc (Nat.le_trans HBW.out.size hB1.size) (.cells #[.int .i64 xa, .int .i64 xs, .int .i64 xk, .int .i64 xt, .bool xm, .int .u64 (xn : Int)] 33))
        clear hB1
        go_wp2_with fail
        refine (HW0.out 4 _ (by omega)).mono ?_
        rintro e w2 ⟨rfl, hB2⟩
        have HB2 := Lib.hid (HB1.out.trans (hB2.mono HB1.out.size))
        clear hB2
        go_wp2_with fail
        refine (HW1.out 128 _ (by omega)).mono ?_
        rintro e w3 ⟨rfl, hB3⟩
        have HB3 := Lib.hid (HB2.out.trans (hB3.mono HB2.out.size))
        clear hB3
        go_wp2_with fail
        refine (HW2.out 128 _ (by omega)).mono ?_
        rintro e w4 ⟨rfl, hB4⟩
        have HB4 := Lib.hid (HB3.out.trans (hB4.mono HB3.out.size))
        clear hB4
        go_wp2_with fail
        go_ret2
        rw [HX.out]
        exact ⟨⟨some ⟨w4.heap.size, 0, none⟩, 3, rfl, own_made (n := 3) (sz := 2) w4 50 #[.int .i64 16, .int .u64 4, .int .i64 17, .int .u64 128, .int .i64 18, .int .u64 128] HB4.out.size rfl (by unfold maxLen; omega)⟩, HB4.out.alloc HB4.out.size _⟩
end Go.Proofs.Ytpfbppjjegialaa
