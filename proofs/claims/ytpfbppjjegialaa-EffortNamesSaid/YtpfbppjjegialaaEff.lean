/- The program's effort of a change, for every slice of entries: its error and what it returns are the reference's. -/
import Derived.Test.YtpfbppjjegialaaEffQ
namespace Go.Proofs.Ytpfbppjjegialaa
open Go.RowKit

def arr2048 : Array Value := Array.replicate 2048 (.bool false)
def arr256 : Array Value := Array.replicate 256 (.bool false)
theorem zero2048 (w : World) : (zeroValue 73).run Try.prog w = .ok (.agg arr2048) w := by kernel_rfl
theorem zero256 (w : World) : (zeroValue 74).run Try.prog w = .ok (.agg arr256) w := by kernel_rfl
theorem row2048 (w : World) : (w.alloc (.cells arr2048 73)).rowIs w.heap.size 73 2048 (fun _ => .bool false) :=
  ⟨arr2048, heap_alloc_new w _, by simp [arr2048], fun i hi => by simp [arr2048, hi]⟩
theorem row256 (w : World) : (w.alloc (.cells arr256 74)).rowIs w.heap.size 74 256 (fun _ => .bool false) :=
  ⟨arr256, heap_alloc_new w _, by simp [arr256], fun i hi => by simp [arr256, hi]⟩

set_option maxHeartbeats 400000 in
theorem meet_no (x gl gs : Nat) (w : World) (hx : x < 2048) (hc : w.cell? ⟨gl, x / 8, none⟩ = some (.bool true)) :
    Calls Try.prog 35 #[.int .i64 (x : Int), .pointer (some ⟨gl, 0, none⟩), .pointer (some ⟨gs, 0, none⟩)] w fun e w' => e = .returned (.tuple #[]) ∧ w = w' := by
  go_enter Try.func35, Try.ntmps35
  go_wp2
  go_end0
  exact ⟨rfl, rfl⟩
set_option maxHeartbeats 400000 in
theorem meet_yes (x gl gs : Nat) (n : Nat) (w : World) (hx : x < 2048) (hn : n ≤ 32) (hg : gl ≠ gs) (hc : w.cell? ⟨gl, x / 8, none⟩ = some (.bool false)) (hf : w.frozen? ⟨gl, x / 8, none⟩ = false)
    (hs : w.cell? ⟨gs, 0, none⟩ = some (.int .i64 (n : Int))) (hsf : w.frozen? ⟨gs, 0, none⟩ = false) :
    Calls Try.prog 35 #[.int .i64 (x : Int), .pointer (some ⟨gl, 0, none⟩), .pointer (some ⟨gs, 0, none⟩)] w fun e w' => e = .returned (.tuple #[]) ∧
      (w.setCell ⟨gl, x / 8, none⟩ (.bool true)).setCell ⟨gs, 0, none⟩ (.int .i64 ((n : Int) + 1)) = w' := by
  have hg' : gs ≠ gl := fun h => hg h.symm
  go_enter Try.func35, Try.ntmps35
  go_wp2
  go_end0
  exact ⟨rfl, rfl⟩

/-- What the loop over the entries keeps: H is the heap's size when the call began. -/
structure OfRel (H : Nat) (ad : List Int) (k : Nat) (w wr : World) : Prop where
  below : Below H w wr
  res : wr.rowIs H 45 3 (fun _ => .int .i64 0)
  words : wr.rowIs (H + 1) 73 2048 (fun i => .bool (addrSeen ad (i : Int) k))
  lines : wr.rowIs (H + 1 + 1) 74 256 (fun i => .bool (lineSeen ad (8 * (i : Int)) k))
  sev : wr.rowIs (H + 1 + 1 + 1) 3 1 (fun _ => .int .i64 (nLines ad k : Nat))

theorem OfRel.start (w : World) (ad : List Int) : OfRel w.heap.size ad 0 w ((((w.alloc (.cells #[.int .i64 0, .int .i64 0, .int .i64 0] 45)).alloc (.cells arr2048 73)).alloc (.cells arr256 74)).alloc (.cells #[.int .i64 0] 3)) := by
  have h1 := row2048 (w.alloc (.cells #[.int .i64 0, .int .i64 0, .int .i64 0] 45))
  have h2 := row256 ((w.alloc (.cells #[.int .i64 0, .int .i64 0, .int .i64 0] 45)).alloc (.cells arr2048 73))
  simp only [World.size_alloc] at h1 h2
  refine ⟨?_, ?_, ?_, ?_, ?_⟩
  · (repeat' (first | with_reducible assumption | with_reducible exact Below.refl _ _ | (with_reducible refine below_drewN ?_ _) | (with_reducible refine Below.drew ?_) | (with_reducible refine Below.alloc ?_ ?_ _) | (with_reducible refine Below.setCell ?_ ?_ _))) <;> (first | exact Nat.le_refl _ | exact Nat.le_succ _ | omega | (dsimp only; omega) | ((repeat (first | (with_reducible refine le_alloc_ ?_) | (with_reducible refine le_set_ ?_) | (with_reducible refine le_drewN_ ?_))); first | exact Nat.le_refl _ | omega))
  · exact ((World.rowIs.alloc (⟨#[.int .i64 0, .int .i64 0, .int .i64 0], heap_alloc_new w _, rfl, fun i hi => by
      match i, hi with
      | 0, _ => rfl
      | 1, _ => rfl
      | 2, _ => rfl⟩) _).alloc _).alloc _
  · exact (h1.alloc _).alloc _
  · exact h2.alloc _
  · have h3 := heap_alloc_new (((w.alloc (.cells #[.int .i64 0, .int .i64 0, .int .i64 0] 45)).alloc (.cells arr2048 73)).alloc (.cells arr256 74)) (.cells #[.int .i64 0] 3)
    simp only [World.size_alloc] at h3
    exact ⟨#[.int .i64 0], h3, rfl, fun i hi => by
      match i, hi with
      | 0, _ => rfl⟩

theorem OfRel.wstep {H k x : Nat} {ad : List Int} {w wr : World} (h : OfRel H ad k w wr) (hx : ad[k]?.getD 0 = (x : Int)) :
    (wr.setCell ⟨H + 1, x, none⟩ (.bool true)).rowIs (H + 1) 73 2048 (fun i => .bool (addrSeen ad (i : Int) (k + 1))) :=
  (h.words.set x (.bool true)).congr fun i _ => by
    simp only [addrSeen, hx]
    by_cases e : i = x
    · subst e; simp
    · have : ((x : Int) == (i : Int)) = false := by rw [beq_eq_false_iff_ne]; omega
      simp [e, this]
theorem OfRel.step_new {H k x : Nat} {ad : List Int} {w wr : World} (h : OfRel H ad k w wr) (hx : ad[k]?.getD 0 = (x : Int)) (hl : lineSeen ad (8 * ((x / 8 : Nat) : Int)) k = false) (o : Obj) :
    OfRel H ad (k + 1) w ((((wr.setCell ⟨H + 1, x, none⟩ (.bool true)).setCell ⟨H + 1 + 1, x / 8, none⟩ (.bool true)).setCell ⟨H + 1 + 1 + 1, 0, none⟩ (.int .i64 ((nLines ad k : Nat) + 1))).alloc o) := by
  have hz3 := h.sev.lt
  have hB := h.below
  refine ⟨?_, ?_, ?_, ?_, ?_⟩
  · (repeat' (first | with_reducible assumption | with_reducible exact Below.refl _ _ | (with_reducible refine below_drewN ?_ _) | (with_reducible refine Below.drew ?_) | (with_reducible refine Below.alloc ?_ ?_ _) | (with_reducible refine Below.setCell ?_ ?_ _))) <;> (first | exact Nat.le_refl _ | exact Nat.le_succ _ | omega | (dsimp only; omega) | ((repeat (first | (with_reducible refine le_alloc_ ?_) | (with_reducible refine le_set_ ?_) | (with_reducible refine le_drewN_ ?_))); first | exact Nat.le_refl _ | omega))
  · have hr := h.res
    (repeat' (first | with_reducible exact hr | (with_reducible refine World.rowIs.alloc ?_ _) | (with_reducible refine World.rowIs.setOther ?_ ?_ _) | (with_reducible refine rowIs_drewN ?_ _))) <;> (dsimp only; omega)
  · have hr := h.wstep hx
    (repeat' (first | with_reducible exact hr | (with_reducible refine World.rowIs.alloc ?_ _) | (with_reducible refine World.rowIs.setOther ?_ ?_ _) | (with_reducible refine rowIs_drewN ?_ _))) <;> (dsimp only; omega)
  · refine (World.rowIs.setOther (World.rowIs.congr ((World.rowIs.setOther h.lines (a := ⟨H + 1, x, none⟩) (by dsimp only; omega) _).set (x / 8) (.bool true)) ?_) (by dsimp only; omega) _).alloc _
    intro i hi
    simp only [lineSeen, hx]
    by_cases e : i = x / 8
    · subst e
      have : ((x : Int) / 8 == 8 * ((x / 8 : Nat) : Int) / 8) = true := by rw [beq_iff_eq]; omega
      rw [this, if_pos rfl, Bool.or_true]
    · have : ((x : Int) / 8 == 8 * (i : Int) / 8) = false := by rw [beq_eq_false_iff_ne]; omega
      rw [this, if_neg e, Bool.or_false]
  · refine (World.rowIs.congr ((World.rowIs.setOther (World.rowIs.setOther h.sev (a := ⟨H + 1, x, none⟩) (by dsimp only; omega) _) (a := ⟨H + 1 + 1, x / 8, none⟩) (by dsimp only; omega) _).set 0 _) ?_).alloc _
    intro i hi
    have e : i = 0 := by omega
    subst e
    have : lineSeen ad (x : Int) k = false := by rw [lineSeen_eq ad (x : Int) (8 * ((x / 8 : Nat) : Int)) (by omega)]; exact hl
    simp [nLines, hx, this]
theorem OfRel.step_old {H k x : Nat} {ad : List Int} {w wr : World} (h : OfRel H ad k w wr) (hx : ad[k]?.getD 0 = (x : Int)) (hl : lineSeen ad (8 * ((x / 8 : Nat) : Int)) k = true) (o : Obj) :
    OfRel H ad (k + 1) w ((wr.setCell ⟨H + 1, x, none⟩ (.bool true)).alloc o) := by
  have hz3 := h.sev.lt
  have hB := h.below
  refine ⟨?_, ?_, ?_, ?_, ?_⟩
  · (repeat' (first | with_reducible assumption | with_reducible exact Below.refl _ _ | (with_reducible refine below_drewN ?_ _) | (with_reducible refine Below.drew ?_) | (with_reducible refine Below.alloc ?_ ?_ _) | (with_reducible refine Below.setCell ?_ ?_ _))) <;> (first | exact Nat.le_refl _ | exact Nat.le_succ _ | omega | (dsimp only; omega) | ((repeat (first | (with_reducible refine le_alloc_ ?_) | (with_reducible refine le_set_ ?_) | (with_reducible refine le_drewN_ ?_))); first | exact Nat.le_refl _ | omega))
  · have hr := h.res
    (repeat' (first | with_reducible exact hr | (with_reducible refine World.rowIs.alloc ?_ _) | (with_reducible refine World.rowIs.setOther ?_ ?_ _) | (with_reducible refine rowIs_drewN ?_ _))) <;> (dsimp only; omega)
  · have hr := h.wstep hx
    (repeat' (first | with_reducible exact hr | (with_reducible refine World.rowIs.alloc ?_ _) | (with_reducible refine World.rowIs.setOther ?_ ?_ _) | (with_reducible refine rowIs_drewN ?_ _))) <;> (dsimp only; omega)
  · refine (World.rowIs.congr (World.rowIs.setOther h.lines (a := ⟨H + 1, x, none⟩) (by dsimp only; omega) _) ?_).alloc _
    intro i hi
    simp only [lineSeen, hx]
    by_cases e : i = x / 8
    · rw [e, hl, Bool.true_or]
    · have : ((x : Int) / 8 == 8 * (i : Int) / 8) = false := by rw [beq_eq_false_iff_ne]; omega
      rw [this, Bool.or_false]
  · refine (World.rowIs.congr (World.rowIs.setOther h.sev (a := ⟨H + 1, x, none⟩) (by dsimp only; omega) _) ?_).alloc _
    intro i hi
    have e : i = 0 := by omega
    subst e
    have : lineSeen ad (x : Int) k = true := by rw [lineSeen_eq ad (x : Int) (8 * ((x / 8 : Nat) : Int)) (by omega)]; exact hl
    simp [nLines, hx, this]

set_option maxRecDepth 100000 in
set_option maxHeartbeats 800000 in
theorem of_c (A : Option Addr) (l : List En) (c : Nat) (w : World) (hm : l.length ≤ 9223372036854775807) (hr : RdE w w.heap.size A l) :
    Calls Try.prog 17 #[.slice A l.length c] w fun e w' => e = .returned (effRes (addrs l)) ∧ Below w.heap.size w w' := by
  have HR := Lib.hid hr
  clear hr
  by_cases h : 32 < l.length
  · have hend := Lib.hid (effRes_err (ofErr_many (ad := addrs l) (by rw [addrs_len]; exact h)) (by omega))
    go_enter Try.func17, Try.ntmps17
    go_wp2_with fail
    exact bodyPost_ret (v := .tuple #[effV 0 0 0, .int .i64 4]) (by simp [results, Try.results17, go_sem, effV]) rfl ⟨by rw [hend.out], (Below.refl _ _).alloc (Nat.le_refl _) _⟩
  · have hle : l.length ≤ 32 := by omega
    clear h
    have hz1 := zero2048
    have hz2 := zero256
    go_enter Try.func17, Try.ntmps17
    go_wp2_with fail
    clear hz1 hz2
    go_loopw [19] (fun i wr => ∃ k : Nat, k ≤ l.length ∧ i = .int .i64 k ∧ okPre (addrs l) k = true ∧ OfRel w.heap.size (addrs l) k w wr) (fun i _ => l.length - (intOf i).toNat)
    case atStart =>
      exact ⟨0, Nat.zero_le _, rfl, rfl, OfRel.start w _⟩
    case round =>
      obtain ⟨k, hk, rfl, hok, hR⟩ := hrel
      have HOK := Lib.hid hok
      clear hok
      have HRel := Lib.hid hR
      clear hR
      have hz0 := HRel.out.res.lt
      have hz1 := HRel.out.words.lt
      have hz2 := HRel.out.lines.lt
      have hz3 := HRel.out.sev.lt
      have hc0 := HRel.out.res.cell (i := 0) (by omega)
      have hc1 := HRel.out.res.cell (i := 1) (by omega)
      have hc2 := HRel.out.res.cell (i := 2) (by omega)
      have hf0 := HRel.out.res.frozen 0
      have hf1 := HRel.out.res.frozen 1
      have hf2 := HRel.out.res.frozen 2
      by_cases hlt : k < l.length
      · obtain ⟨b, off, rfl, hb, h2, h3⟩ := HR.out.at_ hlt
        have E2 := Lib.hid (addrs_get l k hlt)
        replace h2 := (HRel.out.below.cell (p := ⟨b, off + k * 2, none⟩) hb).trans h2
        replace h3 := (HRel.out.below.cell (p := ⟨b, off + k * 2 + 1, none⟩) hb).trans h3
        generalize hx : l[k].a = x at *
        generalize hv : l[k].v = v at *
        have HX := Lib.hid hx
        have HV := Lib.hid hv
        clear hx hv
        have hz4 : b < wr.heap.size := by omega
        have hend : ∀ w' : World, okPre (addrs l) (k + 1) = false → Below w.heap.size w w' →
            Ending.returned (.tuple #[effV 0 0 0, .int .i64 2]) = .returned (effRes (addrs l)) ∧ Below w.heap.size w w' :=
          fun _ h1 h3 => ⟨by rw [effRes_err (ofErr_arg (by rw [addrs_len]; exact hle) h1 (by rw [addrs_len]; exact hlt)) (by omega)], h3⟩
        have HEND := Lib.hid hend
        clear hend
        have hB := HRel.out.below
        by_cases hx0 : x < 0
        · have hbk := Lib.hid (okPre_bad (ad := addrs l) (k := k) (by rw [E2.out]; omega))
          go_wp2_with fail
          refine bodyPost_ret (v := .tuple #[effV 0 0 0, .int .i64 2]) (by simp [results, Try.results17, go_sem, effV, hc0, hc1, hc2, hz0]) rfl (HEND.out _ hbk.out ?_)
          (repeat' (first | with_reducible assumption | with_reducible exact Below.refl _ _ | (with_reducible refine below_drewN ?_ _) | (with_reducible refine Below.drew ?_) | (with_reducible refine Below.alloc ?_ ?_ _) | (with_reducible refine Below.setCell ?_ ?_ _))) <;> (first | exact Nat.le_refl _ | exact Nat.le_succ _ | omega | (dsimp only; omega) | ((repeat (first | (with_reducible refine le_alloc_ ?_) | (with_reducible refine le_set_ ?_) | (with_reducible refine le_drewN_ ?_))); first | exact Nat.le_refl _ | omega))
        · obtain ⟨x, rfl⟩ := Int.eq_ofNat_of_zero_le (show 0 ≤ x by omega)
          clear hx0
          by_cases hx1 : 2048 ≤ x
          · have hbk := Lib.hid (okPre_bad (ad := addrs l) (k := k) (by rw [E2.out]; omega))
            go_wp2_with fail
            refine bodyPost_ret (v := .tuple #[effV 0 0 0, .int .i64 2]) (by simp [results, Try.results17, go_sem, effV, hc0, hc1, hc2, hz0]) rfl (HEND.out _ hbk.out ?_)
            (repeat' (first | with_reducible assumption | with_reducible exact Below.refl _ _ | (with_reducible refine below_drewN ?_ _) | (with_reducible refine Below.drew ?_) | (with_reducible refine Below.alloc ?_ ?_ _) | (with_reducible refine Below.setCell ?_ ?_ _))) <;> (first | exact Nat.le_refl _ | exact Nat.le_succ _ | omega | (dsimp only; omega) | ((repeat (first | (with_reducible refine le_alloc_ ?_) | (with_reducible refine le_set_ ?_) | (with_reducible refine le_drewN_ ?_))); first | exact Nat.le_refl _ | omega))
          · have hx2 : x < 2048 := by omega
            clear hx1
            have hw1 := HRel.out.words.cell (i := x) hx2
            have hwf := HRel.out.words.frozen x
            have hl1 := HRel.out.lines.cell (i := x / 8) (by omega)
            have hlf := HRel.out.lines.frozen (x / 8)
            have hs1 := HRel.out.sev.cell (i := 0) (by omega)
            have hsf := HRel.out.sev.frozen 0
            cases hsn : addrSeen (addrs l) x k
            · have HSN := Lib.hid hsn
              rw [hsn] at hw1
              clear hsn
              cases hln : lineSeen (addrs l) (8 * ((x / 8 : Nat) : Int)) k
              · rw [hln] at hl1
                have HLN := Lib.hid hln
                clear hln
                have hle2 := nLines_le (addrs l) k
                go_wp2_with fail
                refine (meet_yes x (w.heap.size + 1 + 1) (w.heap.size + 1 + 1 + 1) (nLines (addrs l) k) _ hx2 (by omega) (by omega) (by go_simp) (by go_simp) (by go_simp) (by go_simp)).mono ?_
                rintro e w1 ⟨rfl, rfl⟩
                go_wp2_with fail
                go_roundw
                case rel =>
                  exact ⟨k + 1, by omega, by go_num, okPre_step HOK.out (by rw [E2.out]; omega) (by rw [E2.out]; omega) (by rw [E2.out]; exact HSN.out), HRel.out.step_new E2.out HLN.out _⟩
                case measure => simp [intOf]; omega
              · rw [hln] at hl1
                have HLN := Lib.hid hln
                clear hln
                go_wp2_with fail
                refine (meet_no x (w.heap.size + 1 + 1) (w.heap.size + 1 + 1 + 1) _ hx2 (by go_simp)).mono ?_
                rintro e w1 ⟨rfl, rfl⟩
                go_wp2_with fail
                go_roundw
                case rel =>
                  exact ⟨k + 1, by omega, by go_num, okPre_step HOK.out (by rw [E2.out]; omega) (by rw [E2.out]; omega) (by rw [E2.out]; exact HSN.out), HRel.out.step_old E2.out HLN.out _⟩
                case measure => simp [intOf]; omega
            · rw [hsn] at hw1
              have hbk := Lib.hid (show okPre (addrs l) (k + 1) = false by simp [okPre, E2.out, hsn])
              clear hsn
              go_wp2_with fail
              refine bodyPost_ret (v := .tuple #[effV 0 0 0, .int .i64 2]) (by simp [results, Try.results17, go_sem, effV, hc0, hc1, hc2, hz0]) rfl (HEND.out _ hbk.out ?_)
              (repeat' (first | with_reducible assumption | with_reducible exact Below.refl _ _ | (with_reducible refine below_drewN ?_ _) | (with_reducible refine Below.drew ?_) | (with_reducible refine Below.alloc ?_ ?_ _) | (with_reducible refine Below.setCell ?_ ?_ _))) <;> (first | exact Nat.le_refl _ | exact Nat.le_succ _ | omega | (dsimp only; omega) | ((repeat (first | (with_reducible refine le_alloc_ ?_) | (with_reducible refine le_set_ ?_) | (with_reducible refine le_drewN_ ?_))); first | exact Nat.le_refl _ | omega))
      · have : k = l.length := by omega
        subst this
        have hs1 := HRel.out.sev.cell (i := 0) (by omega)
        have hsf := HRel.out.sev.frozen 0
        have hle2 := nLines_le (addrs l) l.length
        have hz : Hid (effRes (addrs l) = .tuple #[effV (eStores (addrs l)) (eFlushes (addrs l)) (eFences (addrs l)), .int .i64 0]) :=
          effRes_ok (ofErr_ok (by rw [addrs_len]; exact hle) (by rw [addrs_len]; exact HOK.out))
        have hB := HRel.out.below
        have hfin : ∀ w' : World, Below w.heap.size w w' → Ending.returned (.tuple #[effV (eStores (addrs l)) (eFlushes (addrs l)) (eFences (addrs l)), .int .i64 0]) = .returned (effRes (addrs l)) ∧ Below w.heap.size w w' := fun _ h => ⟨by rw [hz.out], h⟩
        have HFIN := Lib.hid hfin
        clear hfin hlt
        by_cases h0 : l.length = 0
        · obtain ⟨n, hn⟩ : ∃ n, n = l.length := ⟨_, rfl⟩
          have hm0 : nLines (addrs l) l.length = 0 := by rw [h0]; rfl
          have he1 : eStores (addrs l) = 0 := by simp [eStores, addrs_len, h0]
          have he2 : eFlushes (addrs l) = 0 := by simp [eFlushes, addrs_len, h0]
          have he3 : eFences (addrs l) = 0 := by simp [eFences, addrs_len, h0]
          rw [he1, he2, he3] at HFIN
          rw [hm0] at hs1
          clear he1 he2 he3 hm0 hz hle2
          rw [← hn] at h0
          have H0 := Lib.hid h0
          rw [← hn, h0]
          clear h0 hn
          go_wp2_with fail
          refine bodyPost_ret (v := .tuple #[effV 0 0 0, .int .i64 0]) (by simp [results, Try.results17, go_sem, effV, hc0, hc1, hc2, hz0]) rfl (HFIN.out _ ?_)
          (repeat' (first | with_reducible assumption | with_reducible exact Below.refl _ _ | (with_reducible refine below_drewN ?_ _) | (with_reducible refine Below.drew ?_) | (with_reducible refine Below.alloc ?_ ?_ _) | (with_reducible refine Below.setCell ?_ ?_ _))) <;> (first | exact Nat.le_refl _ | exact Nat.le_succ _ | omega | (dsimp only; omega) | ((repeat (first | (with_reducible refine le_alloc_ ?_) | (with_reducible refine le_set_ ?_) | (with_reducible refine le_drewN_ ?_))); first | exact Nat.le_refl _ | omega))
        · have he1 : eStores (addrs l) = 3 * l.length + 2 := by simp [eStores, addrs_len, h0]
          have he2 : eFlushes (addrs l) = (2 * l.length + 8 - 1) / 8 + nLines (addrs l) l.length + 2 := by
            rw [show (2 * (l.length : Int) + 8 - 1) = 2 * l.length + 7 from by omega]
            simp [eFlushes, addrs_len, h0]
          have he3 : eFences (addrs l) = 4 := by simp [eFences, addrs_len, h0]
          rw [he1, he2, he3] at HFIN
          clear he1 he2 he3 hz
          generalize nLines (addrs l) l.length = m at *
          have hne : (((3 * (l.length : Int) + 2 == 2)) = false) := by rw [beq_eq_false_iff_ne]; omega
          go_wp2_with fail
          refine bodyPost_ret (v := .tuple #[effV (3 * l.length + 2) ((2 * l.length + 8 - 1) / 8 + m + 2) 4, .int .i64 0]) (by simp [results, Try.results17, go_sem, effV, hc0, hc1, hc2, hz0]) rfl (HFIN.out _ ?_)
          (repeat' (first | with_reducible assumption | with_reducible exact Below.refl _ _ | (with_reducible refine below_drewN ?_ _) | (with_reducible refine Below.drew ?_) | (with_reducible refine Below.alloc ?_ ?_ _) | (with_reducible refine Below.setCell ?_ ?_ _))) <;> (first | exact Nat.le_refl _ | exact Nat.le_succ _ | omega | (dsimp only; omega) | ((repeat (first | (with_reducible refine le_alloc_ ?_) | (with_reducible refine le_set_ ?_) | (with_reducible refine le_drewN_ ?_))); first | exact Nat.le_refl _ | omega))
end Go.Proofs.Ytpfbppjjegialaa
