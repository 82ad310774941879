/- Texts laid together: SupP SupR SupS SupT. -/
import Derived.Test.YtoaepffpjoibaaaGreatKImage
import Derived.Test.YtoaepffpjoibaaaGreatKRef15
import Derived.Test.YtoaepffpjoibaaaGreatKStg2
import Derived.Test.YtoaepffpjoibaaaGreatR02S
namespace Go.Proofs.YtoaepffpjoibaaaGreat
open Go.RowKit

/-- The words of a superblock but for the sum. -/
def sp7 (n t : Nat) : List Nat := [32777959566500194, 1, n, t, 0, 0, 0]
def spL (n t : Nat) : List Nat := sp7 n t ++ [sumFrom 14695981039346656037 (sp7 n t)]
theorem spL_len (n t : Nat) : (spL n t).length = 8 := rfl
/-- Whether eight words are a superblock's. -/
def spOk (l : List Nat) : Bool := sizeOk ((wd l 2 : Nat) : Int) && (decide (wd l 3 ≤ 8) && decide (spL (wd l 2) (wd l 3) = l))
def spErr (l : List Nat) : Int := if spOk l = true then 0 else 50
def spV (l : List Nat) : Value := if spOk l = true then .agg #[.int .i64 ((wd l 2 : Nat) : Int), .int .i64 ((wd l 3 : Nat) : Int)] else .agg #[.int .i64 0, .int .i64 0]
/-- The eight words from a place on. -/
def sp8 (ws : List Nat) (a : Nat) : List Nat := (ws.drop a).take 8
theorem sp8_wd {ws : List Nat} {a i : Nat} (h : i < 8) : wd (sp8 ws a) i = wd ws (a + i) := by
  unfold sp8 wd
  rw [List.getElem?_take, if_pos h, List.getElem?_drop]
/-- Whether the copy at a place is right. -/
def cpOk (ws : List Nat) (a : Nat) : Bool := spOk (sp8 ws a) && wd ws (a + 2) == ws.length
/-- How many types the superblock tells. -/
def tyN (ws : List Nat) : Option Nat := if cpOk ws 0 = true then some (wd ws 3) else if cpOk ws 8 = true then some (wd ws 11) else none
theorem spOk_iff (l : List Nat) : spOk l = true ↔ sizeOk ((wd l 2 : Nat) : Int) = true ∧ wd l 3 ≤ 8 ∧ spL (wd l 2) (wd l 3) = l := by
  unfold spOk
  simp
theorem tyN_le {ws : List Nat} {t : Nat} (h : tyN ws = some t) : t ≤ 8 := by
  unfold tyN at h
  split at h
  · rename_i h1
    simp only [Option.some.injEq] at h
    unfold cpOk at h1
    rw [Bool.and_eq_true] at h1
    have := ((spOk_iff _).1 h1.1).2.1
    rw [sp8_wd (by omega)] at this
    simp at this
    omega
  · split at h
    · rename_i h1
      simp only [Option.some.injEq] at h
      unfold cpOk at h1
      rw [Bool.and_eq_true] at h1
      have := ((spOk_iff _).1 h1.1).2.1
      rw [sp8_wd (by omega)] at this
      simp at this
      omega
    · cases h
theorem sum_lt {l : List Nat} : sumFrom 14695981039346656037 l < 18446744073709551616 := sumFrom_lt (by omega) l
end Go.Proofs.YtoaepffpjoibaaaGreat

namespace Go.Proofs.YtoaepffpjoibaaaGreat
open Go.RowKit

def supErr (n t : Nat) : Int := if sizeOk (n : Int) = true then (if t ≤ 8 then 0 else 8) else 8
set_option maxRecDepth 100000 in
set_option maxHeartbeats 1000000 in
theorem r06Check_c (n t : Nat) (w : World) (hn : n ≤ 1000000) (ht : t ≤ 1000000) :
    Calls Tryz.prog 109 #[.agg #[.int .i64 (n : Int), .int .i64 (t : Int)]] w fun e w' => e = .returned (.int .i64 (supErr n t)) ∧ Below w.heap.size w w' := by
  have HB := Lib.hid ((Below.refl w.heap.size w).alloc (Nat.le_refl _) (.cells #[.int .i64 (n : Int), .int .i64 (t : Int)] 113))
  have HS := Lib.hid (fun W => refSize_c n W (by omega))
  have d1 : decide ((t : Int) < 0) = false := by rw [decide_eq_false_iff_not]; omega
  cases hs : sizeOk (n : Int)
  · have HV := Lib.hid (show supErr n t = 8 by simp [supErr, hs])
    rw [hs] at HS
    clear hs
    go_enter Tryz.func109, Tryz.ntmps109
    go_wp2_with fail
    refine (HS.out _).mono ?_
    rintro e w1 ⟨rfl, rfl⟩
    go_wp2_with fail
    go_ret
    exact ⟨by rw [HV.out]; rfl, HB.out⟩
  · rw [hs] at HS
    by_cases h8 : t ≤ 8
    · have HV := Lib.hid (show supErr n t = 0 by simp [supErr, hs, h8])
      have d2 : decide ((8 : Int) < (t : Int)) = false := by rw [decide_eq_false_iff_not]; omega
      have d2n : decide (8 < t) = false := by rw [decide_eq_false_iff_not]; omega
      clear hs
      go_enter Tryz.func109, Tryz.ntmps109
      go_wp2_with fail
      refine (HS.out _).mono ?_
      rintro e w1 ⟨rfl, rfl⟩
      go_wp2_with fail
      go_ret
      exact ⟨by rw [HV.out]; rfl, HB.out⟩
    · have HV := Lib.hid (show supErr n t = 8 by simp [supErr, hs, h8])
      have d2 : decide ((8 : Int) < (t : Int)) = true := by rw [decide_eq_true_iff]; omega
      have d2n : decide (8 < t) = true := by rw [decide_eq_true_iff]; omega
      clear hs
      go_enter Tryz.func109, Tryz.ntmps109
      go_wp2_with fail
      refine (HS.out _).mono ?_
      rintro e w1 ⟨rfl, rfl⟩
      go_wp2_with fail
      go_ret
      exact ⟨by rw [HV.out]; rfl, HB.out⟩
theorem infoWord0 : (Tryz.prog.info? 46).map (fun i => (i.zero, i.size, i.bytes)) = some (some (.int .u64 0), 1, 8) := by kernel_rfl
set_option maxRecDepth 100000 in
set_option maxHeartbeats 2000000 in
theorem r06Written_c (n t : Nat) (w : World) (hn : n ≤ 1000000) (ht : t ≤ 1000000) :
    Calls Tryz.prog 111 #[.agg #[.int .i64 (n : Int), .int .i64 (t : Int)]] w fun e w' => (∃ A c, e = .returned (.slice A 8 c) ∧ w'.ownsRow w.heap.size 46 1 (.slice A 8 c) 8 ((spL n t).flatMap wordCells)) ∧ Below w.heap.size w w' := by
  have HS := Lib.hid (fun A W (hr : RdW W W.heap.size A (sp7 n t)) => refSum_c A (sp7 n t) 7 7 W rfl (by omega) hr (fun x hx => by
    simp only [sp7, List.mem_cons, List.not_mem_nil, or_false] at hx
    omega))
  have HL := Lib.hid (show (spL n t).flatMap wordCells = [.int .u64 32777959566500194, .int .u64 1, .int .u64 (n : Int), .int .u64 (t : Int), .int .u64 0, .int .u64 0, .int .u64 0] ++ [.int .u64 ((sumFrom 14695981039346656037 (sp7 n t) : Nat) : Int)] by
    unfold spL
    rw [flat_snoc]
    rfl)
  obtain ⟨q, hq⟩ : ∃ q, sumFrom 14695981039346656037 (sp7 n t) = q := ⟨_, rfl⟩
  rw [hq] at HS HL
  have HB := Lib.hid ((Below.refl w.heap.size w).alloc (Nat.le_refl _) (.cells #[.int .i64 (n : Int), .int .i64 (t : Int)] 113))
  have w1 : IntKind.u64.wrap (n : Int) = (n : Int) := IntWalk.u64_in _ (by omega)
  have w2 : IntKind.u64.wrap (t : Int) = (t : Int) := IntWalk.u64_in _ (by omega)
  clear hq
  obtain ⟨i0, hi, hz0, hz1, hz2⟩ := info_parts infoWord0
  have HI := Lib.hid hi
  have HZ0 := Lib.hid hz0
  have HZ1 := Lib.hid hz1
  have HZ2 := Lib.hid hz2
  clear hi hz0 hz1 hz2
  go_enter Tryz.func111, Tryz.ntmps111
  go_wp2_with fail
  obtain ⟨wa, hwa⟩ : ∃ wa, w.alloc (.cells #[.int .i64 (n : Int), .int .i64 (t : Int)] 113) = wa := ⟨_, rfl⟩
  have hsa : wa.heap.size = w.heap.size + 1 := by rw [← hwa, World.size_alloc]
  rw [hwa] at HB ⊢
  have hza := HB.out.size
  have hown := own_made (n := 7) (sz := 1) wa 46 #[.int .u64 32777959566500194, .int .u64 1, .int .u64 (n : Int), .int .u64 (t : Int), .int .u64 0, .int .u64 0, .int .u64 0] hza rfl (by unfold maxLen; omega)
  rw [hsa] at hown
  clear hsa
  refine (HS.out _ _ (show Rd _ _ _ _ from Rd.of_own hown)).mono ?_
  rintro e w5 ⟨rfl, hB5⟩
  have hownw := own_below hown hB5 (Nat.le_refl _)
  have HB5 := Lib.hid ((HB.out.alloc hza (.cells #[.int .u64 32777959566500194, .int .u64 1, .int .u64 (n : Int), .int .u64 (t : Int), .int .u64 0, .int .u64 0, .int .u64 0] 46)).trans (hB5.mono (by simp; omega)))
  clear hwa hown hB5
  go_wp2_with (at_builtin; refine wpList_append_own _ rfl _ _ 22 rfl w.heap.size 46 i0 _ 1 8 Tryz.underlying22 HI.out HZ0.out HZ1.out HZ2.out rfl (by decide) _ _ _ rfl (hownw.alloc _) ⟨_, 0, none⟩ 1 1 [.int .u64 (q : Int)] rfl rfl (news_new _ _ _) (by simp [Value.oneCell']) (by unfold maxLen; omega) (by omega) (le_alloc_ HB5.out.size) ?_; intro v1 w6 hown1 hg1 _; have hB6 := below_append HB5.out HB5.out.size hownw hg1)
  obtain ⟨A1, c1, rfl⟩ := own_slice hown1
  go_ret
  exact ⟨⟨A1, c1, rfl, by rw [HL.out]; exact hown1⟩, hB6⟩
theorem results_sup {fn : Func} {p q : Tmp} (h : fn.results = #[.cell p 113, .tmp q]) (tmps : Array Value) {W : World} {g : Nat} {t : TypeId} {v0 v1 u : Value} (hb : Bx W g t #[v0, v1]) (hp : tmps.getD p undef = .pointer (some ⟨g, 0, none⟩)) (hq : tmps.getD q undef = u) :
    (results fn tmps).run Tryz.prog W = .ok (.tuple #[.agg #[v0, v1], u]) W := by
  obtain ⟨c0, c1, -⟩ := hb.c2
  rw [Array.getD_eq_getD_getElem?] at hp hq
  simp [results, h, hp, hq, go_sem, c0, c1]
theorem spOk_no {l : List Nat} (h : spOk l = false) : spV l = .agg #[.int .i64 0, .int .i64 0] ∧ spErr l = 50 := by simp [spV, spErr, h]
theorem spOk_yes {l : List Nat} (h : spOk l = true) : spV l = .agg #[.int .i64 ((wd l 2 : Nat) : Int), .int .i64 ((wd l 3 : Nat) : Int)] ∧ spErr l = 0 := by simp [spV, spErr, h]
theorem spOk_bad {l : List Nat} (h : ¬ (sizeOk ((wd l 2 : Nat) : Int) = true ∧ wd l 3 ≤ 8)) : spOk l = false := by
  cases hq : spOk l with
  | false => rfl
  | true => exact absurd ⟨((spOk_iff l).1 hq).1, ((spOk_iff l).1 hq).2.1⟩ h
set_option maxRecDepth 100000 in
set_option maxHeartbeats 4000000 in
theorem r06Read_c (A : Option Addr) (l : List Nat) (c : Nat) (w : World) (hn : l.length = 8) (hr : RdW w w.heap.size A l) :
    Calls Tryz.prog 100 #[.slice A 8 c] w fun e w' => e = .returned (.tuple #[spV l, .int .i64 (spErr l)]) ∧ Below w.heap.size w w' := by
  obtain ⟨b, off, rfl, hb, c2⟩ := RdW.at_ hr (show 2 < l.length by omega)
  obtain ⟨b', off', e', -, c3⟩ := RdW.at_ hr (show 3 < l.length by omega)
  cases e'
  rw [← wd_get] at c2 c3
  have HSZ := Lib.hid (fun h => sizeOk_iff ((wd l 2 : Nat) : Int) |>.1 h)
  have HNO := Lib.hid (fun h => spOk_bad (l := l) h)
  have HN2 := Lib.hid (fun h => spOk_no (l := l) h)
  have HY2 := Lib.hid (fun h => spOk_yes (l := l) h)
  have HEQ : Hid (sizeOk ((wd l 2 : Nat) : Int) = true → wd l 3 ≤ 8 → spOk l = decide (spL (wd l 2) (wd l 3) = l)) := Lib.hid fun h1 h2 => by
    unfold spOk
    rw [h1, decide_eq_true h2]
    rfl
  have HR := Lib.hid hr
  have x0 := Bx.new w 113 #[.int .i64 0, .int .i64 0]
  have X0 := Lib.hid x0
  have HB0 := Lib.hid ((Below.refl w.heap.size w).alloc (Nat.le_refl _) (.cells #[.int .i64 0, .int .i64 0] 113))
  have c2a := (World.cell?_alloc_lt w (.cells #[.int .i64 0, .int .i64 0] 113) ⟨b, off + 2, none⟩ hb).trans c2
  have c3a := (World.cell?_alloc_lt w (.cells #[.int .i64 0, .int .i64 0] 113) ⟨b, off + 3, none⟩ hb).trans c3
  have HL := Lib.hid hn
  obtain ⟨x, hx⟩ : ∃ x, wd l 2 = x := ⟨_, rfl⟩
  obtain ⟨y, hy⟩ : ∃ y, wd l 3 = y := ⟨_, rfl⟩
  rw [hx] at HSZ HNO HY2 HEQ c2a
  rw [hy] at HNO HY2 HEQ c3a
  clear hx hy c2 c3 hr hn x0
  by_cases hx1 : 1000000 < x
  · have HV := Lib.hid (HN2.out (HNO.out fun h => by have := HSZ.out h.1; omega))
    have d1 : decide ((1000000 : Int) < (x : Int)) = true := by rw [decide_eq_true_iff]; omega
    have d1n : decide (1000000 < x) = true := by rw [decide_eq_true_iff]; omega
    go_enter Tryz.func100, Tryz.ntmps100
    go_wp2_with fail
    exact bodyPost_ret (v := .tuple #[.agg #[.int .i64 0, .int .i64 0], .int .i64 50]) (results_sup Tryz.results100 _ X0.out rfl rfl) rfl ⟨by rw [HV.out.1, HV.out.2], HB0.out⟩
  · have d1 : decide ((1000000 : Int) < (x : Int)) = false := by rw [decide_eq_false_iff_not]; omega
    have d1n : decide (1000000 < x) = false := by rw [decide_eq_false_iff_not]; omega
    by_cases hy1 : 1000000 < y
    · have HV := Lib.hid (HN2.out (HNO.out fun h => by have := h.2; omega))
      have d2 : decide ((1000000 : Int) < (y : Int)) = true := by rw [decide_eq_true_iff]; omega
      have d2n : decide (1000000 < y) = true := by rw [decide_eq_true_iff]; omega
      clear hx1
      go_enter Tryz.func100, Tryz.ntmps100
      go_wp2_with fail
      exact bodyPost_ret (v := .tuple #[.agg #[.int .i64 0, .int .i64 0], .int .i64 50]) (results_sup Tryz.results100 _ X0.out rfl rfl) rfl ⟨by rw [HV.out.1, HV.out.2], HB0.out⟩
    · have d2 : decide ((1000000 : Int) < (y : Int)) = false := by rw [decide_eq_false_iff_not]; omega
      have d2n : decide (1000000 < y) = false := by rw [decide_eq_false_iff_not]; omega
      have HC := Lib.hid (fun W => r06Check_c x y W (by omega) (by omega))
      have HW := Lib.hid (fun W => r06Written_c x y W (by omega) (by omega))
      have w1 : IntKind.i64.wrap (x : Int) = (x : Int) := IntWalk.i64_in _ (by omega)
      have w2 : IntKind.i64.wrap (y : Int) = (y : Int) := IntWalk.i64_in _ (by omega)
      have HSP := Lib.hid (spL_len x y)
      clear hx1 hy1
      go_enter Tryz.func100, Tryz.ntmps100
      go_wp2_with fail
      go_region_held3 (fun X : World => X.cell? ⟨b, off + 2, none⟩ = some (.int .u64 (x : Int)) ∧ X.cell? ⟨b, off + 3, none⟩ = some (.int .u64 (y : Int))) (go_keep) (fail)
      go_wp2_with fail
      obtain ⟨w5, hw5⟩ : ∃ w5, ((w.alloc (.cells #[.int .i64 0, .int .i64 0] 113)).alloc (.cells #[.int .i64 (x : Int), .int .i64 (y : Int)] 113)).drew = w5 := ⟨_, rfl⟩
      have X1 := Lib.hid (show Bx w5 w.heap.size 113 #[.int .i64 0, .int .i64 0] by rw [← hw5]; exact X0.out.alloc _)
      have x2 : Bx w5 (w.heap.size + 1) 113 #[.int .i64 (x : Int), .int .i64 (y : Int)] := by
        rw [← hw5]
        have := Bx.new (w.alloc (.cells #[.int .i64 0, .int .i64 0] 113)) 113 #[.int .i64 (x : Int), .int .i64 (y : Int)]
        rw [World.size_alloc] at this
        exact this
      have hb5 : Below w.heap.size w w5 := by
        rw [← hw5]
        exact (HB0.out.alloc (by simp) _).drew
      have HR5 := Lib.hid (HR.out.up hb5 hb5.size)
      have hz5 : w.heap.size + 1 < w5.heap.size := x2.lt
      have HB5 := Lib.hid hb5
      rw [hw5]
      have hH := ‹_ ∧ _›
      clear hH hw5 hb5 c2a c3a X0
      refine (HC.out _).mono ?_
      rintro e w6 ⟨rfl, hB6⟩
      have X16 := Lib.hid (X1.out.up hB6 X1.out.lt)
      have x26 := x2.up hB6 x2.lt
      obtain ⟨q0, q1, -, -, hg6⟩ := x26.c2
      have X26 := Lib.hid x26
      have HB6 := Lib.hid (HB5.out.trans (hB6.mono HB5.out.size))
      have HR6 := Lib.hid (HR5.out.up hB6 hB6.size)
      clear x2 x26 hB6 HC
      by_cases h0 : supErr x y = 0
      · have hok : sizeOk (x : Int) = true ∧ y ≤ 8 := by
          unfold supErr at h0
          split at h0
          · split at h0
            · exact ⟨by assumption, by assumption⟩
            · exact absurd h0 (by decide)
          · exact absurd h0 (by decide)
        have HEV := Lib.hid (HEQ.out hok.1 hok.2)
        rw [h0]
        clear h0 hok
        go_wp2_with fail
        refine (HW.out _).mono ?_
        rintro e w7 ⟨⟨A7, c7, rfl, hown7⟩, hB7⟩
        have HR7 := Lib.hid (HR6.out.up hB7 hB7.size)
        have X17 := Lib.hid (X16.out.up hB7 X16.out.lt)
        have X27 := Lib.hid (X26.out.up hB7 X26.out.lt)
        have HB7 := Lib.hid (HB6.out.trans (hB7.mono HB6.out.size))
        have HO7 := Lib.hid (show RdW w7 w7.heap.size A7 (spL x y) from Rd.of_own hown7)
        clear hown7 hB7 q0 q1 hg6
        go_wp2_with fail
        refine (r02Same_c A7 (some ⟨b, off, none⟩) (spL x y) l 8 8 c7 c w7.heap.size w7 HSP.out HL.out (by omega) HO7.out HR7.out (Nat.le_refl _)).mono ?_
        rintro e w8 ⟨rfl, hB8⟩
        have x18 := X17.out.up hB8 X17.out.lt
        have X18 := Lib.hid x18
        have x28 := X27.out.up hB8 X27.out.lt
        obtain ⟨q0, q1, -, -, hg8⟩ := x28.c2
        obtain ⟨r0, r1, f0, f1, hg9⟩ := x18.c2
        have HB8 := Lib.hid (HB7.out.trans (hB8.mono HB7.out.size))
        cases hd : decide (spL x y = l)
        · rw [hd] at HEV
          have HV := Lib.hid (HN2.out HEV.out)
          clear hd x18 x28 hB8
          go_wp2_with fail
          exact bodyPost_ret (v := .tuple #[.agg #[.int .i64 0, .int .i64 0], .int .i64 50]) (results_sup Tryz.results100 _ ((X18.out.set_ 0 _).set_ 1 _) rfl rfl) rfl ⟨by rw [HV.out.1, HV.out.2], (HB8.out.setCell (by simp) _).setCell (by simp) _⟩
        · rw [hd] at HEV
          have HV := Lib.hid (HY2.out HEV.out)
          clear hd x18 x28 hB8
          go_wp2_with fail
          exact bodyPost_ret (v := .tuple #[.agg #[.int .i64 (x : Int), .int .i64 (y : Int)], .int .i64 0]) (results_sup Tryz.results100 _ ((X18.out.set_ 0 _).set_ 1 _) rfl rfl) rfl ⟨by rw [HV.out.1, HV.out.2], (HB8.out.setCell (by simp) _).setCell (by simp) _⟩
      · have HV := Lib.hid (HN2.out (HNO.out fun h => h0 (by unfold supErr; rw [if_pos h.1, if_pos h.2])))
        have hne : (supErr x y != 0) = true := by rw [bne_iff_ne]; exact h0
        obtain ⟨r0, r1, f0, f1, hg9⟩ := X16.out.c2
        clear h0
        go_wp2_with fail
        exact bodyPost_ret (v := .tuple #[.agg #[.int .i64 0, .int .i64 0], .int .i64 50]) (results_sup Tryz.results100 _ ((X16.out.set_ 0 _).set_ 1 _) rfl rfl) rfl ⟨by rw [HV.out.1, HV.out.2], (HB6.out.setCell (by simp) _).setCell (by simp) _⟩
end Go.Proofs.YtoaepffpjoibaaaGreat

namespace Go.Proofs.YtoaepffpjoibaaaGreat
open Go.RowKit

def cpV (ws : List Nat) (a : Nat) : Value := if cpOk ws a = true then .agg #[.int .i64 ((wd ws (a + 2) : Nat) : Int), .int .i64 ((wd ws (a + 3) : Nat) : Int)] else .agg #[.int .i64 0, .int .i64 0]
theorem results_supb {fn : Func} {p q : Tmp} (h : fn.results = #[.cell p 113, .tmp q]) (tmps : Array Value) {W : World} {g : Nat} {t : TypeId} {v0 v1 u : Value} (hb : Bx W g t #[v0, v1]) (hp : tmps.getD p undef = .pointer (some ⟨g, 0, none⟩)) (hq : tmps.getD q undef = u) :
    (results fn tmps).run Tryz.prog W = .ok (.tuple #[.agg #[v0, v1], u]) W := results_sup h tmps hb hp hq
theorem sp8_len {ws : List Nat} {a : Nat} (h : a + 8 ≤ ws.length) : (sp8 ws a).length = 8 := by
  unfold sp8
  rw [List.length_take, List.length_drop]; omega
theorem sp8_rd {w : World} {B : Nat} {A : Option Addr} {ws : List Nat} (h : RdW w B A ws) (a : Nat) : RdW w B (A.map (·.add a)) (sp8 ws a) := by
  unfold RdW sp8 at *
  rw [flat1_take _ wordCells_len, flat1_drop _ wordCells_len]
  exact (Rd.drop_ h a).take_ 8
set_option maxRecDepth 100000 in
set_option maxHeartbeats 4000000 in
theorem r07Copy_c (A : Option Addr) (ws : List Nat) (c n k : Nat) (w : World) (hn : ws.length = n) (hm : n ≤ 2048) (h256 : 256 ≤ n) (hk : k ≤ 1) (hc : n ≤ c) (hr : RdW w w.heap.size A ws) :
    Calls Tryz.prog 85 #[.slice A n c, .int .i64 (k : Int)] w fun e w' => e = .returned (.tuple #[cpV ws (8 * k), .bool (cpOk ws (8 * k))]) ∧ Below w.heap.size w w' := by
  subst hn
  obtain ⟨b, off, rfl, hb, -⟩ := RdW.at_ hr (show 0 < ws.length by omega)
  have hl8 := sp8_len (ws := ws) (a := 8 * k) (by omega)
  have hrd := fun W (hr : RdW W W.heap.size (some ⟨b, off, none⟩) ws) => sp8_rd hr (8 * k)
  have HRD := Lib.hid (fun W (hr : RdW W W.heap.size (some ⟨b, off, none⟩) ws) => (r06Read_c (some ⟨b, off + 8 * k, none⟩) (sp8 ws (8 * k)) (c - 8 * k) W hl8 (by
    have := hrd W hr
    simp only [Option.map_some] at this
    have e : (⟨b, off, none⟩ : Addr).add (8 * k) = ⟨b, off + 8 * k, none⟩ := by unfold Addr.add; split <;> simp_all
    rw [e] at this
    exact this)))
  have HR := Lib.hid hr
  have x0 := Bx.new w 113 #[.int .i64 0, .int .i64 0]
  have X0 := Lib.hid x0
  have HB0 := Lib.hid ((Below.refl w.heap.size w).alloc (Nat.le_refl _) (.cells #[.int .i64 0, .int .i64 0] 113))
  have e2 : wd (sp8 ws (8 * k)) 2 = wd ws (8 * k + 2) := sp8_wd (by omega)
  have e3 : wd (sp8 ws (8 * k)) 3 = wd ws (8 * k + 3) := sp8_wd (by omega)
  have hcp : cpOk ws (8 * k) = (spOk (sp8 ws (8 * k)) && wd ws (8 * k + 2) == ws.length) := rfl
  have k1 : IntKind.i64.wrap ((8 : Int) * (k : Int)) = ((8 * k : Nat) : Int) := by rw [IntWalk.i64_in _ (by omega)]; omega
  have k2 : IntKind.i64.wrap (((8 * k : Nat) : Int) + 8) = ((8 * k + 8 : Nat) : Int) := by rw [IntWalk.i64_in _ (by omega)]; omega
  have k3 : 8 * k + 8 ≤ c := by omega
  have k4 : 8 * k ≤ 8 * k + 8 := by omega
  obtain ⟨j, hj⟩ : ∃ j, 8 * k = j := ⟨_, rfl⟩
  rw [hj] at HRD k1 k2 k3 k4 hcp e2 e3 ⊢
  obtain ⟨l, hl⟩ : ∃ l, sp8 ws j = l := ⟨_, rfl⟩
  rw [hl] at HRD hcp e2 e3
  clear hr x0 hl8 hrd hl
  have HEN : ∀ r : Bool, cpOk ws j = r → Hid (cpV ws j = if r = true then .agg #[.int .i64 ((wd ws (j + 2) : Nat) : Int), .int .i64 ((wd ws (j + 3) : Nat) : Int)] else .agg #[.int .i64 0, .int .i64 0]) := fun r h => Lib.hid (by unfold cpV; rw [h])
  have HNO := Lib.hid (fun h => spOk_no (l := l) h)
  have HYES := Lib.hid (fun h => spOk_yes (l := l) h)
  rw [e2, e3] at HYES
  have HEN := Lib.hid HEN
  have HCP := Lib.hid hcp
  obtain ⟨x, hx⟩ : ∃ x, wd ws (j + 2) = x := ⟨_, rfl⟩
  obtain ⟨y, hy⟩ : ∃ y, wd ws (j + 3) = y := ⟨_, rfl⟩
  rw [hx] at HCP HEN HYES
  rw [hy] at HEN HYES
  clear hx hy e2 e3 hcp
  cases hs : spOk l
  · have h2 := HNO.out hs
    have hcf : cpOk ws j = false := by rw [HCP.out, hs]; rfl
    have HV := HEN.out _ hcf
    have HCF := Lib.hid hcf
    rw [h2.1, h2.2] at HRD
    clear hs h2 hcf HNO HYES HCP HEN
    go_enter Tryz.func85, Tryz.ntmps85
    go_wp2_with fail
    refine (HRD.out _ (HR.out.up HB0.out HB0.out.size)).mono ?_
    rintro e w1 ⟨rfl, hB1⟩
    have x1 := X0.out.up hB1 X0.out.lt
    obtain ⟨p0, p1, f0, f1, hg⟩ := x1.c2
    have X1 := Lib.hid x1
    have HB1 := Lib.hid (HB0.out.trans (hB1.mono HB0.out.size))
    have hzz : w.heap.size < w1.heap.size := x1.lt
    clear x1 hB1
    go_wp2_with fail
    exact bodyPost_ret (v := .tuple #[.agg #[.int .i64 0, .int .i64 0], .bool false]) (results_sup Tryz.results85 _ (((X1.out.set_ 0 _).set_ 1 _).alloc _) rfl rfl) rfl ⟨by rw [HV.out, HCF.out]; rfl, ((HB1.out.setCell (Nat.le_refl _) _).setCell (Nat.le_refl _) _).alloc (by simp; omega) _⟩
  · have h2 := HYES.out hs
    rw [h2.1, h2.2] at HRD
    by_cases hxl : x = ws.length
    · have hcf : cpOk ws j = true := by rw [HCP.out, hs, hxl]; simp
      have HV := HEN.out _ hcf
      have HCF := Lib.hid hcf
      have d1 : ((x : Int) != (ws.length : Int)) = false := by rw [bne_eq_false_iff_eq]; omega
      have d1n : (x != ws.length) = false := by rw [bne_eq_false_iff_eq]; exact hxl
      clear hs h2 hcf HNO HYES HCP HEN hxl
      go_enter Tryz.func85, Tryz.ntmps85
      go_wp2_with fail
      refine (HRD.out _ (HR.out.up HB0.out HB0.out.size)).mono ?_
      rintro e w1 ⟨rfl, hB1⟩
      have x1 := X0.out.up hB1 X0.out.lt
      obtain ⟨p0, p1, f0, f1, hg⟩ := x1.c2
      have X1 := Lib.hid x1
      have HB1 := Lib.hid (HB0.out.trans (hB1.mono HB0.out.size))
      have hzz : w.heap.size < w1.heap.size := x1.lt
      clear x1 hB1
      go_wp2_with fail
      exact bodyPost_ret (v := .tuple #[.agg #[.int .i64 (x : Int), .int .i64 (y : Int)], .bool true]) (results_sup Tryz.results85 _ (((X1.out.set_ 0 _).set_ 1 _).alloc _) rfl rfl) rfl ⟨by rw [HV.out, HCF.out]; rfl, ((HB1.out.setCell (Nat.le_refl _) _).setCell (Nat.le_refl _) _).alloc (by simp; omega) _⟩
    · have hcf : cpOk ws j = false := by
        rw [HCP.out, hs]
        simp [hxl]
      have HV := HEN.out _ hcf
      have HCF := Lib.hid hcf
      have d1 : ((x : Int) != (ws.length : Int)) = true := by rw [bne_iff_ne]; omega
      have d1n : (x != ws.length) = true := by rw [bne_iff_ne]; exact hxl
      clear hs h2 hcf HNO HYES HCP HEN hxl
      go_enter Tryz.func85, Tryz.ntmps85
      go_wp2_with fail
      refine (HRD.out _ (HR.out.up HB0.out HB0.out.size)).mono ?_
      rintro e w1 ⟨rfl, hB1⟩
      have x1 := X0.out.up hB1 X0.out.lt
      obtain ⟨p0, p1, f0, f1, hg⟩ := x1.c2
      have X1 := Lib.hid x1
      have HB1 := Lib.hid (HB0.out.trans (hB1.mono HB0.out.size))
      have hzz : w.heap.size < w1.heap.size := x1.lt
      clear x1 hB1
      go_wp2_with fail
      exact bodyPost_ret (v := .tuple #[.agg #[.int .i64 0, .int .i64 0], .bool false]) (results_sup Tryz.results85 _ (((X1.out.set_ 0 _).set_ 1 _).alloc _) rfl rfl) rfl ⟨by rw [HV.out, HCF.out]; rfl, ((HB1.out.setCell (Nat.le_refl _) _).setCell (Nat.le_refl _) _).alloc (by simp; omega) _⟩
end Go.Proofs.YtoaepffpjoibaaaGreat

namespace Go.Proofs.YtoaepffpjoibaaaGreat
open Go.RowKit

def tyErr (ws : List Nat) : Int := if sizeOk (ws.length : Int) = true then (if (tyN ws).isSome = true then 0 else 50) else 8
/-- A superblock, which copies are right, and an error. -/
def TwRes (ws : List Nat) (e : Ending) : Prop := ∃ (a : Int) (b0 b1 : Bool), e = .returned (.tuple #[.agg #[.int .i64 a, .int .i64 (((tyN ws).getD 0 : Nat) : Int)], .agg #[.bool b0, .bool b1], .int .i64 (tyErr ws)])
theorem results_sup3 {fn : Func} {p q r : Tmp} (h : fn.results = #[.cell p 113, .cell q 114, .tmp r]) (tmps : Array Value) {W : World} {g g' : Nat} {t t' : TypeId} {v0 v1 u0 u1 u : Value} (hb : Bx W g t #[v0, v1]) (hb' : Bx W g' t' #[u0, u1]) (hp : tmps.getD p undef = .pointer (some ⟨g, 0, none⟩)) (hp' : tmps.getD q undef = .pointer (some ⟨g', 0, none⟩)) (hq : tmps.getD r undef = u) :
    (results fn tmps).run Tryz.prog W = .ok (.tuple #[.agg #[v0, v1], .agg #[u0, u1], u]) W := by
  obtain ⟨c0, c1, -⟩ := hb.c2
  obtain ⟨d0, d1, -⟩ := hb'.c2
  rw [Array.getD_eq_getD_getElem?] at hp hp' hq
  simp [results, h, hp, hp', hq, go_sem, c0, c1, d0, d1]
theorem tyN_img {ws : List Nat} (h : sizeOk (ws.length : Int) = false) : tyN ws = none ∧ tyErr ws = 8 := by
  have key : ∀ a, cpOk ws a = false := fun a => by
    cases hq : cpOk ws a with
    | false => rfl
    | true =>
      unfold cpOk at hq
      simp only [Bool.and_eq_true, beq_iff_eq] at hq
      have h1 := ((spOk_iff _).1 hq.1).1
      rw [sp8_wd (by omega), hq.2, h] at h1
      cases h1
  exact ⟨by unfold tyN; rw [key, key]; rfl, by unfold tyErr; rw [h]; rfl⟩
theorem tyErr_iff {ws : List Nat} : tyErr ws = 0 ↔ sizeOk (ws.length : Int) = true ∧ (tyN ws).isSome = true := by
  unfold tyErr
  split
  · split <;> simp_all
  · simp_all
set_option maxRecDepth 100000 in
set_option maxHeartbeats 4000000 in
theorem r07Read_c (A : Option Addr) (ws : List Nat) (c n : Nat) (w : World) (hn : ws.length = n) (hm : n ≤ 9223372036854775807) (hc : n ≤ c) (hr : RdW w w.heap.size A ws) :
    Calls Tryz.prog 62 #[.slice A n c] w fun e w' => TwRes ws e ∧ Below w.heap.size w w' := by
  subst hn
  have HR := Lib.hid hr
  have HIM := Lib.hid (fun W => refImCheck_c A ws.length c W hm)
  have HB0 := Lib.hid (((Below.refl w.heap.size w).alloc (Nat.le_refl _) (.cells #[.int .i64 0, .int .i64 0] 113)).alloc (by simp) (.cells #[.bool false, .bool false] 114))
  have x0 := (Bx.new w 113 #[.int .i64 0, .int .i64 0]).alloc (.cells #[.bool false, .bool false] 114)
  have x1 := Bx.new (w.alloc (.cells #[.int .i64 0, .int .i64 0] 113)) 114 #[.bool false, .bool false]
  rw [World.size_alloc] at x1
  have X0 := Lib.hid x0
  have X1 := Lib.hid x1
  clear x0 x1 hr
  cases hs : sizeOk (ws.length : Int)
  · have HV := Lib.hid (tyN_img hs)
    rw [imgErr_no hs] at HIM
    clear hs
    go_enter Tryz.func62, Tryz.ntmps62
    go_wp2_with fail
    refine (HIM.out _).mono ?_
    rintro e w1 ⟨rfl, rfl⟩
    go_wp2_with fail
    exact bodyPost_ret (v := .tuple #[.agg #[.int .i64 0, .int .i64 0], .agg #[.bool false, .bool false], .int .i64 8]) (results_sup3 Tryz.results62 _ X0.out X1.out rfl rfl rfl) rfl ⟨⟨0, false, false, by rw [HV.out.1, HV.out.2]; rfl⟩, HB0.out⟩
  · have hb := (sizeOk_iff _).1 hs
    rw [imgErr_ok hs] at HIM
    have HC0 := Lib.hid (fun W (hr : RdW W W.heap.size A ws) => (show Calls Tryz.prog 85 #[.slice A ws.length c, .int .i64 0] W fun e w' => e = .returned (.tuple #[cpV ws 0, .bool (cpOk ws 0)]) ∧ Below W.heap.size W w' from r07Copy_c A ws c ws.length 0 W rfl (by omega) (by omega) (by omega) hc hr))
    have HC1 := Lib.hid (fun W (hr : RdW W W.heap.size A ws) => (show Calls Tryz.prog 85 #[.slice A ws.length c, .int .i64 1] W fun e w' => e = .returned (.tuple #[cpV ws 8, .bool (cpOk ws 8)]) ∧ Below W.heap.size W w' from r07Copy_c A ws c ws.length 1 W rfl (by omega) (by omega) (by omega) hc hr))
    have HV : Hid (tyN ws = (if cpOk ws 0 = true then some (wd ws 3) else if cpOk ws 8 = true then some (wd ws 11) else none) ∧ tyErr ws = if (tyN ws).isSome = true then 0 else 50) := Lib.hid ⟨rfl, by unfold tyErr; rw [if_pos hs]⟩
    unfold cpV at HC0 HC1
    simp only [Nat.zero_add, Nat.reduceAdd] at HC0 HC1
    obtain ⟨x2, hx2⟩ : ∃ x, wd ws 2 = x := ⟨_, rfl⟩
    obtain ⟨x3, hx3⟩ : ∃ x, wd ws 3 = x := ⟨_, rfl⟩
    obtain ⟨y2, hy2⟩ : ∃ x, wd ws 10 = x := ⟨_, rfl⟩
    obtain ⟨y3, hy3⟩ : ∃ x, wd ws 11 = x := ⟨_, rfl⟩
    rw [hx2, hx3] at HC0
    rw [hy2, hy3] at HC1
    rw [hx3, hy3] at HV
    clear hs hb hx2 hx3 hy2 hy3
    cases h0 : cpOk ws 0 <;> cases h1 : cpOk ws 8
    all_goals
      rw [h0] at HC0
      rw [h1] at HC1
      rw [h0, h1] at HV
      simp only [if_true, Bool.false_eq_true, if_false] at HC0 HC1 HV
      clear h0 h1
      go_enter Tryz.func62, Tryz.ntmps62
      go_wp2_with fail
      refine (HIM.out _).mono ?_
      rintro e w1 ⟨rfl, rfl⟩
      go_wp2_with fail
      refine (HC0.out _ (HR.out.up HB0.out HB0.out.size)).mono ?_
      rintro e w2 ⟨rfl, hB2⟩
      have X02 := Lib.hid (X0.out.up hB2 X0.out.lt)
      have X12 := Lib.hid (X1.out.up hB2 X1.out.lt)
      have hb2 := HB0.out.trans (hB2.mono HB0.out.size)
      clear hB2
      go_wp2_with fail
      have hz2 := hb2.size
      have HB2 := Lib.hid (hb2.alloc hz2 (.cells #[.int .i64 0, .int .i64 0] 113))
      have HB2x := Lib.hid (hb2.alloc hz2 (.cells #[.int .i64 (x2 : Int), .int .i64 (x3 : Int)] 113))
      have hl0 := X02.out.lt
      have hl1 := X12.out.lt
      clear hb2
      first
        | refine (HC1.out _ (HR.out.up HB2.out HB2.out.size)).mono ?_
        | refine (HC1.out _ (HR.out.up HB2x.out HB2x.out.size)).mono ?_
      rintro e w3 ⟨rfl, hB3⟩
      first
        | (have hcur := HB2.out.trans (hB3.mono HB2.out.size)
           have x03 := (X02.out.alloc (.cells #[.int .i64 0, .int .i64 0] 113)).up hB3 (by simp; omega)
           have x13 := (X12.out.alloc (.cells #[.int .i64 0, .int .i64 0] 113)).up hB3 (by simp; omega)
           have xs3 := (Bx.new w2 113 #[.int .i64 0, .int .i64 0]).up hB3 (by simp))
        | (have hcur := HB2x.out.trans (hB3.mono HB2x.out.size)
           have x03 := (X02.out.alloc (.cells #[.int .i64 (x2 : Int), .int .i64 (x3 : Int)] 113)).up hB3 (by simp; omega)
           have x13 := (X12.out.alloc (.cells #[.int .i64 (x2 : Int), .int .i64 (x3 : Int)] 113)).up hB3 (by simp; omega)
           have xs3 := (Bx.new w2 113 #[.int .i64 (x2 : Int), .int .i64 (x3 : Int)]).up hB3 (by simp))
      obtain ⟨p0, p1, f0, f1, hg0⟩ := x03.c2
      obtain ⟨q0, q1, g0, g1, hg1⟩ := x13.c2
      obtain ⟨r0, r1, -, -, hg2⟩ := xs3.c2
      have X03 := Lib.hid x03
      have X13 := Lib.hid x13
      have HB3 := Lib.hid hcur
      clear hcur hB3 x03 x13 xs3 HB2 HB2x
      go_wp2_with fail
    all_goals
      first
        | exact bodyPost_ret (v := .tuple #[.agg #[.int .i64 0, .int .i64 0], .agg #[.bool false, .bool false], .int .i64 50]) (results_sup3 Tryz.results62 _ (((((X03.out.set_ 0 _).set_ 1 _).far (by simp) _).far (by simp) _).alloc _) (((((X13.out.far (by simp) _).far (by simp) _).set_ 0 _).set_ 1 _).alloc _) rfl rfl rfl) rfl ⟨⟨0, false, false, by rw [HV.out.2, HV.out.1]; rfl⟩, ((((HB3.out.setCell (Nat.le_refl _) _).setCell (Nat.le_refl _) _).setCell (Nat.le_succ _) _).setCell (Nat.le_succ _) _).alloc (by simp; omega) _⟩
        | exact bodyPost_ret (v := .tuple #[.agg #[.int .i64 (y2 : Int), .int .i64 (y3 : Int)], .agg #[.bool false, .bool true], .int .i64 0]) (results_sup3 Tryz.results62 _ (((((X03.out.set_ 0 _).set_ 1 _).far (by simp) _).far (by simp) _).alloc _) (((((X13.out.far (by simp) _).far (by simp) _).set_ 0 _).set_ 1 _).alloc _) rfl rfl rfl) rfl ⟨⟨y2, false, true, by rw [HV.out.2, HV.out.1]; rfl⟩, ((((HB3.out.setCell (Nat.le_refl _) _).setCell (Nat.le_refl _) _).setCell (Nat.le_succ _) _).setCell (Nat.le_succ _) _).alloc (by simp; omega) _⟩
        | exact bodyPost_ret (v := .tuple #[.agg #[.int .i64 (x2 : Int), .int .i64 (x3 : Int)], .agg #[.bool true, .bool false], .int .i64 0]) (results_sup3 Tryz.results62 _ (((((X03.out.set_ 0 _).set_ 1 _).far (by simp) _).far (by simp) _).alloc _) (((((X13.out.far (by simp) _).far (by simp) _).set_ 0 _).set_ 1 _).alloc _) rfl rfl rfl) rfl ⟨⟨x2, true, false, by rw [HV.out.2, HV.out.1]; rfl⟩, ((((HB3.out.setCell (Nat.le_refl _) _).setCell (Nat.le_refl _) _).setCell (Nat.le_succ _) _).setCell (Nat.le_succ _) _).alloc (by simp; omega) _⟩
        | exact bodyPost_ret (v := .tuple #[.agg #[.int .i64 (x2 : Int), .int .i64 (x3 : Int)], .agg #[.bool true, .bool true], .int .i64 0]) (results_sup3 Tryz.results62 _ (((((X03.out.set_ 0 _).set_ 1 _).far (by simp) _).far (by simp) _).alloc _) (((((X13.out.far (by simp) _).far (by simp) _).set_ 0 _).set_ 1 _).alloc _) rfl rfl rfl) rfl ⟨⟨x2, true, true, by rw [HV.out.2, HV.out.1]; rfl⟩, ((((HB3.out.setCell (Nat.le_refl _) _).setCell (Nat.le_refl _) _).setCell (Nat.le_succ _) _).setCell (Nat.le_succ _) _).alloc (by simp; omega) _⟩
end Go.Proofs.YtoaepffpjoibaaaGreat
