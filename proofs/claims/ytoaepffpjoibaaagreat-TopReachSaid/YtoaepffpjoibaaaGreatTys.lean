/- The types of an image: plain, and what the reference returns. -/
import Derived.Test.YtoaepffpjoibaaaGreatR13T
import Derived.Test.YtoaepffpjoibaaaGreatKStg2
import Derived.Test.YtoaepffpjoibaaaGreatKRef15
import Derived.Test.YtoaepffpjoibaaaGreatKImage
namespace Go.Proofs.YtoaepffpjoibaaaGreat
open Go.RowKit

theorem tys_at {w : World} {B : Nat} {A : Option Addr} {l : List Ty} (h : Rd w B A (l.flatMap Ty.cells)) {k : Nat} (hk : k < l.length) :
    ∃ b off, A = some ⟨b, off, none⟩ ∧ b < B ∧ w.cell? ⟨b, off + k, none⟩ = some (.slice l[k].A l[k].l.length l[k].c) := by
  obtain ⟨b, off, e, hb, hc⟩ := Rd.at_flat Ty.len h (by omega) hk
  have := hc 0 (by omega)
  simp only [Nat.mul_one, Nat.add_zero] at this
  exact ⟨b, off, e, hb, this⟩
/-- Lists of kinds that lie in memory of the call's own. -/
def OwnT (w : World) (H : Nat) (v : Value) (L : List Ty) : Prop := w.ownsRow H 82 1 v L.length (L.flatMap Ty.cells) ∧ ∀ x ∈ L, w.ownsRow H 5 1 (.slice x.A x.l.length x.c) x.l.length (x.l.flatMap byteCells)
theorem infoTys : (Tryz.prog.info? 82).map (fun i => (i.zero, i.size, i.bytes)) = some (some (.slice none 0 0), 1, 24) := by kernel_rfl
/-- Whether the words of the type with a number are right, where there are t types. -/
def tyAt (ws : List Nat) (t i : Nat) : Bool := if i < t then typOk (wd ws (96 + 2 * i)) (wd ws (96 + 2 * i + 1)) else wd ws (96 + 2 * i) == 0 && wd ws (96 + 2 * i + 1) == 0
def tysTo (ws : List Nat) (t k : Nat) : Prop := ∀ i, i < k → tyAt ws t i = true
def tysOk (ws : List Nat) (t : Nat) : Bool := (List.range 8).all fun i => tyAt ws t i
theorem tysOk_iff (ws : List Nat) (t : Nat) : tysOk ws t = true ↔ tysTo ws t 8 := by
  unfold tysOk tysTo
  rw [List.all_eq_true]
  exact ⟨fun h i hi => h i (List.mem_range.2 hi), fun h i hi => h i (List.mem_range.1 hi)⟩
theorem tysTo_succ {ws : List Nat} {t k : Nat} (h : tysTo ws t k) (h1 : tyAt ws t k = true) : tysTo ws t (k + 1) := fun i hi => by
  rcases Nat.lt_or_ge i k with h2 | h2
  · exact h i h2
  · have : i = k := by omega
    subst this; exact h1
theorem tysOk_bad {ws : List Nat} {t k : Nat} (hk : k < 8) (h : tyAt ws t k = false) : tysOk ws t = false := by
  cases hq : tysOk ws t with
  | false => rfl
  | true => rw [(tysOk_iff ws t).1 hq k hk] at h; cases h
/-- The kinds of the first types. -/
def tysL (ws : List Nat) (t k : Nat) : List (List Nat) := (List.range (min t k)).map fun i => krOut (wd ws (96 + 2 * i)) (wd ws (96 + 2 * i + 1))
theorem tysL_lt {ws : List Nat} {t k : Nat} (h : k < t) : tysL ws t (k + 1) = tysL ws t k ++ [krOut (wd ws (96 + 2 * k)) (wd ws (96 + 2 * k + 1))] := by
  unfold tysL
  rw [Nat.min_eq_right (by omega), Nat.min_eq_right (by omega), List.range_succ, List.map_append]
  rfl
theorem tysL_ge {ws : List Nat} {t k : Nat} (h : t ≤ k) : tysL ws t (k + 1) = tysL ws t k := by
  unfold tysL
  rw [Nat.min_eq_left (by omega), Nat.min_eq_left (by omega)]
theorem tysL_len (ws : List Nat) (t k : Nat) : (tysL ws t k).length = min t k := by simp [tysL]
theorem ownT_snoc {w w' wb : World} {H : Nat} {v v1 : Value} {L : List Ty} {x : Ty} (h : ∀ y ∈ L, w.ownsRow H 5 1 (.slice y.A y.l.length y.c) y.l.length (y.l.flatMap byteCells)) (hx : w.ownsRow H 5 1 (.slice x.A x.l.length x.c) x.l.length (x.l.flatMap byteCells))
    (hrow : wb.ownsRow H 82 1 v L.length (L.flatMap Ty.cells)) (hwb : ∀ {A : Option Addr} {n c : Nat} {xs : List Value}, w.ownsRow H 5 1 (.slice A n c) n xs → wb.ownsRow H 5 1 (.slice A n c) n xs) (hg : wb.grownBy w' v.ownBlock) (h1 : w'.ownsRow H 82 1 v1 (L.length + 1) (L.flatMap Ty.cells ++ x.cells)) : OwnT w' H v1 (L ++ [x]) := by
  refine ⟨by rw [flat_snoc, List.length_append]; exact h1, fun y hy => ?_⟩
  rcases List.mem_append.1 hy with hy | hy
  · exact own_grown (hwb (h y hy)) hg (own_sep (hwb (h y hy)) hrow (by decide))
  · rw [List.mem_singleton] at hy
    subst hy
    exact own_grown (hwb hx) hg (own_sep (hwb hx) hrow (by decide))
/-- What is told of the types. -/
def TsRes (ws : List Nat) (t H : Nat) (e : Ending) (w' : World) : Prop := ∃ v L, e = .returned (.tuple #[v, .bool (tysOk ws t)]) ∧ (tysOk ws t = true → OwnT w' H v L ∧ L.map Ty.l = tysL ws t 8)
set_option maxRecDepth 100000 in
set_option maxHeartbeats 8000000 in
theorem r13Types_c (A : Option Addr) (ws : List Nat) (c n t : Nat) (w : World) (hn : ws.length = n) (h2 : 256 ≤ n) (hm : n ≤ 2048) (hr : RdW w w.heap.size A ws) (ho : ∀ x ∈ ws, x < 18446744073709551616) :
    Calls Tryz.prog 86 #[.slice A n c, .int .i64 (t : Int)] w fun e w' => TsRes ws t w.heap.size e w' ∧ Below w.heap.size w w' := by
  subst hn
  have HR := Lib.hid hr
  have HLT : Hid (∀ k, wd ws k < 18446744073709551616) := Lib.hid (wd_lt ho)
  clear hr ho
  obtain ⟨i2, hi, hz0, hz1, hz2⟩ := info_parts infoTys
  have HJ := Lib.hid hi
  have HJ0 := Lib.hid hz0
  have HJ1 := Lib.hid hz1
  have HJ2 := Lib.hid hz2
  clear hi hz0 hz1 hz2
  go_enter Tryz.func86, Tryz.ntmps86
  go_wp2_with fail
  go_loopw [6, 7] (fun v i wr => ∃ (k : Nat) (L : List Ty), k ≤ 8 ∧ i = .int .i64 k ∧ Hid (tysTo ws t k) ∧ Hid (L.map Ty.l = tysL ws t k) ∧ L.length ≤ k ∧ Hid (OwnT wr w.heap.size v L) ∧ Below w.heap.size w wr) (fun _ i _ => 8 - (intOf i).toNat)
  case atStart => exact ⟨0, [], Nat.zero_le _, rfl, Lib.hid (fun i h => absurd h (by omega)), Lib.hid (by simp [tysL]), Nat.le_refl _, Lib.hid ⟨World.ownsRow_nil _ _ _ _, fun x hx => absurd hx (by simp)⟩, Below.refl _ _⟩
  case round =>
    obtain ⟨k, L, hk, rfl, HOK, HLL, hLk, HOW, hB⟩ := hrel
    have hz := hB.size
    by_cases hlt : k < 8
    · obtain ⟨b, off, rfl, hb, h0⟩ := RdW.at_ (Rd.below HR.out hB) (show 96 + 2 * k < ws.length by omega)
      obtain ⟨b', off', e', -, h1⟩ := RdW.at_ (Rd.below HR.out hB) (show 96 + 2 * k + 1 < ws.length by omega)
      cases e'
      rw [← wd_get] at h0 h1
      have HRD := Lib.hid (fun W => r13ReadA_c (wd ws (96 + 2 * k)) (wd ws (96 + 2 * k + 1)) W (HLT.out _))
      have HSU := Lib.hid (fun h => tysTo_succ HOK.out h)
      have HBD := Lib.hid (fun h => tysOk_bad (ws := ws) (t := t) hlt h)
      have HAT : Hid (tyAt ws t k = if k < t then typOk (wd ws (96 + 2 * k)) (wd ws (96 + 2 * k + 1)) else wd ws (96 + 2 * k) == 0 && wd ws (96 + 2 * k + 1) == 0) := Lib.hid rfl
      have HTL := Lib.hid (fun h => tysL_lt (ws := ws) (t := t) (k := k) h)
      have HTG := Lib.hid (fun h => tysL_ge (ws := ws) (t := t) (k := k) h)
      have i1 : IntKind.i64.wrap ((2 : Int) * (k : Int)) = 2 * (k : Int) := IntWalk.i64_in _ (by omega)
      have i2' : IntKind.i64.wrap ((96 : Int) + 2 * (k : Int)) = ((96 + 2 * k : Nat) : Int) := by rw [IntWalk.i64_in _ (by omega)]; omega
      have i3 : IntKind.i64.wrap (((96 + 2 * k : Nat) : Int) + 1) = ((96 + 2 * k + 1 : Nat) : Int) := by rw [IntWalk.i64_in _ (by omega)]; omega
      have j1 : ((96 + 2 * k : Nat) : Int) < (ws.length : Int) := by omega
      have j2 : (0 : Int) ≤ ((96 + 2 * k : Nat) : Int) := by omega
      have j3 : ((96 + 2 * k + 1 : Nat) : Int) < (ws.length : Int) := by omega
      have j4 : (0 : Int) ≤ ((96 + 2 * k + 1 : Nat) : Int) := by omega
      have hk1 : (k : Int) < 8 := by omega
      obtain ⟨p, hp⟩ : ∃ p, 96 + 2 * k = p := ⟨_, rfl⟩
      rw [hp] at h0 h1 HRD HAT HTL i2' i3 j1 j2 j3 j4
      obtain ⟨q, hq⟩ : ∃ q, p + 1 = q := ⟨_, rfl⟩
      rw [hq] at h1 HRD HAT HTL i3 j3 j4
      obtain ⟨x, hx⟩ : ∃ x, wd ws p = x := ⟨_, rfl⟩
      obtain ⟨y, hy⟩ : ∃ y, wd ws q = y := ⟨_, rfl⟩
      rw [hx] at h0 HRD HAT HTL
      rw [hy] at h1 HRD HAT HTL
      have HB := Lib.hid hB
      clear hx hy hp hq
      by_cases hkt : k < t
      · have d1 : decide ((k : Int) < (t : Int)) = true := by rw [decide_eq_true_iff]; omega
        have d1n : decide (k < t) = true := by rw [decide_eq_true_iff]; exact hkt
        have d2 : decide ((t : Int) ≤ (k : Int)) = false := by rw [decide_eq_false_iff_not]; omega
        have d2n : decide (t ≤ k) = false := by rw [decide_eq_false_iff_not]; omega
        cases hty : typOk x y
        · have HV := Lib.hid (HBD.out (by rw [HAT.out, if_pos hkt, hty]))
          have hkr : krErr x y = 50 := by unfold krErr; rw [hty]; rfl
          have hko : krOut x y = [] := by unfold krOut; rw [hty]; rfl
          unfold KrResF at HRD
          rw [hkr, hko] at HRD
          clear hty hkr hko HAT HBD HSU HTL HTG hkt
          go_wp2_with fail
          go_region_held3 (fun X : World => X.cell? ⟨b, off + p, none⟩ = some (.int .u64 (x : Int)) ∧ X.cell? ⟨b, off + q, none⟩ = some (.int .u64 (y : Int))) (go_keep) (fail)
          go_wp2_with fail
          refine (HRD.out _).mono ?_
          rintro e w3 ⟨⟨A3, c3, rfl, -⟩, hB3⟩
          have hb3 := HB.out.drew.trans (hB3.mono hz)
          clear hB3
          go_wp2_with fail
          go_ret2
          exact ⟨⟨.slice none 0 0, [], by rw [HV.out]; rfl, fun h => by rw [HV.out] at h; cases h⟩, hb3⟩
        · have HV := Lib.hid (HSU.out (by rw [HAT.out, if_pos hkt, hty]))
          have HTN := Lib.hid (HTL.out hkt)
          have hkr : krErr x y = 0 := by unfold krErr; rw [hty]; rfl
          unfold KrResF at HRD
          rw [hkr] at HRD
          obtain ⟨l, hl⟩ : ∃ l, krOut x y = l := ⟨_, rfl⟩
          rw [hl] at HRD HTN
          clear hty hkr hl HAT HBD HSU HTL HTG hkt
          go_wp2_with fail
          go_region_held3 (fun X : World => X.cell? ⟨b, off + p, none⟩ = some (.int .u64 (x : Int)) ∧ X.cell? ⟨b, off + q, none⟩ = some (.int .u64 (y : Int))) (go_keep) (fail)
          go_wp2_with fail
          refine (HRD.out _).mono ?_
          rintro e w3 ⟨⟨A3, c3, rfl, hown3⟩, hB3⟩
          have hb3 := HB.out.drew.trans (hB3.mono hz)
          have hz3 := hb3.size
          have hrow := own_below (show wr.drew.ownsRow _ _ _ _ _ _ from HOW.out.1) hB3 (Nat.le_refl _)
          have HEL : Hid (∀ y ∈ L, w3.ownsRow w.heap.size 5 1 (.slice y.A y.l.length y.c) y.l.length (y.l.flatMap byteCells)) := Lib.hid fun y hy => own_below (show wr.drew.ownsRow _ _ _ _ _ _ from HOW.out.2 y hy) hB3 (Nat.le_refl _)
          have HNW := Lib.hid (own_mono hown3 (show w.heap.size ≤ wr.drew.heap.size from hz))
          have HROW := Lib.hid hrow
          have HB3 := Lib.hid hb3
          clear hB3 hown3 hb3 HOW
          go_wp2_with (at_builtin; refine wpList_append_own _ rfl _ _ 83 rfl w.heap.size 82 i2 _ 1 24 Tryz.underlying83 HJ.out HJ0.out HJ1.out HJ2.out rfl (by decide) _ _ _ rfl (hrow.alloc _) ⟨_, 0, none⟩ 1 1 [.slice A3 l.length c3] rfl rfl (news_new _ _ _) (by simp [Value.oneCell']) (by unfold maxLen; omega) (by omega) (le_alloc_ hz3) ?_; intro v1 w6 hown1 hg1 _; have HB6 := Lib.hid (below_append HB3.out hz3 hrow hg1); have HN6 := Lib.hid (ownT_snoc (x := ⟨A3, c3, l⟩) HEL.out HNW.out (HROW.out.alloc _) (fun h => h.alloc _) hg1 hown1); clear hown1 hg1)
          go_roundw
          case rel => exact ⟨k + 1, L ++ [⟨A3, c3, l⟩], by omega, by go_num, HV, Lib.hid (by rw [List.map_append, HLL.out, HTN.out]; rfl), by simp; omega, HN6, HB6.out⟩
          case measure => simp [intOf]; omega
      · have d1 : decide ((k : Int) < (t : Int)) = false := by rw [decide_eq_false_iff_not]; omega
        have d1n : decide (k < t) = false := by rw [decide_eq_false_iff_not]; exact hkt
        have d2 : decide ((t : Int) ≤ (k : Int)) = true := by rw [decide_eq_true_iff]; omega
        have d2n : decide (t ≤ k) = true := by rw [decide_eq_true_iff]; omega
        have HTN := Lib.hid (HTG.out (by omega))
        have HAT2 : Hid (tyAt ws t k = (x == 0 && y == 0)) := Lib.hid (by rw [HAT.out, if_neg hkt])
        have HKR := Lib.hid (fun W => (HRD.out W).mono (R' := fun e w' => (∃ v r, e = .returned (.tuple #[v, .int .i64 r])) ∧ Below W.heap.size W w') (by rintro e w' ⟨⟨A, c, rfl, -⟩, hB⟩; exact ⟨⟨_, _, rfl⟩, hB⟩))
        clear HRD HAT HTL HTG hkt
        by_cases hx0 : x = 0
        · subst hx0
          by_cases hy0 : y = 0
          · subst hy0
            have HV := Lib.hid (HSU.out (by rw [HAT2.out]; rfl))
            clear HBD HSU HAT2
            go_wp2_with fail
            go_region_held3 (fun X : World => X.cell? ⟨b, off + p, none⟩ = some (.int .u64 ((0 : Nat) : Int)) ∧ X.cell? ⟨b, off + q, none⟩ = some (.int .u64 ((0 : Nat) : Int))) (go_keep) (fail)
            go_wp2_with fail
            refine (HKR.out _).mono ?_
            rintro e w3 ⟨⟨v3, r3, rfl⟩, hB3⟩
            have HB3 := Lib.hid (HB.out.drew.trans (hB3.mono hz))
            have HO3 : Hid (OwnT w3 w.heap.size u6 L) := Lib.hid ⟨own_below (show wr.drew.ownsRow _ _ _ _ _ _ from HOW.out.1) hB3 (Nat.le_refl _), fun y hy => own_below (show wr.drew.ownsRow _ _ _ _ _ _ from HOW.out.2 y hy) hB3 (Nat.le_refl _)⟩
            clear hB3
            go_wp2_with fail
            go_roundw
            case rel => exact ⟨k + 1, L, by omega, by go_num, HV, Lib.hid (by rw [HLL.out, HTN.out]), by omega, HO3, HB3.out⟩
            case measure => simp [intOf]; omega
          · have HV := Lib.hid (HBD.out (by rw [HAT2.out, show (y == 0) = false by rw [beq_eq_false_iff_ne]; exact hy0]; rfl))
            have d3 : decide ((0 : Int) < (y : Int)) = true := by rw [decide_eq_true_iff]; omega
            have d3n : decide (0 < y) = true := by rw [decide_eq_true_iff]; omega
            clear HBD HSU HAT2 hy0
            go_wp2_with fail
            go_region_held3 (fun X : World => X.cell? ⟨b, off + p, none⟩ = some (.int .u64 ((0 : Nat) : Int)) ∧ X.cell? ⟨b, off + q, none⟩ = some (.int .u64 (y : Int))) (go_keep) (fail)
            go_wp2_with fail
            refine (HKR.out _).mono ?_
            rintro e w3 ⟨⟨v3, r3, rfl⟩, hB3⟩
            have HB3 := Lib.hid (HB.out.drew.trans (hB3.mono hz))
            clear hB3
            go_wp2_with fail
            go_ret2
            exact ⟨⟨.slice none 0 0, [], by rw [HV.out]; rfl, fun h => by rw [HV.out] at h; cases h⟩, HB3.out⟩
        · have HV := Lib.hid (HBD.out (by rw [HAT2.out, show (x == 0) = false by rw [beq_eq_false_iff_ne]; exact hx0]; rfl))
          have d3 : decide ((0 : Int) < (x : Int)) = true := by rw [decide_eq_true_iff]; omega
          have d3n : decide (0 < x) = true := by rw [decide_eq_true_iff]; omega
          clear HBD HSU HAT2 hx0
          go_wp2_with fail
          go_region_held3 (fun X : World => X.cell? ⟨b, off + p, none⟩ = some (.int .u64 (x : Int)) ∧ X.cell? ⟨b, off + q, none⟩ = some (.int .u64 (y : Int))) (go_keep) (fail)
          go_wp2_with fail
          refine (HKR.out _).mono ?_
          rintro e w3 ⟨⟨v3, r3, rfl⟩, hB3⟩
          have HB3 := Lib.hid (HB.out.drew.trans (hB3.mono hz))
          clear hB3
          go_wp2_with fail
          go_ret2
          exact ⟨⟨.slice none 0 0, [], by rw [HV.out]; rfl, fun h => by rw [HV.out] at h; cases h⟩, HB3.out⟩
    · obtain rfl : k = 8 := by omega
      have HT : Hid (tysOk ws t = true) := Lib.hid ((tysOk_iff ws t).2 HOK.out)
      go_wp2_with fail
      go_ret2
      exact ⟨⟨_, L, by rw [HT.out]; rfl, fun _ => ⟨HOW.out, HLL.out⟩⟩, hB⟩
end Go.Proofs.YtoaepffpjoibaaaGreat
