/- Right images: whether an object is wrong for a reason, as the reference has it. -/
import Derived.Test.YtoaepffpjoibaaaGreatR19A
import Derived.Test.YtoaepffpjoibaaaGreatSeq
namespace Go.Proofs.YtoaepffpjoibaaaGreat
open Go.RowKit

/-- A slice that reads as lists of kinds. -/
def RdL (w : World) (B : Nat) (A : Option Addr) (L : List Ty) : Prop := Rd w B A (L.flatMap Ty.cells) ∧ ∀ x ∈ L, RdY w B x.A x.l
theorem RdL.up {w w' : World} {B B' : Nat} {A : Option Addr} {L : List Ty} (h : RdL w B A L) (hb : Below B w w') (hB : B ≤ B') : RdL w' B' A L := ⟨h.1.up hb hB, fun x hx => (h.2 x hx).up hb hB⟩
theorem RdL.of_own {w : World} {H n c : Nat} {A : Option Addr} {L : List Ty} (h : OwnT w H (.slice A n c) L) (hn : L.length = n) : RdL w w.heap.size A L := by
  subst hn
  exact ⟨Rd.of_own h.1, fun x hx => Rd.of_own (h.2 x hx)⟩
set_option maxRecDepth 100000 in
set_option maxHeartbeats 8000000 in
theorem r19Wrong78_c (A TA OA : Option Addr) (ws : List Nat) (L : List Ty) (O : List Bk) (c n tc tn oc on m z ty nx r : Nat) (xk : Int) (mk : Bool) (w : World) (ht : L.length = tn) (hl8 : ∀ x ∈ L, x.l.length ≤ 8) (hr : r = 7 ∨ r = 8) (hL : RdL w w.heap.size TA L) :
    Calls Tryz.prog 68 #[.slice A n c, .slice TA tn tc, .slice OA on oc, .agg #[.int .i64 (m : Int), .int .i64 (z : Int), .int .i64 xk, .int .i64 (ty : Int), .bool mk, .int .u64 (nx : Int)], .int .i64 (r : Int)] w fun e w' => e = .returned (.bool (wrB ws (L.map Ty.l) O m z ty mk nx r)) ∧ Below w.heap.size w w' := by
  subst ht
  have HL := Lib.hid (hL.up ((Below.refl w.heap.size w).alloc (Nat.le_refl _) (.cells #[.int .i64 (m : Int), .int .i64 (z : Int), .int .i64 xk, .int .i64 (ty : Int), .bool mk, .int .u64 (nx : Int)] 48)) (Nat.le_refl _))
  have HB := Lib.hid ((Below.refl w.heap.size w).alloc (Nat.le_refl _) (.cells #[.int .i64 (m : Int), .int .i64 (z : Int), .int .i64 xk, .int .i64 (ty : Int), .bool mk, .int .u64 (nx : Int)] 48))
  have xb := Bx.new w 48 #[.int .i64 (m : Int), .int .i64 (z : Int), .int .i64 xk, .int .i64 (ty : Int), .bool mk, .int .u64 (nx : Int)]
  have XB := Lib.hid xb
  clear hL xb
  rcases hr with rfl | rfl
  · have HV : Hid (wrB ws (L.map Ty.l) O m z ty mk nx 7 = (mk || decide (0 < nx))) := Lib.hid rfl
    have e0 : decide ((0 : Int) < (nx : Int)) = decide (0 < nx) := by rw [decide_eq_decide]; omega
    obtain ⟨q, hq⟩ : ∃ q, decide (0 < nx) = q := ⟨_, rfl⟩
    rw [hq] at HV e0
    clear HL
    (try simp only [Int.cast_ofNat_Int])
    cases mk
    all_goals
      go_enter Tryz.func68, Tryz.ntmps68
      go_wp2_with fail
      go_ret
      exact ⟨by rw [HV.out]; rfl, HB.out⟩
  · by_cases hlt : ty < L.length
    · obtain ⟨b, off, rfl, hb, p0⟩ := tys_at HL.out.1 hlt
      have hl := hl8 _ (List.getElem_mem hlt)
      have HV : Hid (wrB ws (L.map Ty.l) O m z ty mk nx 8 = (objSz L[ty].l.length != z)) := Lib.hid (by
        show (!decide (ty < (L.map Ty.l).length) || objSz (((L.map Ty.l)[ty]?).getD []).length != z) = _
        rw [List.length_map, decide_eq_true hlt, List.getElem?_map, List.getElem?_eq_getElem hlt]
        rfl)
      obtain ⟨x, hx⟩ : ∃ x, L[ty] = x := ⟨_, rfl⟩
      rw [hx] at p0 hl HV
      obtain ⟨xA, xc, xl⟩ := x
      dsimp only at p0 hl HV
      have HW := Lib.hid (fun W => r13Words_c xl.length W (by omega))
      have hle : objSz xl.length ≤ 10 := by unfold objSz; omega
      have e0 : (((objSz xl.length : Nat) : Int) != (z : Int)) = (objSz xl.length != z) := by
        rw [Bool.eq_iff_iff, bne_iff_ne, bne_iff_ne]; omega
      obtain ⟨o, ho⟩ : ∃ o, objSz xl.length = o := ⟨_, rfl⟩
      rw [ho] at HV HW hle e0
      obtain ⟨q, hq⟩ : ∃ q, (o != z) = q := ⟨_, rfl⟩
      rw [hq] at HV e0
      have d1 : decide ((L.length : Int) ≤ (ty : Int)) = false := by rw [decide_eq_false_iff_not]; omega
      have d1n : decide (L.length ≤ ty) = false := by rw [decide_eq_false_iff_not]; omega
      have j1 : (ty : Int) < (L.length : Int) := by omega
      have j0 : (0 : Int) ≤ (ty : Int) := by omega
      (try simp only [Int.cast_ofNat_Int])
      clear hx ho hq hl8 hlt
      obtain ⟨q0, q1, q2, q3, q4, q5, qf, hgn⟩ := XB.out.c6
      obtain ⟨wn, hwn⟩ : ∃ wn, w.alloc (.cells #[.int .i64 (m : Int), .int .i64 (z : Int), .int .i64 xk, .int .i64 (ty : Int), .bool mk, .int .u64 (nx : Int)] 48) = wn := ⟨_, rfl⟩
      go_enter Tryz.func68, Tryz.ntmps68
      go_wp2_with fail
      rw [hwn] at HB q1 q3 p0
      clear hwn q0 q2 q4 q5 qf XB HL hgn
      go_region_held3 (fun X : World => X.cell? ⟨w.heap.size, 1, none⟩ = some (.int .i64 (z : Int)) ∧ X.cell? ⟨w.heap.size, 3, none⟩ = some (.int .i64 (ty : Int)) ∧ X.cell? ⟨b, off + ty, none⟩ = some (.slice xA xl.length xc)) (go_keep)
        (first | (go_at_call 89; refine (HW.out _).mono ?_; rintro e w5 ⟨rfl, rfl⟩; have m0 := q1; have m1 := q3; have m2 := p0))
      clear m0 m1 m2
      go_wp2_with fail
      go_ret
      exact ⟨by rw [HV.out]; rfl, HB.out.drew⟩
    · have HV : Hid (wrB ws (L.map Ty.l) O m z ty mk nx 8 = true) := Lib.hid (by
        show (!decide (ty < (L.map Ty.l).length) || objSz (((L.map Ty.l)[ty]?).getD []).length != z) = _
        rw [List.length_map, decide_eq_false hlt]; rfl)
      have d1 : decide ((L.length : Int) ≤ (ty : Int)) = true := by rw [decide_eq_true_iff]; omega
      have d1n : decide (L.length ≤ ty) = true := by rw [decide_eq_true_iff]; omega
      obtain ⟨q0, q1, q2, q3, q4, q5, qf, hgn⟩ := XB.out.c6
      (try simp only [Int.cast_ofNat_Int])
      clear hlt
      go_enter Tryz.func68, Tryz.ntmps68
      go_wp2_with fail
      obtain ⟨wn, hwn⟩ : ∃ wn, w.alloc (.cells #[.int .i64 (m : Int), .int .i64 (z : Int), .int .i64 xk, .int .i64 (ty : Int), .bool mk, .int .u64 (nx : Int)] 48) = wn := ⟨_, rfl⟩
      rw [hwn] at HB q3 hgn ⊢
      clear hwn q0 q1 q2 q4 q5 qf XB HL
      have ct3 : ∀ g : SW (fun X : World => Below wn.heap.size wn X), g.w.cell? ⟨w.heap.size, 3, none⟩ = some (.int .i64 (ty : Int)) := fun g => (g.ok.cell (p := ⟨w.heap.size, 3, none⟩) hgn).trans q3
      refine sq_region (S := fun X : World => Below wn.heap.size wn X) ((0, 0, 0) :: (0, 1, 0) :: (0, 2, 0) :: (1, 3, 0) :: (0, 4, 0) :: (0, 5, 0) :: (0, 6, 0) :: (0, 7, 0) :: (0, 8, 0) :: (0, 9, 0) :: (0, 10, 0) :: (0, 13, 0) :: (0, 14, 0) :: (1, 11, 0) :: (1, 12, 0) :: (0, 15, 0) :: (0, 16, 0) :: (0, 17, 0) :: []) (.one _ true (none) :: .one _ true (none) :: .one _ true (none) :: .one _ false (none) :: .one _ true (none) :: .one _ true (none) :: .one _ true (some (some 30, false)) :: .one _ true (some (some 30, false)) :: .one _ true (some (some 30, false)) :: .one _ true (some (some 30, false)) :: .one _ true (some (some 30, false)) :: .one _ true (some (some 30, false)) :: .one _ true (some (some 30, false)) :: .one _ false (some (some 30, false)) :: .one _ false (some (some 30, false)) :: .one _ true (some (some 30, false)) :: .one _ true (none) :: .one _ true (none) :: []) (by kernel_rfl) (by kernel_rfl) (by decide) (by show seqOk _ _ (((0, 0, 0) :: (0, 1, 0) :: (0, 2, 0) :: (1, 3, 0) :: (0, 4, 0) :: (0, 5, 0) :: (0, 6, 0) :: (0, 7, 0) :: (0, 8, 0) :: (0, 9, 0) :: []) ++ (((0, 10, 0) :: (0, 13, 0) :: (0, 14, 0) :: (1, 11, 0) :: (1, 12, 0) :: (0, 15, 0) :: (0, 16, 0) :: (0, 17, 0) :: []))) _ = true; refine seqOk_app _ (by as_aux_lemma => kernel_rfl) ?_; (as_aux_lemma => kernel_rfl)) (by rfl) (fun _ _ d _ _ h => by cases d <;> exact h) (Below.refl _ _).drew ?_
      have HX0 := Lib.hid ((Below.refl wn.heap.size wn).drew)
      obtain ⟨X0, hX0⟩ : ∃ X, wn.drew = X := ⟨_, rfl⟩
      rw [hX0] at HX0 ⊢
      clear hX0
      have hne : Nonempty (SW (fun X : World => Below wn.heap.size wn X)) := ⟨⟨X0, HX0.out⟩⟩
      iterate 3 (first | (refine sq_skip (by rfl) ?_; (try simp only [Act.put, List.setIfInBounds_toArray, List.set_cons_zero, List.set_cons_succ])) | (refine sq_take (by rfl) ?_; intro K hK; go_big_quiet_op; go_big_quiet_on))
      (first | (refine sq_skip (by rfl) ?_; (try simp only [Act.put, List.setIfInBounds_toArray, List.set_cons_zero, List.set_cons_succ])) | (refine sq_do (by rfl) ?_; intro K hK; go_big_op; refine hK _ _ HX0.out ?_; clear hK K; (try simp only [Act.put, List.setIfInBounds_toArray, List.set_cons_zero, List.set_cons_succ])))
      iterate 9 (first | (refine sq_skip (by rfl) ?_; (try simp only [Act.put, List.setIfInBounds_toArray, List.set_cons_zero, List.set_cons_succ])) | (refine sq_take (by rfl) ?_; intro K hK; go_big_quiet_op; go_big_quiet_on))
      (first | (refine sq_skip (by rfl) ?_; (try simp only [Act.put, List.setIfInBounds_toArray, List.set_cons_zero, List.set_cons_succ])) | (refine sq_do (by rfl) ?_; intro K hK; go_big_op; refine hK _ _ HX0.out ?_; clear hK K; (try simp only [Act.put, List.setIfInBounds_toArray, List.set_cons_zero, List.set_cons_succ])))
      (refine sq_skip (by rfl) ?_; (try simp only [Act.put, List.setIfInBounds_toArray, List.set_cons_zero, List.set_cons_succ]))
      iterate 3 (first | (refine sq_skip (by rfl) ?_; (try simp only [Act.put, List.setIfInBounds_toArray, List.set_cons_zero, List.set_cons_succ])) | (refine sq_take (by rfl) ?_; intro K hK; go_big_quiet_op; go_big_quiet_on))
      refine sq_nil ?_
      go_wp2_with fail
      go_ret
      exact ⟨by rw [HV.out]; rfl, HB.out.trans (HX0.out.mono HB.out.size)⟩
set_option maxRecDepth 100000 in
set_option maxHeartbeats 8000000 in
theorem r19Wrong9_c (A TA OA : Option Addr) (ws : List Nat) (L : List Ty) (O : List Bk) (c n tc tn oc on m z ty nx r : Nat) (xk : Int) (mk : Bool) (w : World) (hn : ws.length = n) (hon : O.length = on) (hm : n ≤ 2048) (ho1 : on ≤ 2048) (ht : L.length = tn) (hty : ty < L.length) (hl8 : L[ty].l.length ≤ 8) (hz : z = objSz L[ty].l.length) (hmz : m + z ≤ n) (hr : r = 9 ∨ r = 10 ∨ r = 11) (hL : RdL w w.heap.size TA L) (hR : RdW w w.heap.size A ws) (hO : RdB w w.heap.size OA O) (hOb : ∀ b ∈ O, 0 ≤ b.at_ ∧ b.at_ ≤ 1000000) :
    Calls Tryz.prog 68 #[.slice A n c, .slice TA tn tc, .slice OA on oc, .agg #[.int .i64 (m : Int), .int .i64 (z : Int), .int .i64 xk, .int .i64 (ty : Int), .bool mk, .int .u64 (nx : Int)], .int .i64 (r : Int)] w fun e w' => e = .returned (.bool (wrB ws (L.map Ty.l) O m z ty mk nx r)) ∧ Below w.heap.size w w' := by
  subst ht hn hon
  have hba := (Below.refl w.heap.size w).alloc (Nat.le_refl _) (.cells #[.int .i64 (m : Int), .int .i64 (z : Int), .int .i64 xk, .int .i64 (ty : Int), .bool mk, .int .u64 (nx : Int)] 48)
  have hLa := hL.up hba (Nat.le_refl _)
  have HRa := Lib.hid (hR.up hba hba.size)
  have HOa := Lib.hid (hO.up hba hba.size)
  have HOb := Lib.hid hOb
  have HB := Lib.hid hba
  have hze : objSz L[ty].l.length ≤ 10 ∧ L[ty].l.length + 2 ≤ objSz L[ty].l.length := by unfold objSz; omega
  obtain ⟨q0, q1, q2, q3, q4, q5, qf, hgn⟩ := (Bx.new w 48 #[.int .i64 (m : Int), .int .i64 (z : Int), .int .i64 xk, .int .i64 (ty : Int), .bool mk, .int .u64 (nx : Int)]).c6
  obtain ⟨b, off, rfl, hb, p0⟩ := tys_at hLa.1 hty
  have hFm := hLa.2 _ (List.getElem_mem hty)
  have HWR : Hid (∀ F, L[ty].l = F → wrB ws (L.map Ty.l) O m z ty mk nx r = (if r = 7 then mk || decide (0 < nx) else if r = 8 then !decide (ty < (L.map Ty.l).length) || objSz F.length != z else if r = 9 then decide (F.length + 2 < z) && wd ws (m + 2 + F.length) != 0 else (List.range F.length).any fun i => wrF ws F O m r i)) := Lib.hid fun F hF => by
    unfold wrB
    rw [List.getElem?_map, List.getElem?_eq_getElem hty]
    simp only [Option.map_some, Option.getD_some, hF]
  obtain ⟨x, hx⟩ : ∃ x, L[ty] = x := ⟨_, rfl⟩
  rw [hx] at p0 hl8 hz hze hFm HWR
  obtain ⟨xA, xc, F⟩ := x
  dsimp only at p0 hl8 hz hze hFm HWR
  have HW := Lib.hid (HWR.out F rfl)
  have HF := Lib.hid hFm
  rw [← hz] at hze
  have j1 : (ty : Int) < (L.length : Int) := by omega
  have j0 : (0 : Int) ≤ (ty : Int) := by omega
  have HZ := Lib.hid hz
  clear hx HWR hLa hL hR hO hOb hFm hz q2 q4 q5 qf
  rcases hr with rfl | rfl | rfl
  · have HV : Hid (wrB ws (L.map Ty.l) O m z ty mk nx 9 = (decide (F.length + 2 < z) && wd ws (m + 2 + F.length) != 0)) := Lib.hid HW.out
    have w1 : IntKind.i64.wrap ((z : Int) - 2) = (z : Int) - 2 := IntWalk.i64_in _ (by omega)
    have w2 : IntKind.i64.wrap ((m : Int) + 2) = (m : Int) + 2 := IntWalk.i64_in _ (by omega)
    have w3 : IntKind.i64.wrap ((m : Int) + 2 + (F.length : Int)) = ((m + 2 + F.length : Nat) : Int) := by rw [IntWalk.i64_in _ (by omega)]; omega
    (try simp only [Int.cast_ofNat_Int])
    by_cases hp : F.length + 2 < z
    · obtain ⟨bw, ow, rfl, hbw, x0⟩ := RdW.at_ HRa.out (show m + 2 + F.length < ws.length by omega)
      rw [← wd_get] at x0
      have d1 : decide ((F.length : Int) < (z : Int) - 2) = true := by rw [decide_eq_true_iff]; omega
      rw [decide_eq_true hp] at HV
      have k1 : ((m + 2 + F.length : Nat) : Int) < (ws.length : Int) := by omega
      have k0 : (0 : Int) ≤ ((m + 2 + F.length : Nat) : Int) := by omega
      obtain ⟨p, hpp⟩ : ∃ p, m + 2 + F.length = p := ⟨_, rfl⟩
      rw [hpp] at x0 HV w3 k1 k0
      have e0 : ((wd ws p : Int) != 0) = (wd ws p != 0) := by rw [Bool.eq_iff_iff, bne_iff_ne, bne_iff_ne]; omega
      obtain ⟨v, hv⟩ : ∃ v, wd ws p = v := ⟨_, rfl⟩
      rw [hv] at x0 HV e0
      obtain ⟨q, hq⟩ : ∃ q, (v != 0) = q := ⟨_, rfl⟩
      rw [hq] at HV e0
      clear hpp hv hq HW HF HOa HOb hp HZ hze
      go_enter Tryz.func68, Tryz.ntmps68
      go_wp2_with fail
      go_ret
      exact ⟨by rw [HV.out]; rfl, HB.out⟩
    · have d1 : decide ((F.length : Int) < (z : Int) - 2) = false := by rw [decide_eq_false_iff_not]; omega
      rw [decide_eq_false hp] at HV
      clear HW HF HOa HOb hp HZ hze
      go_enter Tryz.func68, Tryz.ntmps68
      go_wp2_with fail
      go_ret
      exact ⟨by rw [HV.out]; rfl, HB.out⟩
  · have HV : Hid (wrB ws (L.map Ty.l) O m z ty mk nx 10 = (List.range F.length).any fun i => wrF ws F O m 10 i) := Lib.hid HW.out
    have w2 : IntKind.i64.wrap ((m : Int) + 2) = (m : Int) + 2 := IntWalk.i64_in _ (by omega)
    have HYY : Hid (∀ k, k < F.length → wrF ws F O m 10 k = true → wrB ws (L.map Ty.l) O m z ty mk nx 10 = true) := Lib.hid fun k hk h => by
      rw [HV.out, List.any_eq_true]
      exact ⟨k, List.mem_range.2 hk, h⟩
    have HNN : Hid ((∀ k, k < F.length → wrF ws F O m 10 k = false) → wrB ws (L.map Ty.l) O m z ty mk nx 10 = false) := Lib.hid fun h => by
      rw [HV.out, List.any_eq_false]
      intro k hk
      rw [h k (List.mem_range.1 hk)]; decide
    obtain ⟨wn, hwn⟩ : ∃ wn, w.alloc (.cells #[.int .i64 (m : Int), .int .i64 (z : Int), .int .i64 xk, .int .i64 (ty : Int), .bool mk, .int .u64 (nx : Int)] 48) = wn := ⟨_, rfl⟩
    rw [hwn] at HRa HOa HF HB q0 q1 q3 p0 hgn
    obtain ⟨hze1, hze2⟩ := hze
    (try simp only [Int.cast_ofNat_Int])
    clear HW HV HZ q1
    go_enter Tryz.func68, Tryz.ntmps68
    go_wp2_with fail
    go_loopw [12] (fun i wr => ∃ k : Nat, k ≤ F.length ∧ i = .int .i64 k ∧ Hid (∀ j, j < k → wrF ws F O m 10 j = false) ∧ Below wn.heap.size wn wr) (fun i _ => F.length - (intOf i).toNat)
    case atStart => exact ⟨0, Nat.zero_le _, rfl, Lib.hid fun j h => absurd h (by omega), Below.refl _ _⟩
    case round =>
      obtain ⟨k, hk, rfl, HP, hB⟩ := hrel
      have hz := hB.size
      by_cases hlt : k < F.length
      · have q0' := (hB.cell (p := ⟨w.heap.size, 0, none⟩) hgn).trans q0
        obtain ⟨bw, ow, rfl, hbw, x0⟩ := RdW.at_ (Rd.below HRa.out hB) (show m + 2 + k < ws.length by omega)
        rw [← wd_get] at x0
        obtain ⟨bf, of, rfl, hbf, y0⟩ := RdY.at_ (Rd.below HF.out (hB.mono HB.out.size)) hlt
        have HS : Hid (wrF ws F O m 10 k = false → ∀ j, j < k + 1 → wrF ws F O m 10 j = false) := Lib.hid fun h j hj => by
          rcases Nat.lt_or_ge j k with h2 | h2
          · exact HP.out j h2
          · have : j = k := by omega
            subst this; exact h
        have HY := Lib.hid (HYY.out k hlt)
        have HW2 : Hid (wrF ws F O m 10 k = (F[k] == 2 && !flOk (wd ws (m + 2 + k)))) := Lib.hid (by
          unfold wrF
          rw [List.getElem?_eq_getElem hlt]
          first | rw [if_pos rfl] | rw [if_neg (by decide)]
          rw [show ∀ a b : Nat, (some a == some b) = (a == b) from fun a b => rfl])
        have w3 : IntKind.i64.wrap ((m : Int) + 2 + (k : Int)) = ((m + 2 + k : Nat) : Int) := by rw [IntWalk.i64_in _ (by omega)]; omega
        have k1 : ((m + 2 + k : Nat) : Int) < (ws.length : Int) := by omega
        have k0 : (0 : Int) ≤ ((m + 2 + k : Nat) : Int) := by omega
        have hki : (k : Int) < (F.length : Int) := by omega
        have hk0 : (0 : Int) ≤ (k : Int) := by omega
        obtain ⟨p, hpp⟩ : ∃ p, m + 2 + k = p := ⟨_, rfl⟩
        rw [hpp] at x0 HW2 w3 k1 k0
        obtain ⟨v, hv⟩ : ∃ v, wd ws p = v := ⟨_, rfl⟩
        rw [hv] at x0 HW2
        obtain ⟨f, hf⟩ : ∃ f, F[k] = f := ⟨_, rfl⟩
        rw [hf] at y0 HW2
        have HBB := Lib.hid hB
        clear hpp hv hf
        have HFL := Lib.hid (fun W => r19Float_c v W)
        by_cases hf2 : f = 2
        · subst hf2
          have HW3 : Hid (wrF ws F O m 10 k = !flOk v) := Lib.hid (by rw [HW2.out]; rfl)
          obtain ⟨q, hq⟩ : ∃ q, flOk v = q := ⟨_, rfl⟩
          rw [hq] at HFL HW3
          clear hq HW2
          cases q
          · have HE := Lib.hid (HY.out (by rw [HW3.out]; rfl))
            go_wp2_with fail
            refine (HFL.out _).mono ?_
            rintro e w5 ⟨rfl, rfl⟩
            go_wp2_with fail
            go_ret
            exact ⟨by rw [HE.out]; rfl, HB.out.trans (HBB.out.mono HB.out.size)⟩
          · have HE := Lib.hid (HS.out (by rw [HW3.out]; rfl))
            go_wp2_with fail
            refine (HFL.out _).mono ?_
            rintro e w5 ⟨rfl, rfl⟩
            go_wp2_with fail
            go_roundw
            case rel => exact ⟨k + 1, by omega, by go_num, HE, HBB.out⟩
            case measure => simp [intOf]; omega
        · have e1 : ((f : Int) == 2) = false := by rw [beq_eq_false_iff_ne]; omega
          have HE := Lib.hid (HS.out (by rw [HW2.out, show (f == 2) = false by rw [beq_eq_false_iff_ne]; exact hf2]; rfl))
          clear hf2 HW2
          go_wp2_with fail
          go_roundw
          case rel => exact ⟨k + 1, by omega, by go_num, HE, HBB.out⟩
          case measure => simp [intOf]; omega
      · have HE := Lib.hid (HNN.out fun j hj => HP.out j (by omega))
        obtain rfl : k = F.length := by omega
        go_wp2_with fail
        go_ret
        exact ⟨by rw [HE.out]; rfl, HB.out.trans (hB.mono HB.out.size)⟩
  · have HV : Hid (wrB ws (L.map Ty.l) O m z ty mk nx 11 = (List.range F.length).any fun i => wrF ws F O m 11 i) := Lib.hid HW.out
    have w2 : IntKind.i64.wrap ((m : Int) + 2) = (m : Int) + 2 := IntWalk.i64_in _ (by omega)
    have HYY : Hid (∀ k, k < F.length → wrF ws F O m 11 k = true → wrB ws (L.map Ty.l) O m z ty mk nx 11 = true) := Lib.hid fun k hk h => by
      rw [HV.out, List.any_eq_true]
      exact ⟨k, List.mem_range.2 hk, h⟩
    have HNN : Hid ((∀ k, k < F.length → wrF ws F O m 11 k = false) → wrB ws (L.map Ty.l) O m z ty mk nx 11 = false) := Lib.hid fun h => by
      rw [HV.out, List.any_eq_false]
      intro k hk
      rw [h k (List.mem_range.1 hk)]; decide
    obtain ⟨wn, hwn⟩ : ∃ wn, w.alloc (.cells #[.int .i64 (m : Int), .int .i64 (z : Int), .int .i64 xk, .int .i64 (ty : Int), .bool mk, .int .u64 (nx : Int)] 48) = wn := ⟨_, rfl⟩
    rw [hwn] at HRa HOa HF HB q0 q1 q3 p0 hgn
    obtain ⟨hze1, hze2⟩ := hze
    (try simp only [Int.cast_ofNat_Int])
    clear HW HV HZ q1
    go_enter Tryz.func68, Tryz.ntmps68
    go_wp2_with fail
    go_loopw [12] (fun i wr => ∃ k : Nat, k ≤ F.length ∧ i = .int .i64 k ∧ Hid (∀ j, j < k → wrF ws F O m 11 j = false) ∧ Below wn.heap.size wn wr) (fun i _ => F.length - (intOf i).toNat)
    case atStart => exact ⟨0, Nat.zero_le _, rfl, Lib.hid fun j h => absurd h (by omega), Below.refl _ _⟩
    case round =>
      obtain ⟨k, hk, rfl, HP, hB⟩ := hrel
      have hz := hB.size
      by_cases hlt : k < F.length
      · have q0' := (hB.cell (p := ⟨w.heap.size, 0, none⟩) hgn).trans q0
        obtain ⟨bw, ow, rfl, hbw, x0⟩ := RdW.at_ (Rd.below HRa.out hB) (show m + 2 + k < ws.length by omega)
        rw [← wd_get] at x0
        obtain ⟨bf, of, rfl, hbf, y0⟩ := RdY.at_ (Rd.below HF.out (hB.mono HB.out.size)) hlt
        have HS : Hid (wrF ws F O m 11 k = false → ∀ j, j < k + 1 → wrF ws F O m 11 j = false) := Lib.hid fun h j hj => by
          rcases Nat.lt_or_ge j k with h2 | h2
          · exact HP.out j h2
          · have : j = k := by omega
            subst this; exact h
        have HY := Lib.hid (HYY.out k hlt)
        have HW2 : Hid (wrF ws F O m 11 k = (F[k] == 3 && (decide (0 < wd ws (m + 2 + k)) && !hasO O (wd ws (m + 2 + k))))) := Lib.hid (by
          unfold wrF
          rw [List.getElem?_eq_getElem hlt]
          first | rw [if_pos rfl] | rw [if_neg (by decide)]
          rw [show ∀ a b : Nat, (some a == some b) = (a == b) from fun a b => rfl])
        have w3 : IntKind.i64.wrap ((m : Int) + 2 + (k : Int)) = ((m + 2 + k : Nat) : Int) := by rw [IntWalk.i64_in _ (by omega)]; omega
        have k1 : ((m + 2 + k : Nat) : Int) < (ws.length : Int) := by omega
        have k0 : (0 : Int) ≤ ((m + 2 + k : Nat) : Int) := by omega
        have hki : (k : Int) < (F.length : Int) := by omega
        have hk0 : (0 : Int) ≤ (k : Int) := by omega
        obtain ⟨p, hpp⟩ : ∃ p, m + 2 + k = p := ⟨_, rfl⟩
        rw [hpp] at x0 HW2 w3 k1 k0
        obtain ⟨v, hv⟩ : ∃ v, wd ws p = v := ⟨_, rfl⟩
        rw [hv] at x0 HW2
        obtain ⟨f, hf⟩ : ∃ f, F[k] = f := ⟨_, rfl⟩
        rw [hf] at y0 HW2
        have HBB := Lib.hid hB
        clear hpp hv hf
        by_cases hf3 : f = 3
        · subst hf3
          have HW3 : Hid (wrF ws F O m 11 k = (decide (0 < v) && !hasO O v)) := Lib.hid (by rw [HW2.out]; rfl)
          by_cases hv0 : 0 < v
          · have d1 : decide ((0 : Int) < (v : Int)) = true := by rw [decide_eq_true_iff]; omega
            have HIX := Lib.hid (fun W (hr : RdB W W.heap.size OA O) => r19Index_c OA O oc O.length v W rfl (by omega) hr HOb.out)
            have HOr := Lib.hid (HOa.out.up hB hz)
            rw [decide_eq_true hv0] at HW3
            obtain ⟨q, hq⟩ : ∃ q, hasO O v = q := ⟨_, rfl⟩
            rw [hq] at HIX HW3
            clear hq HW2
            cases q
            · have HE := Lib.hid (HY.out (by rw [HW3.out]; rfl))
              go_wp2_with fail
              refine (HIX.out _ HOr.out).mono ?_
              rintro e w5 ⟨⟨r, rfl, hr⟩, rfl⟩
              simp only [Bool.not_false] at hr
              go_wp2_with fail
              go_ret
              exact ⟨by rw [HE.out]; rfl, HB.out.trans (HBB.out.mono HB.out.size)⟩
            · have HE := Lib.hid (HS.out (by rw [HW3.out]; rfl))
              go_wp2_with fail
              refine (HIX.out _ HOr.out).mono ?_
              rintro e w5 ⟨⟨r, rfl, hr⟩, rfl⟩
              simp only [Bool.not_true] at hr
              go_wp2_with fail
              go_roundw
              case rel => exact ⟨k + 1, by omega, by go_num, HE, HBB.out⟩
              case measure => simp [intOf]; omega
          · have HE := Lib.hid (HS.out (by rw [HW3.out, decide_eq_false hv0]; rfl))
            obtain rfl : v = 0 := by omega
            clear HW2 HW3 hv0
            go_wp2_with fail
            go_roundw
            case rel => exact ⟨k + 1, by omega, by go_num, HE, HBB.out⟩
            case measure => simp [intOf]; omega
        · have e1 : ((f : Int) == 3) = false := by rw [beq_eq_false_iff_ne]; omega
          have HE := Lib.hid (HS.out (by rw [HW2.out, show (f == 3) = false by rw [beq_eq_false_iff_ne]; exact hf3]; rfl))
          clear hf3 HW2
          go_wp2_with fail
          go_roundw
          case rel => exact ⟨k + 1, by omega, by go_num, HE, HBB.out⟩
          case measure => simp [intOf]; omega
      · have HE := Lib.hid (HNN.out fun j hj => HP.out j (by omega))
        obtain rfl : k = F.length := by omega
        go_wp2_with fail
        go_ret
        exact ⟨by rw [HE.out]; rfl, HB.out.trans (hB.mono HB.out.size)⟩
end Go.Proofs.YtoaepffpjoibaaaGreat
