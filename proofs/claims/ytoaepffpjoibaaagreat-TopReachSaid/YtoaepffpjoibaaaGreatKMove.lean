/- Texts laid together: Fwr SameP Same2 To Put HdM. -/
import Derived.Test.YtoaepffpjoibaaaGreatKHeap
import Derived.Test.YtoaepffpjoibaaaGreatKHead
import Derived.Laws.OwnMore
namespace Go.Proofs.YtoaepffpjoibaaaGreat
open Go.RowKit

def mvCells (m : Int × Int) : List Value := [.int .i64 m.1, .int .i64 m.2]
theorem mvCells_len (m : Int × Int) : (mvCells m).length = 2 := rfl
def RdM (w : World) (B : Nat) (A : Option Addr) (l : List (Int × Int)) : Prop := Rd w B A (l.flatMap mvCells)
theorem RdM.at_ {w : World} {B : Nat} {A : Option Addr} {l : List (Int × Int)} (h : RdM w B A l) {k : Nat} (hk : k < l.length) :
    ∃ b off, A = some ⟨b, off, none⟩ ∧ b < B ∧ w.cell? ⟨b, off + k * 2, none⟩ = some (.int .i64 l[k].1) ∧ w.cell? ⟨b, off + k * 2 + 1, none⟩ = some (.int .i64 l[k].2) := by
  obtain ⟨b, off, e, hb, hc⟩ := Rd.at_flat mvCells_len h (by omega) hk
  exact ⟨b, off, e, hb, hc 0 (by omega), hc 1 (by omega)⟩
theorem infoMove : (Tryz.prog.info? 67).map (fun i => (i.zero, i.size, i.bytes)) = some (some (.agg #[.int .i64 0, .int .i64 0]), 2, 16) := by kernel_rfl
def RdRes (ws : List Nat) (f s : Int) (e : Ending) (w' : World) : Prop := ∃ A c, e = .returned (.tuple #[.slice A (rdMv ws f s).length c, .int .i64 (rdErr ws f s)]) ∧ RdM w' w'.heap.size A (rdMv ws f s) ∧ (rdMv ws f s).length ≤ c
theorem rdRes_no {ws : List Nat} {f s r : Int} {w' : World} (hr : rdErr ws f s = r) (h0 : r ≠ 0) : RdRes ws f s (.returned (.tuple #[.slice none 0 0, .int .i64 r])) w' := by
  subst hr
  have : rdMv ws f s = [] := by simp [rdMv, h0]
  exact ⟨none, 0, by rw [this]; rfl, by rw [this]; exact Rd.nil_, by rw [this]; simp⟩
theorem rd_ways {n : Nat} {f s : Int} (h : rdArg n f s = true) :
    ((f % 2 != 0) = true ∧ (f.tmod 2 != 0) = true) ∨
    ((f % 2 != 0) = false ∧ (f.tmod 2 != 0) = false) ∧ (((s % 2 != 0) = true ∧ (s.tmod 2 != 0) = true) ∨
      ((s % 2 != 0) = false ∧ (s.tmod 2 != 0) = false) ∧ (s < 128 ∨ 128 ≤ s ∧ f < s ∨ (128 ≤ s ∧ s ≤ f) ∧ (n : Int) < f)) := by
  rw [rdArg_iff] at h
  rw [tmod_two, tmod_two]
  by_cases h1 : f % 2 = 0
  · have e1 : (f % 2 != 0) = false := by rw [bne_eq_false_iff_eq]; exact h1
    rw [e1]
    refine .inr ⟨⟨rfl, rfl⟩, ?_⟩
    by_cases h2 : s % 2 = 0
    · have e2 : (s % 2 != 0) = false := by rw [bne_eq_false_iff_eq]; exact h2
      rw [e2]
      refine .inr ⟨⟨rfl, rfl⟩, ?_⟩
      omega
    · have e2 : (s % 2 != 0) = true := by rw [bne_iff_ne]; exact h2
      rw [e2]; exact .inl ⟨rfl, rfl⟩
  · have e1 : (f % 2 != 0) = true := by rw [bne_iff_ne]; exact h1
    rw [e1]; exact .inl ⟨rfl, rfl⟩
theorem rdErr_img {ws : List Nat} {f s : Int} (h : sizeOk (ws.length : Int) = false) : rdErr ws f s = 8 := by
  unfold rdErr; rw [isImg_size, h]; rfl
theorem rdErr_arg {ws : List Nat} {f s : Int} (h : sizeOk (ws.length : Int) = true) (h2 : rdArg ws.length f s = true) : rdErr ws f s = 2 := by
  unfold rdErr; rw [isImg_size, h, h2]; rfl
theorem rdErr_none {ws : List Nat} {f s : Int} (h : sizeOk (ws.length : Int) = true) (h2 : rdArg ws.length f s = false) (h3 : blocks ws f.toNat = none) : rdErr ws f s = 50 := by
  unfold rdErr heapErr; rw [isImg_size, h, h2, h3]; rfl
theorem rdErr_bad {ws : List Nat} {f s : Int} (h : sizeOk (ws.length : Int) = true) (h2 : rdArg ws.length f s = false) {l : List Bk} (h3 : blocks ws f.toNat = some l) (h4 : allMv ws l s = false) : rdErr ws f s = 50 := by
  rw [rdErr_of (by rw [isImg_size]; exact h) h2 h3, h4]; rfl
theorem rdErr_ok {ws : List Nat} {f s : Int} (h : sizeOk (ws.length : Int) = true) (h2 : rdArg ws.length f s = false) {l : List Bk} (h3 : blocks ws f.toNat = some l) (h4 : allMv ws l s = true) : rdErr ws f s = 0 ∧ rdMv ws f s = moves l s := by
  have h0 : rdErr ws f s = 0 := by rw [rdErr_of (by rw [isImg_size]; exact h) h2 h3, if_pos h4]
  exact ⟨h0, by unfold rdMv; rw [if_pos h0, h3]⟩
theorem frArg_rd {n : Nat} {f s : Int} (h : rdArg n f s = false) : frArg n f = false := by
  have := rdArg_no h
  simp only [frArg, Bool.or_eq_false_iff, decide_eq_false_iff_not, bne_eq_false_iff_eq]; omega
/-- One block more. -/
theorem mv_step {ws : List Nat} {l : List Bk} {s : Int} (hst : stErr l s = 0) {k : Nat} (hk : k < l.length) (h : allMv ws (l.take k) s = true) :
    (fitB ws l[k] = false → allMv ws l s = false) ∧
    (fitB ws l[k] = true → liveB l[k] = true → l[k].next ≠ wantN l[k] (endOf (l.take k) s) → allMv ws l s = false) ∧
    (fitB ws l[k] = true → liveB l[k] = true → l[k].next = wantN l[k] (endOf (l.take k) s) → allMv ws (l.take (k + 1)) s = true ∧ moves (l.take (k + 1)) s = moves (l.take k) s ++ [(l[k].at_, ((wantN l[k] (endOf (l.take k) s) : Nat) : Int))]) ∧
    (fitB ws l[k] = true → liveB l[k] = false → allMv ws (l.take (k + 1)) s = true ∧ moves (l.take (k + 1)) s = moves (l.take k) s) := by
  obtain ⟨h1, h2, h3, _⟩ := stErr_zero hst
  have hb := endOf_bd h1 (Nat.le_of_lt hk) h2 h3
  have e1 := allMv_take (ws := ws) hk s
  have e2 := moves_take hk s
  rw [h, Bool.true_and] at e1
  have hw : liveB l[k] = true → wantN l[k] (endOf (l.take k) s) = (endOf (l.take k) s).toNat := fun hl => by unfold wantN; rw [if_pos hl]
  refine ⟨fun hf => ?_, fun hf hl hn => ?_, fun hf hl hn => ?_, fun hf hl => ?_⟩
  · refine allMv_bad (k := k + 1) ?_
    rw [e1, hf]; rfl
  · refine allMv_bad (k := k + 1) ?_
    rw [hw hl] at hn
    rw [e1, hf, hl, show ((l[k].next : Int) == endOf (l.take k) s) = false by rw [beq_eq_false_iff_ne]; omega]; rfl
  · rw [hw hl] at hn ⊢
    rw [e1, e2, hf, hl, show ((l[k].next : Int) == endOf (l.take k) s) = true by rw [beq_iff_eq]; omega, Int.toNat_of_nonneg (by omega)]
    exact ⟨rfl, rfl⟩
  · rw [e1, e2, hf, hl]
    exact ⟨rfl, by simp⟩
theorem moves_len_le (l : List Bk) : ∀ s, (moves l s).length ≤ l.length := by
  induction l with
  | nil => intro s; exact Nat.le_refl _
  | cons b l ih =>
    intro s
    simp only [moves]
    split
    · have := ih (s + b.size); simp only [List.length_cons]; omega
    · have := ih s; simp only [List.length_cons]; omega

set_option maxRecDepth 100000 in
set_option maxHeartbeats 4000000 in
theorem fwRead_c (A : Option Addr) (ws : List Nat) (c n : Nat) (f s : Int) (w : World) (hn : ws.length = n) (hm : n ≤ 9223372036854775807) (hf : -9223372036854775808 ≤ f ∧ f ≤ 9223372036854775807) (hs : -9223372036854775808 ≤ s ∧ s ≤ 9223372036854775807) (hr : RdW w w.heap.size A ws) (ho : ∀ x ∈ ws, x < 18446744073709551616) :
    Calls Tryz.prog 12 #[.slice A n c, .int .i64 f, .int .i64 s] w fun e w' => RdRes ws f s e w' ∧ Below w.heap.size w w' := by
  subst hn
  have HR := Lib.hid hr
  have HO := Lib.hid ho
  obtain ⟨f1, f2⟩ := hf
  obtain ⟨s1, s2⟩ := hs
  clear hr ho
  cases hs : sizeOk (ws.length : Int)
  · have HI := Lib.hid (imgErr_no hs)
    have HE := Lib.hid (rdErr_img (f := f) (s := s) hs)
    clear hs
    go_enter Tryz.func12, Tryz.ntmps12
    go_wp2_with fail
    refine (imCheck_c A ws.length c w hm).mono ?_
    rintro e w1 ⟨rfl, rfl⟩
    rw [HI.out]
    go_wp2_with fail
    go_ret2
    exact ⟨rdRes_no HE.out (by omega), Below.refl _ _⟩
  · have HI := Lib.hid (imgErr_ok hs)
    obtain ⟨hb1, hb2, hb3⟩ := fr_bd ws hs
    have HS := Lib.hid hs
    clear hs hb3
    cases hbad : rdArg ws.length f s
    · have HARG := Lib.hid hbad
      obtain ⟨a1, a2, a3, a4, a5⟩ := rdArg_no hbad
      obtain ⟨i, rfl⟩ := Int.eq_ofNat_of_zero_le (show 0 ≤ f by omega)
      obtain ⟨u, rfl⟩ := Int.eq_ofNat_of_zero_le (show 0 ≤ s by omega)
      have HFE := Lib.hid (fun l (h : blocks ws i = some l) => frErr_some HS.out (frArg_rd HARG.out) (l := l) (by rw [Int.toNat_natCast]; exact h))
      have HFN := Lib.hid (fun (h : blocks ws i = none) => frErr_none HS.out (frArg_rd HARG.out) (by rw [Int.toNat_natCast]; exact h))
      have HST := Lib.hid (fun l (h : blocks ws i = some l) => blocks_st (ws := ws) (i := i) (l := l) (by omega) h (by omega) (by omega) (by omega) (s := (u : Int)) (by omega) (by omega) (by omega))
      have HLE := Lib.hid (fun l (h : blocks ws i = some l) => (blocks_chain (ws := ws) (by omega) i l h (by omega) (by omega) (by omega)).1)
      have HTY := Lib.hid (fun l (h : blocks ws i = some l) k (hk : k < l.length) h1 => blocks_typ (ws := ws) h (by omega) (k := k) hk h1)
      have HFR := Lib.hid (from_c A ws c ws.length (i : Int) w rfl hm HR.out HO.out)
      unfold FrRes at HFR
      have e1 : ((i : Int) % 2 != 0) = false := by rw [bne_eq_false_iff_eq]; exact a1
      have e2 : ((u : Int) % 2 != 0) = false := by rw [bne_eq_false_iff_eq]; exact a2
      have d1 : decide ((u : Int) < 128) = false := by rw [decide_eq_false_iff_not]; omega
      have d2 : decide ((i : Int) < (u : Int)) = false := by rw [decide_eq_false_iff_not]; omega
      have d2n : decide (i < u) = false := by rw [decide_eq_false_iff_not]; omega
      have d3 : decide ((ws.length : Int) < (i : Int)) = false := by rw [decide_eq_false_iff_not]; omega
      have d3n : decide (ws.length < i) = false := by rw [decide_eq_false_iff_not]; omega
      have u0 : (0 : Int) ≤ (u : Int) := by omega
      have i0' : (0 : Int) ≤ (i : Int) := by omega
      clear hbad a1 a2
      cases hbl : blocks ws i with
      | none =>
        have HE := Lib.hid (rdErr_none HS.out HARG.out (by rw [Int.toNat_natCast]; exact hbl))
        rw [HFN.out hbl] at HFR
        obtain ⟨l, hl⟩ : ∃ l, frOut ws (i : Int) = l := ⟨_, rfl⟩
        rw [hl] at HFR
        clear hbl hl
        go_enter Tryz.func12, Tryz.ntmps12
        go_wp2_with fail
        refine (imCheck_c A ws.length c w hm).mono ?_
        rintro e w1 ⟨rfl, rfl⟩
        rw [HI.out]
        go_wp2_with fail
        refine HFR.out.mono ?_
        rintro e w1 ⟨⟨A1, c1, rfl, -, -⟩, hB1⟩
        go_wp2_with fail
        go_ret2
        exact ⟨rdRes_no HE.out (by omega), hB1⟩
      | some l =>
        have HSO := Lib.hid hbl
        have HG3 := Lib.hid (HST.out l hbl)
        have hlen := HLE.out l hbl
        obtain ⟨g1, g2⟩ := HFE.out l hbl
        rw [g1, g2] at HFR
        have HPL := Lib.hid (fun (A2 : Option Addr) (c2 : Nat) (W : World) (h : RdB W W.heap.size A2 l) => places_c A2 l c2 l.length (u : Int) W rfl (by omega) h (by omega))
        unfold PlRes at HPL
        rw [HG3.out] at HPL
        clear hbl g1 g2
        obtain ⟨i2, hi, hz0, hz1, hz2⟩ := info_parts infoMove
        have HJ := Lib.hid hi
        have HJ0 := Lib.hid hz0
        have HJ1 := Lib.hid hz1
        have HJ2 := Lib.hid hz2
        clear hi hz0 hz1 hz2
        go_enter Tryz.func12, Tryz.ntmps12
        go_wp2_with fail
        refine (imCheck_c A ws.length c w hm).mono ?_
        rintro e w1 ⟨rfl, rfl⟩
        rw [HI.out]
        go_wp2_with fail
        refine HFR.out.mono ?_
        rintro e w2 ⟨⟨A1, c1, rfl, hrd, -⟩, hB2⟩
        have hz2 := hB2.size
        have HRD := Lib.hid hrd
        clear hrd
        go_wp2_with fail
        refine (HPL.out A1 c1 _ HRD.out).mono ?_
        rintro e w3 ⟨⟨A2, c2, rfl, hrp, -⟩, hB3⟩
        have hb3 := hB2.trans (hB3.mono hz2)
        have hz3 := hb3.size
        have HRP := Lib.hid hrp
        have HRD3 := Lib.hid (HRD.out.up hB3 hB3.size)
        have HR3 := Lib.hid (HR.out.up hb3 hz3)
        clear hrp HRD
        obtain ⟨pl, hpl⟩ : ∃ pl, plOut l (u : Int) = pl := ⟨_, rfl⟩
        rw [hpl] at HRP ⊢
        have hpll : pl.length = l.length := by rw [← hpl]; simp [plOut, HG3.out, placesOf_len]
        have HPA := Lib.hid (fun k (hk : k < l.length) => place_at HG3.out hk)
        rw [hpl] at HPA
        rw [hpll]
        clear hpl hpll
        go_wp2_with fail
        go_loopw [13, 61] (fun v i wr => ∃ k : Nat, k ≤ l.length ∧ i = .int .i64 k ∧ Hid (allMv ws (l.take k) (u : Int) = true) ∧ wr.ownsRow w3.heap.size 67 2 v (moves (l.take k) (u : Int)).length ((moves (l.take k) (u : Int)).flatMap mvCells) ∧ Below w3.heap.size w3 wr) (fun _ i _ => l.length - (intOf i).toNat)
        case atStart => exact ⟨0, Nat.zero_le _, rfl, rfl, World.ownsRow_nil _ _ _ _, Below.refl _ _⟩
        case round =>
          obtain ⟨k, hk, rfl, HAL, hown, hB⟩ := hrel
          have hz := hB.size
          by_cases hlt : k < l.length
          · obtain ⟨b, off, rfl, hbw, q0, q1, q2, q3, q4, q5⟩ := RdB.at_ (HRD3.out.below hB) hlt
            obtain ⟨hkp, hp1, hp2⟩ := HPA.out k hlt
            obtain ⟨b2, off2, rfl, hbw2, p0⟩ := RdI.at_ (HRP.out.below hB) hkp
            rw [hp1] at p0
            have HMS := Lib.hid (mv_step (ws := ws) HG3.out hlt HAL.out)
            have HTK := Lib.hid (HTY.out l HSO.out k hlt)
            have HBAD := Lib.hid (fun h => rdErr_bad HS.out HARG.out (l := l) (by rw [Int.toNat_natCast]; exact HSO.out) h)
            have hml := moves_len_le (l.take k) (u : Int)
            rw [List.length_take] at hml
            obtain ⟨m, hm2⟩ : ∃ m, moves (l.take k) (u : Int) = m := ⟨_, rfl⟩
            rw [hm2] at hown HMS hml
            obtain ⟨v, hv⟩ : ∃ v, wantN l[k] (endOf (l.take k) (u : Int)) = v := ⟨_, rfl⟩
            rw [hv] at hp2 p0 HMS
            obtain ⟨x, hx⟩ : ∃ x, l[k] = x := ⟨_, rfl⟩
            rw [hx] at q0 q1 q2 q3 q4 q5 HMS HTK
            obtain ⟨xa, xs, xk, xt, xm, xn⟩ := x
            dsimp only at q0 q1 q2 q3 q4 q5 HTK
            have hlm : (k : Int) < (l.length : Int) := by omega
            have hml2 : m.length ≤ 2048 := by omega
            have hv2 : (v : Int) ≤ 2048 := by omega
            have hv0 : (0 : Int) ≤ (v : Int) := by omega
            have hk0 : (0 : Int) ≤ (k : Int) := by omega
            have hwv : IntKind.u64.wrap (v : Int) = (v : Int) := IntWalk.u64_in _ (by omega)
            clear hx hm2 hml hv hp1
            by_cases hk1 : xk = 1
            · obtain ⟨t0, t8⟩ := HTK.out hk1
              obtain ⟨t, rfl⟩ := Int.eq_ofNat_of_zero_le t0
              subst hk1
              have HT := Lib.hid (fun W (h : RdW W W.heap.size A ws) => fwTyped_c A ws c ws.length t xa xs 1 xm xn W rfl (by omega) hb1 (by omega) h HO.out)
              have hfx : fitB ws ⟨xa, xs, 1, (t : Int), xm, xn⟩ = typedB ws ⟨xa, xs, 1, (t : Int), xm, xn⟩ := rfl
              have hlx : liveB ⟨xa, xs, 1, (t : Int), xm, xn⟩ = xm := rfl
              rw [hfx, hlx] at HMS
              obtain ⟨q, hq⟩ : ∃ q, typedB ws ⟨xa, xs, 1, (t : Int), xm, xn⟩ = q := ⟨_, rfl⟩
              rw [hq] at HMS HT
              clear hq hfx hlx HTK
              cases q
              · have HE := Lib.hid (HBAD.out (HMS.out.1 rfl))
                clear HMS
                go_wp2_with fail
                obtain ⟨wn, hwn⟩ : ∃ wn, wr.alloc (.cells #[.int .i64 xa, .int .i64 xs, .int .i64 1, .int .i64 (t : Int), .bool xm, .int .u64 (xn : Int)] 48) = wn := ⟨_, rfl⟩
                have bx := Bx.new wr 48 #[.int .i64 xa, .int .i64 xs, .int .i64 1, .int .i64 (t : Int), .bool xm, .int .u64 (xn : Int)]
                have hBn := hB.alloc hz (.cells #[.int .i64 xa, .int .i64 xs, .int .i64 1, .int .i64 (t : Int), .bool xm, .int .u64 (xn : Int)] 48)
                have hownn := hown.alloc (.cells #[.int .i64 xa, .int .i64 xs, .int .i64 1, .int .i64 (t : Int), .bool xm, .int .u64 (xn : Int)] 48)
                have hswn : (wr.alloc (.cells #[.int .i64 xa, .int .i64 xs, .int .i64 1, .int .i64 (t : Int), .bool xm, .int .u64 (xn : Int)] 48)).heap.size = wr.heap.size + 1 := by simp
                have p0n := (World.cell?_alloc_lt wr (.cells #[.int .i64 xa, .int .i64 xs, .int .i64 1, .int .i64 (t : Int), .bool xm, .int .u64 (xn : Int)] 48) ⟨b2, off2 + k, none⟩ (by dsimp only; omega)).trans p0
                rw [hwn] at bx hBn hownn hswn p0n ⊢
                clear hwn
                have HRn := Lib.hid (HR3.out.up hBn hBn.size)
                have HBN := Lib.hid hBn
                have HOWN := Lib.hid hownn
                have BX := Lib.hid bx
                obtain ⟨x0, x1, x2, x3, x4, x5, -, hgg⟩ := bx.c6
                have hg2 : b2 < wn.heap.size := by omega
                clear hBn hownn bx hown q0 q1 q2 q3 q4 q5 p0
                refine wp_region_held_drew (S := fun X : World => X.cell? ⟨wr.heap.size, 0, none⟩ = some (.int .i64 xa) ∧ X.cell? ⟨wr.heap.size, 1, none⟩ = some (.int .i64 xs) ∧ X.cell? ⟨wr.heap.size, 2, none⟩ = some (.int .i64 1) ∧ X.cell? ⟨wr.heap.size, 3, none⟩ = some (.int .i64 (t : Int)) ∧ X.cell? ⟨wr.heap.size, 4, none⟩ = some (.bool xm) ∧ X.cell? ⟨wr.heap.size, 5, none⟩ = some (.int .u64 (xn : Int)) ∧ X.cell? ⟨b2, off2 + k, none⟩ = some (.int .i64 (v : Int))) (by kernel_rfl) ⟨x0, x1, x2, x3, x4, x5, p0n⟩ (fun hHeld => ?_)
                show wpAnyH _ _ _ _ _ 18 #[false, false, false, false, false, false, false, false, false, false, false, false, false, false, false, false, false, false] _ _
                refine wpAnyH_take (i := 0) (v := .slice A ws.length c) rfl (by kernel_rfl) (by kernel_rfl) (by kernel_rfl) (fun _ _ _ h => h) (Or.inl ⟨by kernel_rfl, ?_⟩) (by assumption) ?_
                · intro X hX
                  (try dsimp only at hX)
                  go_simp
                dsimp only [Act.put, List.getElem_toArray, List.getElem_cons_zero, List.getElem_cons_succ, List.setIfInBounds_toArray, List.set_cons_zero, List.set_cons_succ]
                refine wpAnyH_take (i := 1) (v := .agg #[.int .i64 xa, .int .i64 xs, .int .i64 1, .int .i64 (t : Int), .bool xm, .int .u64 (xn : Int)]) rfl (by kernel_rfl) (by kernel_rfl) (by kernel_rfl) (fun _ _ _ h => h) (Or.inl ⟨by kernel_rfl, ?_⟩) (by assumption) ?_
                · intro X hX
                  (try dsimp only at hX)
                  go_simp
                dsimp only [Act.put, List.getElem_toArray, List.getElem_cons_zero, List.getElem_cons_succ, List.setIfInBounds_toArray, List.set_cons_zero, List.set_cons_succ]
                refine wpAnyH_ready (rs := [2]) (by kernel_rfl) (by simp) ?_
                refine AllReadyH.cons rfl (fun K hK => ?_) AllReadyH.nil
                go_simp
                refine (HT.out wn.drew (show RdW wn.drew wn.drew.heap.size A ws from HRn.out)).mono ?_
                rintro e w5 ⟨rfl, hB5⟩
                go_simp
                have HB5 := Lib.hid hB5
                refine hK.out _ _ ⟨(hB5.cell (p := ⟨wr.heap.size, 0, none⟩) hgg).trans x0, (hB5.cell (p := ⟨wr.heap.size, 1, none⟩) hgg).trans x1, (hB5.cell (p := ⟨wr.heap.size, 2, none⟩) hgg).trans x2, (hB5.cell (p := ⟨wr.heap.size, 3, none⟩) hgg).trans x3, (hB5.cell (p := ⟨wr.heap.size, 4, none⟩) hgg).trans x4, (hB5.cell (p := ⟨wr.heap.size, 5, none⟩) hgg).trans x5, (hB5.cell (p := ⟨b2, off2 + k, none⟩) hg2).trans p0n⟩ (fun HS1 => ?_)
                clear hK K
                refine wpAnyH_take (i := 3) (v := .bool true) rfl (by kernel_rfl) (by kernel_rfl) (by kernel_rfl) (fun _ _ _ h => h) (Or.inl ⟨by kernel_rfl, ?_⟩) (by assumption) ?_
                · intro X hX
                  (try dsimp only at hX)
                  go_simp
                dsimp only [Act.put, List.getElem_toArray, List.getElem_cons_zero, List.getElem_cons_succ, List.setIfInBounds_toArray, List.set_cons_zero, List.set_cons_succ]
                refine wpAnyH_take (i := 4) (v := .bool true) rfl (by kernel_rfl) (by kernel_rfl) (by kernel_rfl) (fun _ _ _ h => h) (Or.inl ⟨by kernel_rfl, ?_⟩) (by assumption) ?_
                · intro X hX
                  (try dsimp only at hX)
                  go_simp
                dsimp only [Act.put, List.getElem_toArray, List.getElem_cons_zero, List.getElem_cons_succ, List.setIfInBounds_toArray, List.set_cons_zero, List.set_cons_succ]
                refine wpAnyH_take (i := 5) (v := undef) rfl (by kernel_rfl) (by kernel_rfl) (by kernel_rfl) (fun _ _ _ h => h) (Or.inr ⟨by kernel_rfl, rfl⟩) (by assumption) ?_
                dsimp only [Act.put, List.getElem_toArray, List.getElem_cons_zero, List.getElem_cons_succ, List.setIfInBounds_toArray, List.set_cons_zero, List.set_cons_succ]
                refine wpAnyH_take (i := 6) (v := undef) rfl (by kernel_rfl) (by kernel_rfl) (by kernel_rfl) (fun _ _ _ h => h) (Or.inr ⟨by kernel_rfl, rfl⟩) (by assumption) ?_
                dsimp only [Act.put, List.getElem_toArray, List.getElem_cons_zero, List.getElem_cons_succ, List.setIfInBounds_toArray, List.set_cons_zero, List.set_cons_succ]
                refine wpAnyH_take (i := 7) (v := undef) rfl (by kernel_rfl) (by kernel_rfl) (by kernel_rfl) (fun _ _ _ h => h) (Or.inr ⟨by kernel_rfl, rfl⟩) (by assumption) ?_
                dsimp only [Act.put, List.getElem_toArray, List.getElem_cons_zero, List.getElem_cons_succ, List.setIfInBounds_toArray, List.set_cons_zero, List.set_cons_succ]
                refine wpAnyH_take (i := 8) (v := undef) rfl (by kernel_rfl) (by kernel_rfl) (by kernel_rfl) (fun _ _ _ h => h) (Or.inr ⟨by kernel_rfl, rfl⟩) (by assumption) ?_
                dsimp only [Act.put, List.getElem_toArray, List.getElem_cons_zero, List.getElem_cons_succ, List.setIfInBounds_toArray, List.set_cons_zero, List.set_cons_succ]
                refine wpAnyH_take (i := 9) (v := undef) rfl (by kernel_rfl) (by kernel_rfl) (by kernel_rfl) (fun _ _ _ h => h) (Or.inr ⟨by kernel_rfl, rfl⟩) (by assumption) ?_
                dsimp only [Act.put, List.getElem_toArray, List.getElem_cons_zero, List.getElem_cons_succ, List.setIfInBounds_toArray, List.set_cons_zero, List.set_cons_succ]
                refine wpAnyH_take (i := 10) (v := undef) rfl (by kernel_rfl) (by kernel_rfl) (by kernel_rfl) (fun _ _ _ h => h) (Or.inr ⟨by kernel_rfl, rfl⟩) (by assumption) ?_
                dsimp only [Act.put, List.getElem_toArray, List.getElem_cons_zero, List.getElem_cons_succ, List.setIfInBounds_toArray, List.set_cons_zero, List.set_cons_succ]
                refine wpAnyH_take (i := 11) (v := undef) rfl (by kernel_rfl) (by kernel_rfl) (by kernel_rfl) (fun _ _ _ h => h) (Or.inr ⟨by kernel_rfl, rfl⟩) (by assumption) ?_
                dsimp only [Act.put, List.getElem_toArray, List.getElem_cons_zero, List.getElem_cons_succ, List.setIfInBounds_toArray, List.set_cons_zero, List.set_cons_succ]
                refine wpAnyH_take (i := 12) (v := undef) rfl (by kernel_rfl) (by kernel_rfl) (by kernel_rfl) (fun _ _ _ h => h) (Or.inr ⟨by kernel_rfl, rfl⟩) (by assumption) ?_
                dsimp only [Act.put, List.getElem_toArray, List.getElem_cons_zero, List.getElem_cons_succ, List.setIfInBounds_toArray, List.set_cons_zero, List.set_cons_succ]
                refine wpAnyH_take (i := 13) (v := undef) rfl (by kernel_rfl) (by kernel_rfl) (by kernel_rfl) (fun _ _ _ h => h) (Or.inr ⟨by kernel_rfl, rfl⟩) (by assumption) ?_
                dsimp only [Act.put, List.getElem_toArray, List.getElem_cons_zero, List.getElem_cons_succ, List.setIfInBounds_toArray, List.set_cons_zero, List.set_cons_succ]
                refine wpAnyH_take (i := 14) (v := undef) rfl (by kernel_rfl) (by kernel_rfl) (by kernel_rfl) (fun _ _ _ h => h) (Or.inr ⟨by kernel_rfl, rfl⟩) (by assumption) ?_
                dsimp only [Act.put, List.getElem_toArray, List.getElem_cons_zero, List.getElem_cons_succ, List.setIfInBounds_toArray, List.set_cons_zero, List.set_cons_succ]
                refine wpAnyH_take (i := 15) (v := undef) rfl (by kernel_rfl) (by kernel_rfl) (by kernel_rfl) (fun _ _ _ h => h) (Or.inr ⟨by kernel_rfl, rfl⟩) (by assumption) ?_
                dsimp only [Act.put, List.getElem_toArray, List.getElem_cons_zero, List.getElem_cons_succ, List.setIfInBounds_toArray, List.set_cons_zero, List.set_cons_succ]
                refine wpAnyH_take (i := 16) (v := undef) rfl (by kernel_rfl) (by kernel_rfl) (by kernel_rfl) (fun _ _ _ h => h) (Or.inr ⟨by kernel_rfl, rfl⟩) (by assumption) ?_
                dsimp only [Act.put, List.getElem_toArray, List.getElem_cons_zero, List.getElem_cons_succ, List.setIfInBounds_toArray, List.set_cons_zero, List.set_cons_succ]
                refine wpAnyH_take (i := 17) (v := .bool true) rfl (by kernel_rfl) (by kernel_rfl) (by kernel_rfl) (fun _ _ _ h => h) (Or.inl ⟨by kernel_rfl, ?_⟩) (by assumption) ?_
                · intro X hX
                  (try dsimp only at hX)
                  go_simp
                dsimp only [Act.put, List.getElem_toArray, List.getElem_cons_zero, List.getElem_cons_succ, List.setIfInBounds_toArray, List.set_cons_zero, List.set_cons_succ]
                refine wpAnyH_done (by kernel_rfl) ?_ _
                obtain ⟨m0, m1, m2, m3, m4, m5, m6⟩ := HS1
                clear hHeld hB5 x0 x1 x2 x3 x4 x5 p0n
                go_simp
                go_wp2_with fail
                go_ret2
                exact ⟨rdRes_no HE.out (by omega), hb3.trans ((HBN.out.trans ((Below.refl _ _).drew.trans (HB5.out.mono HBN.out.size))).mono hz3)⟩
              · cases xm
                · have HY := Lib.hid (HMS.out.2.2.2 rfl rfl)
                  clear HMS
                  go_wp2_with fail
                  obtain ⟨wn, hwn⟩ : ∃ wn, wr.alloc (.cells #[.int .i64 xa, .int .i64 xs, .int .i64 1, .int .i64 (t : Int), .bool false, .int .u64 (xn : Int)] 48) = wn := ⟨_, rfl⟩
                  have bx := Bx.new wr 48 #[.int .i64 xa, .int .i64 xs, .int .i64 1, .int .i64 (t : Int), .bool false, .int .u64 (xn : Int)]
                  have hBn := hB.alloc hz (.cells #[.int .i64 xa, .int .i64 xs, .int .i64 1, .int .i64 (t : Int), .bool false, .int .u64 (xn : Int)] 48)
                  have hownn := hown.alloc (.cells #[.int .i64 xa, .int .i64 xs, .int .i64 1, .int .i64 (t : Int), .bool false, .int .u64 (xn : Int)] 48)
                  have hswn : (wr.alloc (.cells #[.int .i64 xa, .int .i64 xs, .int .i64 1, .int .i64 (t : Int), .bool false, .int .u64 (xn : Int)] 48)).heap.size = wr.heap.size + 1 := by simp
                  have p0n := (World.cell?_alloc_lt wr (.cells #[.int .i64 xa, .int .i64 xs, .int .i64 1, .int .i64 (t : Int), .bool false, .int .u64 (xn : Int)] 48) ⟨b2, off2 + k, none⟩ (by dsimp only; omega)).trans p0
                  rw [hwn] at bx hBn hownn hswn p0n ⊢
                  clear hwn
                  have HRn := Lib.hid (HR3.out.up hBn hBn.size)
                  have HBN := Lib.hid hBn
                  have HOWN := Lib.hid hownn
                  have BX := Lib.hid bx
                  obtain ⟨x0, x1, x2, x3, x4, x5, -, hgg⟩ := bx.c6
                  have hg2 : b2 < wn.heap.size := by omega
                  clear hBn hownn bx hown q0 q1 q2 q3 q4 q5 p0
                  refine wp_region_held_drew (S := fun X : World => X.cell? ⟨wr.heap.size, 0, none⟩ = some (.int .i64 xa) ∧ X.cell? ⟨wr.heap.size, 1, none⟩ = some (.int .i64 xs) ∧ X.cell? ⟨wr.heap.size, 2, none⟩ = some (.int .i64 1) ∧ X.cell? ⟨wr.heap.size, 3, none⟩ = some (.int .i64 (t : Int)) ∧ X.cell? ⟨wr.heap.size, 4, none⟩ = some (.bool false) ∧ X.cell? ⟨wr.heap.size, 5, none⟩ = some (.int .u64 (xn : Int)) ∧ X.cell? ⟨b2, off2 + k, none⟩ = some (.int .i64 (v : Int))) (by kernel_rfl) ⟨x0, x1, x2, x3, x4, x5, p0n⟩ (fun hHeld => ?_)
                  show wpAnyH _ _ _ _ _ 18 #[false, false, false, false, false, false, false, false, false, false, false, false, false, false, false, false, false, false] _ _
                  refine wpAnyH_take (i := 0) (v := .slice A ws.length c) rfl (by kernel_rfl) (by kernel_rfl) (by kernel_rfl) (fun _ _ _ h => h) (Or.inl ⟨by kernel_rfl, ?_⟩) (by assumption) ?_
                  · intro X hX
                    (try dsimp only at hX)
                    go_simp
                  dsimp only [Act.put, List.getElem_toArray, List.getElem_cons_zero, List.getElem_cons_succ, List.setIfInBounds_toArray, List.set_cons_zero, List.set_cons_succ]
                  refine wpAnyH_take (i := 1) (v := .agg #[.int .i64 xa, .int .i64 xs, .int .i64 1, .int .i64 (t : Int), .bool false, .int .u64 (xn : Int)]) rfl (by kernel_rfl) (by kernel_rfl) (by kernel_rfl) (fun _ _ _ h => h) (Or.inl ⟨by kernel_rfl, ?_⟩) (by assumption) ?_
                  · intro X hX
                    (try dsimp only at hX)
                    go_simp
                  dsimp only [Act.put, List.getElem_toArray, List.getElem_cons_zero, List.getElem_cons_succ, List.setIfInBounds_toArray, List.set_cons_zero, List.set_cons_succ]
                  refine wpAnyH_ready (rs := [2]) (by kernel_rfl) (by simp) ?_
                  refine AllReadyH.cons rfl (fun K hK => ?_) AllReadyH.nil
                  go_simp
                  refine (HT.out wn.drew (show RdW wn.drew wn.drew.heap.size A ws from HRn.out)).mono ?_
                  rintro e w5 ⟨rfl, hB5⟩
                  go_simp
                  have HB5 := Lib.hid hB5
                  refine hK.out _ _ ⟨(hB5.cell (p := ⟨wr.heap.size, 0, none⟩) hgg).trans x0, (hB5.cell (p := ⟨wr.heap.size, 1, none⟩) hgg).trans x1, (hB5.cell (p := ⟨wr.heap.size, 2, none⟩) hgg).trans x2, (hB5.cell (p := ⟨wr.heap.size, 3, none⟩) hgg).trans x3, (hB5.cell (p := ⟨wr.heap.size, 4, none⟩) hgg).trans x4, (hB5.cell (p := ⟨wr.heap.size, 5, none⟩) hgg).trans x5, (hB5.cell (p := ⟨b2, off2 + k, none⟩) hg2).trans p0n⟩ (fun HS1 => ?_)
                  clear hK K
                  refine wpAnyH_take (i := 3) (v := .bool false) rfl (by kernel_rfl) (by kernel_rfl) (by kernel_rfl) (fun _ _ _ h => h) (Or.inl ⟨by kernel_rfl, ?_⟩) (by assumption) ?_
                  · intro X hX
                    (try dsimp only at hX)
                    go_simp
                  dsimp only [Act.put, List.getElem_toArray, List.getElem_cons_zero, List.getElem_cons_succ, List.setIfInBounds_toArray, List.set_cons_zero, List.set_cons_succ]
                  refine wpAnyH_take (i := 4) (v := .bool false) rfl (by kernel_rfl) (by kernel_rfl) (by kernel_rfl) (fun _ _ _ h => h) (Or.inl ⟨by kernel_rfl, ?_⟩) (by assumption) ?_
                  · intro X hX
                    (try dsimp only at hX)
                    go_simp
                  dsimp only [Act.put, List.getElem_toArray, List.getElem_cons_zero, List.getElem_cons_succ, List.setIfInBounds_toArray, List.set_cons_zero, List.set_cons_succ]
                  refine wpAnyH_take (i := 5) (v := .pointer (some ⟨wr.heap.size, 4, none⟩)) rfl (by kernel_rfl) (by kernel_rfl) (by kernel_rfl) (fun _ _ _ h => h) (Or.inl ⟨by kernel_rfl, ?_⟩) (by assumption) ?_
                  · intro X hX
                    (try dsimp only at hX)
                    go_simp
                  dsimp only [Act.put, List.getElem_toArray, List.getElem_cons_zero, List.getElem_cons_succ, List.setIfInBounds_toArray, List.set_cons_zero, List.set_cons_succ]
                  refine wpAnyH_take (i := 6) (v := .bool false) rfl (by kernel_rfl) (by kernel_rfl) (by kernel_rfl) (fun _ _ _ h => h) (Or.inl ⟨by kernel_rfl, ?_⟩) (by assumption) ?_
                  · intro X hX
                    (try dsimp only at hX)
                    go_simp
                  dsimp only [Act.put, List.getElem_toArray, List.getElem_cons_zero, List.getElem_cons_succ, List.setIfInBounds_toArray, List.set_cons_zero, List.set_cons_succ]
                  refine wpAnyH_take (i := 7) (v := .bool false) rfl (by kernel_rfl) (by kernel_rfl) (by kernel_rfl) (fun _ _ _ h => h) (Or.inl ⟨by kernel_rfl, ?_⟩) (by assumption) ?_
                  · intro X hX
                    (try dsimp only at hX)
                    go_simp
                  dsimp only [Act.put, List.getElem_toArray, List.getElem_cons_zero, List.getElem_cons_succ, List.setIfInBounds_toArray, List.set_cons_zero, List.set_cons_succ]
                  refine wpAnyH_take (i := 8) (v := undef) rfl (by kernel_rfl) (by kernel_rfl) (by kernel_rfl) (fun _ _ _ h => h) (Or.inr ⟨by kernel_rfl, rfl⟩) (by assumption) ?_
                  dsimp only [Act.put, List.getElem_toArray, List.getElem_cons_zero, List.getElem_cons_succ, List.setIfInBounds_toArray, List.set_cons_zero, List.set_cons_succ]
                  refine wpAnyH_take (i := 9) (v := undef) rfl (by kernel_rfl) (by kernel_rfl) (by kernel_rfl) (fun _ _ _ h => h) (Or.inr ⟨by kernel_rfl, rfl⟩) (by assumption) ?_
                  dsimp only [Act.put, List.getElem_toArray, List.getElem_cons_zero, List.getElem_cons_succ, List.setIfInBounds_toArray, List.set_cons_zero, List.set_cons_succ]
                  refine wpAnyH_take (i := 10) (v := undef) rfl (by kernel_rfl) (by kernel_rfl) (by kernel_rfl) (fun _ _ _ h => h) (Or.inr ⟨by kernel_rfl, rfl⟩) (by assumption) ?_
                  dsimp only [Act.put, List.getElem_toArray, List.getElem_cons_zero, List.getElem_cons_succ, List.setIfInBounds_toArray, List.set_cons_zero, List.set_cons_succ]
                  refine wpAnyH_take (i := 11) (v := undef) rfl (by kernel_rfl) (by kernel_rfl) (by kernel_rfl) (fun _ _ _ h => h) (Or.inr ⟨by kernel_rfl, rfl⟩) (by assumption) ?_
                  dsimp only [Act.put, List.getElem_toArray, List.getElem_cons_zero, List.getElem_cons_succ, List.setIfInBounds_toArray, List.set_cons_zero, List.set_cons_succ]
                  refine wpAnyH_take (i := 12) (v := undef) rfl (by kernel_rfl) (by kernel_rfl) (by kernel_rfl) (fun _ _ _ h => h) (Or.inr ⟨by kernel_rfl, rfl⟩) (by assumption) ?_
                  dsimp only [Act.put, List.getElem_toArray, List.getElem_cons_zero, List.getElem_cons_succ, List.setIfInBounds_toArray, List.set_cons_zero, List.set_cons_succ]
                  refine wpAnyH_take (i := 13) (v := undef) rfl (by kernel_rfl) (by kernel_rfl) (by kernel_rfl) (fun _ _ _ h => h) (Or.inr ⟨by kernel_rfl, rfl⟩) (by assumption) ?_
                  dsimp only [Act.put, List.getElem_toArray, List.getElem_cons_zero, List.getElem_cons_succ, List.setIfInBounds_toArray, List.set_cons_zero, List.set_cons_succ]
                  refine wpAnyH_take (i := 14) (v := undef) rfl (by kernel_rfl) (by kernel_rfl) (by kernel_rfl) (fun _ _ _ h => h) (Or.inr ⟨by kernel_rfl, rfl⟩) (by assumption) ?_
                  dsimp only [Act.put, List.getElem_toArray, List.getElem_cons_zero, List.getElem_cons_succ, List.setIfInBounds_toArray, List.set_cons_zero, List.set_cons_succ]
                  refine wpAnyH_take (i := 15) (v := undef) rfl (by kernel_rfl) (by kernel_rfl) (by kernel_rfl) (fun _ _ _ h => h) (Or.inr ⟨by kernel_rfl, rfl⟩) (by assumption) ?_
                  dsimp only [Act.put, List.getElem_toArray, List.getElem_cons_zero, List.getElem_cons_succ, List.setIfInBounds_toArray, List.set_cons_zero, List.set_cons_succ]
                  refine wpAnyH_take (i := 16) (v := .bool false) rfl (by kernel_rfl) (by kernel_rfl) (by kernel_rfl) (fun _ _ _ h => h) (Or.inl ⟨by kernel_rfl, ?_⟩) (by assumption) ?_
                  · intro X hX
                    (try dsimp only at hX)
                    go_simp
                  dsimp only [Act.put, List.getElem_toArray, List.getElem_cons_zero, List.getElem_cons_succ, List.setIfInBounds_toArray, List.set_cons_zero, List.set_cons_succ]
                  refine wpAnyH_take (i := 17) (v := .bool false) rfl (by kernel_rfl) (by kernel_rfl) (by kernel_rfl) (fun _ _ _ h => h) (Or.inl ⟨by kernel_rfl, ?_⟩) (by assumption) ?_
                  · intro X hX
                    (try dsimp only at hX)
                    go_simp
                  dsimp only [Act.put, List.getElem_toArray, List.getElem_cons_zero, List.getElem_cons_succ, List.setIfInBounds_toArray, List.set_cons_zero, List.set_cons_succ]
                  refine wpAnyH_done (by kernel_rfl) ?_ _
                  obtain ⟨m0, m1, m2, m3, m4, m5, m6⟩ := HS1
                  clear hHeld hB5 x0 x1 x2 x3 x4 x5 p0n
                  go_simp
                  go_wp2_with fail
                  go_roundw
                  case rel => exact ⟨k + 1, by omega, by go_num, HY.out.1, by rw [HY.out.2]; exact own_below (show (wn.drew).ownsRow _ _ _ _ _ _ from HOWN.out) HB5.out (Nat.le_refl _), HBN.out.trans ((Below.refl _ _).drew.trans (HB5.out.mono HBN.out.size))⟩
                  case measure => simp [intOf]; omega
                · by_cases hnv : xn = v
                  · have hnb : ((xn : Int) != (v : Int)) = false := by rw [bne_eq_false_iff_eq]; omega
                    have HNB := Lib.hid (own_new hown)
                    have HY := Lib.hid (HMS.out.2.2.1 rfl rfl hnv)
                    clear HMS hnv
                    go_wp2_with fail
                    obtain ⟨wn, hwn⟩ : ∃ wn, wr.alloc (.cells #[.int .i64 xa, .int .i64 xs, .int .i64 1, .int .i64 (t : Int), .bool true, .int .u64 (xn : Int)] 48) = wn := ⟨_, rfl⟩
                    have bx := Bx.new wr 48 #[.int .i64 xa, .int .i64 xs, .int .i64 1, .int .i64 (t : Int), .bool true, .int .u64 (xn : Int)]
                    have hBn := hB.alloc hz (.cells #[.int .i64 xa, .int .i64 xs, .int .i64 1, .int .i64 (t : Int), .bool true, .int .u64 (xn : Int)] 48)
                    have hownn := hown.alloc (.cells #[.int .i64 xa, .int .i64 xs, .int .i64 1, .int .i64 (t : Int), .bool true, .int .u64 (xn : Int)] 48)
                    have hswn : (wr.alloc (.cells #[.int .i64 xa, .int .i64 xs, .int .i64 1, .int .i64 (t : Int), .bool true, .int .u64 (xn : Int)] 48)).heap.size = wr.heap.size + 1 := by simp
                    have p0n := (World.cell?_alloc_lt wr (.cells #[.int .i64 xa, .int .i64 xs, .int .i64 1, .int .i64 (t : Int), .bool true, .int .u64 (xn : Int)] 48) ⟨b2, off2 + k, none⟩ (by dsimp only; omega)).trans p0
                    rw [hwn] at bx hBn hownn hswn p0n ⊢
                    clear hwn
                    have HRn := Lib.hid (HR3.out.up hBn hBn.size)
                    have HBN := Lib.hid hBn
                    have HOWN := Lib.hid hownn
                    have BX := Lib.hid bx
                    obtain ⟨x0, x1, x2, x3, x4, x5, -, hgg⟩ := bx.c6
                    have hg2 : b2 < wn.heap.size := by omega
                    clear hBn hownn bx hown q0 q1 q2 q3 q4 q5 p0
                    refine wp_region_held_drew (S := fun X : World => X.cell? ⟨wr.heap.size, 0, none⟩ = some (.int .i64 xa) ∧ X.cell? ⟨wr.heap.size, 1, none⟩ = some (.int .i64 xs) ∧ X.cell? ⟨wr.heap.size, 2, none⟩ = some (.int .i64 1) ∧ X.cell? ⟨wr.heap.size, 3, none⟩ = some (.int .i64 (t : Int)) ∧ X.cell? ⟨wr.heap.size, 4, none⟩ = some (.bool true) ∧ X.cell? ⟨wr.heap.size, 5, none⟩ = some (.int .u64 (xn : Int)) ∧ X.cell? ⟨b2, off2 + k, none⟩ = some (.int .i64 (v : Int))) (by kernel_rfl) ⟨x0, x1, x2, x3, x4, x5, p0n⟩ (fun hHeld => ?_)
                    show wpAnyH _ _ _ _ _ 18 #[false, false, false, false, false, false, false, false, false, false, false, false, false, false, false, false, false, false] _ _
                    refine wpAnyH_take (i := 0) (v := .slice A ws.length c) rfl (by kernel_rfl) (by kernel_rfl) (by kernel_rfl) (fun _ _ _ h => h) (Or.inl ⟨by kernel_rfl, ?_⟩) (by assumption) ?_
                    · intro X hX
                      (try dsimp only at hX)
                      go_simp
                    dsimp only [Act.put, List.getElem_toArray, List.getElem_cons_zero, List.getElem_cons_succ, List.setIfInBounds_toArray, List.set_cons_zero, List.set_cons_succ]
                    refine wpAnyH_take (i := 1) (v := .agg #[.int .i64 xa, .int .i64 xs, .int .i64 1, .int .i64 (t : Int), .bool true, .int .u64 (xn : Int)]) rfl (by kernel_rfl) (by kernel_rfl) (by kernel_rfl) (fun _ _ _ h => h) (Or.inl ⟨by kernel_rfl, ?_⟩) (by assumption) ?_
                    · intro X hX
                      (try dsimp only at hX)
                      go_simp
                    dsimp only [Act.put, List.getElem_toArray, List.getElem_cons_zero, List.getElem_cons_succ, List.setIfInBounds_toArray, List.set_cons_zero, List.set_cons_succ]
                    refine wpAnyH_ready (rs := [2]) (by kernel_rfl) (by simp) ?_
                    refine AllReadyH.cons rfl (fun K hK => ?_) AllReadyH.nil
                    go_simp
                    refine (HT.out wn.drew (show RdW wn.drew wn.drew.heap.size A ws from HRn.out)).mono ?_
                    rintro e w5 ⟨rfl, hB5⟩
                    go_simp
                    have HB5 := Lib.hid hB5
                    refine hK.out _ _ ⟨(hB5.cell (p := ⟨wr.heap.size, 0, none⟩) hgg).trans x0, (hB5.cell (p := ⟨wr.heap.size, 1, none⟩) hgg).trans x1, (hB5.cell (p := ⟨wr.heap.size, 2, none⟩) hgg).trans x2, (hB5.cell (p := ⟨wr.heap.size, 3, none⟩) hgg).trans x3, (hB5.cell (p := ⟨wr.heap.size, 4, none⟩) hgg).trans x4, (hB5.cell (p := ⟨wr.heap.size, 5, none⟩) hgg).trans x5, (hB5.cell (p := ⟨b2, off2 + k, none⟩) hg2).trans p0n⟩ (fun HS1 => ?_)
                    clear hK K
                    refine wpAnyH_take (i := 3) (v := .bool false) rfl (by kernel_rfl) (by kernel_rfl) (by kernel_rfl) (fun _ _ _ h => h) (Or.inl ⟨by kernel_rfl, ?_⟩) (by assumption) ?_
                    · intro X hX
                      (try dsimp only at hX)
                      go_simp
                    dsimp only [Act.put, List.getElem_toArray, List.getElem_cons_zero, List.getElem_cons_succ, List.setIfInBounds_toArray, List.set_cons_zero, List.set_cons_succ]
                    refine wpAnyH_take (i := 4) (v := .bool false) rfl (by kernel_rfl) (by kernel_rfl) (by kernel_rfl) (fun _ _ _ h => h) (Or.inl ⟨by kernel_rfl, ?_⟩) (by assumption) ?_
                    · intro X hX
                      (try dsimp only at hX)
                      go_simp
                    dsimp only [Act.put, List.getElem_toArray, List.getElem_cons_zero, List.getElem_cons_succ, List.setIfInBounds_toArray, List.set_cons_zero, List.set_cons_succ]
                    refine wpAnyH_take (i := 5) (v := .pointer (some ⟨wr.heap.size, 4, none⟩)) rfl (by kernel_rfl) (by kernel_rfl) (by kernel_rfl) (fun _ _ _ h => h) (Or.inl ⟨by kernel_rfl, ?_⟩) (by assumption) ?_
                    · intro X hX
                      (try dsimp only at hX)
                      go_simp
                    dsimp only [Act.put, List.getElem_toArray, List.getElem_cons_zero, List.getElem_cons_succ, List.setIfInBounds_toArray, List.set_cons_zero, List.set_cons_succ]
                    refine wpAnyH_take (i := 6) (v := .bool true) rfl (by kernel_rfl) (by kernel_rfl) (by kernel_rfl) (fun _ _ _ h => h) (Or.inl ⟨by kernel_rfl, ?_⟩) (by assumption) ?_
                    · intro X hX
                      (try dsimp only at hX)
                      go_simp
                    dsimp only [Act.put, List.getElem_toArray, List.getElem_cons_zero, List.getElem_cons_succ, List.setIfInBounds_toArray, List.set_cons_zero, List.set_cons_succ]
                    refine wpAnyH_take (i := 7) (v := .bool true) rfl (by kernel_rfl) (by kernel_rfl) (by kernel_rfl) (fun _ _ _ h => h) (Or.inl ⟨by kernel_rfl, ?_⟩) (by assumption) ?_
                    · intro X hX
                      (try dsimp only at hX)
                      go_simp
                    dsimp only [Act.put, List.getElem_toArray, List.getElem_cons_zero, List.getElem_cons_succ, List.setIfInBounds_toArray, List.set_cons_zero, List.set_cons_succ]
                    refine wpAnyH_take (i := 8) (v := .pointer (some ⟨wr.heap.size, 5, none⟩)) rfl (by kernel_rfl) (by kernel_rfl) (by kernel_rfl) (fun _ _ _ h => h) (Or.inl ⟨by kernel_rfl, ?_⟩) (by assumption) ?_
                    · intro X hX
                      (try dsimp only at hX)
                      go_simp
                    dsimp only [Act.put, List.getElem_toArray, List.getElem_cons_zero, List.getElem_cons_succ, List.setIfInBounds_toArray, List.set_cons_zero, List.set_cons_succ]
                    refine wpAnyH_take (i := 9) (v := .int .u64 (xn : Int)) rfl (by kernel_rfl) (by kernel_rfl) (by kernel_rfl) (fun _ _ _ h => h) (Or.inl ⟨by kernel_rfl, ?_⟩) (by assumption) ?_
                    · intro X hX
                      (try dsimp only at hX)
                      go_simp
                    dsimp only [Act.put, List.getElem_toArray, List.getElem_cons_zero, List.getElem_cons_succ, List.setIfInBounds_toArray, List.set_cons_zero, List.set_cons_succ]
                    refine wpAnyH_take (i := 10) (v := .slice (some ⟨b2, off2, none⟩) l.length c2) rfl (by kernel_rfl) (by kernel_rfl) (by kernel_rfl) (fun _ _ _ h => h) (Or.inl ⟨by kernel_rfl, ?_⟩) (by assumption) ?_
                    · intro X hX
                      (try dsimp only at hX)
                      go_simp
                    dsimp only [Act.put, List.getElem_toArray, List.getElem_cons_zero, List.getElem_cons_succ, List.setIfInBounds_toArray, List.set_cons_zero, List.set_cons_succ]
                    refine wpAnyH_take (i := 11) (v := .int .i64 (k : Int)) rfl (by kernel_rfl) (by kernel_rfl) (by kernel_rfl) (fun _ _ _ h => h) (Or.inl ⟨by kernel_rfl, ?_⟩) (by assumption) ?_
                    · intro X hX
                      (try dsimp only at hX)
                      go_simp
                    dsimp only [Act.put, List.getElem_toArray, List.getElem_cons_zero, List.getElem_cons_succ, List.setIfInBounds_toArray, List.set_cons_zero, List.set_cons_succ]
                    refine wpAnyH_take (i := 12) (v := .pointer (some ⟨b2, off2 + k, none⟩)) rfl (by kernel_rfl) (by kernel_rfl) (by kernel_rfl) (fun _ _ _ h => h) (Or.inl ⟨by kernel_rfl, ?_⟩) (by assumption) ?_
                    · intro X hX
                      (try dsimp only at hX)
                      go_simp
                    dsimp only [Act.put, List.getElem_toArray, List.getElem_cons_zero, List.getElem_cons_succ, List.setIfInBounds_toArray, List.set_cons_zero, List.set_cons_succ]
                    refine wpAnyH_take (i := 13) (v := .int .i64 (v : Int)) rfl (by kernel_rfl) (by kernel_rfl) (by kernel_rfl) (fun _ _ _ h => h) (Or.inl ⟨by kernel_rfl, ?_⟩) (by assumption) ?_
                    · intro X hX
                      (try dsimp only at hX)
                      go_simp
                    dsimp only [Act.put, List.getElem_toArray, List.getElem_cons_zero, List.getElem_cons_succ, List.setIfInBounds_toArray, List.set_cons_zero, List.set_cons_succ]
                    refine wpAnyH_take (i := 14) (v := .int .u64 (v : Int)) rfl (by kernel_rfl) (by kernel_rfl) (by kernel_rfl) (fun _ _ _ h => h) (Or.inl ⟨by kernel_rfl, ?_⟩) (by assumption) ?_
                    · intro X hX
                      (try dsimp only at hX)
                      go_simp
                    dsimp only [Act.put, List.getElem_toArray, List.getElem_cons_zero, List.getElem_cons_succ, List.setIfInBounds_toArray, List.set_cons_zero, List.set_cons_succ]
                    refine wpAnyH_take (i := 15) (v := .bool false) rfl (by kernel_rfl) (by kernel_rfl) (by kernel_rfl) (fun _ _ _ h => h) (Or.inl ⟨by kernel_rfl, ?_⟩) (by assumption) ?_
                    · intro X hX
                      (try dsimp only at hX)
                      go_simp
                    dsimp only [Act.put, List.getElem_toArray, List.getElem_cons_zero, List.getElem_cons_succ, List.setIfInBounds_toArray, List.set_cons_zero, List.set_cons_succ]
                    refine wpAnyH_take (i := 16) (v := .bool false) rfl (by kernel_rfl) (by kernel_rfl) (by kernel_rfl) (fun _ _ _ h => h) (Or.inl ⟨by kernel_rfl, ?_⟩) (by assumption) ?_
                    · intro X hX
                      (try dsimp only at hX)
                      go_simp
                    dsimp only [Act.put, List.getElem_toArray, List.getElem_cons_zero, List.getElem_cons_succ, List.setIfInBounds_toArray, List.set_cons_zero, List.set_cons_succ]
                    refine wpAnyH_take (i := 17) (v := .bool false) rfl (by kernel_rfl) (by kernel_rfl) (by kernel_rfl) (fun _ _ _ h => h) (Or.inl ⟨by kernel_rfl, ?_⟩) (by assumption) ?_
                    · intro X hX
                      (try dsimp only at hX)
                      go_simp
                    dsimp only [Act.put, List.getElem_toArray, List.getElem_cons_zero, List.getElem_cons_succ, List.setIfInBounds_toArray, List.set_cons_zero, List.set_cons_succ]
                    refine wpAnyH_done (by kernel_rfl) ?_ _
                    obtain ⟨m0, m1, m2, m3, m4, m5, m6⟩ := HS1
                    clear hHeld hB5 x0 x1 x2 x3 x4 x5 p0n
                    go_simp
                    go_wp2_with fail
                    have hB5' := HBN.out.trans ((Below.refl _ _).drew.trans (HB5.out.mono HBN.out.size))
                    have hown5 := own_below (show (wn.drew).ownsRow _ _ _ _ _ _ from HOWN.out) HB5.out (Nat.le_refl _)
                    have hz5 := hB5'.size
                    have hneP := own_ne HOWN.out hbw2
                    have hneB : some wr.heap.size ≠ Value.ownBlock u13 := HNB.out
                    have hg5 : wr.heap.size < w5.heap.size := by have := HB5.out.size; have : wn.drew.heap.size = wn.heap.size := rfl; omega
                    have hp5 : b2 < w5.heap.size := by omega
                    have hm1 : m.length + 1 ≤ maxLen := by unfold maxLen; omega
                    have hm2 : (m.length + 1) * 16 ≤ 140737488355328 := by omega
                    have HSN5 := Lib.hid hB5'
                    clear hB5' m1 m2 m3 m4 m5
                    first
                      | (go_region_held3 (fun X : World => X.cell? ⟨wr.heap.size, 0, none⟩ = some (.int .i64 xa) ∧ X.cell? ⟨b2, off2 + k, none⟩ = some (.int .i64 (v : Int)))
                          (first | go_keep | (go_split_ands
                                              refine ⟨?_, ?_⟩
                                              · (rw [hgrow.cell_far _ (by simp; omega) hneB]; assumption)
                                              · (rw [hgrow.cell_far _ (by simp; omega) hneP]; assumption)))
                          ((refine step_append_lies _ (by rfl) _ _ _ (by rfl) w3.heap.size 67 i2 _ 2 16 Tryz.underlying34 HJ.out HJ0.out HJ1.out HJ2.out rfl (by omega) u13 m.length (m.flatMap mvCells) (by rfl) ((show (w5.drew).ownsRow _ _ _ _ _ _ from hown5).alloc _) ⟨w5.heap.size, 0, none⟩ 1 1 [.int .i64 xa, .int .i64 (v : Int)] (by rfl) (by rfl) (World.news_of_block (cs := #[.int .i64 xa, .int .i64 (v : Int)]) (t := 67) (fr := (0, 0)) (heap_alloc_new w5.drew _)) (by simp [Value.oneCell']) (by omega) hm1 hm2 (by simp; omega) (w5.heap.size + 1) (by simp) ?_; intro gg cap w6 hown1 hgrow hat hlt6)))
                      | fail
                    go_wp2_with fail
                    go_roundw
                    case rel => exact ⟨k + 1, by omega, by go_num, HY.out.1, by rw [HY.out.2, List.length_append, flat_snoc]; exact hown1, below_append (w := w3) (wr := w5.drew) (HSN5.out.trans (Below.refl _ _).drew) hz5 (show (w5.drew).ownsRow _ _ _ _ _ _ from hown5) hgrow⟩
                    case measure => simp [intOf]; omega
                  · have hnb : ((xn : Int) != (v : Int)) = true := by rw [bne_iff_ne]; omega
                    have HE := Lib.hid (HBAD.out (HMS.out.2.1 rfl rfl hnv))
                    clear HMS hnv
                    go_wp2_with fail
                    obtain ⟨wn, hwn⟩ : ∃ wn, wr.alloc (.cells #[.int .i64 xa, .int .i64 xs, .int .i64 1, .int .i64 (t : Int), .bool true, .int .u64 (xn : Int)] 48) = wn := ⟨_, rfl⟩
                    have bx := Bx.new wr 48 #[.int .i64 xa, .int .i64 xs, .int .i64 1, .int .i64 (t : Int), .bool true, .int .u64 (xn : Int)]
                    have hBn := hB.alloc hz (.cells #[.int .i64 xa, .int .i64 xs, .int .i64 1, .int .i64 (t : Int), .bool true, .int .u64 (xn : Int)] 48)
                    have hownn := hown.alloc (.cells #[.int .i64 xa, .int .i64 xs, .int .i64 1, .int .i64 (t : Int), .bool true, .int .u64 (xn : Int)] 48)
                    have hswn : (wr.alloc (.cells #[.int .i64 xa, .int .i64 xs, .int .i64 1, .int .i64 (t : Int), .bool true, .int .u64 (xn : Int)] 48)).heap.size = wr.heap.size + 1 := by simp
                    have p0n := (World.cell?_alloc_lt wr (.cells #[.int .i64 xa, .int .i64 xs, .int .i64 1, .int .i64 (t : Int), .bool true, .int .u64 (xn : Int)] 48) ⟨b2, off2 + k, none⟩ (by dsimp only; omega)).trans p0
                    rw [hwn] at bx hBn hownn hswn p0n ⊢
                    clear hwn
                    have HRn := Lib.hid (HR3.out.up hBn hBn.size)
                    have HBN := Lib.hid hBn
                    have HOWN := Lib.hid hownn
                    have BX := Lib.hid bx
                    obtain ⟨x0, x1, x2, x3, x4, x5, -, hgg⟩ := bx.c6
                    have hg2 : b2 < wn.heap.size := by omega
                    clear hBn hownn bx hown q0 q1 q2 q3 q4 q5 p0
                    refine wp_region_held_drew (S := fun X : World => X.cell? ⟨wr.heap.size, 0, none⟩ = some (.int .i64 xa) ∧ X.cell? ⟨wr.heap.size, 1, none⟩ = some (.int .i64 xs) ∧ X.cell? ⟨wr.heap.size, 2, none⟩ = some (.int .i64 1) ∧ X.cell? ⟨wr.heap.size, 3, none⟩ = some (.int .i64 (t : Int)) ∧ X.cell? ⟨wr.heap.size, 4, none⟩ = some (.bool true) ∧ X.cell? ⟨wr.heap.size, 5, none⟩ = some (.int .u64 (xn : Int)) ∧ X.cell? ⟨b2, off2 + k, none⟩ = some (.int .i64 (v : Int))) (by kernel_rfl) ⟨x0, x1, x2, x3, x4, x5, p0n⟩ (fun hHeld => ?_)
                    show wpAnyH _ _ _ _ _ 18 #[false, false, false, false, false, false, false, false, false, false, false, false, false, false, false, false, false, false] _ _
                    refine wpAnyH_take (i := 0) (v := .slice A ws.length c) rfl (by kernel_rfl) (by kernel_rfl) (by kernel_rfl) (fun _ _ _ h => h) (Or.inl ⟨by kernel_rfl, ?_⟩) (by assumption) ?_
                    · intro X hX
                      (try dsimp only at hX)
                      go_simp
                    dsimp only [Act.put, List.getElem_toArray, List.getElem_cons_zero, List.getElem_cons_succ, List.setIfInBounds_toArray, List.set_cons_zero, List.set_cons_succ]
                    refine wpAnyH_take (i := 1) (v := .agg #[.int .i64 xa, .int .i64 xs, .int .i64 1, .int .i64 (t : Int), .bool true, .int .u64 (xn : Int)]) rfl (by kernel_rfl) (by kernel_rfl) (by kernel_rfl) (fun _ _ _ h => h) (Or.inl ⟨by kernel_rfl, ?_⟩) (by assumption) ?_
                    · intro X hX
                      (try dsimp only at hX)
                      go_simp
                    dsimp only [Act.put, List.getElem_toArray, List.getElem_cons_zero, List.getElem_cons_succ, List.setIfInBounds_toArray, List.set_cons_zero, List.set_cons_succ]
                    refine wpAnyH_ready (rs := [2]) (by kernel_rfl) (by simp) ?_
                    refine AllReadyH.cons rfl (fun K hK => ?_) AllReadyH.nil
                    go_simp
                    refine (HT.out wn.drew (show RdW wn.drew wn.drew.heap.size A ws from HRn.out)).mono ?_
                    rintro e w5 ⟨rfl, hB5⟩
                    go_simp
                    have HB5 := Lib.hid hB5
                    refine hK.out _ _ ⟨(hB5.cell (p := ⟨wr.heap.size, 0, none⟩) hgg).trans x0, (hB5.cell (p := ⟨wr.heap.size, 1, none⟩) hgg).trans x1, (hB5.cell (p := ⟨wr.heap.size, 2, none⟩) hgg).trans x2, (hB5.cell (p := ⟨wr.heap.size, 3, none⟩) hgg).trans x3, (hB5.cell (p := ⟨wr.heap.size, 4, none⟩) hgg).trans x4, (hB5.cell (p := ⟨wr.heap.size, 5, none⟩) hgg).trans x5, (hB5.cell (p := ⟨b2, off2 + k, none⟩) hg2).trans p0n⟩ (fun HS1 => ?_)
                    clear hK K
                    refine wpAnyH_take (i := 3) (v := .bool false) rfl (by kernel_rfl) (by kernel_rfl) (by kernel_rfl) (fun _ _ _ h => h) (Or.inl ⟨by kernel_rfl, ?_⟩) (by assumption) ?_
                    · intro X hX
                      (try dsimp only at hX)
                      go_simp
                    dsimp only [Act.put, List.getElem_toArray, List.getElem_cons_zero, List.getElem_cons_succ, List.setIfInBounds_toArray, List.set_cons_zero, List.set_cons_succ]
                    refine wpAnyH_take (i := 4) (v := .bool false) rfl (by kernel_rfl) (by kernel_rfl) (by kernel_rfl) (fun _ _ _ h => h) (Or.inl ⟨by kernel_rfl, ?_⟩) (by assumption) ?_
                    · intro X hX
                      (try dsimp only at hX)
                      go_simp
                    dsimp only [Act.put, List.getElem_toArray, List.getElem_cons_zero, List.getElem_cons_succ, List.setIfInBounds_toArray, List.set_cons_zero, List.set_cons_succ]
                    refine wpAnyH_take (i := 5) (v := .pointer (some ⟨wr.heap.size, 4, none⟩)) rfl (by kernel_rfl) (by kernel_rfl) (by kernel_rfl) (fun _ _ _ h => h) (Or.inl ⟨by kernel_rfl, ?_⟩) (by assumption) ?_
                    · intro X hX
                      (try dsimp only at hX)
                      go_simp
                    dsimp only [Act.put, List.getElem_toArray, List.getElem_cons_zero, List.getElem_cons_succ, List.setIfInBounds_toArray, List.set_cons_zero, List.set_cons_succ]
                    refine wpAnyH_take (i := 6) (v := .bool true) rfl (by kernel_rfl) (by kernel_rfl) (by kernel_rfl) (fun _ _ _ h => h) (Or.inl ⟨by kernel_rfl, ?_⟩) (by assumption) ?_
                    · intro X hX
                      (try dsimp only at hX)
                      go_simp
                    dsimp only [Act.put, List.getElem_toArray, List.getElem_cons_zero, List.getElem_cons_succ, List.setIfInBounds_toArray, List.set_cons_zero, List.set_cons_succ]
                    refine wpAnyH_take (i := 7) (v := .bool true) rfl (by kernel_rfl) (by kernel_rfl) (by kernel_rfl) (fun _ _ _ h => h) (Or.inl ⟨by kernel_rfl, ?_⟩) (by assumption) ?_
                    · intro X hX
                      (try dsimp only at hX)
                      go_simp
                    dsimp only [Act.put, List.getElem_toArray, List.getElem_cons_zero, List.getElem_cons_succ, List.setIfInBounds_toArray, List.set_cons_zero, List.set_cons_succ]
                    refine wpAnyH_take (i := 8) (v := .pointer (some ⟨wr.heap.size, 5, none⟩)) rfl (by kernel_rfl) (by kernel_rfl) (by kernel_rfl) (fun _ _ _ h => h) (Or.inl ⟨by kernel_rfl, ?_⟩) (by assumption) ?_
                    · intro X hX
                      (try dsimp only at hX)
                      go_simp
                    dsimp only [Act.put, List.getElem_toArray, List.getElem_cons_zero, List.getElem_cons_succ, List.setIfInBounds_toArray, List.set_cons_zero, List.set_cons_succ]
                    refine wpAnyH_take (i := 9) (v := .int .u64 (xn : Int)) rfl (by kernel_rfl) (by kernel_rfl) (by kernel_rfl) (fun _ _ _ h => h) (Or.inl ⟨by kernel_rfl, ?_⟩) (by assumption) ?_
                    · intro X hX
                      (try dsimp only at hX)
                      go_simp
                    dsimp only [Act.put, List.getElem_toArray, List.getElem_cons_zero, List.getElem_cons_succ, List.setIfInBounds_toArray, List.set_cons_zero, List.set_cons_succ]
                    refine wpAnyH_take (i := 10) (v := .slice (some ⟨b2, off2, none⟩) l.length c2) rfl (by kernel_rfl) (by kernel_rfl) (by kernel_rfl) (fun _ _ _ h => h) (Or.inl ⟨by kernel_rfl, ?_⟩) (by assumption) ?_
                    · intro X hX
                      (try dsimp only at hX)
                      go_simp
                    dsimp only [Act.put, List.getElem_toArray, List.getElem_cons_zero, List.getElem_cons_succ, List.setIfInBounds_toArray, List.set_cons_zero, List.set_cons_succ]
                    refine wpAnyH_take (i := 11) (v := .int .i64 (k : Int)) rfl (by kernel_rfl) (by kernel_rfl) (by kernel_rfl) (fun _ _ _ h => h) (Or.inl ⟨by kernel_rfl, ?_⟩) (by assumption) ?_
                    · intro X hX
                      (try dsimp only at hX)
                      go_simp
                    dsimp only [Act.put, List.getElem_toArray, List.getElem_cons_zero, List.getElem_cons_succ, List.setIfInBounds_toArray, List.set_cons_zero, List.set_cons_succ]
                    refine wpAnyH_take (i := 12) (v := .pointer (some ⟨b2, off2 + k, none⟩)) rfl (by kernel_rfl) (by kernel_rfl) (by kernel_rfl) (fun _ _ _ h => h) (Or.inl ⟨by kernel_rfl, ?_⟩) (by assumption) ?_
                    · intro X hX
                      (try dsimp only at hX)
                      go_simp
                    dsimp only [Act.put, List.getElem_toArray, List.getElem_cons_zero, List.getElem_cons_succ, List.setIfInBounds_toArray, List.set_cons_zero, List.set_cons_succ]
                    refine wpAnyH_take (i := 13) (v := .int .i64 (v : Int)) rfl (by kernel_rfl) (by kernel_rfl) (by kernel_rfl) (fun _ _ _ h => h) (Or.inl ⟨by kernel_rfl, ?_⟩) (by assumption) ?_
                    · intro X hX
                      (try dsimp only at hX)
                      go_simp
                    dsimp only [Act.put, List.getElem_toArray, List.getElem_cons_zero, List.getElem_cons_succ, List.setIfInBounds_toArray, List.set_cons_zero, List.set_cons_succ]
                    refine wpAnyH_take (i := 14) (v := .int .u64 (v : Int)) rfl (by kernel_rfl) (by kernel_rfl) (by kernel_rfl) (fun _ _ _ h => h) (Or.inl ⟨by kernel_rfl, ?_⟩) (by assumption) ?_
                    · intro X hX
                      (try dsimp only at hX)
                      go_simp
                    dsimp only [Act.put, List.getElem_toArray, List.getElem_cons_zero, List.getElem_cons_succ, List.setIfInBounds_toArray, List.set_cons_zero, List.set_cons_succ]
                    refine wpAnyH_take (i := 15) (v := .bool true) rfl (by kernel_rfl) (by kernel_rfl) (by kernel_rfl) (fun _ _ _ h => h) (Or.inl ⟨by kernel_rfl, ?_⟩) (by assumption) ?_
                    · intro X hX
                      (try dsimp only at hX)
                      go_simp
                    dsimp only [Act.put, List.getElem_toArray, List.getElem_cons_zero, List.getElem_cons_succ, List.setIfInBounds_toArray, List.set_cons_zero, List.set_cons_succ]
                    refine wpAnyH_take (i := 16) (v := .bool true) rfl (by kernel_rfl) (by kernel_rfl) (by kernel_rfl) (fun _ _ _ h => h) (Or.inl ⟨by kernel_rfl, ?_⟩) (by assumption) ?_
                    · intro X hX
                      (try dsimp only at hX)
                      go_simp
                    dsimp only [Act.put, List.getElem_toArray, List.getElem_cons_zero, List.getElem_cons_succ, List.setIfInBounds_toArray, List.set_cons_zero, List.set_cons_succ]
                    refine wpAnyH_take (i := 17) (v := .bool true) rfl (by kernel_rfl) (by kernel_rfl) (by kernel_rfl) (fun _ _ _ h => h) (Or.inl ⟨by kernel_rfl, ?_⟩) (by assumption) ?_
                    · intro X hX
                      (try dsimp only at hX)
                      go_simp
                    dsimp only [Act.put, List.getElem_toArray, List.getElem_cons_zero, List.getElem_cons_succ, List.setIfInBounds_toArray, List.set_cons_zero, List.set_cons_succ]
                    refine wpAnyH_done (by kernel_rfl) ?_ _
                    obtain ⟨m0, m1, m2, m3, m4, m5, m6⟩ := HS1
                    clear hHeld hB5 x0 x1 x2 x3 x4 x5 p0n
                    go_simp
                    go_wp2_with fail
                    go_ret2
                    exact ⟨rdRes_no HE.out (by omega), hb3.trans ((HBN.out.trans ((Below.refl _ _).drew.trans (HB5.out.mono HBN.out.size))).mono hz3)⟩
            · have hk2 : (xk != 1) = true := by rw [bne_iff_ne]; exact hk1
              have hfx : fitB ws ⟨xa, xs, xk, xt, xm, xn⟩ = true := fit_other hk1
              have hlx : liveB ⟨xa, xs, xk, xt, xm, xn⟩ = false := by
                unfold liveB
                show (xk == 1 && xm) = false
                rw [show (xk == 1) = false by rw [beq_eq_false_iff_ne]; exact hk1]; rfl
              have HY := Lib.hid (HMS.out.2.2.2 hfx hlx)
              clear hk1 hfx hlx HMS
              go_wp2_with fail
              go_roundw
              case rel => exact ⟨k + 1, by omega, by go_num, HY.out.1, by rw [HY.out.2]; exact hown.alloc _, hB.alloc hz _⟩
              case measure => simp [intOf]; omega
          · have HP := Lib.hid (rdErr_ok HS.out HARG.out (l := l) (by rw [Int.toNat_natCast]; exact HSO.out) (by have := HAL.out; rwa [List.take_of_length_le (by omega)] at this))
            rw [List.take_of_length_le (by omega)] at hown
            obtain ⟨A4, c4, rfl, hle, hrd4⟩ := slice_of hown
            have HRD4 := Lib.hid hrd4
            have HLE4 := Lib.hid hle
            clear hrd4 hown hle
            go_wp2_with fail
            go_ret2
            exact ⟨⟨A4, c4, by rw [HP.out.1, HP.out.2]; rfl, by rw [HP.out.2]; exact HRD4.out, by rw [HP.out.2]; exact HLE4.out⟩, hb3.trans (hB.mono hz3)⟩
    · have HE := Lib.hid (rdErr_arg HS.out hbad)
      have hways := rd_ways hbad
      clear hbad
      rcases hways with ⟨g1, g2⟩ | ⟨⟨g1, g2⟩, ⟨g3, g4⟩ | ⟨⟨g3, g4⟩, g5 | ⟨g5, g6⟩ | ⟨⟨g5, g6⟩, g7⟩⟩⟩
      all_goals
        go_enter Tryz.func12, Tryz.ntmps12
        go_wp2_with fail
        refine (imCheck_c A ws.length c w hm).mono ?_
        rintro e w1 ⟨rfl, rfl⟩
        rw [HI.out]
        go_wp2_with fail
        all_goals
          go_ret2
          exact ⟨rdRes_no HE.out (by omega), Below.refl _ _⟩
end Go.Proofs.YtoaepffpjoibaaaGreat

namespace Go.Proofs.YtoaepffpjoibaaaGreat
open Go.RowKit

theorem take_same {α : Type} {a b : List α} {k : Nat} (ha : k < a.length) (hb : k < b.length) (h : a.take k = b.take k) (h1 : a[k] = b[k]) : a.take (k + 1) = b.take (k + 1) := by
  rw [List.take_succ_eq_append_getElem ha, List.take_succ_eq_append_getElem hb, h, h1]
theorem same_yes {α : Type} [DecidableEq α] {a b : List α} (hl : a.length = b.length) (h : a.take a.length = b.take a.length) : decide (a = b) = true := by
  rw [List.take_length, List.take_of_length_le (by omega)] at h
  rw [decide_eq_true_iff]; exact h
theorem same_no {α : Type} [DecidableEq α] {a b : List α} {k : Nat} (ha : k < a.length) (hb : k < b.length) (h1 : a[k] ≠ b[k]) : decide (a = b) = false := by
  rw [decide_eq_false_iff_not]
  rintro rfl
  exact h1 rfl
theorem same_len {α : Type} [DecidableEq α] {a b : List α} (h : a.length ≠ b.length) : decide (a = b) = false := by
  rw [decide_eq_false_iff_not]
  rintro rfl
  exact h rfl
end Go.Proofs.YtoaepffpjoibaaaGreat

namespace Go.Proofs.YtoaepffpjoibaaaGreat
open Go.RowKit

set_option maxRecDepth 100000 in
set_option maxHeartbeats 2000000 in
theorem sameEntries_c (A B : Option Addr) (a b : List En) (n m c d H : Nat) (w : World) (hn : a.length = n) (hm : b.length = m) (h1 : n ≤ 1000000) (ha : RdE w H A a) (hb : RdE w H B b) (hH : H ≤ w.heap.size) :
    Calls Tryz.prog 20 #[.slice A n c, .slice B m d] w fun e w' => e = .returned (.bool (decide (a = b))) ∧ Below w.heap.size w w' := by
  subst hn hm
  have HA := Lib.hid (ha.more hH)
  have HB := Lib.hid (hb.more hH)
  clear ha hb hH
  by_cases hl : a.length = b.length
  · have HY : Hid (a.take a.length = b.take a.length → decide (a = b) = true) := Lib.hid fun h => same_yes hl h
    have HN : Hid (∀ k (h : k < a.length) (h2 : k < b.length), a[k] ≠ b[k] → decide (a = b) = false) := Lib.hid fun k h h2 h3 => same_no h h2 h3
    obtain ⟨q, hq⟩ : ∃ q, decide (a = b) = q := ⟨_, rfl⟩
    rw [hq] at HY HN ⊢
    have hne : ((a.length : Int) != (b.length : Int)) = false := by rw [bne_eq_false_iff_eq]; omega
    have hnen : (a.length != b.length) = false := by rw [bne_eq_false_iff_eq]; exact hl
    have HL := Lib.hid hl
    clear hq hl
    go_enter Tryz.func20, Tryz.ntmps20
    go_wp2_with fail
    go_loopw [5] (fun i wr => ∃ k : Nat, k ≤ a.length ∧ i = .int .i64 k ∧ Hid (a.take k = b.take k) ∧ Below w.heap.size w wr) (fun i _ => a.length - (intOf i).toNat)
    case atStart => exact ⟨0, Nat.zero_le _, rfl, rfl, Below.refl _ _⟩
    case round =>
      obtain ⟨k, hk, rfl, HT, hB⟩ := hrel
      by_cases hlt : k < a.length
      · have hlt2 : k < b.length := by have := HL.out; omega
        obtain ⟨g1, o1, rfl, hg1, p0, p1⟩ := RdE.at_ (Rd.below HA.out hB) hlt
        obtain ⟨g2, o2, rfl, hg2, r0, r1⟩ := RdE.at_ (Rd.below HB.out hB) hlt2
        have HTS := Lib.hid (fun h => take_same hlt hlt2 HT.out h)
        have HNN := Lib.hid (HN.out k hlt hlt2)
        obtain ⟨x, hx⟩ : ∃ x, a[k] = x := ⟨_, rfl⟩
        obtain ⟨y, hy⟩ : ∃ y, b[k] = y := ⟨_, rfl⟩
        rw [hx] at p0 p1 HTS HNN
        rw [hy] at r0 r1 HTS HNN
        obtain ⟨x1, x2⟩ := x
        obtain ⟨y1, y2⟩ := y
        dsimp only at p0 p1 r0 r1
        have hk1 : (k : Int) < (a.length : Int) := by omega
        have hk2 : (k : Int) < (b.length : Int) := by omega
        have hk0 : (0 : Int) ≤ (k : Int) := by omega
        clear hx hy
        have hways : ((x1 == y1) = true ∧ ((x2 : Int) == (y2 : Int)) = true) ∨ (x1 == y1) = false ∨ (x1 == y1) = true ∧ ((x2 : Int) == (y2 : Int)) = false := by
          cases x1 == y1 <;> cases ((x2 : Int) == (y2 : Int)) <;> simp
        rcases hways with ⟨e1, e2⟩ | e1 | ⟨e1, e2⟩
        · have HE := Lib.hid (HTS.out (by rw [beq_iff_eq] at e1 e2; rw [e1, Int.ofNat_inj.1 e2]))
          go_wp2_with fail
          first
            | (go_region_held3 (fun X : World => X.cell? ⟨g1, o1 + k * 2, none⟩ = some (.int .i64 x1) ∧ X.cell? ⟨g1, o1 + k * 2 + 1, none⟩ = some (.int .u64 (x2 : Int)) ∧ X.cell? ⟨g2, o2 + k * 2, none⟩ = some (.int .i64 y1) ∧ X.cell? ⟨g2, o2 + k * 2 + 1, none⟩ = some (.int .u64 (y2 : Int))) (go_keep) (fail))
            | fail
          go_wp2_with fail
          go_roundw
          case rel => exact ⟨k + 1, by omega, by go_num, HE.out, hB.drew⟩
          case measure => simp [intOf]; omega
        · have HE := Lib.hid (HNN.out (by intro h; injection h with h1 h2; rw [h1] at e1; simp at e1))
          go_wp2_with fail
          first
            | (go_region_held3 (fun X : World => X.cell? ⟨g1, o1 + k * 2, none⟩ = some (.int .i64 x1) ∧ X.cell? ⟨g1, o1 + k * 2 + 1, none⟩ = some (.int .u64 (x2 : Int)) ∧ X.cell? ⟨g2, o2 + k * 2, none⟩ = some (.int .i64 y1) ∧ X.cell? ⟨g2, o2 + k * 2 + 1, none⟩ = some (.int .u64 (y2 : Int))) (go_keep) (fail))
            | fail
          go_wp2_with fail
          go_ret
          exact ⟨by rw [HE.out]; rfl, hB.drew⟩
        · have HE := Lib.hid (HNN.out (by intro h; injection h with h1 h2; rw [h2] at e2; simp at e2))
          go_wp2_with fail
          first
            | (go_region_held3 (fun X : World => X.cell? ⟨g1, o1 + k * 2, none⟩ = some (.int .i64 x1) ∧ X.cell? ⟨g1, o1 + k * 2 + 1, none⟩ = some (.int .u64 (x2 : Int)) ∧ X.cell? ⟨g2, o2 + k * 2, none⟩ = some (.int .i64 y1) ∧ X.cell? ⟨g2, o2 + k * 2 + 1, none⟩ = some (.int .u64 (y2 : Int))) (go_keep) (fail))
            | fail
          go_wp2_with fail
          go_ret
          exact ⟨by rw [HE.out]; rfl, hB.drew⟩
      · have HE := Lib.hid (HY.out (by have := HT.out; rwa [show k = a.length by omega] at this))
        go_wp2_with fail
        go_ret
        exact ⟨by rw [HE.out]; rfl, hB⟩
  · have HN := Lib.hid (same_len hl)
    have hne : ((a.length : Int) != (b.length : Int)) = true := by rw [bne_iff_ne]; omega
    have hnen : (a.length != b.length) = true := by rw [bne_iff_ne]; exact hl
    clear hl
    go_enter Tryz.func20, Tryz.ntmps20
    go_wp2_with fail
    go_ret
    exact ⟨by rw [HN.out]; rfl, Below.refl _ _⟩
set_option maxRecDepth 100000 in
set_option maxHeartbeats 2000000 in
theorem sameInts_c (A B : Option Addr) (a b : List Int) (n m c d H : Nat) (w : World) (hn : a.length = n) (hm : b.length = m) (h1 : n ≤ 1000000) (ha : RdI w H A a) (hb : RdI w H B b) (hH : H ≤ w.heap.size) :
    Calls Tryz.prog 14 #[.slice A n c, .slice B m d] w fun e w' => e = .returned (.bool (decide (a = b))) ∧ Below w.heap.size w w' := by
  subst hn hm
  have HA := Lib.hid (ha.more hH)
  have HB := Lib.hid (hb.more hH)
  clear ha hb hH
  by_cases hl : a.length = b.length
  · have HY : Hid (a.take a.length = b.take a.length → decide (a = b) = true) := Lib.hid fun h => same_yes hl h
    have HN : Hid (∀ k (h : k < a.length) (h2 : k < b.length), a[k] ≠ b[k] → decide (a = b) = false) := Lib.hid fun k h h2 h3 => same_no h h2 h3
    obtain ⟨q, hq⟩ : ∃ q, decide (a = b) = q := ⟨_, rfl⟩
    rw [hq] at HY HN ⊢
    have hne : ((a.length : Int) != (b.length : Int)) = false := by rw [bne_eq_false_iff_eq]; omega
    have hnen : (a.length != b.length) = false := by rw [bne_eq_false_iff_eq]; exact hl
    have HL := Lib.hid hl
    clear hq hl
    go_enter Tryz.func14, Tryz.ntmps14
    go_wp2_with fail
    go_loopw [5] (fun i wr => ∃ k : Nat, k ≤ a.length ∧ i = .int .i64 k ∧ Hid (a.take k = b.take k) ∧ Below w.heap.size w wr) (fun i _ => a.length - (intOf i).toNat)
    case atStart => exact ⟨0, Nat.zero_le _, rfl, rfl, Below.refl _ _⟩
    case round =>
      obtain ⟨k, hk, rfl, HT, hB⟩ := hrel
      by_cases hlt : k < a.length
      · have hlt2 : k < b.length := by have := HL.out; omega
        obtain ⟨g1, o1, rfl, hg1, p0⟩ := RdI.at_ (Rd.below HA.out hB) hlt
        obtain ⟨g2, o2, rfl, hg2, r0⟩ := RdI.at_ (Rd.below HB.out hB) hlt2
        have HTS := Lib.hid (fun h => take_same hlt hlt2 HT.out h)
        have HNN := Lib.hid (HN.out k hlt hlt2)
        obtain ⟨x, hx⟩ : ∃ x, a[k] = x := ⟨_, rfl⟩
        obtain ⟨y, hy⟩ : ∃ y, b[k] = y := ⟨_, rfl⟩
        rw [hx] at p0 HTS HNN
        rw [hy] at r0 HTS HNN
        have hk1 : (k : Int) < (a.length : Int) := by omega
        have hk2 : (k : Int) < (b.length : Int) := by omega
        have hk0 : (0 : Int) ≤ (k : Int) := by omega
        clear hx hy
        have hways : ((x == y) = true ∧ (x != y) = false) ∨ ((x == y) = false ∧ (x != y) = true) := by
          unfold bne
          cases (x == y) <;> simp
        rcases hways with ⟨e1, e2⟩ | ⟨e1, e2⟩
        · have HE := Lib.hid (HTS.out (by rw [beq_iff_eq] at e1; exact e1))
          go_wp2_with fail
          first
            | (go_region_held3 (fun X : World => X.cell? ⟨g1, o1 + k, none⟩ = some (.int .i64 x) ∧ X.cell? ⟨g2, o2 + k, none⟩ = some (.int .i64 y)) (go_keep) (fail))
            | fail
          go_wp2_with fail
          go_roundw
          case rel => exact ⟨k + 1, by omega, by go_num, HE.out, hB.drew⟩
          case measure => simp [intOf]; omega
        · have HE := Lib.hid (HNN.out (by intro h; rw [h] at e1; simp at e1))
          go_wp2_with fail
          first
            | (go_region_held3 (fun X : World => X.cell? ⟨g1, o1 + k, none⟩ = some (.int .i64 x) ∧ X.cell? ⟨g2, o2 + k, none⟩ = some (.int .i64 y)) (go_keep) (fail))
            | fail
          go_wp2_with fail
          go_ret
          exact ⟨by rw [HE.out]; rfl, hB.drew⟩
      · have HE := Lib.hid (HY.out (by have := HT.out; rwa [show k = a.length by omega] at this))
        go_wp2_with fail
        go_ret
        exact ⟨by rw [HE.out]; rfl, hB⟩
  · have HN := Lib.hid (same_len hl)
    have hne : ((a.length : Int) != (b.length : Int)) = true := by rw [bne_iff_ne]; omega
    have hnen : (a.length != b.length) = true := by rw [bne_iff_ne]; exact hl
    clear hl
    go_enter Tryz.func14, Tryz.ntmps14
    go_wp2_with fail
    go_ret
    exact ⟨by rw [HN.out]; rfl, Below.refl _ _⟩
end Go.Proofs.YtoaepffpjoibaaaGreat

namespace Go.Proofs.YtoaepffpjoibaaaGreat
open Go.RowKit

/-- A list of words that the call made: it is the call's own. -/
def OwnW (w : World) (xs : List Nat) (e : Ending) (w' : World) : Prop := ∃ g c, e = .returned (.slice (some ⟨g, 0, none⟩) xs.length c) ∧ w'.ownsRow w.heap.size 46 1 (.slice (some ⟨g, 0, none⟩) xs.length c) xs.length (xs.flatMap wordCells) ∧ Below w.heap.size w w'
theorem infoWord : (Tryz.prog.info? 46).map (fun i => (i.zero, i.size, i.bytes)) = some (some (.int .u64 0), 1, 8) := by kernel_rfl
theorem words_set (ws : List Nat) (a v : Nat) : (ws.set a v).flatMap wordCells = (ws.flatMap wordCells).set a (.int .u64 (v : Int)) := by
  have := flat_set wordCells 1 wordCells_len ws a 0 (by omega) v (.int .u64 (v : Int)) (fun y _ => rfl)
  simpa using this
theorem words_len (ws : List Nat) : (ws.flatMap wordCells).length = ws.length := by
  rw [flat_len wordCells 1 wordCells_len]; omega
theorem words_get (ws : List Nat) (k : Nat) (h : k < ws.length) : (ws.flatMap wordCells)[k]? = some (.int .u64 (ws[k] : Int)) := by
  have := flat_get wordCells 1 wordCells_len ws k 0 h (by omega)
  simpa [wordCells] using this
theorem own_some {w : World} {H n : Nat} {e : TypeId} {sz : Nat} {v : Value} {xs : List Value} (h : w.ownsRow H e sz v n xs) (hn : 0 < n) : ∃ g c, v = .slice (some ⟨g, 0, none⟩) n c := by
  obtain ⟨g, c, h1, _⟩ := h.form hn
  exact ⟨g, c, h1⟩
theorem own_base {w : World} {H : Nat} {e : TypeId} {sz n g c : Nat} {xs : List Value} (h : w.ownsRow H e sz (.slice (some ⟨g, 0, none⟩) n c) n xs) : H ≤ g := by
  rcases h.2 with ⟨h', _⟩ | ⟨g', cap', cur, h', hb, _⟩
  · simp at h'
  · simp only [Value.slice.injEq, Option.some.injEq, Addr.mk.injEq, and_true, true_and] at h'
    omega

theorem rdMv_no {ws : List Nat} {f s : Int} (h : rdErr ws f s ≠ 0) : (rdMv ws f s).length = 0 := by simp [rdMv, h]
theorem rdMv_len (ws : List Nat) (f s : Int) : (rdMv ws f s).length ≤ 2048 := by
  by_cases h : rdErr ws f s = 0
  · obtain ⟨h1, h2, l, h3, h4, h5⟩ := rdErr_zero h
    rw [h5]
    have hb := isImg_bd h1
    have ha := rdArg_no h2
    have h6 := (blocks_chain (by omega) _ _ h3 (by omega) (by omega) (by omega)).1
    have h7 := moves_len_le l s
    omega
  · rw [rdMv_no h]; omega

def noTo (l : List (Int × Int)) (a : Int) (k : Nat) : Prop := mvTo l a = mvTo (l.drop k) a
theorem noTo_succ {l : List (Int × Int)} {a : Int} {k : Nat} (hk : k < l.length) (h : noTo l a k) (h1 : l[k].1 ≠ a) : noTo l a (k + 1) := by
  unfold noTo at h ⊢
  rw [h, List.drop_eq_getElem_cons hk]
  simp [mvTo, h1]
theorem noTo_at {l : List (Int × Int)} {a : Int} {k : Nat} (hk : k < l.length) (h : noTo l a k) (h1 : l[k].1 = a) : mvTo l a = some l[k].2 := by
  unfold noTo at h
  rw [h, List.drop_eq_getElem_cons hk]
  simp [mvTo, h1]
theorem noTo_end {l : List (Int × Int)} {a : Int} (h : noTo l a l.length) : mvTo l a = none := by
  unfold noTo at h
  rw [h, List.drop_length]; rfl
set_option maxRecDepth 100000 in
set_option maxHeartbeats 2000000 in
theorem fwTo_c (A : Option Addr) (l : List (Int × Int)) (c n H : Nat) (a : Int) (w : World) (hn : l.length = n) (hm : n ≤ 1000000) (hr : RdM w H A l) (hH : H ≤ w.heap.size) :
    Calls Tryz.prog 17 #[.slice A n c, .int .i64 a] w fun e w' => e = .returned (.tuple #[.int .i64 ((mvTo l a).getD 0), .bool (mvTo l a).isSome]) ∧ Below w.heap.size w w' := by
  subst hn
  have HR := Lib.hid (hr.more hH)
  have HE : Hid (∀ k (h : k < l.length), noTo l a k → l[k].1 = a → mvTo l a = some l[k].2) := Lib.hid fun k h h1 h2 => noTo_at h h1 h2
  have HN : Hid (noTo l a l.length → mvTo l a = none) := Lib.hid noTo_end
  obtain ⟨q, hq⟩ : ∃ q, mvTo l a = q := ⟨_, rfl⟩
  rw [hq] at HE HN ⊢
  clear hr hH hq
  go_enter Tryz.func17, Tryz.ntmps17
  go_wp2_with fail
  go_loopw [10] (fun i wr => ∃ k : Nat, k ≤ l.length ∧ i = .int .i64 k ∧ Hid (noTo l a k) ∧ Below w.heap.size w wr) (fun i _ => l.length - (intOf i).toNat)
  case atStart => exact ⟨0, Nat.zero_le _, rfl, rfl, Below.refl _ _⟩
  case round =>
    obtain ⟨k, hk, rfl, HT, hB⟩ := hrel
    have hz := hB.size
    by_cases hlt : k < l.length
    · obtain ⟨b, off, rfl, hb, p0, p1⟩ := RdM.at_ (Rd.below HR.out hB) hlt
      have HS := Lib.hid (fun h => noTo_succ hlt HT.out h)
      have HE2 := Lib.hid (fun h => HE.out k hlt HT.out h)
      obtain ⟨x, hx⟩ : ∃ x, l[k] = x := ⟨_, rfl⟩
      rw [hx] at p0 p1 HS HE2
      obtain ⟨x1, x2⟩ := x
      dsimp only at p0 p1 HS HE2
      have hk1 : (k : Int) < (l.length : Int) := by omega
      clear hx
      by_cases hxa : x1 = a
      · have e1 : (x1 == a) = true := by rw [beq_iff_eq]; exact hxa
        have HY := Lib.hid (HE2.out hxa)
        clear hxa
        go_wp2_with fail
        go_ret2
        exact ⟨by rw [HY.out]; rfl, hB.alloc hz _⟩
      · have e1 : (x1 == a) = false := by rw [beq_eq_false_iff_ne]; exact hxa
        have HY := Lib.hid (HS.out hxa)
        clear hxa
        go_wp2_with fail
        go_roundw
        case rel => exact ⟨k + 1, by omega, by go_num, HY.out, hB.alloc hz _⟩
        case measure => simp [intOf]; omega
    · have HY := Lib.hid (HN.out (by have := HT.out; rwa [show k = l.length by omega] at this))
      go_wp2_with fail
      go_ret2
      exact ⟨by rw [HY.out]; rfl, hB⟩
end Go.Proofs.YtoaepffpjoibaaaGreat

namespace Go.Proofs.YtoaepffpjoibaaaGreat
open Go.RowKit

theorem putE_take {ws : List Nat} {E : List En} {k : Nat} (hk : k < E.length) : putE ws (E.take (k + 1)) = if 0 ≤ E[k].a ∧ E[k].a < (ws.length : Int) then (putE ws (E.take k)).set E[k].a.toNat E[k].v else putE ws (E.take k) := by
  rw [List.take_succ_eq_append_getElem hk, putE_append]
  simp only [putE, putE_len]
theorem putE_lt (E : List En) : ∀ (ws : List Nat), (∀ x ∈ ws, x < 18446744073709551616) → (∀ e ∈ E, e.v < 18446744073709551616) → ∀ x ∈ putE ws E, x < 18446744073709551616 := by
  induction E with
  | nil => intro ws h _; exact h
  | cons e E ih =>
    intro ws h h2
    simp only [putE]
    refine ih _ ?_ (fun x hx => h2 x (by simp [hx]))
    split
    · intro x hx
      rcases List.mem_or_eq_of_mem_set hx with h3 | h3
      · exact h x h3
      · have := h2 e (by simp); omega
    · exact h

set_option maxRecDepth 100000 in
set_option maxHeartbeats 4000000 in
theorem put25_c (A B : Option Addr) (ws : List Nat) (E : List En) (c d n m H : Nat) (w : World) (hn : ws.length = n) (hm : E.length = m) (h0 : 0 < n) (hn2 : n ≤ 1000000) (hm2 : m ≤ 1000000) (hr : RdW w H A ws) (he : RdE w H B E) (hH : H ≤ w.heap.size) :
    Calls Tryz.prog 9 #[.slice A n c, .slice B m d] w fun e w' => OwnW w (putE ws E) e w' := by
  subst hm
  have HR := Lib.hid (hr.more hH)
  have HE := Lib.hid (he.more hH)
  have HN := Lib.hid hn
  have HLN := Lib.hid (words_len ws)
  have HPL : Hid (∀ k, (putE ws (E.take k)).length = n) := Lib.hid fun k => by rw [putE_len, hn]
  have HST : Hid (∀ k (h : k < E.length), putE ws (E.take (k + 1)) = if 0 ≤ E[k].a ∧ E[k].a < (n : Int) then (putE ws (E.take k)).set E[k].a.toNat E[k].v else putE ws (E.take k)) := Lib.hid fun k h => by rw [putE_take h, hn]
  clear hr he hH hn
  obtain ⟨i0, hi, hz0, hz1, hz2⟩ := info_parts infoWord
  have HI := Lib.hid hi
  have HZ0 := Lib.hid hz0
  have HZ1 := Lib.hid hz1
  have HZ2 := Lib.hid hz2
  clear hi hz0 hz1 hz2
  go_enter Tryz.func9, Tryz.ntmps9
  go_wp2_with (at_builtin; refine wpList_append_rd' _ (by rfl) _ _ 22 rfl w.heap.size 46 i0 _ 1 8 Tryz.underlying22 HI.out HZ0.out HZ1.out HZ2.out rfl (by decide) (.slice (some ⟨w.heap.size, 0, none⟩) 0 0) 0 [] (by rfl) (own_empty w _ _ _ (Nat.le_refl _)) w.heap.size A n _ (ws.flatMap wordCells) (by rfl) (by rw [HLN.out, HN.out]; omega) (Rd.alloc HR.out (Nat.le_refl _) _) (cells_one word_one _) (by unfold maxLen; omega) (by omega) (by simp) ?_; intro v1 wa hown1 hg1; have hBa := below_append0 ((Below.refl w.heap.size w).alloc (Nat.le_refl _) _) (by simp) (own_empty w w.heap.size 46 1 (Nat.le_refl _)) hg1; simp only [Nat.zero_add, List.nil_append] at hown1; obtain ⟨g, c1, rfl⟩ := own_some hown1 (by omega); have HOWN := Lib.hid hown1; have HBA := Lib.hid hBa; clear hown1 hBa hg1)
  go_loopw [6] (fun i wr => ∃ k : Nat, k ≤ E.length ∧ i = .int .i64 k ∧ wr.ownsRow w.heap.size 46 1 (.slice (some ⟨g, 0, none⟩) n c1) n ((putE ws (E.take k)).flatMap wordCells) ∧ Below w.heap.size w wr) (fun i _ => E.length - (intOf i).toNat)
  case atStart => exact ⟨0, Nat.zero_le _, rfl, HOWN.out, HBA.out⟩
  case round =>
    obtain ⟨k, hk, rfl, hown, hB⟩ := hrel
    have hz := hB.size
    have hgH := own_base hown
    by_cases hlt : k < E.length
    · obtain ⟨b, off, rfl, hb, p0, p1⟩ := RdE.at_ (Rd.below HE.out hB) hlt
      have HS := Lib.hid (HST.out k hlt)
      obtain ⟨x, hx⟩ : ∃ x, E[k] = x := ⟨_, rfl⟩
      rw [hx] at p0 p1 HS
      obtain ⟨xa, xv⟩ := x
      dsimp only at p0 p1 HS
      have hk1 : (k : Int) < (E.length : Int) := by omega
      have hk0 : (0 : Int) ≤ (k : Int) := by omega
      have hbg : b ≠ g := by omega
      have hgb : g ≠ b := by omega
      clear hx
      by_cases hin : 0 ≤ xa ∧ xa < (n : Int)
      · rw [if_pos hin] at HS
        obtain ⟨g1, g2⟩ := hin
        obtain ⟨a, rfl⟩ := Int.eq_ofNat_of_zero_le g1
        rw [Int.toNat_natCast] at HS
        obtain ⟨cur, hcur⟩ : ∃ cur, putE ws (E.take k) = cur := ⟨_, rfl⟩
        have hcl := HPL.out k
        rw [hcur] at HS hown hcl
        have c0 := (hown.cellAt a (by omega)).trans (words_get cur a (by omega))
        have f0 := hown.frozenAt a
        obtain ⟨u, hu⟩ : ∃ u, ((cur[a]'(by omega) : Nat) : Int) = u := ⟨_, rfl⟩
        rw [hu] at c0
        have HO := Lib.hid hown
        clear hu hown hcur
        go_wp2_with fail
        first
          | (go_region_held3 (fun X : World => X.cell? ⟨b, off + k * 2, none⟩ = some (.int .i64 (a : Int)) ∧ X.cell? ⟨b, off + k * 2 + 1, none⟩ = some (.int .u64 (xv : Int))) (go_keep) (fail))
          | fail
        go_wp2_with fail
        go_roundw
        case rel =>
          refine ⟨k + 1, by omega, by go_num, ?_, hB.drew.setCell (p := ⟨g, a, none⟩) hgH _⟩
          rw [HS.out, words_set]
          exact ((show (wr.drew).ownsRow _ _ _ _ _ _ from HO.out).stored a (.int .u64 (xv : Int))).1
        case measure => simp [intOf]; omega
      · rw [if_neg hin] at HS
        have hways : xa < 0 ∨ 0 ≤ xa ∧ (n : Int) ≤ xa := by omega
        clear hin
        rcases hways with h1 | ⟨h1, h2⟩
        all_goals
          go_wp2_with fail
          go_roundw
          case rel => exact ⟨k + 1, by omega, by go_num, by rw [HS.out]; exact hown, hB⟩
          case measure => simp [intOf]; omega
    · rw [List.take_of_length_le (by omega)] at hown
      have hl := HPL.out E.length
      rw [List.take_length] at hl
      go_wp2_with fail
      go_ret
      exact ⟨g, c1, by rw [hl]; rfl, by rw [hl]; exact hown, hB⟩
end Go.Proofs.YtoaepffpjoibaaaGreat

namespace Go.Proofs.YtoaepffpjoibaaaGreat
open Go.RowKit

def remark (x : Nat) (m : Bool) : Bk := { rawBk x with mark := m }
def mkVal (x : Nat) (m : Bool) : Nat := if splitOk x = true then hwVal (remark x m) else 0
def mkErr (x : Nat) (m : Bool) : Int := if splitOk x = true then hdErr (remark x m) else 50
set_option maxRecDepth 100000 in
set_option maxHeartbeats 2000000 in
theorem hdMarked_c (x : Nat) (m : Bool) (w : World) (hx : x < 18446744073709551616) : Calls Tryz.prog 26 #[.int .u64 (x : Int), .bool m] w fun e w' => e = .returned (.tuple #[.int .u64 (mkVal x m : Nat), .int .i64 (mkErr x m)]) ∧ Below w.heap.size w w' := by
  have HSP := Lib.hid (hdSplit_c x w hx)
  have hraw : (rawBk x).val = .agg #[.int .i64 0, .int .i64 ((x / 65536 % 65536 : Nat) : Int), .int .i64 ((x % 256 : Nat) : Int), .int .i64 ((x / 512 % 128 : Nat) : Int), .bool (x / 256 % 2 == 1), .int .u64 0] := rfl
  have hrem : (remark x m).val = .agg #[.int .i64 0, .int .i64 ((x / 65536 % 65536 : Nat) : Int), .int .i64 ((x % 256 : Nat) : Int), .int .i64 ((x / 512 % 128 : Nat) : Int), .bool m, .int .u64 0] := rfl
  cases hs : splitOk x
  · have HV := Lib.hid (show mkVal x m = 0 ∧ mkErr x m = 50 by simp [mkVal, mkErr, hs])
    rw [(spl_no hs).1, (spl_no hs).2] at HSP
    unfold noBk Bk.val at HSP
    dsimp only at HSP
    clear hs hraw hrem hx
    go_enter Tryz.func26, Tryz.ntmps26
    go_wp2_with fail
    refine HSP.out.mono ?_
    rintro e w1 ⟨rfl, hB1⟩
    go_wp2_with fail
    go_ret2
    exact ⟨by rw [HV.out.1, HV.out.2]; rfl, hB1.alloc hB1.size _⟩
  · have HV := Lib.hid (show mkVal x m = hwVal (remark x m) ∧ mkErr x m = hdErr (remark x m) by simp [mkVal, mkErr, hs])
    have HW := Lib.hid (fun W => hdWord_c (remark x m) W)
    rw [(spl_ok hs).1, (spl_ok hs).2, hraw] at HSP
    rw [hrem] at HW
    obtain ⟨S, hS⟩ : ∃ S, ((x / 65536 % 65536 : Nat) : Int) = S := ⟨_, rfl⟩
    obtain ⟨K, hK⟩ : ∃ K, ((x % 256 : Nat) : Int) = K := ⟨_, rfl⟩
    obtain ⟨T, hT⟩ : ∃ T, ((x / 512 % 128 : Nat) : Int) = T := ⟨_, rfl⟩
    obtain ⟨M, hM⟩ : ∃ M, (x / 256 % 2 == 1) = M := ⟨_, rfl⟩
    obtain ⟨V, hV⟩ : ∃ V, hwVal (remark x m) = V := ⟨_, rfl⟩
    obtain ⟨R, hR⟩ : ∃ R, hdErr (remark x m) = R := ⟨_, rfl⟩
    rw [hS, hK, hT, hM] at HSP
    rw [hS, hK, hT, hV, hR] at HW
    rw [hV, hR] at HV
    clear hs hraw hrem hx hS hK hT hM hV hR
    go_enter Tryz.func26, Tryz.ntmps26
    go_wp2_with fail
    refine HSP.out.mono ?_
    rintro e w1 ⟨rfl, hB1⟩
    have hz1 := hB1.size
    go_wp2_with fail
    refine (HW.out _).mono ?_
    rintro e w2 ⟨rfl, hB2⟩
    have hb2 := (hB1.alloc hz1 (.cells #[.int .i64 0, .int .i64 S, .int .i64 K, .int .i64 T, .bool m, .int .u64 0] 48)).trans (hB2.mono (by simp; omega))
    go_wp2_with fail
    go_ret2
    exact ⟨by rw [HV.out.1, HV.out.2]; rfl, hb2⟩
end Go.Proofs.YtoaepffpjoibaaaGreat
