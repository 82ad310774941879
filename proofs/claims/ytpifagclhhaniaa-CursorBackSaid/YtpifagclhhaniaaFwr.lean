/- The moves that are read: what the program returns. -/
import Derived.Test.YtpifagclhhaniaaFww
namespace Go.Proofs.Ytpifagclhhaniaa
open Go.RowKit

def mvCells (m : Int × Int) : List Value := [.int .i64 m.1, .int .i64 m.2]
theorem mvCells_len (m : Int × Int) : (mvCells m).length = 2 := rfl
def RdM (w : World) (B : Nat) (A : Option Addr) (l : List (Int × Int)) : Prop := Rd w B A (l.flatMap mvCells)
theorem RdM.at_ {w : World} {B : Nat} {A : Option Addr} {l : List (Int × Int)} (h : RdM w B A l) {k : Nat} (hk : k < l.length) :
    ∃ b off, A = some ⟨b, off, none⟩ ∧ b < B ∧ w.cell? ⟨b, off + k * 2, none⟩ = some (.int .i64 l[k].1) ∧ w.cell? ⟨b, off + k * 2 + 1, none⟩ = some (.int .i64 l[k].2) := by
  obtain ⟨b, off, e, hb, hc⟩ := Rd.at_flat mvCells_len h (by omega) hk
  exact ⟨b, off, e, hb, hc 0 (by omega), hc 1 (by omega)⟩
theorem infoMove : (Try.prog.info? 78).map (fun i => (i.zero, i.size, i.bytes)) = some (some (.agg #[.int .i64 0, .int .i64 0]), 2, 16) := by kernel_rfl
def RdRes (ws : List Nat) (f s : Int) (e : Ending) (w' : World) : Prop := ∃ A c, e = .returned (.tuple #[.slice A (rdMv ws f s).length c, .int .i64 (rdErr ws f s)]) ∧ RdM w' w'.heap.size A (rdMv ws f s) ∧ (rdMv ws f s).length ≤ c
theorem rdRes_no {ws : List Nat} {f s r : Int} {w' : World} (hr : rdErr ws f s = r) (h0 : r ≠ 0) : RdRes ws f s (.returned (.tuple #[.slice none 0 0, .int .i64 r])) w' := by
  subst hr
  have : rdMv ws f s = [] := by simp [rdMv, h0]
  exact ⟨none, 0, by rw [this]; rfl, by rw [this]; exact Rd.nil_, by rw [this]; simp⟩
theorem rd_ways {n : Nat} {f s : Int} (h : rdArg n f s = true) :
    ((f % 2 != 0) = true ∧ (f.tmod 2 != 0) = true) ∨
    ((f % 2 != 0) = false ∧ (f.tmod 2 != 0) = false) ∧ (((s % 2 != 0) = true ∧ (s.tmod 2 != 0) = true) ∨
      ((s % 2 != 0) = false ∧ (s.tmod 2 != 0) = false) ∧ (s < 128 ∨ 128 ≤ s ∧ f < s ∨ (128 ≤ s ∧ s ≤ f) ∧ (n : Int) < f)) := by
  rw [rdArg_iff] at h
  rw [tmod_two, tmod_two]
  by_cases h1 : f % 2 = 0
  · have e1 : (f % 2 != 0) = false := by rw [bne_eq_false_iff_eq]; exact h1
    rw [e1]
    refine .inr ⟨⟨rfl, rfl⟩, ?_⟩
    by_cases h2 : s % 2 = 0
    · have e2 : (s % 2 != 0) = false := by rw [bne_eq_false_iff_eq]; exact h2
      rw [e2]
      refine .inr ⟨⟨rfl, rfl⟩, ?_⟩
      omega
    · have e2 : (s % 2 != 0) = true := by rw [bne_iff_ne]; exact h2
      rw [e2]; exact .inl ⟨rfl, rfl⟩
  · have e1 : (f % 2 != 0) = true := by rw [bne_iff_ne]; exact h1
    rw [e1]; exact .inl ⟨rfl, rfl⟩
theorem rdErr_img {ws : List Nat} {f s : Int} (h : sizeOk (ws.length : Int) = false) : rdErr ws f s = 8 := by
  unfold rdErr; rw [isImg_size, h]; rfl
theorem rdErr_arg {ws : List Nat} {f s : Int} (h : sizeOk (ws.length : Int) = true) (h2 : rdArg ws.length f s = true) : rdErr ws f s = 2 := by
  unfold rdErr; rw [isImg_size, h, h2]; rfl
theorem rdErr_none {ws : List Nat} {f s : Int} (h : sizeOk (ws.length : Int) = true) (h2 : rdArg ws.length f s = false) (h3 : blocks ws f.toNat = none) : rdErr ws f s = 50 := by
  unfold rdErr heapErr; rw [isImg_size, h, h2, h3]; rfl
theorem rdErr_bad {ws : List Nat} {f s : Int} (h : sizeOk (ws.length : Int) = true) (h2 : rdArg ws.length f s = false) {l : List Bk} (h3 : blocks ws f.toNat = some l) (h4 : allMv ws l s = false) : rdErr ws f s = 50 := by
  rw [rdErr_of (by rw [isImg_size]; exact h) h2 h3, h4]; rfl
theorem rdErr_ok {ws : List Nat} {f s : Int} (h : sizeOk (ws.length : Int) = true) (h2 : rdArg ws.length f s = false) {l : List Bk} (h3 : blocks ws f.toNat = some l) (h4 : allMv ws l s = true) : rdErr ws f s = 0 ∧ rdMv ws f s = moves l s := by
  have h0 : rdErr ws f s = 0 := by rw [rdErr_of (by rw [isImg_size]; exact h) h2 h3, if_pos h4]
  exact ⟨h0, by unfold rdMv; rw [if_pos h0, h3]⟩
theorem frArg_rd {n : Nat} {f s : Int} (h : rdArg n f s = false) : frArg n f = false := by
  have := rdArg_no h
  simp only [frArg, Bool.or_eq_false_iff, decide_eq_false_iff_not, bne_eq_false_iff_eq]; omega
/-- One block more. -/
theorem mv_step {ws : List Nat} {l : List Bk} {s : Int} (hst : stErr l s = 0) {k : Nat} (hk : k < l.length) (h : allMv ws (l.take k) s = true) :
    (fitB ws l[k] = false → allMv ws l s = false) ∧
    (fitB ws l[k] = true → liveB l[k] = true → l[k].next ≠ wantN l[k] (endOf (l.take k) s) → allMv ws l s = false) ∧
    (fitB ws l[k] = true → liveB l[k] = true → l[k].next = wantN l[k] (endOf (l.take k) s) → allMv ws (l.take (k + 1)) s = true ∧ moves (l.take (k + 1)) s = moves (l.take k) s ++ [(l[k].at_, ((wantN l[k] (endOf (l.take k) s) : Nat) : Int))]) ∧
    (fitB ws l[k] = true → liveB l[k] = false → allMv ws (l.take (k + 1)) s = true ∧ moves (l.take (k + 1)) s = moves (l.take k) s) := by
  obtain ⟨h1, h2, h3, _⟩ := stErr_zero hst
  have hb := endOf_bd h1 (Nat.le_of_lt hk) h2 h3
  have e1 := allMv_take (ws := ws) hk s
  have e2 := moves_take hk s
  rw [h, Bool.true_and] at e1
  have hw : liveB l[k] = true → wantN l[k] (endOf (l.take k) s) = (endOf (l.take k) s).toNat := fun hl => by unfold wantN; rw [if_pos hl]
  refine ⟨fun hf => ?_, fun hf hl hn => ?_, fun hf hl hn => ?_, fun hf hl => ?_⟩
  · refine allMv_bad (k := k + 1) ?_
    rw [e1, hf]; rfl
  · refine allMv_bad (k := k + 1) ?_
    rw [hw hl] at hn
    rw [e1, hf, hl, show ((l[k].next : Int) == endOf (l.take k) s) = false by rw [beq_eq_false_iff_ne]; omega]; rfl
  · rw [hw hl] at hn ⊢
    rw [e1, e2, hf, hl, show ((l[k].next : Int) == endOf (l.take k) s) = true by rw [beq_iff_eq]; omega, Int.toNat_of_nonneg (by omega)]
    exact ⟨rfl, rfl⟩
  · rw [e1, e2, hf, hl]
    exact ⟨rfl, by simp⟩
theorem moves_len_le (l : List Bk) : ∀ s, (moves l s).length ≤ l.length := by
  induction l with
  | nil => intro s; exact Nat.le_refl _
  | cons b l ih =>
    intro s
    simp only [moves]
    split
    · have := ih (s + b.size); simp only [List.length_cons]; omega
    · have := ih s; simp only [List.length_cons]; omega

set_option maxRecDepth 100000 in
set_option maxHeartbeats 4000000 in
theorem fwRead_c (A : Option Addr) (ws : List Nat) (c n : Nat) (f s : Int) (w : World) (hn : ws.length = n) (hm : n ≤ 9223372036854775807) (hf : -9223372036854775808 ≤ f ∧ f ≤ 9223372036854775807) (hs : -9223372036854775808 ≤ s ∧ s ≤ 9223372036854775807) (hr : RdW w w.heap.size A ws) (ho : ∀ x ∈ ws, x < 18446744073709551616) :
    Calls Try.prog 36 #[.slice A n c, .int .i64 f, .int .i64 s] w fun e w' => RdRes ws f s e w' ∧ Below w.heap.size w w' := by
  subst hn
  have HR := Lib.hid hr
  have HO := Lib.hid ho
  obtain ⟨f1, f2⟩ := hf
  obtain ⟨s1, s2⟩ := hs
  clear hr ho
  cases hs : sizeOk (ws.length : Int)
  · have HI := Lib.hid (imgErr_no hs)
    have HE := Lib.hid (rdErr_img (f := f) (s := s) hs)
    clear hs
    go_enter Try.func36, Try.ntmps36
    go_wp2_with fail
    refine (imCheck_c A ws.length c w hm).mono ?_
    rintro e w1 ⟨rfl, rfl⟩
    rw [HI.out]
    go_wp2_with fail
    go_ret2
    exact ⟨rdRes_no HE.out (by omega), Below.refl _ _⟩
  · have HI := Lib.hid (imgErr_ok hs)
    obtain ⟨hb1, hb2, hb3⟩ := fr_bd ws hs
    have HS := Lib.hid hs
    clear hs hb3
    cases hbad : rdArg ws.length f s
    · have HARG := Lib.hid hbad
      obtain ⟨a1, a2, a3, a4, a5⟩ := rdArg_no hbad
      obtain ⟨i, rfl⟩ := Int.eq_ofNat_of_zero_le (show 0 ≤ f by omega)
      obtain ⟨u, rfl⟩ := Int.eq_ofNat_of_zero_le (show 0 ≤ s by omega)
      have HFE := Lib.hid (fun l (h : blocks ws i = some l) => frErr_some HS.out (frArg_rd HARG.out) (l := l) (by rw [Int.toNat_natCast]; exact h))
      have HFN := Lib.hid (fun (h : blocks ws i = none) => frErr_none HS.out (frArg_rd HARG.out) (by rw [Int.toNat_natCast]; exact h))
      have HST := Lib.hid (fun l (h : blocks ws i = some l) => blocks_st (ws := ws) (i := i) (l := l) (by omega) h (by omega) (by omega) (by omega) (s := (u : Int)) (by omega) (by omega) (by omega))
      have HLE := Lib.hid (fun l (h : blocks ws i = some l) => (blocks_chain (ws := ws) (by omega) i l h (by omega) (by omega) (by omega)).1)
      have HTY := Lib.hid (fun l (h : blocks ws i = some l) k (hk : k < l.length) h1 => blocks_typ (ws := ws) h (by omega) (k := k) hk h1)
      have HFR := Lib.hid (from_c A ws c ws.length (i : Int) w rfl hm HR.out HO.out)
      unfold FrRes at HFR
      have e1 : ((i : Int) % 2 != 0) = false := by rw [bne_eq_false_iff_eq]; exact a1
      have e2 : ((u : Int) % 2 != 0) = false := by rw [bne_eq_false_iff_eq]; exact a2
      have d1 : decide ((u : Int) < 128) = false := by rw [decide_eq_false_iff_not]; omega
      have d2 : decide ((i : Int) < (u : Int)) = false := by rw [decide_eq_false_iff_not]; omega
      have d2n : decide (i < u) = false := by rw [decide_eq_false_iff_not]; omega
      have d3 : decide ((ws.length : Int) < (i : Int)) = false := by rw [decide_eq_false_iff_not]; omega
      have d3n : decide (ws.length < i) = false := by rw [decide_eq_false_iff_not]; omega
      have u0 : (0 : Int) ≤ (u : Int) := by omega
      have i0' : (0 : Int) ≤ (i : Int) := by omega
      clear hbad a1 a2
      cases hbl : blocks ws i with
      | none =>
        have HE := Lib.hid (rdErr_none HS.out HARG.out (by rw [Int.toNat_natCast]; exact hbl))
        rw [HFN.out hbl] at HFR
        obtain ⟨l, hl⟩ : ∃ l, frOut ws (i : Int) = l := ⟨_, rfl⟩
        rw [hl] at HFR
        clear hbl hl
        go_enter Try.func36, Try.ntmps36
        go_wp2_with fail
        refine (imCheck_c A ws.length c w hm).mono ?_
        rintro e w1 ⟨rfl, rfl⟩
        rw [HI.out]
        go_wp2_with fail
        refine HFR.out.mono ?_
        rintro e w1 ⟨⟨A1, c1, rfl, -, -⟩, hB1⟩
        go_wp2_with fail
        go_ret2
        exact ⟨rdRes_no HE.out (by omega), hB1⟩
      | some l =>
        have HSO := Lib.hid hbl
        have HG3 := Lib.hid (HST.out l hbl)
        have hlen := HLE.out l hbl
        obtain ⟨g1, g2⟩ := HFE.out l hbl
        rw [g1, g2] at HFR
        have HPL := Lib.hid (fun (A2 : Option Addr) (c2 : Nat) (W : World) (h : RdB W W.heap.size A2 l) => places_c A2 l c2 l.length (u : Int) W rfl (by omega) h (by omega))
        unfold PlRes at HPL
        rw [HG3.out] at HPL
        clear hbl g1 g2
        obtain ⟨i2, hi, hz0, hz1, hz2⟩ := info_parts infoMove
        have HJ := Lib.hid hi
        have HJ0 := Lib.hid hz0
        have HJ1 := Lib.hid hz1
        have HJ2 := Lib.hid hz2
        clear hi hz0 hz1 hz2
        go_enter Try.func36, Try.ntmps36
        go_wp2_with fail
        refine (imCheck_c A ws.length c w hm).mono ?_
        rintro e w1 ⟨rfl, rfl⟩
        rw [HI.out]
        go_wp2_with fail
        refine HFR.out.mono ?_
        rintro e w2 ⟨⟨A1, c1, rfl, hrd, -⟩, hB2⟩
        have hz2 := hB2.size
        have HRD := Lib.hid hrd
        clear hrd
        go_wp2_with fail
        refine (HPL.out A1 c1 _ HRD.out).mono ?_
        rintro e w3 ⟨⟨A2, c2, rfl, hrp, -⟩, hB3⟩
        have hb3 := hB2.trans (hB3.mono hz2)
        have hz3 := hb3.size
        have HRP := Lib.hid hrp
        have HRD3 := Lib.hid (HRD.out.up hB3 hB3.size)
        have HR3 := Lib.hid (HR.out.up hb3 hz3)
        clear hrp HRD
        obtain ⟨pl, hpl⟩ : ∃ pl, plOut l (u : Int) = pl := ⟨_, rfl⟩
        rw [hpl] at HRP ⊢
        have hpll : pl.length = l.length := by rw [← hpl]; simp [plOut, HG3.out, placesOf_len]
        have HPA := Lib.hid (fun k (hk : k < l.length) => place_at HG3.out hk)
        rw [hpl] at HPA
        rw [hpll]
        clear hpl hpll
        go_wp2_with fail
        go_loopw [13, 61] (fun v i wr => ∃ k : Nat, k ≤ l.length ∧ i = .int .i64 k ∧ Hid (allMv ws (l.take k) (u : Int) = true) ∧ wr.ownsRow w3.heap.size 78 2 v (moves (l.take k) (u : Int)).length ((moves (l.take k) (u : Int)).flatMap mvCells) ∧ Below w3.heap.size w3 wr) (fun _ i _ => l.length - (intOf i).toNat)
        case atStart => exact ⟨0, Nat.zero_le _, rfl, rfl, World.ownsRow_nil _ _ _ _, Below.refl _ _⟩
        case round =>
          obtain ⟨k, hk, rfl, HAL, hown, hB⟩ := hrel
          have hz := hB.size
          by_cases hlt : k < l.length
          · obtain ⟨b, off, rfl, hbw, q0, q1, q2, q3, q4, q5⟩ := RdB.at_ (HRD3.out.below hB) hlt
            obtain ⟨hkp, hp1, hp2⟩ := HPA.out k hlt
            obtain ⟨b2, off2, rfl, hbw2, p0⟩ := RdI.at_ (HRP.out.below hB) hkp
            rw [hp1] at p0
            have HMS := Lib.hid (mv_step (ws := ws) HG3.out hlt HAL.out)
            have HTK := Lib.hid (HTY.out l HSO.out k hlt)
            have HBAD := Lib.hid (fun h => rdErr_bad HS.out HARG.out (l := l) (by rw [Int.toNat_natCast]; exact HSO.out) h)
            have hml := moves_len_le (l.take k) (u : Int)
            rw [List.length_take] at hml
            obtain ⟨m, hm2⟩ : ∃ m, moves (l.take k) (u : Int) = m := ⟨_, rfl⟩
            rw [hm2] at hown HMS hml
            obtain ⟨v, hv⟩ : ∃ v, wantN l[k] (endOf (l.take k) (u : Int)) = v := ⟨_, rfl⟩
            rw [hv] at hp2 p0 HMS
            obtain ⟨x, hx⟩ : ∃ x, l[k] = x := ⟨_, rfl⟩
            rw [hx] at q0 q1 q2 q3 q4 q5 HMS HTK
            obtain ⟨xa, xs, xk, xt, xm, xn⟩ := x
            dsimp only at q0 q1 q2 q3 q4 q5 HTK
            have hlm : (k : Int) < (l.length : Int) := by omega
            have hml2 : m.length ≤ 2048 := by omega
            have hv2 : (v : Int) ≤ 2048 := by omega
            have hv0 : (0 : Int) ≤ (v : Int) := by omega
            have hk0 : (0 : Int) ≤ (k : Int) := by omega
            have hwv : IntKind.u64.wrap (v : Int) = (v : Int) := IntWalk.u64_in _ (by omega)
            clear hx hm2 hml hv hp1
            by_cases hk1 : xk = 1
            · obtain ⟨t0, t8⟩ := HTK.out hk1
              obtain ⟨t, rfl⟩ := Int.eq_ofNat_of_zero_le t0
              subst hk1
              have HT := Lib.hid (fun W (h : RdW W W.heap.size A ws) => fwTyped_c A ws c ws.length t xa xs 1 xm xn W rfl (by omega) hb1 (by omega) h HO.out)
              have hfx : fitB ws ⟨xa, xs, 1, (t : Int), xm, xn⟩ = typedB ws ⟨xa, xs, 1, (t : Int), xm, xn⟩ := rfl
              have hlx : liveB ⟨xa, xs, 1, (t : Int), xm, xn⟩ = xm := rfl
              rw [hfx, hlx] at HMS
              obtain ⟨q, hq⟩ : ∃ q, typedB ws ⟨xa, xs, 1, (t : Int), xm, xn⟩ = q := ⟨_, rfl⟩
              rw [hq] at HMS HT
              clear hq hfx hlx HTK
              cases q
              · have HE := Lib.hid (HBAD.out (HMS.out.1 rfl))
                clear HMS
                go_wp2_with fail
                obtain ⟨wn, hwn⟩ : ∃ wn, wr.alloc (.cells #[.int .i64 xa, .int .i64 xs, .int .i64 1, .int .i64 (t : Int), .bool xm, .int .u64 (xn : Int)] 47) = wn := ⟨_, rfl⟩
                have bx := Bx.new wr 47 #[.int .i64 xa, .int .i64 xs, .int .i64 1, .int .i64 (t : Int), .bool xm, .int .u64 (xn : Int)]
                have hBn := hB.alloc hz (.cells #[.int .i64 xa, .int .i64 xs, .int .i64 1, .int .i64 (t : Int), .bool xm, .int .u64 (xn : Int)] 47)
                have hownn := hown.alloc (.cells #[.int .i64 xa, .int .i64 xs, .int .i64 1, .int .i64 (t : Int), .bool xm, .int .u64 (xn : Int)] 47)
                have hswn : (wr.alloc (.cells #[.int .i64 xa, .int .i64 xs, .int .i64 1, .int .i64 (t : Int), .bool xm, .int .u64 (xn : Int)] 47)).heap.size = wr.heap.size + 1 := by simp
                have p0n := (World.cell?_alloc_lt wr (.cells #[.int .i64 xa, .int .i64 xs, .int .i64 1, .int .i64 (t : Int), .bool xm, .int .u64 (xn : Int)] 47) ⟨b2, off2 + k, none⟩ (by dsimp only; omega)).trans p0
                rw [hwn] at bx hBn hownn hswn p0n ⊢
                clear hwn
                have HRn := Lib.hid (HR3.out.up hBn hBn.size)
                have HBN := Lib.hid hBn
                have HOWN := Lib.hid hownn
                have BX := Lib.hid bx
                obtain ⟨x0, x1, x2, x3, x4, x5, -, hgg⟩ := bx.c6
                have hg2 : b2 < wn.heap.size := by omega
                clear hBn hownn bx hown q0 q1 q2 q3 q4 q5 p0
                refine wp_region_held_drew (S := fun X : World => X.cell? ⟨wr.heap.size, 0, none⟩ = some (.int .i64 xa) ∧ X.cell? ⟨wr.heap.size, 1, none⟩ = some (.int .i64 xs) ∧ X.cell? ⟨wr.heap.size, 2, none⟩ = some (.int .i64 1) ∧ X.cell? ⟨wr.heap.size, 3, none⟩ = some (.int .i64 (t : Int)) ∧ X.cell? ⟨wr.heap.size, 4, none⟩ = some (.bool xm) ∧ X.cell? ⟨wr.heap.size, 5, none⟩ = some (.int .u64 (xn : Int)) ∧ X.cell? ⟨b2, off2 + k, none⟩ = some (.int .i64 (v : Int))) (by kernel_rfl) ⟨x0, x1, x2, x3, x4, x5, p0n⟩ (fun hHeld => ?_)
                show wpAnyH _ _ _ _ _ 18 #[false, false, false, false, false, false, false, false, false, false, false, false, false, false, false, false, false, false] _ _
                refine wpAnyH_take (i := 0) (v := .slice A ws.length c) rfl (by kernel_rfl) (by kernel_rfl) (by kernel_rfl) (fun _ _ _ h => h) (Or.inl ⟨by kernel_rfl, ?_⟩) (by assumption) ?_
                · intro X hX
                  (try dsimp only at hX)
                  go_simp
                dsimp only [Act.put, List.getElem_toArray, List.getElem_cons_zero, List.getElem_cons_succ, List.setIfInBounds_toArray, List.set_cons_zero, List.set_cons_succ]
                refine wpAnyH_take (i := 1) (v := .agg #[.int .i64 xa, .int .i64 xs, .int .i64 1, .int .i64 (t : Int), .bool xm, .int .u64 (xn : Int)]) rfl (by kernel_rfl) (by kernel_rfl) (by kernel_rfl) (fun _ _ _ h => h) (Or.inl ⟨by kernel_rfl, ?_⟩) (by assumption) ?_
                · intro X hX
                  (try dsimp only at hX)
                  go_simp
                dsimp only [Act.put, List.getElem_toArray, List.getElem_cons_zero, List.getElem_cons_succ, List.setIfInBounds_toArray, List.set_cons_zero, List.set_cons_succ]
                refine wpAnyH_ready (rs := [2]) (by kernel_rfl) (by simp) ?_
                refine AllReadyH.cons rfl (fun K hK => ?_) AllReadyH.nil
                go_simp
                refine (HT.out wn.drew (show RdW wn.drew wn.drew.heap.size A ws from HRn.out)).mono ?_
                rintro e w5 ⟨rfl, hB5⟩
                go_simp
                have HB5 := Lib.hid hB5
                refine hK.out _ _ ⟨(hB5.cell (p := ⟨wr.heap.size, 0, none⟩) hgg).trans x0, (hB5.cell (p := ⟨wr.heap.size, 1, none⟩) hgg).trans x1, (hB5.cell (p := ⟨wr.heap.size, 2, none⟩) hgg).trans x2, (hB5.cell (p := ⟨wr.heap.size, 3, none⟩) hgg).trans x3, (hB5.cell (p := ⟨wr.heap.size, 4, none⟩) hgg).trans x4, (hB5.cell (p := ⟨wr.heap.size, 5, none⟩) hgg).trans x5, (hB5.cell (p := ⟨b2, off2 + k, none⟩) hg2).trans p0n⟩ (fun HS1 => ?_)
                clear hK K
                refine wpAnyH_take (i := 3) (v := .bool true) rfl (by kernel_rfl) (by kernel_rfl) (by kernel_rfl) (fun _ _ _ h => h) (Or.inl ⟨by kernel_rfl, ?_⟩) (by assumption) ?_
                · intro X hX
                  (try dsimp only at hX)
                  go_simp
                dsimp only [Act.put, List.getElem_toArray, List.getElem_cons_zero, List.getElem_cons_succ, List.setIfInBounds_toArray, List.set_cons_zero, List.set_cons_succ]
                refine wpAnyH_take (i := 4) (v := .bool true) rfl (by kernel_rfl) (by kernel_rfl) (by kernel_rfl) (fun _ _ _ h => h) (Or.inl ⟨by kernel_rfl, ?_⟩) (by assumption) ?_
                · intro X hX
                  (try dsimp only at hX)
                  go_simp
                dsimp only [Act.put, List.getElem_toArray, List.getElem_cons_zero, List.getElem_cons_succ, List.setIfInBounds_toArray, List.set_cons_zero, List.set_cons_succ]
                refine wpAnyH_take (i := 5) (v := undef) rfl (by kernel_rfl) (by kernel_rfl) (by kernel_rfl) (fun _ _ _ h => h) (Or.inr ⟨by kernel_rfl, rfl⟩) (by assumption) ?_
                dsimp only [Act.put, List.getElem_toArray, List.getElem_cons_zero, List.getElem_cons_succ, List.setIfInBounds_toArray, List.set_cons_zero, List.set_cons_succ]
                refine wpAnyH_take (i := 6) (v := undef) rfl (by kernel_rfl) (by kernel_rfl) (by kernel_rfl) (fun _ _ _ h => h) (Or.inr ⟨by kernel_rfl, rfl⟩) (by assumption) ?_
                dsimp only [Act.put, List.getElem_toArray, List.getElem_cons_zero, List.getElem_cons_succ, List.setIfInBounds_toArray, List.set_cons_zero, List.set_cons_succ]
                refine wpAnyH_take (i := 7) (v := undef) rfl (by kernel_rfl) (by kernel_rfl) (by kernel_rfl) (fun _ _ _ h => h) (Or.inr ⟨by kernel_rfl, rfl⟩) (by assumption) ?_
                dsimp only [Act.put, List.getElem_toArray, List.getElem_cons_zero, List.getElem_cons_succ, List.setIfInBounds_toArray, List.set_cons_zero, List.set_cons_succ]
                refine wpAnyH_take (i := 8) (v := undef) rfl (by kernel_rfl) (by kernel_rfl) (by kernel_rfl) (fun _ _ _ h => h) (Or.inr ⟨by kernel_rfl, rfl⟩) (by assumption) ?_
                dsimp only [Act.put, List.getElem_toArray, List.getElem_cons_zero, List.getElem_cons_succ, List.setIfInBounds_toArray, List.set_cons_zero, List.set_cons_succ]
                refine wpAnyH_take (i := 9) (v := undef) rfl (by kernel_rfl) (by kernel_rfl) (by kernel_rfl) (fun _ _ _ h => h) (Or.inr ⟨by kernel_rfl, rfl⟩) (by assumption) ?_
                dsimp only [Act.put, List.getElem_toArray, List.getElem_cons_zero, List.getElem_cons_succ, List.setIfInBounds_toArray, List.set_cons_zero, List.set_cons_succ]
                refine wpAnyH_take (i := 10) (v := undef) rfl (by kernel_rfl) (by kernel_rfl) (by kernel_rfl) (fun _ _ _ h => h) (Or.inr ⟨by kernel_rfl, rfl⟩) (by assumption) ?_
                dsimp only [Act.put, List.getElem_toArray, List.getElem_cons_zero, List.getElem_cons_succ, List.setIfInBounds_toArray, List.set_cons_zero, List.set_cons_succ]
                refine wpAnyH_take (i := 11) (v := undef) rfl (by kernel_rfl) (by kernel_rfl) (by kernel_rfl) (fun _ _ _ h => h) (Or.inr ⟨by kernel_rfl, rfl⟩) (by assumption) ?_
                dsimp only [Act.put, List.getElem_toArray, List.getElem_cons_zero, List.getElem_cons_succ, List.setIfInBounds_toArray, List.set_cons_zero, List.set_cons_succ]
                refine wpAnyH_take (i := 12) (v := undef) rfl (by kernel_rfl) (by kernel_rfl) (by kernel_rfl) (fun _ _ _ h => h) (Or.inr ⟨by kernel_rfl, rfl⟩) (by assumption) ?_
                dsimp only [Act.put, List.getElem_toArray, List.getElem_cons_zero, List.getElem_cons_succ, List.setIfInBounds_toArray, List.set_cons_zero, List.set_cons_succ]
                refine wpAnyH_take (i := 13) (v := undef) rfl (by kernel_rfl) (by kernel_rfl) (by kernel_rfl) (fun _ _ _ h => h) (Or.inr ⟨by kernel_rfl, rfl⟩) (by assumption) ?_
                dsimp only [Act.put, List.getElem_toArray, List.getElem_cons_zero, List.getElem_cons_succ, List.setIfInBounds_toArray, List.set_cons_zero, List.set_cons_succ]
                refine wpAnyH_take (i := 14) (v := undef) rfl (by kernel_rfl) (by kernel_rfl) (by kernel_rfl) (fun _ _ _ h => h) (Or.inr ⟨by kernel_rfl, rfl⟩) (by assumption) ?_
                dsimp only [Act.put, List.getElem_toArray, List.getElem_cons_zero, List.getElem_cons_succ, List.setIfInBounds_toArray, List.set_cons_zero, List.set_cons_succ]
                refine wpAnyH_take (i := 15) (v := undef) rfl (by kernel_rfl) (by kernel_rfl) (by kernel_rfl) (fun _ _ _ h => h) (Or.inr ⟨by kernel_rfl, rfl⟩) (by assumption) ?_
                dsimp only [Act.put, List.getElem_toArray, List.getElem_cons_zero, List.getElem_cons_succ, List.setIfInBounds_toArray, List.set_cons_zero, List.set_cons_succ]
                refine wpAnyH_take (i := 16) (v := undef) rfl (by kernel_rfl) (by kernel_rfl) (by kernel_rfl) (fun _ _ _ h => h) (Or.inr ⟨by kernel_rfl, rfl⟩) (by assumption) ?_
                dsimp only [Act.put, List.getElem_toArray, List.getElem_cons_zero, List.getElem_cons_succ, List.setIfInBounds_toArray, List.set_cons_zero, List.set_cons_succ]
                refine wpAnyH_take (i := 17) (v := .bool true) rfl (by kernel_rfl) (by kernel_rfl) (by kernel_rfl) (fun _ _ _ h => h) (Or.inl ⟨by kernel_rfl, ?_⟩) (by assumption) ?_
                · intro X hX
                  (try dsimp only at hX)
                  go_simp
                dsimp only [Act.put, List.getElem_toArray, List.getElem_cons_zero, List.getElem_cons_succ, List.setIfInBounds_toArray, List.set_cons_zero, List.set_cons_succ]
                refine wpAnyH_done (by kernel_rfl) ?_ _
                obtain ⟨m0, m1, m2, m3, m4, m5, m6⟩ := HS1
                clear hHeld hB5 x0 x1 x2 x3 x4 x5 p0n
                go_simp
                go_wp2_with fail
                go_ret2
                exact ⟨rdRes_no HE.out (by omega), hb3.trans ((HBN.out.trans ((Below.refl _ _).drew.trans (HB5.out.mono HBN.out.size))).mono hz3)⟩
              · cases xm
                · have HY := Lib.hid (HMS.out.2.2.2 rfl rfl)
                  clear HMS
                  go_wp2_with fail
                  obtain ⟨wn, hwn⟩ : ∃ wn, wr.alloc (.cells #[.int .i64 xa, .int .i64 xs, .int .i64 1, .int .i64 (t : Int), .bool false, .int .u64 (xn : Int)] 47) = wn := ⟨_, rfl⟩
                  have bx := Bx.new wr 47 #[.int .i64 xa, .int .i64 xs, .int .i64 1, .int .i64 (t : Int), .bool false, .int .u64 (xn : Int)]
                  have hBn := hB.alloc hz (.cells #[.int .i64 xa, .int .i64 xs, .int .i64 1, .int .i64 (t : Int), .bool false, .int .u64 (xn : Int)] 47)
                  have hownn := hown.alloc (.cells #[.int .i64 xa, .int .i64 xs, .int .i64 1, .int .i64 (t : Int), .bool false, .int .u64 (xn : Int)] 47)
                  have hswn : (wr.alloc (.cells #[.int .i64 xa, .int .i64 xs, .int .i64 1, .int .i64 (t : Int), .bool false, .int .u64 (xn : Int)] 47)).heap.size = wr.heap.size + 1 := by simp
                  have p0n := (World.cell?_alloc_lt wr (.cells #[.int .i64 xa, .int .i64 xs, .int .i64 1, .int .i64 (t : Int), .bool false, .int .u64 (xn : Int)] 47) ⟨b2, off2 + k, none⟩ (by dsimp only; omega)).trans p0
                  rw [hwn] at bx hBn hownn hswn p0n ⊢
                  clear hwn
                  have HRn := Lib.hid (HR3.out.up hBn hBn.size)
                  have HBN := Lib.hid hBn
                  have HOWN := Lib.hid hownn
                  have BX := Lib.hid bx
                  obtain ⟨x0, x1, x2, x3, x4, x5, -, hgg⟩ := bx.c6
                  have hg2 : b2 < wn.heap.size := by omega
                  clear hBn hownn bx hown q0 q1 q2 q3 q4 q5 p0
                  refine wp_region_held_drew (S := fun X : World => X.cell? ⟨wr.heap.size, 0, none⟩ = some (.int .i64 xa) ∧ X.cell? ⟨wr.heap.size, 1, none⟩ = some (.int .i64 xs) ∧ X.cell? ⟨wr.heap.size, 2, none⟩ = some (.int .i64 1) ∧ X.cell? ⟨wr.heap.size, 3, none⟩ = some (.int .i64 (t : Int)) ∧ X.cell? ⟨wr.heap.size, 4, none⟩ = some (.bool false) ∧ X.cell? ⟨wr.heap.size, 5, none⟩ = some (.int .u64 (xn : Int)) ∧ X.cell? ⟨b2, off2 + k, none⟩ = some (.int .i64 (v : Int))) (by kernel_rfl) ⟨x0, x1, x2, x3, x4, x5, p0n⟩ (fun hHeld => ?_)
                  show wpAnyH _ _ _ _ _ 18 #[false, false, false, false, false, false, false, false, false, false, false, false, false, false, false, false, false, false] _ _
                  refine wpAnyH_take (i := 0) (v := .slice A ws.length c) rfl (by kernel_rfl) (by kernel_rfl) (by kernel_rfl) (fun _ _ _ h => h) (Or.inl ⟨by kernel_rfl, ?_⟩) (by assumption) ?_
                  · intro X hX
                    (try dsimp only at hX)
                    go_simp
                  dsimp only [Act.put, List.getElem_toArray, List.getElem_cons_zero, List.getElem_cons_succ, List.setIfInBounds_toArray, List.set_cons_zero, List.set_cons_succ]
                  refine wpAnyH_take (i := 1) (v := .agg #[.int .i64 xa, .int .i64 xs, .int .i64 1, .int .i64 (t : Int), .bool false, .int .u64 (xn : Int)]) rfl (by kernel_rfl) (by kernel_rfl) (by kernel_rfl) (fun _ _ _ h => h) (Or.inl ⟨by kernel_rfl, ?_⟩) (by assumption) ?_
                  · intro X hX
                    (try dsimp only at hX)
                    go_simp
                  dsimp only [Act.put, List.getElem_toArray, List.getElem_cons_zero, List.getElem_cons_succ, List.setIfInBounds_toArray, List.set_cons_zero, List.set_cons_succ]
                  refine wpAnyH_ready (rs := [2]) (by kernel_rfl) (by simp) ?_
                  refine AllReadyH.cons rfl (fun K hK => ?_) AllReadyH.nil
                  go_simp
                  refine (HT.out wn.drew (show RdW wn.drew wn.drew.heap.size A ws from HRn.out)).mono ?_
                  rintro e w5 ⟨rfl, hB5⟩
                  go_simp
                  have HB5 := Lib.hid hB5
                  refine hK.out _ _ ⟨(hB5.cell (p := ⟨wr.heap.size, 0, none⟩) hgg).trans x0, (hB5.cell (p := ⟨wr.heap.size, 1, none⟩) hgg).trans x1, (hB5.cell (p := ⟨wr.heap.size, 2, none⟩) hgg).trans x2, (hB5.cell (p := ⟨wr.heap.size, 3, none⟩) hgg).trans x3, (hB5.cell (p := ⟨wr.heap.size, 4, none⟩) hgg).trans x4, (hB5.cell (p := ⟨wr.heap.size, 5, none⟩) hgg).trans x5, (hB5.cell (p := ⟨b2, off2 + k, none⟩) hg2).trans p0n⟩ (fun HS1 => ?_)
                  clear hK K
                  refine wpAnyH_take (i := 3) (v := .bool false) rfl (by kernel_rfl) (by kernel_rfl) (by kernel_rfl) (fun _ _ _ h => h) (Or.inl ⟨by kernel_rfl, ?_⟩) (by assumption) ?_
                  · intro X hX
                    (try dsimp only at hX)
                    go_simp
                  dsimp only [Act.put, List.getElem_toArray, List.getElem_cons_zero, List.getElem_cons_succ, List.setIfInBounds_toArray, List.set_cons_zero, List.set_cons_succ]
                  refine wpAnyH_take (i := 4) (v := .bool false) rfl (by kernel_rfl) (by kernel_rfl) (by kernel_rfl) (fun _ _ _ h => h) (Or.inl ⟨by kernel_rfl, ?_⟩) (by assumption) ?_
                  · intro X hX
                    (try dsimp only at hX)
                    go_simp
                  dsimp only [Act.put, List.getElem_toArray, List.getElem_cons_zero, List.getElem_cons_succ, List.setIfInBounds_toArray, List.set_cons_zero, List.set_cons_succ]
                  refine wpAnyH_take (i := 5) (v := .pointer (some ⟨wr.heap.size, 4, none⟩)) rfl (by kernel_rfl) (by kernel_rfl) (by kernel_rfl) (fun _ _ _ h => h) (Or.inl ⟨by kernel_rfl, ?_⟩) (by assumption) ?_
                  · intro X hX
                    (try dsimp only at hX)
                    go_simp
                  dsimp only [Act.put, List.getElem_toArray, List.getElem_cons_zero, List.getElem_cons_succ, List.setIfInBounds_toArray, List.set_cons_zero, List.set_cons_succ]
                  refine wpAnyH_take (i := 6) (v := .bool false) rfl (by kernel_rfl) (by kernel_rfl) (by kernel_rfl) (fun _ _ _ h => h) (Or.inl ⟨by kernel_rfl, ?_⟩) (by assumption) ?_
                  · intro X hX
                    (try dsimp only at hX)
                    go_simp
                  dsimp only [Act.put, List.getElem_toArray, List.getElem_cons_zero, List.getElem_cons_succ, List.setIfInBounds_toArray, List.set_cons_zero, List.set_cons_succ]
                  refine wpAnyH_take (i := 7) (v := .bool false) rfl (by kernel_rfl) (by kernel_rfl) (by kernel_rfl) (fun _ _ _ h => h) (Or.inl ⟨by kernel_rfl, ?_⟩) (by assumption) ?_
                  · intro X hX
                    (try dsimp only at hX)
                    go_simp
                  dsimp only [Act.put, List.getElem_toArray, List.getElem_cons_zero, List.getElem_cons_succ, List.setIfInBounds_toArray, List.set_cons_zero, List.set_cons_succ]
                  refine wpAnyH_take (i := 8) (v := undef) rfl (by kernel_rfl) (by kernel_rfl) (by kernel_rfl) (fun _ _ _ h => h) (Or.inr ⟨by kernel_rfl, rfl⟩) (by assumption) ?_
                  dsimp only [Act.put, List.getElem_toArray, List.getElem_cons_zero, List.getElem_cons_succ, List.setIfInBounds_toArray, List.set_cons_zero, List.set_cons_succ]
                  refine wpAnyH_take (i := 9) (v := undef) rfl (by kernel_rfl) (by kernel_rfl) (by kernel_rfl) (fun _ _ _ h => h) (Or.inr ⟨by kernel_rfl, rfl⟩) (by assumption) ?_
                  dsimp only [Act.put, List.getElem_toArray, List.getElem_cons_zero, List.getElem_cons_succ, List.setIfInBounds_toArray, List.set_cons_zero, List.set_cons_succ]
                  refine wpAnyH_take (i := 10) (v := undef) rfl (by kernel_rfl) (by kernel_rfl) (by kernel_rfl) (fun _ _ _ h => h) (Or.inr ⟨by kernel_rfl, rfl⟩) (by assumption) ?_
                  dsimp only [Act.put, List.getElem_toArray, List.getElem_cons_zero, List.getElem_cons_succ, List.setIfInBounds_toArray, List.set_cons_zero, List.set_cons_succ]
                  refine wpAnyH_take (i := 11) (v := undef) rfl (by kernel_rfl) (by kernel_rfl) (by kernel_rfl) (fun _ _ _ h => h) (Or.inr ⟨by kernel_rfl, rfl⟩) (by assumption) ?_
                  dsimp only [Act.put, List.getElem_toArray, List.getElem_cons_zero, List.getElem_cons_succ, List.setIfInBounds_toArray, List.set_cons_zero, List.set_cons_succ]
                  refine wpAnyH_take (i := 12) (v := undef) rfl (by kernel_rfl) (by kernel_rfl) (by kernel_rfl) (fun _ _ _ h => h) (Or.inr ⟨by kernel_rfl, rfl⟩) (by assumption) ?_
                  dsimp only [Act.put, List.getElem_toArray, List.getElem_cons_zero, List.getElem_cons_succ, List.setIfInBounds_toArray, List.set_cons_zero, List.set_cons_succ]
                  refine wpAnyH_take (i := 13) (v := undef) rfl (by kernel_rfl) (by kernel_rfl) (by kernel_rfl) (fun _ _ _ h => h) (Or.inr ⟨by kernel_rfl, rfl⟩) (by assumption) ?_
                  dsimp only [Act.put, List.getElem_toArray, List.getElem_cons_zero, List.getElem_cons_succ, List.setIfInBounds_toArray, List.set_cons_zero, List.set_cons_succ]
                  refine wpAnyH_take (i := 14) (v := undef) rfl (by kernel_rfl) (by kernel_rfl) (by kernel_rfl) (fun _ _ _ h => h) (Or.inr ⟨by kernel_rfl, rfl⟩) (by assumption) ?_
                  dsimp only [Act.put, List.getElem_toArray, List.getElem_cons_zero, List.getElem_cons_succ, List.setIfInBounds_toArray, List.set_cons_zero, List.set_cons_succ]
                  refine wpAnyH_take (i := 15) (v := undef) rfl (by kernel_rfl) (by kernel_rfl) (by kernel_rfl) (fun _ _ _ h => h) (Or.inr ⟨by kernel_rfl, rfl⟩) (by assumption) ?_
                  dsimp only [Act.put, List.getElem_toArray, List.getElem_cons_zero, List.getElem_cons_succ, List.setIfInBounds_toArray, List.set_cons_zero, List.set_cons_succ]
                  refine wpAnyH_take (i := 16) (v := .bool false) rfl (by kernel_rfl) (by kernel_rfl) (by kernel_rfl) (fun _ _ _ h => h) (Or.inl ⟨by kernel_rfl, ?_⟩) (by assumption) ?_
                  · intro X hX
                    (try dsimp only at hX)
                    go_simp
                  dsimp only [Act.put, List.getElem_toArray, List.getElem_cons_zero, List.getElem_cons_succ, List.setIfInBounds_toArray, List.set_cons_zero, List.set_cons_succ]
                  refine wpAnyH_take (i := 17) (v := .bool false) rfl (by kernel_rfl) (by kernel_rfl) (by kernel_rfl) (fun _ _ _ h => h) (Or.inl ⟨by kernel_rfl, ?_⟩) (by assumption) ?_
                  · intro X hX
                    (try dsimp only at hX)
                    go_simp
                  dsimp only [Act.put, List.getElem_toArray, List.getElem_cons_zero, List.getElem_cons_succ, List.setIfInBounds_toArray, List.set_cons_zero, List.set_cons_succ]
                  refine wpAnyH_done (by kernel_rfl) ?_ _
                  obtain ⟨m0, m1, m2, m3, m4, m5, m6⟩ := HS1
                  clear hHeld hB5 x0 x1 x2 x3 x4 x5 p0n
                  go_simp
                  go_wp2_with fail
                  go_roundw
                  case rel => exact ⟨k + 1, by omega, by go_num, HY.out.1, by rw [HY.out.2]; exact own_below (show (wn.drew).ownsRow _ _ _ _ _ _ from HOWN.out) HB5.out (Nat.le_refl _), HBN.out.trans ((Below.refl _ _).drew.trans (HB5.out.mono HBN.out.size))⟩
                  case measure => simp [intOf]; omega
                · by_cases hnv : xn = v
                  · have hnb : ((xn : Int) != (v : Int)) = false := by rw [bne_eq_false_iff_eq]; omega
                    have HNB := Lib.hid (own_new hown)
                    have HY := Lib.hid (HMS.out.2.2.1 rfl rfl hnv)
                    clear HMS hnv
                    go_wp2_with fail
                    obtain ⟨wn, hwn⟩ : ∃ wn, wr.alloc (.cells #[.int .i64 xa, .int .i64 xs, .int .i64 1, .int .i64 (t : Int), .bool true, .int .u64 (xn : Int)] 47) = wn := ⟨_, rfl⟩
                    have bx := Bx.new wr 47 #[.int .i64 xa, .int .i64 xs, .int .i64 1, .int .i64 (t : Int), .bool true, .int .u64 (xn : Int)]
                    have hBn := hB.alloc hz (.cells #[.int .i64 xa, .int .i64 xs, .int .i64 1, .int .i64 (t : Int), .bool true, .int .u64 (xn : Int)] 47)
                    have hownn := hown.alloc (.cells #[.int .i64 xa, .int .i64 xs, .int .i64 1, .int .i64 (t : Int), .bool true, .int .u64 (xn : Int)] 47)
                    have hswn : (wr.alloc (.cells #[.int .i64 xa, .int .i64 xs, .int .i64 1, .int .i64 (t : Int), .bool true, .int .u64 (xn : Int)] 47)).heap.size = wr.heap.size + 1 := by simp
                    have p0n := (World.cell?_alloc_lt wr (.cells #[.int .i64 xa, .int .i64 xs, .int .i64 1, .int .i64 (t : Int), .bool true, .int .u64 (xn : Int)] 47) ⟨b2, off2 + k, none⟩ (by dsimp only; omega)).trans p0
                    rw [hwn] at bx hBn hownn hswn p0n ⊢
                    clear hwn
                    have HRn := Lib.hid (HR3.out.up hBn hBn.size)
                    have HBN := Lib.hid hBn
                    have HOWN := Lib.hid hownn
                    have BX := Lib.hid bx
                    obtain ⟨x0, x1, x2, x3, x4, x5, -, hgg⟩ := bx.c6
                    have hg2 : b2 < wn.heap.size := by omega
                    clear hBn hownn bx hown q0 q1 q2 q3 q4 q5 p0
                    refine wp_region_held_drew (S := fun X : World => X.cell? ⟨wr.heap.size, 0, none⟩ = some (.int .i64 xa) ∧ X.cell? ⟨wr.heap.size, 1, none⟩ = some (.int .i64 xs) ∧ X.cell? ⟨wr.heap.size, 2, none⟩ = some (.int .i64 1) ∧ X.cell? ⟨wr.heap.size, 3, none⟩ = some (.int .i64 (t : Int)) ∧ X.cell? ⟨wr.heap.size, 4, none⟩ = some (.bool true) ∧ X.cell? ⟨wr.heap.size, 5, none⟩ = some (.int .u64 (xn : Int)) ∧ X.cell? ⟨b2, off2 + k, none⟩ = some (.int .i64 (v : Int))) (by kernel_rfl) ⟨x0, x1, x2, x3, x4, x5, p0n⟩ (fun hHeld => ?_)
                    show wpAnyH _ _ _ _ _ 18 #[false, false, false, false, false, false, false, false, false, false, false, false, false, false, false, false, false, false] _ _
                    refine wpAnyH_take (i := 0) (v := .slice A ws.length c) rfl (by kernel_rfl) (by kernel_rfl) (by kernel_rfl) (fun _ _ _ h => h) (Or.inl ⟨by kernel_rfl, ?_⟩) (by assumption) ?_
                    · intro X hX
                      (try dsimp only at hX)
                      go_simp
                    dsimp only [Act.put, List.getElem_toArray, List.getElem_cons_zero, List.getElem_cons_succ, List.setIfInBounds_toArray, List.set_cons_zero, List.set_cons_succ]
                    refine wpAnyH_take (i := 1) (v := .agg #[.int .i64 xa, .int .i64 xs, .int .i64 1, .int .i64 (t : Int), .bool true, .int .u64 (xn : Int)]) rfl (by kernel_rfl) (by kernel_rfl) (by kernel_rfl) (fun _ _ _ h => h) (Or.inl ⟨by kernel_rfl, ?_⟩) (by assumption) ?_
                    · intro X hX
                      (try dsimp only at hX)
                      go_simp
                    dsimp only [Act.put, List.getElem_toArray, List.getElem_cons_zero, List.getElem_cons_succ, List.setIfInBounds_toArray, List.set_cons_zero, List.set_cons_succ]
                    refine wpAnyH_ready (rs := [2]) (by kernel_rfl) (by simp) ?_
                    refine AllReadyH.cons rfl (fun K hK => ?_) AllReadyH.nil
                    go_simp
                    refine (HT.out wn.drew (show RdW wn.drew wn.drew.heap.size A ws from HRn.out)).mono ?_
                    rintro e w5 ⟨rfl, hB5⟩
                    go_simp
                    have HB5 := Lib.hid hB5
                    refine hK.out _ _ ⟨(hB5.cell (p := ⟨wr.heap.size, 0, none⟩) hgg).trans x0, (hB5.cell (p := ⟨wr.heap.size, 1, none⟩) hgg).trans x1, (hB5.cell (p := ⟨wr.heap.size, 2, none⟩) hgg).trans x2, (hB5.cell (p := ⟨wr.heap.size, 3, none⟩) hgg).trans x3, (hB5.cell (p := ⟨wr.heap.size, 4, none⟩) hgg).trans x4, (hB5.cell (p := ⟨wr.heap.size, 5, none⟩) hgg).trans x5, (hB5.cell (p := ⟨b2, off2 + k, none⟩) hg2).trans p0n⟩ (fun HS1 => ?_)
                    clear hK K
                    refine wpAnyH_take (i := 3) (v := .bool false) rfl (by kernel_rfl) (by kernel_rfl) (by kernel_rfl) (fun _ _ _ h => h) (Or.inl ⟨by kernel_rfl, ?_⟩) (by assumption) ?_
                    · intro X hX
                      (try dsimp only at hX)
                      go_simp
                    dsimp only [Act.put, List.getElem_toArray, List.getElem_cons_zero, List.getElem_cons_succ, List.setIfInBounds_toArray, List.set_cons_zero, List.set_cons_succ]
                    refine wpAnyH_take (i := 4) (v := .bool false) rfl (by kernel_rfl) (by kernel_rfl) (by kernel_rfl) (fun _ _ _ h => h) (Or.inl ⟨by kernel_rfl, ?_⟩) (by assumption) ?_
                    · intro X hX
                      (try dsimp only at hX)
                      go_simp
                    dsimp only [Act.put, List.getElem_toArray, List.getElem_cons_zero, List.getElem_cons_succ, List.setIfInBounds_toArray, List.set_cons_zero, List.set_cons_succ]
                    refine wpAnyH_take (i := 5) (v := .pointer (some ⟨wr.heap.size, 4, none⟩)) rfl (by kernel_rfl) (by kernel_rfl) (by kernel_rfl) (fun _ _ _ h => h) (Or.inl ⟨by kernel_rfl, ?_⟩) (by assumption) ?_
                    · intro X hX
                      (try dsimp only at hX)
                      go_simp
                    dsimp only [Act.put, List.getElem_toArray, List.getElem_cons_zero, List.getElem_cons_succ, List.setIfInBounds_toArray, List.set_cons_zero, List.set_cons_succ]
                    refine wpAnyH_take (i := 6) (v := .bool true) rfl (by kernel_rfl) (by kernel_rfl) (by kernel_rfl) (fun _ _ _ h => h) (Or.inl ⟨by kernel_rfl, ?_⟩) (by assumption) ?_
                    · intro X hX
                      (try dsimp only at hX)
                      go_simp
                    dsimp only [Act.put, List.getElem_toArray, List.getElem_cons_zero, List.getElem_cons_succ, List.setIfInBounds_toArray, List.set_cons_zero, List.set_cons_succ]
                    refine wpAnyH_take (i := 7) (v := .bool true) rfl (by kernel_rfl) (by kernel_rfl) (by kernel_rfl) (fun _ _ _ h => h) (Or.inl ⟨by kernel_rfl, ?_⟩) (by assumption) ?_
                    · intro X hX
                      (try dsimp only at hX)
                      go_simp
                    dsimp only [Act.put, List.getElem_toArray, List.getElem_cons_zero, List.getElem_cons_succ, List.setIfInBounds_toArray, List.set_cons_zero, List.set_cons_succ]
                    refine wpAnyH_take (i := 8) (v := .pointer (some ⟨wr.heap.size, 5, none⟩)) rfl (by kernel_rfl) (by kernel_rfl) (by kernel_rfl) (fun _ _ _ h => h) (Or.inl ⟨by kernel_rfl, ?_⟩) (by assumption) ?_
                    · intro X hX
                      (try dsimp only at hX)
                      go_simp
                    dsimp only [Act.put, List.getElem_toArray, List.getElem_cons_zero, List.getElem_cons_succ, List.setIfInBounds_toArray, List.set_cons_zero, List.set_cons_succ]
                    refine wpAnyH_take (i := 9) (v := .int .u64 (xn : Int)) rfl (by kernel_rfl) (by kernel_rfl) (by kernel_rfl) (fun _ _ _ h => h) (Or.inl ⟨by kernel_rfl, ?_⟩) (by assumption) ?_
                    · intro X hX
                      (try dsimp only at hX)
                      go_simp
                    dsimp only [Act.put, List.getElem_toArray, List.getElem_cons_zero, List.getElem_cons_succ, List.setIfInBounds_toArray, List.set_cons_zero, List.set_cons_succ]
                    refine wpAnyH_take (i := 10) (v := .slice (some ⟨b2, off2, none⟩) l.length c2) rfl (by kernel_rfl) (by kernel_rfl) (by kernel_rfl) (fun _ _ _ h => h) (Or.inl ⟨by kernel_rfl, ?_⟩) (by assumption) ?_
                    · intro X hX
                      (try dsimp only at hX)
                      go_simp
                    dsimp only [Act.put, List.getElem_toArray, List.getElem_cons_zero, List.getElem_cons_succ, List.setIfInBounds_toArray, List.set_cons_zero, List.set_cons_succ]
                    refine wpAnyH_take (i := 11) (v := .int .i64 (k : Int)) rfl (by kernel_rfl) (by kernel_rfl) (by kernel_rfl) (fun _ _ _ h => h) (Or.inl ⟨by kernel_rfl, ?_⟩) (by assumption) ?_
                    · intro X hX
                      (try dsimp only at hX)
                      go_simp
                    dsimp only [Act.put, List.getElem_toArray, List.getElem_cons_zero, List.getElem_cons_succ, List.setIfInBounds_toArray, List.set_cons_zero, List.set_cons_succ]
                    refine wpAnyH_take (i := 12) (v := .pointer (some ⟨b2, off2 + k, none⟩)) rfl (by kernel_rfl) (by kernel_rfl) (by kernel_rfl) (fun _ _ _ h => h) (Or.inl ⟨by kernel_rfl, ?_⟩) (by assumption) ?_
                    · intro X hX
                      (try dsimp only at hX)
                      go_simp
                    dsimp only [Act.put, List.getElem_toArray, List.getElem_cons_zero, List.getElem_cons_succ, List.setIfInBounds_toArray, List.set_cons_zero, List.set_cons_succ]
                    refine wpAnyH_take (i := 13) (v := .int .i64 (v : Int)) rfl (by kernel_rfl) (by kernel_rfl) (by kernel_rfl) (fun _ _ _ h => h) (Or.inl ⟨by kernel_rfl, ?_⟩) (by assumption) ?_
                    · intro X hX
                      (try dsimp only at hX)
                      go_simp
                    dsimp only [Act.put, List.getElem_toArray, List.getElem_cons_zero, List.getElem_cons_succ, List.setIfInBounds_toArray, List.set_cons_zero, List.set_cons_succ]
                    refine wpAnyH_take (i := 14) (v := .int .u64 (v : Int)) rfl (by kernel_rfl) (by kernel_rfl) (by kernel_rfl) (fun _ _ _ h => h) (Or.inl ⟨by kernel_rfl, ?_⟩) (by assumption) ?_
                    · intro X hX
                      (try dsimp only at hX)
                      go_simp
                    dsimp only [Act.put, List.getElem_toArray, List.getElem_cons_zero, List.getElem_cons_succ, List.setIfInBounds_toArray, List.set_cons_zero, List.set_cons_succ]
                    refine wpAnyH_take (i := 15) (v := .bool false) rfl (by kernel_rfl) (by kernel_rfl) (by kernel_rfl) (fun _ _ _ h => h) (Or.inl ⟨by kernel_rfl, ?_⟩) (by assumption) ?_
                    · intro X hX
                      (try dsimp only at hX)
                      go_simp
                    dsimp only [Act.put, List.getElem_toArray, List.getElem_cons_zero, List.getElem_cons_succ, List.setIfInBounds_toArray, List.set_cons_zero, List.set_cons_succ]
                    refine wpAnyH_take (i := 16) (v := .bool false) rfl (by kernel_rfl) (by kernel_rfl) (by kernel_rfl) (fun _ _ _ h => h) (Or.inl ⟨by kernel_rfl, ?_⟩) (by assumption) ?_
                    · intro X hX
                      (try dsimp only at hX)
                      go_simp
                    dsimp only [Act.put, List.getElem_toArray, List.getElem_cons_zero, List.getElem_cons_succ, List.setIfInBounds_toArray, List.set_cons_zero, List.set_cons_succ]
                    refine wpAnyH_take (i := 17) (v := .bool false) rfl (by kernel_rfl) (by kernel_rfl) (by kernel_rfl) (fun _ _ _ h => h) (Or.inl ⟨by kernel_rfl, ?_⟩) (by assumption) ?_
                    · intro X hX
                      (try dsimp only at hX)
                      go_simp
                    dsimp only [Act.put, List.getElem_toArray, List.getElem_cons_zero, List.getElem_cons_succ, List.setIfInBounds_toArray, List.set_cons_zero, List.set_cons_succ]
                    refine wpAnyH_done (by kernel_rfl) ?_ _
                    obtain ⟨m0, m1, m2, m3, m4, m5, m6⟩ := HS1
                    clear hHeld hB5 x0 x1 x2 x3 x4 x5 p0n
                    go_simp
                    go_wp2_with fail
                    have hB5' := HBN.out.trans ((Below.refl _ _).drew.trans (HB5.out.mono HBN.out.size))
                    have hown5 := own_below (show (wn.drew).ownsRow _ _ _ _ _ _ from HOWN.out) HB5.out (Nat.le_refl _)
                    have hz5 := hB5'.size
                    have hneP := own_ne HOWN.out hbw2
                    have hneB : some wr.heap.size ≠ Value.ownBlock u13 := HNB.out
                    have hg5 : wr.heap.size < w5.heap.size := by have := HB5.out.size; have : wn.drew.heap.size = wn.heap.size := rfl; omega
                    have hp5 : b2 < w5.heap.size := by omega
                    have hm1 : m.length + 1 ≤ maxLen := by unfold maxLen; omega
                    have hm2 : (m.length + 1) * 16 ≤ 140737488355328 := by omega
                    have HSN5 := Lib.hid hB5'
                    clear hB5' m1 m2 m3 m4 m5
                    first
                      | (go_region_held3 (fun X : World => X.cell? ⟨wr.heap.size, 0, none⟩ = some (.int .i64 xa) ∧ X.cell? ⟨b2, off2 + k, none⟩ = some (.int .i64 (v : Int)))
                          (first | go_keep | (go_split_ands
                                              refine ⟨?_, ?_⟩
                                              · (rw [hgrow.cell_far _ (by simp; omega) hneB]; assumption)
                                              · (rw [hgrow.cell_far _ (by simp; omega) hneP]; assumption)))
                          ((refine step_append_lies _ (by rfl) _ _ _ (by rfl) w3.heap.size 78 i2 _ 2 16 Try.underlying67 HJ.out HJ0.out HJ1.out HJ2.out rfl (by omega) u13 m.length (m.flatMap mvCells) (by rfl) ((show (w5.drew).ownsRow _ _ _ _ _ _ from hown5).alloc _) ⟨w5.heap.size, 0, none⟩ 1 1 [.int .i64 xa, .int .i64 (v : Int)] (by rfl) (by rfl) (World.news_of_block (cs := #[.int .i64 xa, .int .i64 (v : Int)]) (t := 78) (fr := (0, 0)) (heap_alloc_new w5.drew _)) (by simp [Value.oneCell']) (by omega) hm1 hm2 (by simp; omega) (w5.heap.size + 1) (by simp) ?_; intro gg cap w6 hown1 hgrow hat hlt6)))
                      | fail
                    go_wp2_with fail
                    go_roundw
                    case rel => exact ⟨k + 1, by omega, by go_num, HY.out.1, by rw [HY.out.2, List.length_append, flat_snoc]; exact hown1, below_append (w := w3) (wr := w5.drew) (HSN5.out.trans (Below.refl _ _).drew) hz5 (show (w5.drew).ownsRow _ _ _ _ _ _ from hown5) hgrow⟩
                    case measure => simp [intOf]; omega
                  · have hnb : ((xn : Int) != (v : Int)) = true := by rw [bne_iff_ne]; omega
                    have HE := Lib.hid (HBAD.out (HMS.out.2.1 rfl rfl hnv))
                    clear HMS hnv
                    go_wp2_with fail
                    obtain ⟨wn, hwn⟩ : ∃ wn, wr.alloc (.cells #[.int .i64 xa, .int .i64 xs, .int .i64 1, .int .i64 (t : Int), .bool true, .int .u64 (xn : Int)] 47) = wn := ⟨_, rfl⟩
                    have bx := Bx.new wr 47 #[.int .i64 xa, .int .i64 xs, .int .i64 1, .int .i64 (t : Int), .bool true, .int .u64 (xn : Int)]
                    have hBn := hB.alloc hz (.cells #[.int .i64 xa, .int .i64 xs, .int .i64 1, .int .i64 (t : Int), .bool true, .int .u64 (xn : Int)] 47)
                    have hownn := hown.alloc (.cells #[.int .i64 xa, .int .i64 xs, .int .i64 1, .int .i64 (t : Int), .bool true, .int .u64 (xn : Int)] 47)
                    have hswn : (wr.alloc (.cells #[.int .i64 xa, .int .i64 xs, .int .i64 1, .int .i64 (t : Int), .bool true, .int .u64 (xn : Int)] 47)).heap.size = wr.heap.size + 1 := by simp
                    have p0n := (World.cell?_alloc_lt wr (.cells #[.int .i64 xa, .int .i64 xs, .int .i64 1, .int .i64 (t : Int), .bool true, .int .u64 (xn : Int)] 47) ⟨b2, off2 + k, none⟩ (by dsimp only; omega)).trans p0
                    rw [hwn] at bx hBn hownn hswn p0n ⊢
                    clear hwn
                    have HRn := Lib.hid (HR3.out.up hBn hBn.size)
                    have HBN := Lib.hid hBn
                    have HOWN := Lib.hid hownn
                    have BX := Lib.hid bx
                    obtain ⟨x0, x1, x2, x3, x4, x5, -, hgg⟩ := bx.c6
                    have hg2 : b2 < wn.heap.size := by omega
                    clear hBn hownn bx hown q0 q1 q2 q3 q4 q5 p0
                    refine wp_region_held_drew (S := fun X : World => X.cell? ⟨wr.heap.size, 0, none⟩ = some (.int .i64 xa) ∧ X.cell? ⟨wr.heap.size, 1, none⟩ = some (.int .i64 xs) ∧ X.cell? ⟨wr.heap.size, 2, none⟩ = some (.int .i64 1) ∧ X.cell? ⟨wr.heap.size, 3, none⟩ = some (.int .i64 (t : Int)) ∧ X.cell? ⟨wr.heap.size, 4, none⟩ = some (.bool true) ∧ X.cell? ⟨wr.heap.size, 5, none⟩ = some (.int .u64 (xn : Int)) ∧ X.cell? ⟨b2, off2 + k, none⟩ = some (.int .i64 (v : Int))) (by kernel_rfl) ⟨x0, x1, x2, x3, x4, x5, p0n⟩ (fun hHeld => ?_)
                    show wpAnyH _ _ _ _ _ 18 #[false, false, false, false, false, false, false, false, false, false, false, false, false, false, false, false, false, false] _ _
                    refine wpAnyH_take (i := 0) (v := .slice A ws.length c) rfl (by kernel_rfl) (by kernel_rfl) (by kernel_rfl) (fun _ _ _ h => h) (Or.inl ⟨by kernel_rfl, ?_⟩) (by assumption) ?_
                    · intro X hX
                      (try dsimp only at hX)
                      go_simp
                    dsimp only [Act.put, List.getElem_toArray, List.getElem_cons_zero, List.getElem_cons_succ, List.setIfInBounds_toArray, List.set_cons_zero, List.set_cons_succ]
                    refine wpAnyH_take (i := 1) (v := .agg #[.int .i64 xa, .int .i64 xs, .int .i64 1, .int .i64 (t : Int), .bool true, .int .u64 (xn : Int)]) rfl (by kernel_rfl) (by kernel_rfl) (by kernel_rfl) (fun _ _ _ h => h) (Or.inl ⟨by kernel_rfl, ?_⟩) (by assumption) ?_
                    · intro X hX
                      (try dsimp only at hX)
                      go_simp
                    dsimp only [Act.put, List.getElem_toArray, List.getElem_cons_zero, List.getElem_cons_succ, List.setIfInBounds_toArray, List.set_cons_zero, List.set_cons_succ]
                    refine wpAnyH_ready (rs := [2]) (by kernel_rfl) (by simp) ?_
                    refine AllReadyH.cons rfl (fun K hK => ?_) AllReadyH.nil
                    go_simp
                    refine (HT.out wn.drew (show RdW wn.drew wn.drew.heap.size A ws from HRn.out)).mono ?_
                    rintro e w5 ⟨rfl, hB5⟩
                    go_simp
                    have HB5 := Lib.hid hB5
                    refine hK.out _ _ ⟨(hB5.cell (p := ⟨wr.heap.size, 0, none⟩) hgg).trans x0, (hB5.cell (p := ⟨wr.heap.size, 1, none⟩) hgg).trans x1, (hB5.cell (p := ⟨wr.heap.size, 2, none⟩) hgg).trans x2, (hB5.cell (p := ⟨wr.heap.size, 3, none⟩) hgg).trans x3, (hB5.cell (p := ⟨wr.heap.size, 4, none⟩) hgg).trans x4, (hB5.cell (p := ⟨wr.heap.size, 5, none⟩) hgg).trans x5, (hB5.cell (p := ⟨b2, off2 + k, none⟩) hg2).trans p0n⟩ (fun HS1 => ?_)
                    clear hK K
                    refine wpAnyH_take (i := 3) (v := .bool false) rfl (by kernel_rfl) (by kernel_rfl) (by kernel_rfl) (fun _ _ _ h => h) (Or.inl ⟨by kernel_rfl, ?_⟩) (by assumption) ?_
                    · intro X hX
                      (try dsimp only at hX)
                      go_simp
                    dsimp only [Act.put, List.getElem_toArray, List.getElem_cons_zero, List.getElem_cons_succ, List.setIfInBounds_toArray, List.set_cons_zero, List.set_cons_succ]
                    refine wpAnyH_take (i := 4) (v := .bool false) rfl (by kernel_rfl) (by kernel_rfl) (by kernel_rfl) (fun _ _ _ h => h) (Or.inl ⟨by kernel_rfl, ?_⟩) (by assumption) ?_
                    · intro X hX
                      (try dsimp only at hX)
                      go_simp
                    dsimp only [Act.put, List.getElem_toArray, List.getElem_cons_zero, List.getElem_cons_succ, List.setIfInBounds_toArray, List.set_cons_zero, List.set_cons_succ]
                    refine wpAnyH_take (i := 5) (v := .pointer (some ⟨wr.heap.size, 4, none⟩)) rfl (by kernel_rfl) (by kernel_rfl) (by kernel_rfl) (fun _ _ _ h => h) (Or.inl ⟨by kernel_rfl, ?_⟩) (by assumption) ?_
                    · intro X hX
                      (try dsimp only at hX)
                      go_simp
                    dsimp only [Act.put, List.getElem_toArray, List.getElem_cons_zero, List.getElem_cons_succ, List.setIfInBounds_toArray, List.set_cons_zero, List.set_cons_succ]
                    refine wpAnyH_take (i := 6) (v := .bool true) rfl (by kernel_rfl) (by kernel_rfl) (by kernel_rfl) (fun _ _ _ h => h) (Or.inl ⟨by kernel_rfl, ?_⟩) (by assumption) ?_
                    · intro X hX
                      (try dsimp only at hX)
                      go_simp
                    dsimp only [Act.put, List.getElem_toArray, List.getElem_cons_zero, List.getElem_cons_succ, List.setIfInBounds_toArray, List.set_cons_zero, List.set_cons_succ]
                    refine wpAnyH_take (i := 7) (v := .bool true) rfl (by kernel_rfl) (by kernel_rfl) (by kernel_rfl) (fun _ _ _ h => h) (Or.inl ⟨by kernel_rfl, ?_⟩) (by assumption) ?_
                    · intro X hX
                      (try dsimp only at hX)
                      go_simp
                    dsimp only [Act.put, List.getElem_toArray, List.getElem_cons_zero, List.getElem_cons_succ, List.setIfInBounds_toArray, List.set_cons_zero, List.set_cons_succ]
                    refine wpAnyH_take (i := 8) (v := .pointer (some ⟨wr.heap.size, 5, none⟩)) rfl (by kernel_rfl) (by kernel_rfl) (by kernel_rfl) (fun _ _ _ h => h) (Or.inl ⟨by kernel_rfl, ?_⟩) (by assumption) ?_
                    · intro X hX
                      (try dsimp only at hX)
                      go_simp
                    dsimp only [Act.put, List.getElem_toArray, List.getElem_cons_zero, List.getElem_cons_succ, List.setIfInBounds_toArray, List.set_cons_zero, List.set_cons_succ]
                    refine wpAnyH_take (i := 9) (v := .int .u64 (xn : Int)) rfl (by kernel_rfl) (by kernel_rfl) (by kernel_rfl) (fun _ _ _ h => h) (Or.inl ⟨by kernel_rfl, ?_⟩) (by assumption) ?_
                    · intro X hX
                      (try dsimp only at hX)
                      go_simp
                    dsimp only [Act.put, List.getElem_toArray, List.getElem_cons_zero, List.getElem_cons_succ, List.setIfInBounds_toArray, List.set_cons_zero, List.set_cons_succ]
                    refine wpAnyH_take (i := 10) (v := .slice (some ⟨b2, off2, none⟩) l.length c2) rfl (by kernel_rfl) (by kernel_rfl) (by kernel_rfl) (fun _ _ _ h => h) (Or.inl ⟨by kernel_rfl, ?_⟩) (by assumption) ?_
                    · intro X hX
                      (try dsimp only at hX)
                      go_simp
                    dsimp only [Act.put, List.getElem_toArray, List.getElem_cons_zero, List.getElem_cons_succ, List.setIfInBounds_toArray, List.set_cons_zero, List.set_cons_succ]
                    refine wpAnyH_take (i := 11) (v := .int .i64 (k : Int)) rfl (by kernel_rfl) (by kernel_rfl) (by kernel_rfl) (fun _ _ _ h => h) (Or.inl ⟨by kernel_rfl, ?_⟩) (by assumption) ?_
                    · intro X hX
                      (try dsimp only at hX)
                      go_simp
                    dsimp only [Act.put, List.getElem_toArray, List.getElem_cons_zero, List.getElem_cons_succ, List.setIfInBounds_toArray, List.set_cons_zero, List.set_cons_succ]
                    refine wpAnyH_take (i := 12) (v := .pointer (some ⟨b2, off2 + k, none⟩)) rfl (by kernel_rfl) (by kernel_rfl) (by kernel_rfl) (fun _ _ _ h => h) (Or.inl ⟨by kernel_rfl, ?_⟩) (by assumption) ?_
                    · intro X hX
                      (try dsimp only at hX)
                      go_simp
                    dsimp only [Act.put, List.getElem_toArray, List.getElem_cons_zero, List.getElem_cons_succ, List.setIfInBounds_toArray, List.set_cons_zero, List.set_cons_succ]
                    refine wpAnyH_take (i := 13) (v := .int .i64 (v : Int)) rfl (by kernel_rfl) (by kernel_rfl) (by kernel_rfl) (fun _ _ _ h => h) (Or.inl ⟨by kernel_rfl, ?_⟩) (by assumption) ?_
                    · intro X hX
                      (try dsimp only at hX)
                      go_simp
                    dsimp only [Act.put, List.getElem_toArray, List.getElem_cons_zero, List.getElem_cons_succ, List.setIfInBounds_toArray, List.set_cons_zero, List.set_cons_succ]
                    refine wpAnyH_take (i := 14) (v := .int .u64 (v : Int)) rfl (by kernel_rfl) (by kernel_rfl) (by kernel_rfl) (fun _ _ _ h => h) (Or.inl ⟨by kernel_rfl, ?_⟩) (by assumption) ?_
                    · intro X hX
                      (try dsimp only at hX)
                      go_simp
                    dsimp only [Act.put, List.getElem_toArray, List.getElem_cons_zero, List.getElem_cons_succ, List.setIfInBounds_toArray, List.set_cons_zero, List.set_cons_succ]
                    refine wpAnyH_take (i := 15) (v := .bool true) rfl (by kernel_rfl) (by kernel_rfl) (by kernel_rfl) (fun _ _ _ h => h) (Or.inl ⟨by kernel_rfl, ?_⟩) (by assumption) ?_
                    · intro X hX
                      (try dsimp only at hX)
                      go_simp
                    dsimp only [Act.put, List.getElem_toArray, List.getElem_cons_zero, List.getElem_cons_succ, List.setIfInBounds_toArray, List.set_cons_zero, List.set_cons_succ]
                    refine wpAnyH_take (i := 16) (v := .bool true) rfl (by kernel_rfl) (by kernel_rfl) (by kernel_rfl) (fun _ _ _ h => h) (Or.inl ⟨by kernel_rfl, ?_⟩) (by assumption) ?_
                    · intro X hX
                      (try dsimp only at hX)
                      go_simp
                    dsimp only [Act.put, List.getElem_toArray, List.getElem_cons_zero, List.getElem_cons_succ, List.setIfInBounds_toArray, List.set_cons_zero, List.set_cons_succ]
                    refine wpAnyH_take (i := 17) (v := .bool true) rfl (by kernel_rfl) (by kernel_rfl) (by kernel_rfl) (fun _ _ _ h => h) (Or.inl ⟨by kernel_rfl, ?_⟩) (by assumption) ?_
                    · intro X hX
                      (try dsimp only at hX)
                      go_simp
                    dsimp only [Act.put, List.getElem_toArray, List.getElem_cons_zero, List.getElem_cons_succ, List.setIfInBounds_toArray, List.set_cons_zero, List.set_cons_succ]
                    refine wpAnyH_done (by kernel_rfl) ?_ _
                    obtain ⟨m0, m1, m2, m3, m4, m5, m6⟩ := HS1
                    clear hHeld hB5 x0 x1 x2 x3 x4 x5 p0n
                    go_simp
                    go_wp2_with fail
                    go_ret2
                    exact ⟨rdRes_no HE.out (by omega), hb3.trans ((HBN.out.trans ((Below.refl _ _).drew.trans (HB5.out.mono HBN.out.size))).mono hz3)⟩
            · have hk2 : (xk != 1) = true := by rw [bne_iff_ne]; exact hk1
              have hfx : fitB ws ⟨xa, xs, xk, xt, xm, xn⟩ = true := fit_other hk1
              have hlx : liveB ⟨xa, xs, xk, xt, xm, xn⟩ = false := by
                unfold liveB
                show (xk == 1 && xm) = false
                rw [show (xk == 1) = false by rw [beq_eq_false_iff_ne]; exact hk1]; rfl
              have HY := Lib.hid (HMS.out.2.2.2 hfx hlx)
              clear hk1 hfx hlx HMS
              go_wp2_with fail
              go_roundw
              case rel => exact ⟨k + 1, by omega, by go_num, HY.out.1, by rw [HY.out.2]; exact hown.alloc _, hB.alloc hz _⟩
              case measure => simp [intOf]; omega
          · have HP := Lib.hid (rdErr_ok HS.out HARG.out (l := l) (by rw [Int.toNat_natCast]; exact HSO.out) (by have := HAL.out; rwa [List.take_of_length_le (by omega)] at this))
            rw [List.take_of_length_le (by omega)] at hown
            obtain ⟨A4, c4, rfl, hle, hrd4⟩ := slice_of hown
            have HRD4 := Lib.hid hrd4
            have HLE4 := Lib.hid hle
            clear hrd4 hown hle
            go_wp2_with fail
            go_ret2
            exact ⟨⟨A4, c4, by rw [HP.out.1, HP.out.2]; rfl, by rw [HP.out.2]; exact HRD4.out, by rw [HP.out.2]; exact HLE4.out⟩, hb3.trans (hB.mono hz3)⟩
    · have HE := Lib.hid (rdErr_arg HS.out hbad)
      have hways := rd_ways hbad
      clear hbad
      rcases hways with ⟨g1, g2⟩ | ⟨⟨g1, g2⟩, ⟨g3, g4⟩ | ⟨⟨g3, g4⟩, g5 | ⟨g5, g6⟩ | ⟨⟨g5, g6⟩, g7⟩⟩⟩
      all_goals
        go_enter Try.func36, Try.ntmps36
        go_wp2_with fail
        refine (imCheck_c A ws.length c w hm).mono ?_
        rintro e w1 ⟨rfl, rfl⟩
        rw [HI.out]
        go_wp2_with fail
        all_goals
          go_ret2
          exact ⟨rdRes_no HE.out (by omega), Below.refl _ _⟩
end Go.Proofs.Ytpifagclhhaniaa
