/- The boundaries of blocks, and the phase line of a view: what the program returns. -/
import Derived.Test.YtpifagclhhaniaaPh
namespace Go.Proofs.Ytpifagclhhaniaa
open Go.RowKit

def noAt (l : List Bk) (f : Nat) (k : Nat) : Prop := ∀ j, j < k → (gk l j).at_ ≠ (f : Int)
theorem noAt_zero (l : List Bk) (f : Nat) : noAt l f 0 := fun j h => absurd h (by omega)
theorem noAt_succ {l : List Bk} {f k : Nat} (h : noAt l f k) (h2 : (gk l k).at_ ≠ (f : Int)) : noAt l f (k + 1) := fun j hj => by
  rcases Nat.lt_or_ge j k with h3 | h3
  · exact h j h3
  · have : j = k := by omega
    subst this; exact h2
theorem bd_no {ws : List Nat} (hs : sizeOk (ws.length : Int) = true) (h : frErr ws 128 ≠ 0) (f : Nat) : bdAt ws f = false := by
  unfold bdAt
  cases hb : blocks ws 128 with
  | none => rfl
  | some l => exact absurd (frErr_some hs (frErr_128 hs) hb).1 h
theorem bd_at {ws : List Nat} {l : List Bk} (hb : blocks ws 128 = some l) {k f : Nat} (hk : k < l.length) (h : (gk l k).at_ = (f : Int)) : bdAt ws f = true := by
  unfold bdAt
  rw [hb]
  simp only [Bool.or_eq_true, List.any_eq_true]
  refine .inl ⟨l[k], List.getElem_mem hk, ?_⟩
  rw [gk_get l k hk] at h
  rw [beq_iff_eq]; exact h
theorem bd_end {ws : List Nat} {l : List Bk} (hb : blocks ws 128 = some l) {f : Nat} (h : noAt l f l.length) : bdAt ws f = (f == ws.length) := by
  unfold bdAt
  rw [hb]
  have : l.any (fun b => b.at_ == (f : Int)) = false := by
    rw [List.any_eq_false]
    intro b hm
    obtain ⟨k, hk, rfl⟩ := List.getElem_of_mem hm
    have := h k hk
    rw [gk_get l k hk] at this
    rw [beq_iff_eq]; exact this
  show (l.any (fun b => b.at_ == (f : Int)) || f == ws.length) = _
  rw [this, Bool.false_or]

set_option maxRecDepth 100000 in
set_option maxHeartbeats 2000000 in
theorem boundary_c (A : Option Addr) (ws : List Nat) (c n f : Nat) (w : World) (hn : ws.length = n) (hs : sizeOk (n : Int) = true) (hr : RdW w w.heap.size A ws) (ho : ∀ x ∈ ws, x < 18446744073709551616) :
    Calls Try.prog 65 #[.slice A n c, .int .i64 (f : Int)] w fun e w' => e = .returned (.bool (bdAt ws f)) ∧ Below w.heap.size w w' := by
  subst hn
  have hbd := fr_bd ws hs
  have HC := Lib.hid (from_c A ws c ws.length 128 w rfl (by omega) hr ho)
  unfold FrRes at HC
  have HNO := Lib.hid (fun h => bd_no hs h f)
  have HOK : Hid (frErr ws 128 = 0 → blocks ws 128 = some (frOut ws 128)) := Lib.hid fun h => (fr_128 h).2
  have hlen := frOut_len ws 128
  obtain ⟨r, hr'⟩ : ∃ r, frErr ws 128 = r := ⟨_, rfl⟩
  obtain ⟨l, hl⟩ : ∃ l, frOut ws 128 = l := ⟨_, rfl⟩
  rw [hr', hl] at HC HOK
  rw [hl] at hlen
  rw [hr'] at HNO
  clear hr' hl hr ho hs hbd
  by_cases hr0 : r = 0
  · subst hr0
    have HAT := Lib.hid (fun k (h : k < l.length) h2 => bd_at (HOK.out rfl) h h2 (f := f))
    have HEN := Lib.hid (fun h => bd_end (HOK.out rfl) (f := f) h)
    clear HNO HOK
    go_enter Try.func65, Try.ntmps65
    go_wp2_with fail
    refine HC.out.mono ?_
    rintro e w1 ⟨⟨A1, c1, rfl, hrd, -⟩, hB1⟩
    have hz1 := hB1.size
    have HRD := Lib.hid hrd
    clear hrd
    go_wp2_with fail
    go_loopw [18] (fun i wr => ∃ k : Nat, k ≤ l.length ∧ i = .int .i64 k ∧ Hid (noAt l f k) ∧ Below w1.heap.size w1 wr) (fun i _ => l.length - (intOf i).toNat)
    case atStart => exact ⟨0, Nat.zero_le _, rfl, noAt_zero l f, Below.refl _ _⟩
    case round =>
      obtain ⟨k, hk, rfl, HN, hB⟩ := hrel
      have hz := hB.size
      by_cases hlt : k < l.length
      · obtain ⟨b, off, rfl, hbw, q0, q1, q2, q3, q4, q5⟩ := RdB.at_ (HRD.out.below hB) hlt
        have HS := Lib.hid (fun h => noAt_succ HN.out h)
        have HA := Lib.hid (fun h => HAT.out k hlt h)
        rw [gk_get l k hlt] at HS HA
        obtain ⟨x, hx⟩ : ∃ x, l[k] = x := ⟨_, rfl⟩
        rw [hx] at q0 q1 q2 q3 q4 q5 HS HA
        obtain ⟨xa, xs, xk, xt, xm, xn⟩ := x
        dsimp only at q0 q1 q2 q3 q4 q5 HS HA
        have hlm : (k : Int) < (l.length : Int) := by omega
        clear hx
        by_cases hxa : xa = (f : Int)
        · have e1 : (xa == (f : Int)) = true := by rw [beq_iff_eq]; exact hxa
          have HY := Lib.hid (HA.out hxa)
          clear hxa
          go_wp2_with fail
          go_ret
          exact ⟨by rw [HY.out]; rfl, hB1.trans ((hB.alloc hz _).mono hz1)⟩
        · have e1 : (xa == (f : Int)) = false := by rw [beq_eq_false_iff_ne]; exact hxa
          have HY := Lib.hid (HS.out hxa)
          clear hxa
          go_wp2_with fail
          go_roundw
          case rel => exact ⟨k + 1, by omega, by go_num, HY.out, hB.alloc hz _⟩
          case measure => simp [intOf]; omega
      · have HY := Lib.hid (HEN.out (by have := HN.out; rwa [show k = l.length by omega] at this))
        have hfi : ((f : Int) == (ws.length : Int)) = (f == ws.length) := by rw [Bool.eq_iff_iff, beq_iff_eq, beq_iff_eq]; omega
        have HFI := Lib.hid hfi
        clear hfi
        go_wp2_with fail
        go_ret
        exact ⟨by rw [HY.out, ← HFI.out]; rfl, hB1.trans (hB.mono hz1)⟩
  · have hn1 : (r != 0) = true := by rw [bne_iff_ne]; exact hr0
    have HY := Lib.hid (HNO.out hr0)
    clear hr0 HNO HOK
    go_enter Try.func65, Try.ntmps65
    go_wp2_with fail
    refine HC.out.mono ?_
    rintro e w1 ⟨⟨A1, c1, rfl, -, -⟩, hB1⟩
    go_wp2_with fail
    go_ret
    exact ⟨by rw [HY.out]; rfl, hB1⟩

theorem lnErr_of {ws : List Nat} {r : Int} (h : prErr ws = r) (h0 : r ≠ 0) : lnErr ws = r ∧ lnV ws = phV 0 0 0 := by
  subst h
  simp [lnErr, lnV, h0]
theorem lnErr_bd {ws : List Nat} (h : prErr ws = 0) (h1 : wd ws 16 = 3) (h2 : wd ws 17 ≠ 0) (h3 : bdAt ws (wd ws 17) = false) : lnErr ws = 50 ∧ lnV ws = phV 0 0 0 := by
  simp [lnErr, lnV, h, h1, h2, h3]
theorem lnErr_ok {ws : List Nat} (h : prErr ws = 0) (h3 : wd ws 16 = 3 → wd ws 17 ≠ 0 → bdAt ws (wd ws 17) = true) : lnErr ws = 0 ∧ lnV ws = phV (wd ws 16) (wd ws 17) (wd ws 18) := by
  have : lnErr ws = 0 := by
    unfold lnErr
    rw [if_pos h, if_neg]
    rintro ⟨a, b, c⟩
    rw [h3 a b] at c; cases c
  simp [lnV, this]

set_option maxRecDepth 100000 in
set_option maxHeartbeats 2000000 in
theorem line_c (A : Option Addr) (ws : List Nat) (c n : Nat) (w : World) (hn : ws.length = n) (hm : n ≤ 9223372036854775807) (hc : n ≤ c) (hr : RdW w w.heap.size A ws) (ho : ∀ x ∈ ws, x < 18446744073709551616) :
    Calls Try.prog 31 #[.slice A n c] w fun e w' => e = .returned (.tuple #[lnV ws, .int .i64 (lnErr ws)]) ∧ Below w.heap.size w w' := by
  subst hn
  have HR := Lib.hid hr
  have HO := Lib.hid ho
  clear hr ho
  have b0 := Bx.new w 61 #[.int .i64 0, .int .i64 0, .int .i64 0]
  cases hs : sizeOk (ws.length : Int)
  · have HI := Lib.hid (imgErr_no hs)
    have HV := Lib.hid (lnErr_of (prErr_img hs).1 (by omega))
    have HB0 := Lib.hid b0
    clear hs b0
    go_enter Try.func31, Try.ntmps31
    go_wp2_with fail
    refine (imCheck_c A ws.length c _ hm).mono ?_
    rintro e w1 ⟨rfl, rfl⟩
    rw [HI.out]
    go_wp2_with fail
    refine bodyPost_ret (v := .tuple #[.agg #[.int .i64 0, .int .i64 0, .int .i64 0], .int .i64 8]) (results_ph Try.results31 _ HB0.out rfl rfl) rfl ⟨by rw [HV.out.1, HV.out.2]; rfl, (Below.refl _ _).alloc (Nat.le_refl _) _⟩
  · have HI := Lib.hid (imgErr_ok hs)
    have HS := Lib.hid hs
    have HC := Lib.hid (pRead_c A ws c ws.length (w.alloc (.cells #[.int .i64 0, .int .i64 0, .int .i64 0] 61)) rfl hm hc ((HR.out.alloc (Nat.le_refl _) _).more (by simp)) HO.out)
    rw [World.size_alloc] at HC
    have HL1 : Hid (∀ r, prErr ws = r → r ≠ 0 → lnErr ws = r ∧ lnV ws = phV 0 0 0) := Lib.hid fun r h h0 => lnErr_of h h0
    have hval := prErr_val ws
    clear hs b0
    by_cases hp0 : prErr ws = 0
    · have HL2 := Lib.hid (fun h1 h2 h3 => lnErr_bd hp0 h1 h2 h3)
      have HL3 := Lib.hid (fun h1 => lnErr_ok hp0 h1)
      obtain ⟨g1, g2⟩ := prErr_ok HS.out (by have := (prErr_zero hp0).2; rw [this.1, this.2]; rfl)
      rw [g1, g2] at HC
      have HBC := Lib.hid (fun W (h : RdW W W.heap.size A ws) => boundary_c A ws c ws.length (wd ws 17) W rfl HS.out h HO.out)
      unfold phV at HC HL3
      obtain ⟨x, hx⟩ : ∃ x, wd ws 16 = x := ⟨_, rfl⟩
      obtain ⟨y, hy⟩ : ∃ y, wd ws 17 = y := ⟨_, rfl⟩
      obtain ⟨z, hz⟩ : ∃ z, wd ws 18 = z := ⟨_, rfl⟩
      obtain ⟨bd, hbd⟩ : ∃ bd, bdAt ws y = bd := ⟨_, rfl⟩
      rw [hx, hy, hz] at HC HL3
      rw [hx, hy] at HL2
      rw [hy] at HBC
      rw [hbd] at HBC HL2 HL3
      clear hp0 g1 g2 hx hy hz hbd HL1 hval
      have hB0 : ∀ (w1 : World), Below (w.heap.size + 1) (w.alloc (.cells #[.int .i64 0, .int .i64 0, .int .i64 0] 61)) w1 → RdW (w1.alloc (.cells #[.int .i64 (x : Int), .int .i64 (y : Int), .int .i64 (z : Int)] 61)) (w1.alloc (.cells #[.int .i64 (x : Int), .int .i64 (y : Int), .int .i64 (z : Int)] 61)).heap.size A ws := fun w1 h => by
        have h2 := below_call h
        exact ((HR.out.up h2 h2.size).alloc (Nat.le_refl _) _).more (by simp)
      have HB0 := Lib.hid hB0
      clear hB0
      by_cases x3 : x = 3
      · have e1 : ((x : Int) == 3) = true := by rw [beq_iff_eq]; omega
        have e1n : (x == 3) = true := by rw [beq_iff_eq]; exact x3
        by_cases y0 : y = 0
        · have e2 : ((y : Int) != 0) = false := by rw [bne_eq_false_iff_eq]; omega
          have e2n : (y != 0) = false := by rw [bne_eq_false_iff_eq]; exact y0
          have HV := Lib.hid (HL3.out (fun _ h => absurd y0 h))
          clear HL2 HL3 x3 y0
          go_enter Try.func31, Try.ntmps31
          go_wp2_with fail
          refine (imCheck_c A ws.length c _ hm).mono ?_
          rintro e w1 ⟨rfl, rfl⟩
          rw [HI.out]
          go_wp2_with fail
          refine HC.out.mono ?_
          rintro e w1 ⟨rfl, hB1⟩
          have HRW := Lib.hid (HB0.out _ hB1)
          have b1 := Bx.of_new hB1
          have hb1 := below_call hB1
          have B1 := Lib.hid b1
          have HB1 := Lib.hid hb1
          obtain ⟨q0, q1, q2, f0, f1, f2, hgl⟩ := b1.c3
          clear hB1 hb1 b1
          go_wp2_with fail
          exact bodyPost_ret (v := .tuple #[.agg #[.int .i64 (x : Int), .int .i64 (y : Int), .int .i64 (z : Int)], .int .i64 0]) (results_ph Try.results31 _ ((((B1.out.set_ 0 _).set_ 1 _).set_ 2 _).alloc _) rfl rfl) rfl ⟨by rw [HV.out.1, HV.out.2], (((HB1.out.setCell (Nat.le_refl _) _).setCell (Nat.le_refl _) _).setCell (Nat.le_refl _) _).alloc (by simp; exact HB1.out.size) _⟩
        · have e2 : ((y : Int) != 0) = true := by rw [bne_iff_ne]; omega
          have e2n : (y != 0) = true := by rw [bne_iff_ne]; exact y0
          cases bd
          · have HV := Lib.hid (HL2.out x3 y0 rfl)
            clear HL2 HL3 x3 y0
            go_enter Try.func31, Try.ntmps31
            go_wp2_with fail
            refine (imCheck_c A ws.length c _ hm).mono ?_
            rintro e w1 ⟨rfl, rfl⟩
            rw [HI.out]
            go_wp2_with fail
            refine HC.out.mono ?_
            rintro e w1 ⟨rfl, hB1⟩
            have HRW := Lib.hid (HB0.out _ hB1)
            have b1 := Bx.of_new hB1
            have hb1 := below_call hB1
            have B1 := Lib.hid b1
            have HB1 := Lib.hid hb1
            obtain ⟨q0, q1, q2, f0, f1, f2, hgl⟩ := b1.c3
            clear hB1 hb1 b1
            go_wp2_with fail
            refine (HBC.out _ HRW.out).mono ?_
            rintro e w2 ⟨rfl, hB2⟩
            rw [World.size_alloc] at hB2
            have n2 := Bx.of_new hB2
            have hb2 := below_call hB2
            have B2 := Lib.hid (B1.out.up hb2 hgl)
            have HB2 := Lib.hid (HB1.out.trans (hb2.mono HB1.out.size))
            obtain ⟨q0, q1, q2, f0, f1, f2, hgl2⟩ := B2.out.c3
            obtain ⟨n0, n1, n2', -⟩ := n2.c3
            clear hB2 hb2 n2
            go_wp2_with fail
            exact bodyPost_ret (v := .tuple #[.agg #[.int .i64 0, .int .i64 0, .int .i64 0], .int .i64 50]) (results_ph Try.results31 _ (((B2.out.set_ 0 _).set_ 1 _).set_ 2 _) rfl rfl) rfl ⟨by rw [HV.out.1, HV.out.2]; rfl, ((HB2.out.setCell (Nat.le_refl _) _).setCell (Nat.le_refl _) _).setCell (Nat.le_refl _) _⟩
          · have HV := Lib.hid (HL3.out (fun _ _ => rfl))
            clear HL2 HL3 x3 y0
            go_enter Try.func31, Try.ntmps31
            go_wp2_with fail
            refine (imCheck_c A ws.length c _ hm).mono ?_
            rintro e w1 ⟨rfl, rfl⟩
            rw [HI.out]
            go_wp2_with fail
            refine HC.out.mono ?_
            rintro e w1 ⟨rfl, hB1⟩
            have HRW := Lib.hid (HB0.out _ hB1)
            have b1 := Bx.of_new hB1
            have hb1 := below_call hB1
            have B1 := Lib.hid b1
            have HB1 := Lib.hid hb1
            obtain ⟨q0, q1, q2, f0, f1, f2, hgl⟩ := b1.c3
            clear hB1 hb1 b1
            go_wp2_with fail
            refine (HBC.out _ HRW.out).mono ?_
            rintro e w2 ⟨rfl, hB2⟩
            rw [World.size_alloc] at hB2
            have n2 := Bx.of_new hB2
            have hb2 := below_call hB2
            have B2 := Lib.hid (B1.out.up hb2 hgl)
            have HB2 := Lib.hid (HB1.out.trans (hb2.mono HB1.out.size))
            obtain ⟨q0, q1, q2, f0, f1, f2, hgl2⟩ := B2.out.c3
            obtain ⟨n0, n1, n2', -⟩ := n2.c3
            clear hB2 hb2 n2
            go_wp2_with fail
            exact bodyPost_ret (v := .tuple #[.agg #[.int .i64 (x : Int), .int .i64 (y : Int), .int .i64 (z : Int)], .int .i64 0]) (results_ph Try.results31 _ (((B2.out.set_ 0 _).set_ 1 _).set_ 2 _) rfl rfl) rfl ⟨by rw [HV.out.1, HV.out.2], ((HB2.out.setCell (Nat.le_refl _) _).setCell (Nat.le_refl _) _).setCell (Nat.le_refl _) _⟩
      · have e1 : ((x : Int) == 3) = false := by rw [beq_eq_false_iff_ne]; omega
        have e1n : (x == 3) = false := by rw [beq_eq_false_iff_ne]; exact x3
        have HV := Lib.hid (HL3.out (fun h => absurd h x3))
        clear HL2 HL3 x3
        go_enter Try.func31, Try.ntmps31
        go_wp2_with fail
        refine (imCheck_c A ws.length c _ hm).mono ?_
        rintro e w1 ⟨rfl, rfl⟩
        rw [HI.out]
        go_wp2_with fail
        refine HC.out.mono ?_
        rintro e w1 ⟨rfl, hB1⟩
        have HRW := Lib.hid (HB0.out _ hB1)
        have b1 := Bx.of_new hB1
        have hb1 := below_call hB1
        have B1 := Lib.hid b1
        have HB1 := Lib.hid hb1
        obtain ⟨q0, q1, q2, f0, f1, f2, hgl⟩ := b1.c3
        clear hB1 hb1 b1
        go_wp2_with fail
        exact bodyPost_ret (v := .tuple #[.agg #[.int .i64 (x : Int), .int .i64 (y : Int), .int .i64 (z : Int)], .int .i64 0]) (results_ph Try.results31 _ ((((B1.out.set_ 0 _).set_ 1 _).set_ 2 _).alloc _) rfl rfl) rfl ⟨by rw [HV.out.1, HV.out.2], (((HB1.out.setCell (Nat.le_refl _) _).setCell (Nat.le_refl _) _).setCell (Nat.le_refl _) _).alloc (by simp; exact HB1.out.size) _⟩
    · obtain ⟨r, hr⟩ : ∃ r, prErr ws = r := ⟨_, rfl⟩
      have HV := Lib.hid (HL1.out r hr (by rw [← hr]; exact hp0))
      have hv : prV ws = phV 0 0 0 := by simp [prV, hp0]
      rw [hr, hv] at HC
      rw [hr] at hp0 hval
      have hn1 : (r != 0) = true := by rw [bne_iff_ne]; exact hp0
      unfold phV at HC
      have HB0 : Hid (∀ w1 : World, Below (w.heap.size + 1) (w.alloc (.cells #[.int .i64 0, .int .i64 0, .int .i64 0] 61)) w1 → True) := Lib.hid fun _ _ => trivial
      clear hp0 hr HL1 hv
      go_enter Try.func31, Try.ntmps31
      go_wp2_with fail
      refine (imCheck_c A ws.length c _ hm).mono ?_
      rintro e w1 ⟨rfl, rfl⟩
      rw [HI.out]
      go_wp2_with fail
      refine HC.out.mono ?_
      rintro e w1 ⟨rfl, hB1⟩
      have HRW := Lib.hid (HB0.out _ hB1)
      have b1 := Bx.of_new hB1
      have hb1 := below_call hB1
      have B1 := Lib.hid b1
      have HB1 := Lib.hid hb1
      obtain ⟨q0, q1, q2, f0, f1, f2, hgl⟩ := b1.c3
      clear hB1 hb1 b1
      go_wp2_with fail
      exact bodyPost_ret (v := .tuple #[.agg #[.int .i64 0, .int .i64 0, .int .i64 0], .int .i64 r]) (results_ph Try.results31 _ ((((B1.out.set_ 0 _).set_ 1 _).set_ 2 _).alloc _) rfl rfl) rfl ⟨by rw [HV.out.1, HV.out.2]; rfl, (((HB1.out.setCell (Nat.le_refl _) _).setCell (Nat.le_refl _) _).setCell (Nat.le_refl _) _).alloc (by simp; exact HB1.out.size) _⟩
end Go.Proofs.Ytpifagclhhaniaa
