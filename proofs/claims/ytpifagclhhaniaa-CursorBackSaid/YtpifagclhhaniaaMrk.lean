/- Fields of a type, and the blocks of a right heap: what the program returns. -/
import Derived.Test.YtpifagclhhaniaaKndR
import Derived.Test.YtpifagclhhaniaaFwbQ
import Derived.Test.YtpifagclhhaniaaNxtP
import Derived.Deep.RegionHeld3
import Derived.Deep.DrawnRows
namespace Go.Proofs.Ytpifagclhhaniaa
open Go.RowKit

def FlRes (a b : Nat) (e : Ending) (w' : World) : Prop := ∃ A c, e = .returned (.tuple #[.slice A (krOut a b).length c, .bool (typOk a b)]) ∧ RdY w' w'.heap.size A (krOut a b) ∧ (krOut a b).length ≤ c
theorem krErr_eq (a b : Nat) : (krErr a b == 0) = typOk a b := by
  unfold krErr
  cases typOk a b <;> simp
set_option maxRecDepth 100000 in
set_option maxHeartbeats 2000000 in
theorem mFields_c (A : Option Addr) (ws : List Nat) (c n t : Nat) (w : World) (hn : ws.length = n) (hm : n ≤ 1000000) (h2 : 256 ≤ n) (ht : t < 8) (hr : RdW w w.heap.size A ws) (ho : ∀ x ∈ ws, x < 18446744073709551616) :
    Calls Try.prog 85 #[.slice A n c, .int .i64 (t : Int)] w fun e w' => FlRes (wd ws (96 + 2 * t)) (wd ws (96 + 2 * t + 1)) e w' ∧ Below w.heap.size w w' := by
  subst hn
  have hx := wd_lt ho (96 + 2 * t)
  have hy := wd_lt ho (96 + 2 * t + 1)
  have HC := Lib.hid (fun W => kRead_c (wd ws (96 + 2 * t)) (wd ws (96 + 2 * t + 1)) W hx hy)
  have HK := Lib.hid (krErr_eq (wd ws (96 + 2 * t)) (wd ws (96 + 2 * t + 1)))
  obtain ⟨b, off, rfl, hb, h0⟩ := RdW.at_ hr (show 96 + 2 * t < ws.length by omega)
  obtain ⟨b', off', e', -, h1⟩ := RdW.at_ hr (show 96 + 2 * t + 1 < ws.length by omega)
  cases e'
  rw [← wd_get] at h0 h1
  obtain ⟨x, hx2⟩ : ∃ x, wd ws (96 + 2 * t) = x := ⟨_, rfl⟩
  obtain ⟨y, hy2⟩ : ∃ y, wd ws (96 + 2 * t + 1) = y := ⟨_, rfl⟩
  rw [hx2] at h0 HC HK ⊢
  rw [hy2] at h1 HC HK ⊢
  have t0 : (0 : Int) ≤ (t : Int) := by omega
  have t8 : (t : Int) < 8 := by omega
  have w1 : IntKind.i64.wrap (2 * (t : Int)) = 2 * (t : Int) := IntWalk.i64_in _ (by omega)
  have w2 : IntKind.i64.wrap (96 + 2 * (t : Int)) = 96 + 2 * (t : Int) := IntWalk.i64_in _ (by omega)
  have w3 : IntKind.i64.wrap (96 + 2 * (t : Int) + 1) = 96 + 2 * (t : Int) + 1 := IntWalk.i64_in _ (by omega)
  have i1 : (0 : Int) ≤ 96 + 2 * (t : Int) := by omega
  have i2 : (96 : Int) + 2 * (t : Int) < (ws.length : Int) := by omega
  have i3 : (0 : Int) ≤ 96 + 2 * (t : Int) + 1 := by omega
  have i4 : (96 : Int) + 2 * (t : Int) + 1 < (ws.length : Int) := by omega
  have n1 : ((96 : Int) + 2 * (t : Int)).toNat = 96 + 2 * t := by omega
  have n2 : ((96 : Int) + 2 * (t : Int) + 1).toNat = 96 + 2 * t + 1 := by omega
  clear hr hx hy hx2 hy2 ho ht
  go_enter Try.func85, Try.ntmps85
  go_wp2_with fail
  go_region_held3 (fun X : World => X.cell? ⟨b, off + (96 + 2 * t), none⟩ = some (.int .u64 (x : Int)) ∧ X.cell? ⟨b, off + (96 + 2 * t + 1), none⟩ = some (.int .u64 (y : Int))) (go_keep)
    (first | (go_at_call 58; refine (HC.out _).mono ?_; rintro e w5 ⟨⟨A1, c1, rfl, hrd, hcl⟩, hB5⟩; have m0 := (hB5.cell (p := ⟨b, off + (96 + 2 * t), none⟩) hb).trans h0; have m1 := (hB5.cell (p := ⟨b, off + (96 + 2 * t + 1), none⟩) hb).trans h1; have HRD := Lib.hid hrd; have HCL := Lib.hid hcl; clear hrd hcl))
  go_wp2_with fail
  go_ret2
  exact ⟨⟨A1, c1, by rw [HK.out]; rfl, HRD.out, HCL.out⟩, (Below.refl _ _).drew.trans hB5⟩
/-- What heap gives. -/
def MhRes (ws : List Nat) (e : Ending) (w' : World) : Prop := ∃ A c, e = .returned (.tuple #[.slice A (hpOut ws).length c, .int .i64 (hpErr ws)]) ∧ RdB w' w'.heap.size A (hpOut ws) ∧ (hpOut ws).length ≤ c
theorem mhRes_no {ws : List Nat} {r : Int} {w' : World} (hr : hpErr ws = r) (h0 : r ≠ 0) : MhRes ws (.returned (.tuple #[.slice none 0 0, .int .i64 r])) w' := by
  subst hr
  have : hpOut ws = [] := by simp [hpOut, h0]
  exact ⟨none, 0, by rw [this]; rfl, by rw [this]; exact Rd.nil_, by rw [this]; simp⟩
theorem frErr_128 {ws : List Nat} (h : sizeOk (ws.length : Int) = true) : frArg ws.length 128 = false := by
  have := (sizeOk_iff _).1 h
  simp only [frArg, Bool.or_eq_false_iff, decide_eq_false_iff_not, bne_eq_false_iff_eq]; omega
theorem hp_of_fr {ws : List Nat} {r : Int} (h : frErr ws 128 = r) (h0 : r ≠ 0) : hpErr ws = r := by
  subst h
  cases hs : sizeOk (ws.length : Int) with
  | false => rw [hpErr_img hs, frErr_img hs]
  | true =>
    cases hb : blocks ws 128 with
    | none => rw [hpErr_none hs hb, frErr_none hs (frErr_128 hs) hb]
    | some l => exact absurd (frErr_some hs (frErr_128 hs) hb).1 h0
theorem fr_128 {ws : List Nat} (h : frErr ws 128 = 0) : sizeOk (ws.length : Int) = true ∧ blocks ws 128 = some (frOut ws 128) := by
  cases hs : sizeOk (ws.length : Int) with
  | false => rw [frErr_img hs] at h; cases h
  | true =>
    cases hb : blocks ws 128 with
    | none => rw [frErr_none hs (frErr_128 hs) hb] at h; cases h
    | some l => rw [(frErr_some hs (frErr_128 hs) hb).2]; exact ⟨rfl, rfl⟩
theorem all_snoc {ws : List Nat} {l : List Bk} {k : Nat} (hk : k < l.length) (h : (l.take k).all (fitB ws) = true) (h1 : fitB ws l[k] = true) : (l.take (k + 1)).all (fitB ws) = true := by
  rw [List.take_succ_eq_append_getElem hk, List.all_append, h]; simp [h1]
theorem all_bad {ws : List Nat} {l : List Bk} {k : Nat} (hk : k < l.length) (h1 : fitB ws l[k] = false) : l.all (fitB ws) = false := by
  cases hq : l.all (fitB ws) with
  | false => rfl
  | true => rw [List.all_eq_true] at hq; rw [hq _ (List.getElem_mem hk)] at h1; cases h1
theorem krOut_len {a b : Nat} (h : typOk a b = true) : (krOut a b).length = a % 256 := by simp [krOut, h, fldL_len]
theorem fit_obj {ws : List Nat} {b : Bk} (hk : b.kind = 1) : fitB ws b = (typOk (wd ws (tyA b)) (wd ws (tyA b + 1)) && b.size == ((objSz (krOut (wd ws (tyA b)) (wd ws (tyA b + 1))).length : Nat) : Int)) := by
  unfold fitB typedB
  rw [hk]
  cases ht : typOk (wd ws (tyA b)) (wd ws (tyA b + 1)) with
  | false => rfl
  | true => rw [krOut_len ht]; rfl
theorem fit_other {ws : List Nat} {b : Bk} (hk : b.kind ≠ 1) : fitB ws b = true := by
  unfold fitB
  rw [show (b.kind != 1) = true by rw [bne_iff_ne]; exact hk]; rfl
/-- An object of a heap: its type is one of eight. -/
theorem blocks_typ {ws : List Nat} {i : Nat} {l : List Bk} (h : blocks ws i = some l) (h2 : i % 2 = 0) {k : Nat} (hk : k < l.length) (h1 : l[k].kind = 1) : 0 ≤ l[k].typ ∧ l[k].typ < 8 := by
  obtain ⟨a, e, -, -, -, b4, -⟩ := blocks_at _ _ h h2 k hk
  have h7 := (hdOk_iff _).1 (bkAt_hd b4)
  have e1 : (bkAt ws a).kind = (rawBk (wd ws a)).kind := rfl
  have e2 : (bkAt ws a).typ = (rawBk (wd ws a)).typ := rfl
  rw [e] at h1 ⊢
  omega
theorem fr_bd (ws : List Nat) (h : sizeOk (ws.length : Int) = true) : 256 ≤ ws.length ∧ ws.length ≤ 2048 ∧ ws.length % 8 = 0 := by
  have := (sizeOk_iff _).1 h; omega

set_option maxRecDepth 100000 in
set_option maxHeartbeats 4000000 in
theorem mHeap_c (A : Option Addr) (ws : List Nat) (c n : Nat) (w : World) (hn : ws.length = n) (hm : n ≤ 9223372036854775807) (hr : RdW w w.heap.size A ws) (ho : ∀ x ∈ ws, x < 18446744073709551616) :
    Calls Try.prog 54 #[.slice A n c] w fun e w' => MhRes ws e w' ∧ Below w.heap.size w w' := by
  subst hn
  have HR := Lib.hid hr
  have HO := Lib.hid ho
  have HFR := Lib.hid (from_c A ws c ws.length 128 w rfl hm hr ho)
  clear hr ho
  cases hs : sizeOk (ws.length : Int)
  · have HI := Lib.hid (imgErr_no hs)
    have HE := Lib.hid (hpErr_img hs)
    clear hs
    go_enter Try.func54, Try.ntmps54
    go_wp2_with fail
    refine (imCheck_c A ws.length c w hm).mono ?_
    rintro e w1 ⟨rfl, rfl⟩
    rw [HI.out]
    go_wp2_with fail
    go_ret2
    exact ⟨mhRes_no HE.out (by omega), Below.refl _ _⟩
  · have HI := Lib.hid (imgErr_ok hs)
    obtain ⟨hb1, hb2, hb3⟩ := fr_bd ws hs
    have HS := Lib.hid hs
    clear hs hb3
    go_enter Try.func54, Try.ntmps54
    go_wp2_with fail
    refine (imCheck_c A ws.length c w hm).mono ?_
    rintro e w1 ⟨rfl, rfl⟩
    rw [HI.out]
    go_wp2_with fail
    refine HFR.out.mono ?_
    rintro e w1 ⟨⟨A1, c1, rfl, hrd, hcl⟩, hB1⟩
    have hz1 := hB1.size
    have hlen := frOut_len ws 128
    have H128 : Hid (frErr ws 128 = 0 → sizeOk (ws.length : Int) = true ∧ blocks ws 128 = some (frOut ws 128)) := Lib.hid fr_128
    have HNO : Hid (∀ r, frErr ws 128 = r → r ≠ 0 → hpErr ws = r) := Lib.hid (fun _ h h0 => hp_of_fr h h0)
    obtain ⟨l, hl⟩ : ∃ l, frOut ws 128 = l := ⟨_, rfl⟩
    rw [hl] at hrd hcl hlen H128 ⊢
    have HRD := Lib.hid hrd
    have HCL := Lib.hid hcl
    obtain ⟨r, hr⟩ : ∃ r, frErr ws 128 = r := ⟨_, rfl⟩
    have HER := Lib.hid hr
    rw [hr] at H128 ⊢
    clear hr hrd hcl hl
    by_cases hr0 : r = 0
    · subst hr0
      have HBL := Lib.hid (H128.out rfl).2
      clear H128 HNO
      go_wp2_with fail
      go_loopw [26] (fun i wr => ∃ k : Nat, k ≤ l.length ∧ i = .int .i64 k ∧ Hid ((l.take k).all (fitB ws) = true) ∧ Below w1.heap.size w1 wr) (fun i _ => l.length - (intOf i).toNat)
      case atStart => exact ⟨0, Nat.zero_le _, rfl, rfl, Below.refl _ _⟩
      case round =>
        obtain ⟨k, hk, rfl, HAL, hB⟩ := hrel
        have hz := hB.size
        by_cases hlt : k < l.length
        · obtain ⟨b, off, rfl, hbw, q0, q1, q2, q3, q4, q5⟩ := RdB.at_ (HRD.out.below hB) hlt
          have HTY := Lib.hid (fun h => blocks_typ HBL.out (by omega) hlt h)
          have HSN := Lib.hid (fun h => all_snoc hlt HAL.out h)
          have HBD := Lib.hid (fun h => hpErr_bad HS.out HBL.out (all_bad hlt h))
          obtain ⟨x, hx⟩ : ∃ x, l[k] = x := ⟨_, rfl⟩
          rw [hx] at q0 q1 q2 q3 q4 q5 HTY HSN HBD
          have HFO := Lib.hid (fun h => fit_obj (ws := ws) (b := x) h)
          have HFN := Lib.hid (fun h => fit_other (ws := ws) (b := x) h)
          have hty : tyA x = 96 + 2 * x.typ.toNat := rfl
          rw [hty] at HFO
          obtain ⟨xa, xs, xk, xt, xm, xn⟩ := x
          dsimp only at q0 q1 q2 q3 q4 q5 HTY HFO
          have hlm : (k : Int) < (l.length : Int) := by omega
          clear hx hty
          have hnew := Bx.new wr 47 #[.int .i64 xa, .int .i64 xs, .int .i64 xk, .int .i64 xt, .bool xm, .int .u64 (xn : Int)]
          by_cases hk1 : xk = 1
          · obtain ⟨t0, t8⟩ := HTY.out hk1
            obtain ⟨t, rfl⟩ := Int.eq_ofNat_of_zero_le t0
            have HF := Lib.hid (HFO.out hk1)
            simp only [Int.toNat_natCast] at HF
            subst hk1
            have HC := Lib.hid (fun W (h : RdW W W.heap.size A ws) => mFields_c A ws c ws.length t W rfl (by omega) hb1 (by omega) h HO.out)
            have hz1w := hz1
            have HRW := Lib.hid ((((HR.out.up hB1 hz1).up hB hz).alloc (Nat.le_refl _) (.cells #[.int .i64 xa, .int .i64 xs, .int .i64 1, .int .i64 (t : Int), .bool xm, .int .u64 (xn : Int)] 47)).more (B' := (wr.alloc (.cells #[.int .i64 xa, .int .i64 xs, .int .i64 1, .int .i64 (t : Int), .bool xm, .int .u64 (xn : Int)] 47)).heap.size) (by simp))
            obtain ⟨fx, hfx⟩ : ∃ fx, wd ws (96 + 2 * t) = fx := ⟨_, rfl⟩
            obtain ⟨fy, hfy⟩ : ∃ fy, wd ws (96 + 2 * t + 1) = fy := ⟨_, rfl⟩
            rw [hfx, hfy] at HC HF
            clear hnew hfx hfy HFO HFN HTY
            go_wp2_with fail
            refine (HC.out _ HRW.out).mono ?_
            rintro e w2 ⟨⟨A2, c2, rfl, hrd2, hcl2⟩, hB2⟩
            rw [World.size_alloc] at hB2
            have bx2 := Bx.of_new hB2
            have hb2 := hB.trans ((below_call hB2).mono hz)
            obtain ⟨c0, c1', c2', c3, c4, c5, cf, cz⟩ := bx2.c6
            have HB2 := Lib.hid hb2
            clear hrd2 hcl2 bx2 hB2 hb2 cf
            obtain ⟨ok, hok⟩ : ∃ ok, typOk fx fy = ok := ⟨_, rfl⟩
            obtain ⟨m, hm2⟩ : ∃ m, (krOut fx fy).length = m := ⟨_, rfl⟩
            have hm8 : m ≤ 255 := by
              rw [← hm2]; unfold krOut; split
              · rw [fldL_len]; have := Nat.mod_lt fx (show 0 < 256 by omega); omega
              · simp
            rw [hok, hm2] at HF ⊢
            clear hok hm2
            cases ok
            · have HB := Lib.hid (HBD.out (by rw [HF.out]; rfl))
              go_wp2_with fail
              go_ret2
              exact ⟨mhRes_no HB.out (by omega), hB1.trans (HB2.out.mono hz1)⟩
            · rw [Bool.true_and] at HF
              have hsz : ((objSz m : Nat) : Int) = ((m : Int) + 3) / 2 * 2 := by unfold objSz; omega
              rw [hsz] at HF
              by_cases hse : xs = ((m : Int) + 3) / 2 * 2
              · have hs1 : (xs != ((m : Int) + 3) / 2 * 2) = false := by rw [bne_eq_false_iff_eq]; exact hse
                have HY := Lib.hid (HSN.out (by rw [HF.out, beq_iff_eq]; exact hse))
                clear hse
                go_wp2_with fail
                go_roundw
                case rel => exact ⟨k + 1, by omega, by go_num, HY.out, HB2.out⟩
                case measure => simp [intOf]; omega
              · have hs1 : (xs != ((m : Int) + 3) / 2 * 2) = true := by rw [bne_iff_ne]; exact hse
                have HB := Lib.hid (HBD.out (by rw [HF.out, beq_eq_false_iff_ne]; exact hse))
                clear hse
                go_wp2_with fail
                go_ret2
                exact ⟨mhRes_no HB.out (by omega), hB1.trans (HB2.out.mono hz1)⟩
          · have hk2 : (xk != 1) = true := by rw [bne_iff_ne]; exact hk1
            have HY := Lib.hid (HSN.out (HFN.out hk1))
            clear hk1 hnew
            go_wp2_with fail
            go_roundw
            case rel => exact ⟨k + 1, by omega, by go_num, HY.out, hB.alloc hz _⟩
            case measure => simp [intOf]; omega
        · have HP := Lib.hid (hpErr_ok HS.out HBL.out (by have := HAL.out; rwa [List.take_of_length_le (by omega)] at this))
          go_wp2_with fail
          go_ret2
          exact ⟨⟨A1, c1, by rw [HP.out.1, HP.out.2]; rfl, by rw [HP.out.2]; exact HRD.out.up hB hz, by rw [HP.out.2]; exact HCL.out⟩, hB1.trans (hB.mono hz1)⟩
    · have hn1 : (r != 0) = true := by rw [bne_iff_ne]; exact hr0
      have HN := Lib.hid (HNO.out r HER.out hr0)
      have HR0 := Lib.hid hr0
      clear hr0 H128 HNO
      go_wp2_with fail
      go_ret2
      exact ⟨mhRes_no HN.out HR0.out, hB1⟩
end Go.Proofs.Ytpifagclhhaniaa
