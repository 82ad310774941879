/- TopReach: fixing and moving, one after the other (the walk). -/
import Derived.Test.YtoaepffpjoibaaaGreatTrP
import Derived.Test.YtoaepffpjoibaaaGreatKMove
import Derived.Test.YtoaepffpjoibaaaGreatKFix
import Derived.Test.YtoaepffpjoibaaaGreatKCursor
import Derived.Test.YtoaepffpjoibaaaGreatNxt
import Derived.Test.YtoaepffpjoibaaaGreatKStg1
import Derived.Test.YtoaepffpjoibaaaGreatEnt11
import Derived.Test.YtoaepffpjoibaaaGreatKStg2
namespace Go.Proofs.YtoaepffpjoibaaaGreat
open Go.RowKit

theorem putW_c (A B : Option Addr) (ws : List Nat) (E : List En) (c d n m : Nat) (w : World) (hn : ws.length = n) (hm : E.length = m) (h0 : 0 < n) (hn2 : n ≤ 1000000) (hm2 : m ≤ 1000000) (hr : RdW w w.heap.size A ws) (he : RdE w w.heap.size B E) :
    Calls Tryz.prog 9 #[.slice A n c, .slice B m d] w fun e w' => (∃ g d, e = .returned (.slice (some ⟨g, 0, none⟩) n d) ∧ n ≤ d ∧ RdW w' w'.heap.size (some ⟨g, 0, none⟩) (putE ws E)) ∧ Below w.heap.size w w' :=
  (put25_c A B ws E c d n m w.heap.size w hn hm h0 hn2 hm2 hr he (Nat.le_refl _)).mono (by
    rintro e w' ⟨g, d, rfl, hown, hB⟩
    rw [putE_len, hn] at hown ⊢
    exact ⟨⟨g, d, rfl, own_capR hown, Rd.of_own hown⟩, hB⟩)
theorem Sv.stepM {z0 z : List Nat} {M : List (Int × Int)} {i F Q : Nat} (h0 : hpErr z0 = 0) (hM : moves (hpOut z0) 128 = M) (h17 : wd z 17 = F) (h18 : wd z 18 = Q) (h : Sv z0 z i) (hi : i < M.length) : ∃ (m n T N : Nat) (K : Int), nxtErr z (F : Int) = 0 ∧ (nxtB z (F : Int)).val = .agg #[.int .i64 (m : Int), .int .i64 (n : Int), .int .i64 1, .int .i64 K, .bool true, .int .u64 (N : Int)] ∧ M[i] = ((m : Int), (Q : Int)) ∧ mvErr z (m : Int) (Q : Int) = 0 ∧ mvOut z (m : Int) (Q : Int) = mvEn z m Q ∧ (mvEn z m Q).length = n ∧ m + n ≤ z.length ∧ F ≤ m ∧ 2 ≤ n ∧ n ≤ 10 ∧ (∀ e ∈ mvEn z m Q, e.v < 18446744073709551616 ∧ (Q : Int) ≤ e.a) ∧ T = 0 ∧ Sv z0 (putE z (⟨17, m + n⟩ :: ⟨18, Q + n⟩ :: mvEn z m Q)) (i + 1) := by
  subst hM h17 h18
  obtain ⟨m, a1, a2, a3, a4, a5, a6, a7, a8, a9⟩ := h.step h0 hi
  obtain ⟨-, -, -, m', em, -, -, -, -, -, -, m7, m8, -⟩ := nxt_at a1
  obtain ⟨a, u, n, ea, eu, en, n2, n10, hu, hua, han, -, -, -, -, hhd⟩ := slide_plain a4
  have ea : m = a := by omega
  subst ea
  have hmm : m' = m := by
    have := em.symm.trans a2
    have h1 := congrArg Bk.at_ this
    rw [bkAt_at, bkAt_at] at h1
    omega
  subst hmm
  refine ⟨m', szAt z m', 0, (bkAt z m').next, (bkAt z m').typ, a1, ?_, a3, a4, a5, mvEn_len _ _ _, a6, a7, a8, by omega, fun e he => ⟨mvEn_lt h.lt hhd e he, ?_⟩, rfl, a9⟩
  · rw [em]; unfold Bk.val; rw [m7, m8]; rfl
  · obtain ⟨k, hk, rfl⟩ := List.getElem_of_mem he
    rw [mvEn_at]; omega
set_option maxRecDepth 100000 in
set_option maxHeartbeats 16000000 in
theorem fixed30_c (A MA : Option Addr) (wo x : List Nat) (M : List (Int × Int)) (c n t mc mn : Nat) (en : Int) (w : World) (hn : x.length = n) (L : Lay wo t) (T : Tr wo x) (hc : n ≤ c) (hM : moves (hpOut x) 128 = M) (hmn : M.length = mn) (hen : endOf (hpOut x) 128 = en) (hr : RdW w w.heap.size A x) (hm : RdM w w.heap.size MA M) :
    Calls Tryz.prog 18 #[.slice A n c, .slice MA mn mc, .int .i64 en] w fun e w' => e = .returned (.bool true) ∧ Below w.heap.size w w' := by
  subst hn hmn
  have hb := (sizeOk_iff _).1 T.size
  have h63 : x.length ≤ 9223372036854775807 := by omega
  have HFS := Lib.hid (fxSlots_c A x c x.length w rfl h63 hr T.lt)
  unfold FsRes at HFS
  rw [T.fs] at HFS
  have HOB := Lib.hid (fun (a : Int) W (h : RdW W W.heap.size A x) => fxObject_c A x c x.length a W rfl h63 h T.lt)
  unfold ObRes at HOB
  have HMK : Hid (∀ j (h : j < M.length), ∃ m q : Nat, M[j] = ((m : Int), (q : Int)) ∧ obErr x (m : Int) = 0) := Lib.hid fun j h => by
    subst hM
    obtain ⟨m, q, e, hmk⟩ := tr_mk T h
    exact ⟨m, q, e, T.ob m hmk⟩
  have HYS := Lib.hid (fun j (h : j < M.length) => trY_succ (x := x) h)
  have HYL : Hid (∀ j, j ≤ M.length → (trY x M j).length = x.length ∧ ∀ v ∈ trY x M j, v < 18446744073709551616) := Lib.hid fun j hj => by
    subst hM
    have := fxp_run T j hj
    exact ⟨this.len, this.lt⟩
  have HST : Hid (Sv (putE (trY x M M.length) (phE 4 128 128)) (putE (trY x M M.length) (phE 4 128 128)) 0 ∧ hpErr (putE (trY x M M.length) (phE 4 128 128)) = 0 ∧ hpOut (putE (trY x M M.length) (phE 4 128 128)) = hpOut x) := Lib.hid (by
    subst hM
    exact sv_start L T (fxp_run T _ (Nat.le_refl _)))
  have HOL : Hid (∀ a, (obOut x a).length ≤ 1000000) := Lib.hid fun a => by
    by_cases h : obErr x a = 0
    · obtain ⟨f, -, -, -, -, q5, -⟩ := ob_plain h
      omega
    · unfold obOut
      split
      · rename_i h1
        split
        · simp
        · rename_i b h2
          cases hmk : b.mark with
          | false => simp
          | true =>
            cases ho : obFix x (fxMv x) (rfsB x b) with
            | none => simp
            | some o => exact absurd (ob_ok h1 h2 hmk ho).1 h
      · simp
  have hfl : (fsOut x).length ≤ 1000000 := by
    obtain ⟨-, -, -, -, -, -, -, -, -, q, -⟩ := fs_plain T.fs
    omega
  have hMl : M.length ≤ 1000000 := by
    rw [← hM]
    have h1 := moves_len_le (hpOut x) 128
    have h2 := hpOut_len x
    omega
  have hx0 : 0 < x.length := by omega
  have hx1 : x.length ≤ 1000000 := by omega
  have HR := Lib.hid hr
  have HM := Lib.hid hm
  have HEN : Hid (∀ z0, hpOut z0 = hpOut x → moves (hpOut z0) 128 = M ∧ endOf (hpOut z0) 128 = en) := Lib.hid fun z0 h => ⟨by rw [h, hM], by rw [h, hen]⟩
  have H63 := Lib.hid h63
  have HC := Lib.hid hc
  have HPUT := Lib.hid (fun A B (ws : List Nat) (E : List En) c d W (hn : ws.length = x.length) (hm2 : E.length ≤ 1000000) (hr : RdW W W.heap.size A ws) (he : RdE W W.heap.size B E) => putW_c A B ws E c d x.length E.length W hn rfl hx0 hx1 hm2 hr he)
  obtain ⟨fl, hfle⟩ : ∃ fl, fsOut x = fl := ⟨_, rfl⟩
  have HY0 : Hid (trY x M 0 = putE x fl) := Lib.hid (by rw [trY_zero, hfle])
  rw [hfle] at HFS hfl
  have HFL := Lib.hid hfl
  have HML := Lib.hid hMl
  clear hr hm hb h63 hc hM hen L T hfle hfl hx0 hx1
  go_enter Tryz.func18, Tryz.ntmps18
  go_wp2_with fail
  refine HFS.out.mono ?_
  rintro e w1 ⟨⟨A1, c1, rfl, hr1, -⟩, hB1⟩
  have HB1 := Lib.hid hB1
  have HE1 := Lib.hid hr1
  have HR1 := Lib.hid (HR.out.up hB1 hB1.size)
  clear hr1 hB1
  go_wp2_with fail
  refine (HPUT.out A A1 x fl c c1 w1 rfl HFL.out HR1.out HE1.out).mono ?_
  rintro e w2 ⟨⟨g2, d2, rfl, hd2, hr2⟩, hB2⟩
  have HB2 := Lib.hid (HB1.out.trans (hB2.mono HB1.out.size))
  rw [← HY0.out] at hr2
  have HR2 := Lib.hid hr2
  have HD2 := Lib.hid hd2
  clear hr2 hB2 hd2
  go_wp2_with fail
  go_loopw [9, 10] (fun vy i wr => ∃ (j g d : Nat), j ≤ M.length ∧ i = .int .i64 j ∧ vy = .slice (some ⟨g, 0, none⟩) x.length d ∧ Hid (x.length ≤ d) ∧ Hid (RdW wr wr.heap.size (some ⟨g, 0, none⟩) (trY x M j)) ∧ Below w.heap.size w wr) (fun _ i _ => M.length - (intOf i).toNat)
  case atStart => exact ⟨0, g2, d2, Nat.zero_le _, rfl, rfl, HD2, HR2, HB2.out⟩
  case round =>
    obtain ⟨j, g, d, hj, rfl, rfl, HD, HRY, hB⟩ := hrel
    have hz := hB.size
    by_cases hlt : j < M.length
    · obtain ⟨b, off, rfl, hb, p0, p1⟩ := RdM.at_ (Rd.below HM.out hB) hlt
      obtain ⟨m, q, em, he0⟩ := HMK.out j hlt
      have HYN := Lib.hid (HYS.out j hlt)
      rw [em] at p0 HYN
      have HO := Lib.hid (HOB.out (m : Int) wr (HR.out.up hB hz))
      rw [he0] at HO
      have HL := Lib.hid (HOL.out (m : Int))
      obtain ⟨E, hE⟩ : ∃ E, obOut x (m : Int) = E := ⟨_, rfl⟩
      dsimp only at p0 HYN
      rw [hE] at HO HYN HL
      have hji : (j : Int) < (M.length : Int) := by omega
      have hj0 : (0 : Int) ≤ (j : Int) := by omega
      have HYLj := Lib.hid (HYL.out j hj)
      have HBw := Lib.hid hB
      clear em he0 hE p1
      go_wp2_with fail
      refine HO.out.mono ?_
      rintro e w3 ⟨⟨A3, c3, rfl, hr3, -⟩, hB3⟩
      have HB3 := Lib.hid (HBw.out.trans (hB3.mono hz))
      have HE3 := Lib.hid hr3
      have HRY3 := Lib.hid (HRY.out.up hB3 hB3.size)
      clear hr3 hB3
      go_wp2_with fail
      refine (HPUT.out (some ⟨g, 0, none⟩) A3 (trY x M j) E d c3 w3 HYLj.out.1 HL.out HRY3.out HE3.out).mono ?_
      rintro e w4 ⟨⟨g4, d4, rfl, hd4, hr4⟩, hB4⟩
      have HB4 := Lib.hid (HB3.out.trans (hB4.mono HB3.out.size))
      rw [← HYN.out] at hr4
      have HR4 := Lib.hid hr4
      have HD4 := Lib.hid hd4
      clear hr4 hB4 hd4
      go_wp2_with fail
      go_roundw
      case rel => exact ⟨j + 1, g4, d4, by omega, by go_num, rfl, HD4, HR4, HB4.out⟩
      case measure => simp [intOf]; omega
    · have hjM : j = M.length := by omega
      rw [hjM] at HRY
      have hjd : decide ((j : Int) < (M.length : Int)) = false := by rw [decide_eq_false_iff_not]; omega
      have hjdn : decide (j < M.length) = false := by rw [decide_eq_false_iff_not]; exact hlt
      obtain ⟨z0, hz0⟩ : ∃ z0, putE (trY x M M.length) (phE 4 128 128) = z0 := ⟨_, rfl⟩
      have HSV0 := Lib.hid (show Sv z0 (putE (trY x M M.length) (phE 4 128 128)) 0 by rw [hz0] at HST ⊢; exact HST.out.1)
      have HZ : Hid (hpErr z0 = 0 ∧ moves (hpOut z0) 128 = M ∧ endOf (hpOut z0) 128 = en) := Lib.hid (by
        rw [hz0] at HST
        exact ⟨HST.out.2.1, HEN.out z0 HST.out.2.2⟩)
      have HYLM := Lib.hid (HYL.out M.length (Nat.le_refl _))
      have HBj := Lib.hid hB
      obtain ⟨y0, hy0⟩ : ∃ y0, trY x M M.length = y0 := ⟨_, rfl⟩
      rw [hy0] at HYLM HSV0 HRY
      clear hz0 hy0 HST hlt hj HYS HYL HMK HOB HOL HEN hjM
      go_wp2_with fail
      go_loopw [9, 13, 14, 15] (fun vy vf vt i wr => ∃ (y : List Nat) (j F Q g d : Nat), j ≤ M.length ∧ i = .int .i64 j ∧ vy = .slice (some ⟨g, 0, none⟩) x.length d ∧ vf = .int .i64 (F : Int) ∧ vt = .int .i64 (Q : Int) ∧ Hid (x.length ≤ d) ∧ Hid (y.length = x.length ∧ ∀ v ∈ y, v < 18446744073709551616) ∧ Hid (Sv z0 (putE y (phE 4 F Q)) j) ∧ Hid (RdW wr wr.heap.size (some ⟨g, 0, none⟩) y) ∧ Below w.heap.size w wr) (fun _ _ _ i _ => M.length - (intOf i).toNat)
      case atStart => exact ⟨y0, 0, 128, 128, g, d, Nat.zero_le _, rfl, rfl, rfl, rfl, HD, HYLM, HSV0, HRY, HBj.out⟩
      case round =>
        obtain ⟨y, j, F, Q, g, d, hj, rfl, rfl, rfl, rfl, HD, HYL, HSV, HRY, hB⟩ := hrel
        have hz := hB.size
        obtain ⟨z, hzd⟩ : ∃ z, putE y (phE 4 F Q) = z := ⟨_, rfl⟩
        have hzl : z.length = y.length := by rw [← hzd, putE_len]
        have hyl := HYL.out.1
        rw [hzd] at HSV
        obtain ⟨s1, s2, s3, s4, s5, s6, -⟩ := HSV.out.parts
        obtain ⟨-, -, h17, h18, -⟩ := line_at (y := y) (p := 4) (f := F) (t := Q) (by omega)
        rw [hzd] at h17 h18
        rw [h18] at s1 s2
        rw [h17] at s2 s3 s4
        have hck := HSV.out.ck
        have hzlt := HSV.out.lt
        have hlf := (HSV.out.left HZ.out.1).1
        rw [HZ.out.2.1] at hlf
        have hzx : z.length = x.length := by omega
        have HE := Lib.hid (fun W => ent11_c 4 F Q W (by omega) (by omega) (by omega))
        unfold phV at HE
        simp only [Int.cast_ofNat_Int] at HE
        have HP := Lib.hid (fun A B c d W (hr : RdW W W.heap.size A y) (he : RdE W W.heap.size B (phE 4 F Q)) => putW_c A B y (phE 4 F Q) c d x.length 3 W hyl rfl (by omega) (by omega) (by omega) hr he)
        rw [hzd] at HP
        have HL := Lib.hid (fun A c W (hc : x.length ≤ c) (hr : RdW W W.heap.size A z) => cLeft_c A z c x.length W hzx H63.out hc hr hzlt)
        rw [hck] at HL
        have HBx := Lib.hid hB
        by_cases hlt : j < M.length
        · have HN := Lib.hid (fun A c W (hr : RdW W W.heap.size A z) => next_c A z c x.length (F : Int) W hzx H63.out (by omega) hr hzlt)
          obtain ⟨m, n, -, N, K, e1, e2, e3, e4, e5, e6, e7, e8, e9, e10, e11, -, hsv⟩ := HSV.out.stepM HZ.out.1 HZ.out.2.1 h17 h18 hlt
          rw [e1, e2] at HN
          have HM2 := Lib.hid (fun A c W (hr : RdW W W.heap.size A z) => sMove_c A z c x.length (m : Int) (Q : Int) W hzx H63.out (by omega) (by omega) hr hzlt)
          unfold MvRes at HM2
          rw [e4, e5, e6] at HM2
          have HQ := Lib.hid (fun A B c d W (hr : RdW W W.heap.size A y) (he : RdE W W.heap.size B (mvEn z m Q)) => putW_c A B y (mvEn z m Q) c d x.length n W hyl e6 (by omega) (by omega) (by omega) hr he)
          have HYN : Hid ((putE y (mvEn z m Q)).length = x.length ∧ ∀ v ∈ putE y (mvEn z m Q), v < 18446744073709551616) := Lib.hid ⟨by rw [putE_len, hyl], putE_lt _ _ HYL.out.2 fun e he => (e11 e he).1⟩
          have HSN : Hid (Sv z0 (putE (putE y (mvEn z m Q)) (phE 4 (m + n) (Q + n))) (j + 1)) := Lib.hid (by
            rw [line_swap (f := F) (t := Q) (by omega) (fun e he => by have := (e11 e he).2; omega), hzd]
            exact hsv)
          obtain ⟨b, off, hMA, hb, p0, p1⟩ := RdM.at_ (Rd.below HM.out hB) hlt
          rw [e3] at p0 p1
          dsimp only at p0 p1
          obtain ⟨E, hE⟩ : ∃ E, mvEn z m Q = E := ⟨_, rfl⟩
          rw [hE] at HM2 HQ HYN HSN
          obtain ⟨y2, hy2⟩ : ∃ y2, putE y E = y2 := ⟨_, rfl⟩
          rw [hy2] at HQ HYN HSN
          obtain ⟨lf, hlfe⟩ : ∃ lf, lfN z = lf := ⟨_, rfl⟩
          rw [hlfe] at HL hlf
          have hje : IntKind.i64.wrap ((M.length : Int) - (j : Int)) = (lf : Int) := by
            rw [IntWalk.i64_in _ (by have := HML.out; omega)]; omega
          have hd0 : ((lf : Int) != (lf : Int)) = false := bne_self_eq_false _
          have hd1 : ((m : Int) != (m : Int)) = false := bne_self_eq_false _
          have hd2 : ((Q : Int) != (Q : Int)) = false := bne_self_eq_false _
          have hd3 : ((n : Int) != (n : Int)) = false := bne_self_eq_false _
          have w1 : IntKind.i64.wrap ((m : Int) + (n : Int)) = (m : Int) + (n : Int) := IntWalk.i64_in _ (by omega)
          have w2x : IntKind.i64.wrap ((Q : Int) + (n : Int)) = (Q : Int) + (n : Int) := IntWalk.i64_in _ (by omega)
          have HCA : Hid ((((m + n : Nat)) : Int) = (m : Int) + (n : Int)) := Lib.hid (by omega)
          have HCU : Hid ((((Q + n : Nat)) : Int) = (Q : Int) + (n : Int)) := Lib.hid (by omega)
          have hji : (j : Int) < (M.length : Int) := by omega
          have hj0 : (0 : Int) ≤ (j : Int) := by omega
          have HP0 := Lib.hid p0
          have HP1 := Lib.hid p1
          have HBb := Lib.hid hb
          subst hMA
          clear hzd hzl hyl s1 s2 s3 s4 s5 s6 h17 h18 hck hzlt hzx hB e1 e2 e3 e4 e5 e6 e7 e8 e9 e10 e11 hsv hE hy2 hlfe hlf p0 p1 hb
          go_wp2_with fail
          refine (HE.out _).mono ?_
          rintro e w3 ⟨⟨g3, rfl, hre3⟩, hB3⟩
          have HB3 := Lib.hid (HBx.out.trans (hB3.mono hz))
          have HE3 := Lib.hid hre3
          have HRY3 := Lib.hid (HRY.out.up hB3 hB3.size)
          clear hre3 hB3
          go_wp2_with fail
          refine (HP.out _ _ _ _ _ HRY3.out HE3.out).mono ?_
          rintro e w4 ⟨⟨g4, d4, rfl, hd4, hr4⟩, hB4⟩
          have HB4 := Lib.hid (HB3.out.trans (hB4.mono HB3.out.size))
          have HRY4 := Lib.hid (HRY3.out.up hB4 hB4.size)
          have HRZ4 := Lib.hid hr4
          have HD4 := Lib.hid hd4
          clear hr4 hB4 hd4
          go_wp2_with fail
          refine (HL.out _ _ _ HD4.out HRZ4.out).mono ?_
          rintro e w5 ⟨rfl, hB5⟩
          have HB5 := Lib.hid (HB4.out.trans (hB5.mono HB4.out.size))
          have HRY5 := Lib.hid (HRY4.out.up hB5 hB5.size)
          have HRZ5 := Lib.hid (HRZ4.out.up hB5 hB5.size)
          clear hB5
          go_wp2_with fail
          refine (HN.out _ _ _ HRZ5.out).mono ?_
          rintro e w6 ⟨rfl, hB6⟩
          have hb6 := HB5.out.trans (hB6.mono HB5.out.size)
          have XB := Lib.hid (Bx.new w6 48 #[.int .i64 (m : Int), .int .i64 (n : Int), .int .i64 1, .int .i64 K, .bool true, .int .u64 (N : Int)])
          have hb7 := hb6.alloc hb6.size (.cells #[.int .i64 (m : Int), .int .i64 (n : Int), .int .i64 1, .int .i64 K, .bool true, .int .u64 (N : Int)] 48)
          have hs67 : w6.heap.size < (w6.alloc (.cells #[.int .i64 (m : Int), .int .i64 (n : Int), .int .i64 1, .int .i64 K, .bool true, .int .u64 (N : Int)] 48)).heap.size := XB.out.lt
          have hbu := Below.alloc (Below.refl w6.heap.size w6) (Nat.le_refl _) (.cells #[.int .i64 (m : Int), .int .i64 (n : Int), .int .i64 1, .int .i64 K, .bool true, .int .u64 (N : Int)] 48)
          have HRY7 := Lib.hid ((HRY5.out.up hB6 hB6.size).up hbu hbu.size)
          have HRZ7 := Lib.hid ((HRZ5.out.up hB6 hB6.size).up hbu hbu.size)
          have q0 := ((hb7.cell (p := ⟨b, off + j * 2, none⟩) (by have := HBb.out; omega)).trans ((HBx.out.cell (p := ⟨b, off + j * 2, none⟩) (by have := HBb.out; omega)).symm)).trans HP0.out
          have q1 := ((hb7.cell (p := ⟨b, off + j * 2 + 1, none⟩) (by have := HBb.out; omega)).trans ((HBx.out.cell (p := ⟨b, off + j * 2 + 1, none⟩) (by have := HBb.out; omega)).symm)).trans HP1.out
          obtain ⟨c0, c1, -⟩ := XB.out.c6
          have HB7 := Lib.hid hb7
          clear hB6 hb6 hb7 hbu
          go_wp2_with fail
          obtain ⟨W7, hW7⟩ : ∃ W7, w6.alloc (.cells #[.int .i64 (m : Int), .int .i64 (n : Int), .int .i64 1, .int .i64 K, .bool true, .int .u64 (N : Int)] 48) = W7 := ⟨_, rfl⟩
          rw [hW7] at c0 c1 q0 q1 XB HB7 HRY7 HRZ7 hs67 ⊢
          clear hW7
          go_region_held3 (fun X : World => X.cell? ⟨b, off + j * 2, none⟩ = some (.int .i64 (m : Int)) ∧ X.cell? ⟨b, off + j * 2 + 1, none⟩ = some (.int .i64 (Q : Int)) ∧ X.cell? ⟨w6.heap.size, 0, none⟩ = some (.int .i64 (m : Int))) (go_keep) (fail)
          have c0' : W7.drew.cell? ⟨w6.heap.size, 0, none⟩ = some (.int .i64 (m : Int)) := c0
          have HB8 : Hid (Below w.heap.size w W7.drew) := Lib.hid HB7.out.drew
          have HRY8 : Hid (RdW W7.drew W7.drew.heap.size (some ⟨g, 0, none⟩) y) := HRY7
          have HRZ8 : Hid (RdW W7.drew W7.drew.heap.size (some ⟨g4, 0, none⟩) z) := HRZ7
          have XB8 : Hid (Bx W7.drew w6.heap.size 48 #[.int .i64 (m : Int), .int .i64 (n : Int), .int .i64 1, .int .i64 K, .bool true, .int .u64 (N : Int)]) := XB
          have hs68 : w6.heap.size < W7.drew.heap.size := hs67
          obtain ⟨W8, hW8⟩ : ∃ W8, W7.drew = W8 := ⟨_, rfl⟩
          rw [hW8] at c0' XB8 HB8 HRY8 HRZ8 hs68 ⊢
          clear hW8 c0 c1 q0 q1 XB HB7 HRY7 HRZ7 hs67
          go_wp2_with fail
          refine (HM2.out _ _ _ HRZ8.out).mono ?_
          rintro e w9 ⟨⟨A9, c9, rfl, hre9, -⟩, hB9⟩
          have HB9 := Lib.hid (HB8.out.trans (hB9.mono HB8.out.size))
          have HRY9 := Lib.hid (HRY8.out.up hB9 hB9.size)
          have HE9 := Lib.hid hre9
          have XB9 := Lib.hid (XB8.out.up hB9 hs68)
          clear hre9 hB9 c0'
          obtain ⟨c0, c1, -⟩ := XB9.out.c6
          go_wp2_with fail
          refine (HQ.out _ _ _ _ _ HRY9.out HE9.out).mono ?_
          rintro e w10 ⟨⟨g10, d10, rfl, hd10, hr10⟩, hB10⟩
          have HB10 := Lib.hid (HB9.out.trans (hB10.mono HB9.out.size))
          have HR10 := Lib.hid hr10
          have HD10 := Lib.hid hd10
          have xb10 := XB9.out.up hB10 XB9.out.lt
          clear hr10 hB10 hd10 c0 c1
          obtain ⟨c0, c1, -⟩ := xb10.c6
          go_wp2_with fail
          go_region_held3 (fun X : World => X.cell? ⟨w6.heap.size, 0, none⟩ = some (.int .i64 (m : Int)) ∧ X.cell? ⟨w6.heap.size, 1, none⟩ = some (.int .i64 (n : Int))) (go_keep) (fail)
          go_wp2_with fail
          go_roundw
          case rel => exact ⟨y2, j + 1, m + n, Q + n, g10, d10, by omega, by go_num, rfl, by rw [HCA.out], by rw [HCU.out], HD10, HYN, HSN, HR10, HB10.out.drew⟩
          case measure => simp [intOf]; omega
        · have hjM : j = M.length := by omega
          rw [hjM, ← HZ.out.2.1] at HSV
          obtain ⟨k1, k2⟩ := HSV.out.end_ HZ.out.1
          rw [HZ.out.2.2, h18] at k2
          rw [k1] at HL
          simp only [Int.cast_ofNat_Int] at HL
          have hjd : decide ((j : Int) < (M.length : Int)) = false := by rw [decide_eq_false_iff_not]; omega
          have hjdn : decide (j < M.length) = false := by rw [decide_eq_false_iff_not]; exact hlt
          have hqe : ((Q : Int) == en) = true := by rw [beq_iff_eq]; exact k2.symm
          have hqd : decide ((Q : Int) = en) = true := by rw [decide_eq_true_iff]; exact k2.symm
          clear hzd hzl hyl s1 s2 s3 s4 s5 s6 h17 h18 hck hzlt hzx hB hlf k1 k2 HSV hjM
          go_wp2_with fail
          refine (HE.out _).mono ?_
          rintro e w3 ⟨⟨g3, rfl, hre3⟩, hB3⟩
          have HB3 := Lib.hid (HBx.out.trans (hB3.mono hz))
          have HE3 := Lib.hid hre3
          have HRY3 := Lib.hid (HRY.out.up hB3 hB3.size)
          clear hre3 hB3
          go_wp2_with fail
          refine (HP.out _ _ _ _ _ HRY3.out HE3.out).mono ?_
          rintro e w4 ⟨⟨g4, d4, rfl, hd4, hr4⟩, hB4⟩
          have HB4 := Lib.hid (HB3.out.trans (hB4.mono HB3.out.size))
          have HRZ4 := Lib.hid hr4
          have HD4 := Lib.hid hd4
          clear hr4 hB4 hd4
          go_wp2_with fail
          refine (HL.out _ _ _ HD4.out HRZ4.out).mono ?_
          rintro e w5 ⟨rfl, hB5⟩
          have HB5 := Lib.hid (HB4.out.trans (hB5.mono HB4.out.size))
          clear hB5
          go_wp2_with fail
          go_ret
          exact ⟨rfl, HB5.out⟩
end Go.Proofs.YtoaepffpjoibaaaGreat
