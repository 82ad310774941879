/- Fixing references: the references of the object at an address, and its entries. -/
import Derived.Test.YtpifagclhhaniaaFix2
namespace Go.Proofs.Ytpifagclhhaniaa
open Go.RowKit

theorem obj_parts {ws : List Nat} (h : hpErr ws = 0) {a : Int} {b : Bk} (ho : objF (frOut ws 128) a = some b) : ∃ (m t : Nat) (xs xk : Int) (xm : Bool) (xn : Nat), a = (m : Int) ∧ b = ⟨(m : Int), xs, xk, (t : Int), xm, xn⟩ ∧ t < 8 ∧ isObj ws m ∧ m < ws.length ∧
    (rfsB ws b).length ≤ 8 ∧ ∀ k (hk : k < (rfsB ws b).length), ∃ r : Nat, (rfsB ws b)[k] = (r : Int) ∧ m ≤ r ∧ r < ws.length := by
  obtain ⟨m, e1, e2, e3⟩ := obj_in h ho
  have ht8 : wd ws m / 512 % 128 < 8 := by
    have h7 := (hdOk_iff _).1 (bkAt_hd e3.2.2.2.1)
    have h5 := e3.2.2.2.2.1
    have h6 : (rawBk (wd ws m)).typ = ((wd ws m / 512 % 128 : Nat) : Int) := rfl
    omega
  have hf : fldB ws b = flds ws m := by rw [e2]; rfl
  refine ⟨m, wd ws m / 512 % 128, (bkAt ws m).size, (bkAt ws m).kind, (bkAt ws m).mark, (bkAt ws m).next, e1, e2, ht8, e3, e3.2.2.1, ?_, fun k hk => ?_⟩
  · have h1 := rfTo_len (fldB ws b) b.at_ (fldB ws b).length
    have h2 := flds_le ws m
    unfold rfsB
    rw [hf] at h1 ⊢
    omega
  · have hm := List.getElem_mem hk
    unfold rfsB at hm
    obtain ⟨i, i1, i2, i3⟩ := rfTo_mem.1 hm
    rw [hf] at i1
    have hin := flds_in e3 i1
    have hbm : b.at_ = (m : Int) := by rw [e2]; rfl
    refine ⟨m + 2 + i, ?_, by omega, hin⟩
    have : (rfsB ws b)[k] = b.at_ + 2 + (i : Int) := i3
    rw [this, hbm]; omega

def RsRes (ws : List Nat) (a : Int) (e : Ending) (w' : World) : Prop := ∃ A c, e = .returned (.tuple #[.slice A (rsOut ws a).length c, .int .i64 (rsErr ws a)]) ∧ RdI w' w'.heap.size A (rsOut ws a) ∧ (rsOut ws a).length ≤ c
set_option maxRecDepth 100000 in
set_option maxHeartbeats 4000000 in
theorem fxRefsAt_c (A : Option Addr) (ws : List Nat) (c n : Nat) (a : Int) (w : World) (hn : ws.length = n) (hm : n ≤ 9223372036854775807) (hr : RdW w w.heap.size A ws) (ho : ∀ x ∈ ws, x < 18446744073709551616) :
    Calls Try.prog 37 #[.slice A n c, .int .i64 a] w fun e w' => RsRes ws a e w' ∧ Below w.heap.size w w' := by
  subst hn
  have HR := Lib.hid hr
  have HCK := Lib.hid (mCheck_c A ws c ws.length w rfl hm hr ho)
  have HOB := Lib.hid (fun W (h : RdW W W.heap.size A ws) => fxObj_c A ws c ws.length a W rfl hm h ho)
  have HO := Lib.hid ho
  clear hr ho
  by_cases h0 : hpErr ws = 0
  · rw [h0] at HCK
    cases hob : objF (frOut ws 128) a with
    | none =>
      have HE : Hid (rsErr ws a = 6 ∧ rsOut ws a = []) := Lib.hid (by simp [rsErr, rsOut, obj6Err, h0, hob])
      rw [show obj6 ws a = noBk by simp [obj6, hob], show obj6Err ws a = 6 by simp [obj6Err, hob]] at HOB
      unfold noBk Bk.val at HOB
      simp only [Int.cast_ofNat_Int] at HOB
      clear h0 hob
      go_enter Try.func37, Try.ntmps37
      go_wp2_with fail
      refine HCK.out.mono ?_
      rintro e w1 ⟨rfl, hB1⟩
      have HB1 := Lib.hid hB1
      have HR1 := Lib.hid (HR.out.up hB1 hB1.size)
      clear hB1
      go_wp2_with fail
      refine (HOB.out _ HR1.out).mono ?_
      rintro e w2 ⟨rfl, hB2⟩
      have hb2 := HB1.out.trans (hB2.mono HB1.out.size)
      go_wp2_with fail
      go_ret2
      exact ⟨⟨none, 0, by rw [HE.out.1, HE.out.2]; rfl, by rw [HE.out.2]; exact Rd.nil_, by rw [HE.out.2]; exact Nat.le_refl _⟩, hb2.alloc hb2.size _⟩
    | some b =>
      obtain ⟨m, t, xs, xk, xm, xn, ea, eb, ht8, hobj, hml, -, -⟩ := obj_parts h0 hob
      subst ea
      have hbd := fr_bd ws (hpErr_zero h0).1
      have HE : Hid (rsErr ws (m : Int) = 0 ∧ rsOut ws (m : Int) = rfsB ws b) := Lib.hid (by simp [rsErr, rsOut, obj6Err, h0, hob])
      rw [show obj6 ws (m : Int) = b by simp [obj6, hob], show obj6Err ws (m : Int) = 0 by simp [obj6Err, hob]] at HOB
      have HRF := Lib.hid (fun W (h : RdW W W.heap.size A ws) => fxRefs_c A ws c ws.length t m xs xk xm xn W rfl (by omega) (by omega) ht8 (by omega) h HO.out)
      rw [← eb] at HRF
      obtain ⟨R, hR⟩ : ∃ R, rfsB ws b = R := ⟨_, rfl⟩
      rw [hR] at HRF HE
      rw [eb] at HOB
      unfold Bk.val at HOB
      dsimp only at HOB
      clear h0 hob eb ht8 hobj hml hbd hR
      go_enter Try.func37, Try.ntmps37
      go_wp2_with fail
      refine HCK.out.mono ?_
      rintro e w1 ⟨rfl, hB1⟩
      have HB1 := Lib.hid hB1
      have HR1 := Lib.hid (HR.out.up hB1 hB1.size)
      clear hB1
      go_wp2_with fail
      refine (HOB.out _ HR1.out).mono ?_
      rintro e w2 ⟨rfl, hB2⟩
      have hb2 := HB1.out.trans (hB2.mono HB1.out.size)
      have HB2 := Lib.hid (hb2.alloc hb2.size (.cells #[.int .i64 (m : Int), .int .i64 xs, .int .i64 xk, .int .i64 (t : Int), .bool xm, .int .u64 (xn : Int)] 47))
      have HR2 := Lib.hid (HR.out.up HB2.out HB2.out.size)
      clear hB2 hb2
      go_wp2_with fail
      refine (HRF.out _ HR2.out).mono ?_
      rintro e w3 ⟨⟨A3, c3, rfl, hrd3, hc3⟩, hB3⟩
      have HR3 := Lib.hid hrd3
      have HC3 := Lib.hid hc3
      have HB3 := Lib.hid (HB2.out.trans (hB3.mono HB2.out.size))
      clear hrd3 hc3 hB3
      go_wp2_with fail
      go_ret2
      exact ⟨⟨A3, c3, by rw [HE.out.1, HE.out.2]; rfl, by rw [HE.out.2]; exact HR3.out, by rw [HE.out.2]; exact HC3.out⟩, HB3.out⟩
  · obtain ⟨r, hr⟩ : ∃ r, hpErr ws = r := ⟨_, rfl⟩
    have HE : Hid (rsErr ws a = r ∧ rsOut ws a = []) := Lib.hid ⟨by unfold rsErr; rw [if_neg h0, hr], by unfold rsOut; rw [if_neg h0]⟩
    rw [hr] at HCK h0
    have hrn : (r != 0) = true := by rw [bne_iff_ne]; exact h0
    clear h0 hr
    go_enter Try.func37, Try.ntmps37
    go_wp2_with fail
    refine HCK.out.mono ?_
    rintro e w1 ⟨rfl, hB1⟩
    go_wp2_with fail
    go_ret2
    exact ⟨⟨none, 0, by rw [HE.out.1, HE.out.2]; rfl, by rw [HE.out.2]; exact Rd.nil_, by rw [HE.out.2]; exact Nat.le_refl _⟩, hB1⟩

theorem fxMv_len (ws : List Nat) : (fxMv ws).length ≤ 2048 := by
  unfold fxMv
  split
  · exact rdMv_len ws 128 128
  · simp
def ObRes (ws : List Nat) (a : Int) (e : Ending) (w' : World) : Prop := ∃ A c, e = .returned (.tuple #[.slice A (obOut ws a).length c, .int .i64 (obErr ws a)]) ∧ RdE w' w'.heap.size A (obOut ws a) ∧ (obOut ws a).length ≤ c
theorem obRes_no {ws : List Nat} {a r : Int} {w' : World} (h1 : obErr ws a = r) (h2 : obOut ws a = []) : ObRes ws a (.returned (.tuple #[.slice none 0 0, .int .i64 r])) w' :=
  ⟨none, 0, by rw [h1, h2]; rfl, by rw [h2]; exact Rd.nil_, by rw [h2]; exact Nat.le_refl _⟩
set_option maxRecDepth 100000 in
set_option maxHeartbeats 8000000 in
theorem fxObject_c (A : Option Addr) (ws : List Nat) (c n : Nat) (a : Int) (w : World) (hn : ws.length = n) (hm : n ≤ 9223372036854775807) (hr : RdW w w.heap.size A ws) (ho : ∀ x ∈ ws, x < 18446744073709551616) :
    Calls Try.prog 35 #[.slice A n c, .int .i64 a] w fun e w' => ObRes ws a e w' ∧ Below w.heap.size w w' := by
  subst hn
  have HR := Lib.hid hr
  have HRD := Lib.hid (fxRead_c A ws c ws.length w rfl hm hr ho)
  unfold FxRes at HRD
  have HOB := Lib.hid (fun W (h : RdW W W.heap.size A ws) => fxObj_c A ws c ws.length a W rfl hm h ho)
  have HO := Lib.hid ho
  clear hr ho
  by_cases h0 : fxErr ws = 0
  · obtain ⟨hp0, -, -⟩ := fxErr_zero h0
    rw [h0] at HRD
    have hml := fxMv_len ws
    cases hob : objF (frOut ws 128) a with
    | none =>
      have HE := Lib.hid (ob_none h0 hob)
      rw [show obj6 ws a = noBk by simp [obj6, hob], show obj6Err ws a = 6 by simp [obj6Err, hob]] at HOB
      unfold noBk Bk.val at HOB
      simp only [Int.cast_ofNat_Int] at HOB
      obtain ⟨q, hq⟩ : ∃ q, (fxMv ws).length = q := ⟨_, rfl⟩
      rw [hq] at HRD
      clear h0 hob hq hml
      go_enter Try.func35, Try.ntmps35
      go_wp2_with fail
      refine HRD.out.mono ?_
      rintro e w1 ⟨⟨A1, c1, rfl, -, -⟩, hB1⟩
      have HB1 := Lib.hid hB1
      have HR1 := Lib.hid (HR.out.up hB1 hB1.size)
      clear hB1
      go_wp2_with fail
      refine (HOB.out _ HR1.out).mono ?_
      rintro e w2 ⟨rfl, hB2⟩
      have hb2 := HB1.out.trans (hB2.mono HB1.out.size)
      go_wp2_with fail
      go_ret2
      exact ⟨obRes_no HE.out.1 HE.out.2, hb2.alloc hb2.size _⟩
    | some b =>
      obtain ⟨m, t, xs, xk, xm, xn, ea, eb, ht8, hobj, hmlt, hR8, hRin⟩ := obj_parts hp0 hob
      subst ea
      have hbd := fr_bd ws (hpErr_zero hp0).1
      rw [show obj6 ws (m : Int) = b by simp [obj6, hob], show obj6Err ws (m : Int) = 0 by simp [obj6Err, hob]] at HOB
      have hbm : b.mark = xm := by rw [eb]
      cases hxm : xm with
      | false =>
        have HE := Lib.hid (ob_unmk h0 hob (by rw [hbm, hxm]))
        rw [eb, hxm] at HOB
        unfold Bk.val at HOB
        dsimp only at HOB
        obtain ⟨q, hq⟩ : ∃ q, (fxMv ws).length = q := ⟨_, rfl⟩
        rw [hq] at HRD
        clear h0 hob eb ht8 hobj hmlt hbd hR8 hRin hq hml hbm hxm
        go_enter Try.func35, Try.ntmps35
        go_wp2_with fail
        refine HRD.out.mono ?_
        rintro e w1 ⟨⟨A1, c1, rfl, -, -⟩, hB1⟩
        have HB1 := Lib.hid hB1
        have HR1 := Lib.hid (HR.out.up hB1 hB1.size)
        clear hB1
        go_wp2_with fail
        refine (HOB.out _ HR1.out).mono ?_
        rintro e w2 ⟨rfl, hB2⟩
        have hb2 := HB1.out.trans (hB2.mono HB1.out.size)
        go_wp2_with fail
        go_ret2
        exact ⟨obRes_no HE.out.1 HE.out.2, hb2.alloc hb2.size _⟩
      | true =>
        subst hxm
        have HRF := Lib.hid (fun W (h : RdW W W.heap.size A ws) => fxRefs_c A ws c ws.length t m xs xk true xn W rfl (by omega) (by omega) ht8 (by omega) h HO.out)
        rw [← eb] at HRF
        have HBD := Lib.hid (fun h3 => ob_bad h0 hob hbm h3)
        have HOK := Lib.hid (fun o h3 => ob_ok h0 hob hbm (o := o) h3)
        have HTO := Lib.hid (fun x y h => fx_to h0 (a := x) (t := y) h)
        have HFC := Lib.hid (fun A1 c1 (v : Nat) W (hv : v < 18446744073709551616) (h : RdM W W.heap.size A1 (fxMv ws)) => fixOf_c A1 (fxMv ws) c1 (fxMv ws).length v W rfl (by omega) hv h)
        have HFO : Hid (∀ v t, fixOf (fxMv ws) v = some t → mvTo (fxMv ws) (v : Int) = some t) := Lib.hid fun v t h => by
          unfold fixOf at h
          split at h
          · cases h
          · exact h
        have HSTP : Hid (∀ r, obStep ws (fxMv ws) r = if wd ws r = 0 then some [] else match fixOf (fxMv ws) (wd ws r) with
          | none => none
          | some t => if (wd ws r : Int) = t then some [] else some [⟨(r : Int), t.toNat⟩]) := Lib.hid fun r => rfl
        have HTK := Lib.hid (fun k (hk : k < (rfsB ws b).length) o h => obFix_take (ws := ws) (m := fxMv ws) hk (o := o) h)
        have HTB := Lib.hid (fun k (hk : k < (rfsB ws b).length) o h h2 => obFix_bad (ws := ws) (m := fxMv ws) hk (o := o) h h2)
        have HLE := Lib.hid (fun k o (h : obFix ws (fxMv ws) ((rfsB ws b).take k) = some o) => obFix_len h)
        obtain ⟨R, hR⟩ : ∃ R, rfsB ws b = R := ⟨_, rfl⟩
        rw [hR] at HRF HBD HOK HTK HTB HLE hR8
        have HRI : Hid (∀ k (hk : k < R.length), ∃ r : Nat, R[k] = (r : Int) ∧ m ≤ r ∧ r < ws.length) := Lib.hid (by subst hR; exact hRin)
        obtain ⟨M, hM⟩ : ∃ M, fxMv ws = M := ⟨_, rfl⟩
        rw [hM] at HRD HBD HOK HTO HFC HFO HSTP HTK HTB HLE hml
        rw [eb] at HOB
        unfold Bk.val at HOB
        dsimp only at HOB
        have hlen := hbd.2.1
        obtain ⟨i0, hi, hz0, hz1, hz2⟩ := info_parts infoEntry
        have HI := Lib.hid hi
        have HZ0 := Lib.hid hz0
        have HZ1 := Lib.hid hz1
        have HZ2 := Lib.hid hz2
        clear hi hz0 hz1 hz2
        clear h0 hob eb ht8 hobj hmlt hbd hR hRin hM hbm
        go_enter Try.func35, Try.ntmps35
        go_wp2_with fail
        refine HRD.out.mono ?_
        rintro e w1 ⟨⟨A1, c1, rfl, hrm, -⟩, hB1⟩
        have HB1 := Lib.hid hB1
        have HR1 := Lib.hid (HR.out.up hB1 hB1.size)
        have HM1 := Lib.hid hrm
        clear hB1 hrm
        go_wp2_with fail
        refine (HOB.out _ HR1.out).mono ?_
        rintro e w2 ⟨rfl, hB2⟩
        have hb2 := HB1.out.trans (hB2.mono HB1.out.size)
        have HB2 := Lib.hid (hb2.alloc hb2.size (.cells #[.int .i64 (m : Int), .int .i64 xs, .int .i64 xk, .int .i64 (t : Int), .bool true, .int .u64 (xn : Int)] 47))
        have HR2 := Lib.hid (HR.out.up HB2.out HB2.out.size)
        have HM2 := Lib.hid (Rd.more (Rd.alloc (HM1.out.up hB2 hB2.size) (Nat.le_refl _) (.cells #[.int .i64 (m : Int), .int .i64 xs, .int .i64 xk, .int .i64 (t : Int), .bool true, .int .u64 (xn : Int)] 47)) (show w2.heap.size ≤ (w2.alloc (.cells #[.int .i64 (m : Int), .int .i64 xs, .int .i64 xk, .int .i64 (t : Int), .bool true, .int .u64 (xn : Int)] 47)).heap.size by simp))
        clear hB2 hb2
        go_wp2_with fail
        refine (HRF.out _ HR2.out).mono ?_
        rintro e w3 ⟨⟨A3, c3, rfl, hrd3, -⟩, hB3⟩
        have HR3 := Lib.hid hrd3
        have HB3 := Lib.hid (HB2.out.trans (hB3.mono HB2.out.size))
        have HM3 := Lib.hid (HM2.out.up hB3 hB3.size)
        have HW3 := Lib.hid (HR.out.up HB3.out HB3.out.size)
        have hz3 := HB3.out.size
        clear hrd3 hB3
        go_wp2_with fail
        go_loopw [10, 42] (fun v i wr => ∃ (k : Nat) (o : List En), k ≤ R.length ∧ i = .int .i64 k ∧ Hid (obFix ws M (R.take k) = some o) ∧ wr.ownsRow w3.heap.size 43 2 v o.length (o.flatMap En.cells) ∧ Below w3.heap.size w3 wr) (fun _ i _ => R.length - (intOf i).toNat)
        case atStart => exact ⟨0, [], Nat.zero_le _, rfl, rfl, World.ownsRow_nil _ _ _ _, Below.refl _ _⟩
        case round =>
          obtain ⟨k, o, hk, rfl, HFX, hown, hB⟩ := hrel
          have hz := hB.size
          have hol := HLE.out k o HFX.out
          rw [List.length_take] at hol
          by_cases hlt : k < R.length
          · obtain ⟨bR, oR, rfl, hbR, q0⟩ := RdI.at_ (Rd.below HR3.out hB) hlt
            obtain ⟨r, hr, hmr, hrl⟩ := HRI.out k hlt
            obtain ⟨bW, oW, rfl, hbW, x0⟩ := RdW.at_ (Rd.below HW3.out hB) hrl
            rw [← wd_get] at x0
            have HMr := Lib.hid (HM3.out.up hB hz)
            have hv := wd_lt HO.out r
            have HTKk := Lib.hid (HTK.out k hlt o HFX.out)
            have HTBk := Lib.hid (HTB.out k hlt o HFX.out)
            have HST := Lib.hid (HSTP.out r)
            rw [hr] at q0 HTKk HTBk
            rw [Int.toNat_natCast] at HTKk HTBk
            have hFv := HFO.out (wd ws r)
            obtain ⟨v, hvv⟩ : ∃ v, wd ws r = v := ⟨_, rfl⟩
            rw [hvv] at x0 hv HST hFv
            have hri : (r : Int) < (ws.length : Int) := by omega
            have hr0 : (0 : Int) ≤ (r : Int) := by omega
            have hki : (k : Int) < (R.length : Int) := by omega
            have HVV := Lib.hid hv
            have HFV := Lib.hid hFv
            clear hr hvv hv hFv
            by_cases hv0 : v = 0
            · have e0 : ((v : Int) == 0) = true := by rw [beq_iff_eq]; omega
              have e0n : (v == 0) = true := by rw [beq_iff_eq]; exact hv0
              have HY := Lib.hid (show obFix ws M (R.take (k + 1)) = some o by rw [HTKk.out, HST.out, if_pos hv0]; simp)
              clear hv0 HTKk HTBk HST
              go_wp2_with fail
              go_roundw
              case rel => exact ⟨k + 1, o, by omega, by go_num, HY.out, hown, hB⟩
              case measure => simp [intOf]; omega
            · have e0 : ((v : Int) == 0) = false := by rw [beq_eq_false_iff_ne]; omega
              have e0n : (v == 0) = false := by rw [beq_eq_false_iff_ne]; exact hv0
              rw [if_neg hv0] at HST
              have HFK := Lib.hid (HFC.out A1 c1 v _ HVV.out HMr.out)
              cases hfx : fixOf M v with
              | none =>
                rw [hfx] at HFK HST
                have HE := Lib.hid (HBD.out (HTBk.out HST.out))
                simp only [Option.getD_none, Option.isSome_none] at HFK
                clear hv0 HTKk HTBk HST hfx
                go_wp2_with fail
                refine HFK.out.mono ?_
                rintro e w5 ⟨rfl, hB5⟩
                go_wp2_with fail
                go_ret2
                exact ⟨obRes_no HE.out.1 HE.out.2, HB3.out.trans ((hB.trans (hB5.mono hz)).mono hz3)⟩
              | some tt =>
                obtain ⟨tn, rfl, ht1, -, ht2, -⟩ := HTO.out (v : Int) tt (HFV.out tt hfx)
                rw [hfx] at HFK HST
                simp only [Option.getD_some, Option.isSome_some] at HFK
                have hwt : IntKind.u64.wrap (tn : Int) = (tn : Int) := IntWalk.u64_in _ (by omega)
                by_cases hvt : v = tn
                · have en : ((v : Int) != (tn : Int)) = false := by rw [bne_eq_false_iff_eq]; omega
                  have enn : (v != tn) = false := by rw [bne_eq_false_iff_eq]; exact hvt
                  have HY := Lib.hid (show obFix ws M (R.take (k + 1)) = some o by rw [HTKk.out, HST.out]; simp [hvt])
                  clear hv0 HTKk HTBk HST hfx hvt
                  go_wp2_with fail
                  refine HFK.out.mono ?_
                  rintro e w5 ⟨rfl, hB5⟩
                  have x5 := (hB5.cell (p := ⟨bW, oW + r, none⟩) (by show bW < wr.heap.size; omega)).trans x0
                  have hown5 := Lib.hid (own_below hown hB5 (Nat.le_refl _))
                  have hb5 := Lib.hid (hB.trans (hB5.mono hz))
                  clear hB5
                  go_wp2_with fail
                  go_roundw
                  case rel => exact ⟨k + 1, o, by omega, by go_num, HY.out, hown5.out, hb5.out⟩
                  case measure => simp [intOf]; omega
                · have en : ((v : Int) != (tn : Int)) = true := by rw [bne_iff_ne]; omega
                  have enn : (v != tn) = true := by rw [bne_iff_ne]; exact hvt
                  have HY := Lib.hid (show obFix ws M (R.take (k + 1)) = some (o ++ [⟨(r : Int), tn⟩]) by
                    rw [HTKk.out, HST.out]
                    have : ¬ ((v : Int) = (tn : Int)) := by omega
                    simp [this])
                  clear hv0 HTKk HTBk HST hfx hvt
                  go_wp2_with fail
                  refine HFK.out.mono ?_
                  rintro e w5 ⟨rfl, hB5⟩
                  have x5 := (hB5.cell (p := ⟨bW, oW + r, none⟩) (by show bW < wr.heap.size; omega)).trans x0
                  have hown5 := own_below hown hB5 (Nat.le_refl _)
                  have hb5 := hB.trans (hB5.mono hz)
                  have hz5 := hb5.size
                  clear hB5
                  go_wp2_with (at_builtin; refine wpList_append_own _ rfl _ _ 39 rfl w3.heap.size 43 i0 _ 2 16 Try.underlying39 HI.out HZ0.out HZ1.out HZ2.out rfl (by decide) _ _ _ rfl (hown5.alloc _) ⟨_, 0, none⟩ 1 1 [.int .i64 (r : Int), .int .u64 (tn : Int)] rfl rfl (news_new _ _ _) (by simp [Value.oneCell']) (by unfold maxLen; omega) (by omega) (by simp; omega) ?_; intro v1 w6 hown1 hg1 _; have hB6 := below_append hb5 hz5 hown5 hg1)
                  go_roundw
                  case rel => exact ⟨k + 1, o ++ [(⟨(r : Int), tn⟩ : En)], by omega, by go_num, HY.out, by rw [List.length_append, flat_snoc]; exact hown1, hB6⟩
                  case measure => simp [intOf]; omega
          · obtain rfl : k = R.length := by omega
            have HV := Lib.hid (HOK.out o (by have := HFX.out; rwa [List.take_of_length_le (Nat.le_refl _)] at this))
            obtain ⟨A2, c2, rfl, hle, hrd2⟩ := slice_of hown
            have HRD2 := Lib.hid hrd2
            have HLE2 := Lib.hid hle
            clear hrd2 hown hle
            go_wp2_with fail
            go_ret2
            exact ⟨⟨A2, c2, by rw [HV.out.1, HV.out.2]; rfl, by rw [HV.out.2]; exact HRD2.out, by rw [HV.out.2]; exact HLE2.out⟩, HB3.out.trans (hB.mono hz3)⟩
  · obtain ⟨r, hr⟩ : ∃ r, fxErr ws = r := ⟨_, rfl⟩
    have HE := Lib.hid (ob_err (a := a) hr (by rw [← hr]; exact h0))
    rw [hr] at HRD h0
    have hrn : (r != 0) = true := by rw [bne_iff_ne]; exact h0
    obtain ⟨q, hq⟩ : ∃ q, (fxMv ws).length = q := ⟨_, rfl⟩
    rw [hq] at HRD
    clear h0 hr hq
    go_enter Try.func35, Try.ntmps35
    go_wp2_with fail
    refine HRD.out.mono ?_
    rintro e w1 ⟨⟨A1, c1, rfl, -, -⟩, hB1⟩
    go_wp2_with fail
    go_ret2
    exact ⟨obRes_no HE.out.1 HE.out.2, hB1⟩
end Go.Proofs.Ytpifagclhhaniaa
