/- Fixing the slots: what the program returns. -/
import Derived.Test.YtpifagclhhaniaaFix3
namespace Go.Proofs.Ytpifagclhhaniaa
open Go.RowKit

def FsRes (ws : List Nat) (e : Ending) (w' : World) : Prop := ∃ A c, e = .returned (.tuple #[.slice A (fsOut ws).length c, .int .i64 (fsErr ws)]) ∧ RdE w' w'.heap.size A (fsOut ws) ∧ (fsOut ws).length ≤ c
theorem fsRes_no {ws : List Nat} {r : Int} {w' : World} (h1 : fsErr ws = r) (h0 : r ≠ 0) : FsRes ws (.returned (.tuple #[.slice none 0 0, .int .i64 r])) w' := by
  have h2 : fsOut ws = [] := by unfold fsOut; rw [if_neg (by rw [h1]; exact h0)]
  exact ⟨none, 0, by rw [h1, h2]; rfl, by rw [h2]; exact Rd.nil_, by rw [h2]; exact Nat.le_refl _⟩
theorem fs_err {ws : List Nat} {r : Int} (h : fxErr ws = r) (h0 : r ≠ 0) : fsErr ws = r := by subst h; simp [fsErr, h0]
theorem fs_sl {ws : List Nat} (h : fxErr ws = 0) (h1 : slsOk ws = false) : fsErr ws = 50 := by simp [fsErr, h, h1]
theorem fs_bad {ws : List Nat} (h : fxErr ws = 0) (h1 : slsOk ws = true) (h2 : slFix ws (fxMv ws) 16 = none) : fsErr ws = 50 := by simp [fsErr, h, h1, h2]
theorem fs_ok {ws : List Nat} (h : fxErr ws = 0) (h1 : slsOk ws = true) {o : List En} (h2 : slFix ws (fxMv ws) 16 = some o) : fsErr ws = 0 ∧ fsOut ws = o := by simp [fsOut, fsErr, h, h1, h2]
theorem slFix_succ {ws : List Nat} {m : List (Int × Int)} {k : Nat} {o : List En} (h : slFix ws m k = some o) : slFix ws m (k + 1) = (slStep ws m k).map (o ++ ·) := by
  simp only [slFix, h]
theorem own_set_far {w : World} {H n : Nat} {e : TypeId} {sz : Nat} {v : Value} {xs : List Value} (h : w.ownsRow H e sz v n xs) {p : Addr} (hp : v.ownBlock ≠ some p.block) (u : Value) : (w.setCell p u).ownsRow H e sz v n xs := by
  refine ⟨h.1, ?_⟩
  rcases h.2 with h1 | ⟨g', cap, cur, h1, h2, h3, h4⟩
  · exact .inl h1
  · subst h1
    refine .inr ⟨g', cap, cur, rfl, h2, ?_, h4⟩
    exact (Below.heap_setCell w p u g' (fun e => hp (by simp [Value.ownBlock, e]))).trans h3
theorem slWd_lt {g a : Nat} (hg : g < 2147483648) (ha : a < 4294967296) (u : Bool) : slWd ⟨(g : Int), u, (a : Int)⟩ < 18446744073709551616 := by
  unfold slWd
  dsimp only
  rw [Int.toNat_natCast, Int.toNat_natCast]
  split <;> omega

set_option maxRecDepth 100000 in
set_option maxHeartbeats 8000000 in
theorem fxSlots_c (A : Option Addr) (ws : List Nat) (c n : Nat) (w : World) (hn : ws.length = n) (hm : n ≤ 9223372036854775807) (hr : RdW w w.heap.size A ws) (ho : ∀ x ∈ ws, x < 18446744073709551616) :
    Calls Try.prog 39 #[.slice A n c] w fun e w' => FsRes ws e w' ∧ Below w.heap.size w w' := by
  subst hn
  have HR := Lib.hid hr
  have HRD := Lib.hid (fxRead_c A ws c ws.length w rfl hm hr ho)
  unfold FxRes at HRD
  have HHA := Lib.hid (fun W (h : RdW W W.heap.size A ws) => hAll_c A ws c ws.length W rfl hm h ho)
  unfold HaRes at HHA
  have HO := Lib.hid ho
  clear hr ho
  by_cases h0 : fxErr ws = 0
  · obtain ⟨hp0, -, -⟩ := fxErr_zero h0
    have hs := (hpErr_zero hp0).1
    have hbd := fr_bd ws hs
    rw [h0] at HRD
    have hml := fxMv_len ws
    cases hso : slsOk ws with
    | false =>
      have he := hdlErr_bad hs hso
      have hq : hdlOut ws = [] := by simp [hdlOut, he]
      rw [he, hq] at HHA
      have HE := Lib.hid (fs_sl h0 hso)
      obtain ⟨q, hq⟩ : ∃ q, (fxMv ws).length = q := ⟨_, rfl⟩
      rw [hq] at HRD
      clear h0 hp0 hs hbd hso he hq hml
      go_enter Try.func39, Try.ntmps39
      go_wp2_with fail
      refine HRD.out.mono ?_
      rintro e w1 ⟨⟨A1, c1, rfl, -, -⟩, hB1⟩
      have HB1 := Lib.hid hB1
      have HR1 := Lib.hid (HR.out.up hB1 hB1.size)
      clear hB1
      go_wp2_with fail
      refine (HHA.out _ HR1.out).mono ?_
      rintro e w2 ⟨⟨A2, c2, rfl, -, -⟩, hB2⟩
      go_wp2_with fail
      go_ret2
      exact ⟨fsRes_no HE.out (by omega), HB1.out.trans (hB2.mono HB1.out.size)⟩
    | true =>
      obtain ⟨g1, g2⟩ := hdlErr_ok hs hso
      rw [g1, g2, slL_len] at HHA
      have HSO := Lib.hid ((slsOk_iff ws).1 hso)
      have HBD := Lib.hid (fun h => fs_bad h0 hso h)
      have HOK := Lib.hid (fun o h => fs_ok h0 hso (o := o) h)
      have HTO := Lib.hid (fun x y h => fx_to h0 (a := x) (t := y) h)
      have HFC := Lib.hid (fun A1 c1 (v : Nat) W (hv : v < 18446744073709551616) (h : RdM W W.heap.size A1 (fxMv ws)) => fixOf_c A1 (fxMv ws) c1 (fxMv ws).length v W rfl (by omega) hv h)
      have HFO : Hid (∀ v t, fixOf (fxMv ws) v = some t → mvTo (fxMv ws) (v : Int) = some t) := Lib.hid fun v t h => by
        unfold fixOf at h
        split at h
        · cases h
        · exact h
      have HSTP : Hid (∀ i, slStep ws (fxMv ws) i = if (slAt ws i).used = true then (match fixOf (fxMv ws) (slAt ws i).at_.toNat with
        | none => none
        | some t => if wd ws (112 + i) = slWd ⟨(slAt ws i).gen, true, t⟩ then some [] else some [⟨((112 + i : Nat) : Int), slWd ⟨(slAt ws i).gen, true, t⟩⟩]) else some []) := Lib.hid fun i => rfl
      have HTK := Lib.hid (fun k o (h : slFix ws (fxMv ws) k = some o) => slFix_succ h)
      have HTN := Lib.hid (fun k (h : slFix ws (fxMv ws) (k + 1) = none) (h2 : k + 1 ≤ 16) => slFix_none h h2)
      have HLE := Lib.hid (fun k o (h : slFix ws (fxMv ws) k = some o) => slFix_len h)
      obtain ⟨M, hM⟩ : ∃ M, fxMv ws = M := ⟨_, rfl⟩
      rw [hM] at HRD HBD HOK HTO HFC HFO HSTP HTK HTN HLE hml
      have hlen := hbd.1
      have hlen2 := hbd.2.1
      obtain ⟨i0, hi, hz0, hz1, hz2⟩ := info_parts infoEntry
      have HI := Lib.hid hi
      have HZ0 := Lib.hid hz0
      have HZ1 := Lib.hid hz1
      have HZ2 := Lib.hid hz2
      clear hi hz0 hz1 hz2
      clear h0 hp0 hs hbd hso g1 g2 hM
      go_enter Try.func39, Try.ntmps39
      go_wp2_with fail
      refine HRD.out.mono ?_
      rintro e w1 ⟨⟨A1, c1, rfl, hrm, -⟩, hB1⟩
      have HB1 := Lib.hid hB1
      have HR1 := Lib.hid (HR.out.up hB1 hB1.size)
      have HM1 := Lib.hid hrm
      clear hB1 hrm
      go_wp2_with fail
      refine (HHA.out _ HR1.out).mono ?_
      rintro e w3 ⟨⟨A3, c3, rfl, hrs, -⟩, hB3⟩
      have HB3 := Lib.hid (HB1.out.trans (hB3.mono HB1.out.size))
      have HS3 := Lib.hid hrs
      have HM3 := Lib.hid (HM1.out.up hB3 hB3.size)
      have HW3 := Lib.hid (HR.out.up HB3.out HB3.out.size)
      have hz3 := HB3.out.size
      clear hrs hB3
      go_wp2_with fail
      go_loopw [8, 36] (fun v i wr => ∃ (k : Nat) (o : List En), k ≤ 16 ∧ i = .int .i64 k ∧ Hid (slFix ws M k = some o) ∧ wr.ownsRow w3.heap.size 43 2 v o.length (o.flatMap En.cells) ∧ Below w3.heap.size w3 wr) (fun _ i _ => 16 - (intOf i).toNat)
      case atStart => exact ⟨0, [], Nat.zero_le _, rfl, rfl, World.ownsRow_nil _ _ _ _, Below.refl _ _⟩
      case round =>
        obtain ⟨k, o, hk, rfl, HFX, hown, hB⟩ := hrel
        have hz := hB.size
        have hol := HLE.out k o HFX.out
        by_cases hlt : k < 16
        · obtain ⟨bS, oS, rfl, hbS, q0, q1, q2⟩ := RdS.at_ (Rd.below HS3.out hB) (show k < (slL ws).length by rw [slL_len]; exact hlt)
          rw [slL_get] at q0 q1 q2
          obtain ⟨bW, oW, rfl, hbW, x0⟩ := RdW.at_ (Rd.below HW3.out hB) (show 112 + k < ws.length by omega)
          rw [← wd_get] at x0
          have HMr := Lib.hid (HM3.out.up hB hz)
          have hsk := HSO.out k hlt
          have HTKk := Lib.hid (HTK.out k o HFX.out)
          have HTNk := Lib.hid (fun h => HTN.out k h (by omega))
          have HST := Lib.hid (HSTP.out k)
          obtain ⟨r1, r2, r3, r4⟩ := slRaw_bd (wd ws (112 + k))
          have hsa : slAt ws k = slRaw (wd ws (112 + k)) := rfl
          rw [← hsa] at r1 r2 r3 r4
          have hxl := wd_lt HO.out (112 + k)
          obtain ⟨x, hx⟩ : ∃ x, wd ws (112 + k) = x := ⟨_, rfl⟩
          rw [hx] at x0 HST hxl
          obtain ⟨s, hs⟩ : ∃ s, slAt ws k = s := ⟨_, rfl⟩
          rw [hs] at q0 q1 q2 HST r1 r2 r3 r4 hsk
          obtain ⟨sg, su, sa⟩ := s
          dsimp only at q0 q1 q2 HST r1 r2 r3 r4
          obtain ⟨g, rfl⟩ := Int.eq_ofNat_of_zero_le r1
          obtain ⟨u, rfl⟩ := Int.eq_ofNat_of_zero_le r3
          rw [Int.toNat_natCast] at HST
          have hki : (k : Int) < 16 := by omega
          have hk0 : (0 : Int) ≤ (k : Int) := by omega
          have hw1 : IntKind.i64.wrap (112 + (k : Int)) = 112 + (k : Int) := IntWalk.i64_in _ (by omega)
          have i1 : (0 : Int) ≤ 112 + (k : Int) := by omega
          have i2 : (112 : Int) + (k : Int) < (ws.length : Int) := by omega
          have n1 : ((112 : Int) + (k : Int)).toNat = 112 + k := by omega
          have hg31 : g < 2147483648 := by omega
          have HSL := Lib.hid hsk
          clear hx hs hsa r1 r2 r3 r4 hsk hxl
          cases su
          · have HY := Lib.hid (show slFix ws M (k + 1) = some o by rw [HTKk.out, HST.out, if_neg (by simp)]; simp)
            clear HTKk HTNk HST
            go_wp2_with fail
            go_roundw
            case rel => exact ⟨k + 1, o, by omega, by go_num, HY.out, hown.alloc _, hB.alloc hz _⟩
            case measure => simp [intOf]; omega
          · obtain ⟨hg0, hu1, hu2⟩ := sl_used HSL.out rfl
            dsimp only at hg0 hu1 hu2
            rw [if_pos rfl] at HST
            have hwu : IntKind.u64.wrap (u : Int) = (u : Int) := IntWalk.u64_in _ (by omega)
            have hbn := hB.alloc hz (.cells #[.int .i64 (g : Int), .bool true, .int .i64 (u : Int)] 35)
            have HBN := Lib.hid hbn
            have HMn := Lib.hid (Rd.more (Rd.alloc HMr.out (Nat.le_refl _) (.cells #[.int .i64 (g : Int), .bool true, .int .i64 (u : Int)] 35)) (show wr.heap.size ≤ (wr.alloc (.cells #[.int .i64 (g : Int), .bool true, .int .i64 (u : Int)] 35)).heap.size by simp))
            have BN := Lib.hid (Bx.new wr 35 #[.int .i64 (g : Int), .bool true, .int .i64 (u : Int)])
            have HOWN := Lib.hid (hown.alloc (.cells #[.int .i64 (g : Int), .bool true, .int .i64 (u : Int)] 35))
            have HOL := Lib.hid (fun b h => (hown.lt b h).2)
            have x1 := (World.cell?_alloc_lt wr (.cells #[.int .i64 (g : Int), .bool true, .int .i64 (u : Int)] 35) ⟨bW, oW + (112 + k), none⟩ (by show bW < wr.heap.size; omega)).trans x0
            have HX1 := Lib.hid x1
            have HFK := Lib.hid (HFC.out A1 c1 u _ (by omega) HMn.out)
            have hsz1 : (wr.alloc (.cells #[.int .i64 (g : Int), .bool true, .int .i64 (u : Int)] 35)).heap.size = wr.heap.size + 1 := by simp
            clear hbn x1
            go_upto_region 14 with (fail)
            obtain ⟨wn, hwn⟩ : ∃ wn, wr.alloc (.cells #[.int .i64 (g : Int), .bool true, .int .i64 (u : Int)] 35) = wn := ⟨_, rfl⟩
            rw [hwn] at HBN HMn BN HOWN HFK HX1 hsz1 ⊢
            clear hwn x0 hown
            obtain ⟨p0, p1, p2, f0, f1, f2, hgn⟩ := BN.out.c3
            cases hfx : fixOf M u with
            | none =>
              rw [hfx] at HFK HST
              have HE := Lib.hid (HBD.out (HTNk.out (by rw [HTKk.out, HST.out]; rfl)))
              simp only [Option.getD_none, Option.isSome_none] at HFK
              clear HTKk HTNk HST hfx
              go_wp2_with fail
              refine HFK.out.mono ?_
              rintro e w5 ⟨rfl, hB5⟩
              have hb5 := HBN.out.trans (hB5.mono HBN.out.size)
              go_wp2_with fail
              go_ret2
              exact ⟨fsRes_no HE.out (by omega), HB3.out.trans (hb5.mono hz3)⟩
            | some tt =>
              obtain ⟨tn, rfl, ht1, -, ht2, -⟩ := HTO.out (u : Int) tt (HFO.out u tt hfx)
              rw [hfx] at HFK HST
              simp only [Option.getD_some, Option.isSome_some] at HFK
              have hok : slOk ⟨(g : Int), true, (tn : Int)⟩ = true := by
                unfold slOk
                rw [if_pos rfl]
                simp only [Bool.and_eq_true, decide_eq_true_eq]
                omega
              have HWD := Lib.hid (fun W => hWord_c g tn true W hg31 (by omega) hok)
              have hVl := slWd_lt (g := g) (a := tn) hg31 (by omega) true
              obtain ⟨V, hV⟩ : ∃ V, slWd ⟨(g : Int), true, (tn : Int)⟩ = V := ⟨_, rfl⟩
              dsimp only at HST
              rw [hV] at HWD HST
              clear hok hV hVl hfx
              go_wp2_with fail
              refine HFK.out.mono ?_
              rintro e w5 ⟨rfl, hB5⟩
              have bn5 := BN.out.up hB5 hgn
              have BN5 := Lib.hid bn5
              have HB5 := Lib.hid (HBN.out.trans (hB5.mono HBN.out.size))
              have HO5 := Lib.hid (own_below HOWN.out hB5 (Nat.le_refl _))
              have x5 := (hB5.cell (p := ⟨bW, oW + (112 + k), none⟩) (by show bW < wn.heap.size; omega)).trans HX1.out
              have HX5 := Lib.hid x5
              obtain ⟨p0, p1, p2, f0, f1, f2, hg5⟩ := bn5.c3
              clear hB5 bn5 x5
              go_wp2_with fail
              have HB6 := Lib.hid (HB5.out.setCell (p := ⟨wr.heap.size, 2, none⟩) hz (.int .i64 (tn : Int)))
              have HO6 := Lib.hid (own_set_far HO5.out (p := ⟨wr.heap.size, 2, none⟩) (fun h => by have h9 := HOL.out _ h; exact absurd h9 (Nat.lt_irrefl _)) (.int .i64 (tn : Int)))
              have x6 : (w5.setCell ⟨wr.heap.size, 2, none⟩ (.int .i64 (tn : Int))).cell? ⟨bW, oW + (112 + k), none⟩ = some (.int .u64 (x : Int)) := (World.cell?_setCell_other w5 _ _ _ (fun e2 => by injection e2 with e3 _ _; omega)).trans HX5.out
              have HX6 := Lib.hid x6
              have hbs : bW < (w5.setCell ⟨wr.heap.size, 2, none⟩ (.int .i64 (tn : Int))).heap.size := by rw [World.size_setCell]; have := HB5.out.size; omega
              clear x6
              refine (HWD.out _).mono ?_
              rintro e w7 ⟨rfl, hB7⟩
              have x7 := (hB7.cell (p := ⟨bW, oW + (112 + k), none⟩) hbs).trans HX6.out
              have hown7 := own_below HO6.out hB7 (Nat.le_refl _)
              have hb7 := HB6.out.trans (hB7.mono HB6.out.size)
              have hz7 := hb7.size
              clear hB7 hbs
              by_cases hxV : x = V
              · have en : ((x : Int) != (V : Int)) = false := by rw [bne_eq_false_iff_eq]; omega
                have enn : (x != V) = false := by rw [bne_eq_false_iff_eq]; exact hxV
                have HY := Lib.hid (show slFix ws M (k + 1) = some o by rw [HTKk.out, HST.out]; simp [hxV])
                have HO7 := Lib.hid hown7
                have HB7 := Lib.hid hb7
                clear HTKk HTNk HST hxV hown7 hb7
                go_wp2_with fail
                go_roundw
                case rel => exact ⟨k + 1, o, by omega, by go_num, HY.out, HO7.out, HB7.out⟩
                case measure => simp [intOf]; omega
              · have en : ((x : Int) != (V : Int)) = true := by rw [bne_iff_ne]; omega
                have enn : (x != V) = true := by rw [bne_iff_ne]; exact hxV
                have HY := Lib.hid (show slFix ws M (k + 1) = some (o ++ [⟨112 + (k : Int), V⟩]) by rw [HTKk.out, HST.out]; simp [hxV])
                clear HTKk HTNk HST hxV
                go_wp2_with (at_builtin; refine wpList_append_own _ rfl _ _ 39 rfl w3.heap.size 43 i0 _ 2 16 Try.underlying39 HI.out HZ0.out HZ1.out HZ2.out rfl (by decide) _ _ _ rfl (hown7.alloc _) ⟨_, 0, none⟩ 1 1 [.int .i64 (112 + (k : Int)), .int .u64 (V : Int)] rfl rfl (news_new _ _ _) (by simp [Value.oneCell']) (by unfold maxLen; omega) (by omega) (by simp; omega) ?_; intro v1 w8 hown1 hg1 _; have hB8 := below_append hb7 hz7 hown7 hg1)
                go_roundw
                case rel => exact ⟨k + 1, o ++ [(⟨112 + (k : Int), V⟩ : En)], by omega, by go_num, HY.out, by rw [List.length_append, flat_snoc]; exact hown1, hB8⟩
                case measure => simp [intOf]; omega
        · obtain rfl : k = 16 := by omega
          have HV := Lib.hid (HOK.out o HFX.out)
          obtain ⟨A2, c2, rfl, hle, hrd2⟩ := slice_of hown
          have HRD2 := Lib.hid hrd2
          have HLE2 := Lib.hid hle
          clear hrd2 hown hle
          go_wp2_with fail
          go_ret2
          exact ⟨⟨A2, c2, by rw [HV.out.1, HV.out.2]; rfl, by rw [HV.out.2]; exact HRD2.out, by rw [HV.out.2]; exact HLE2.out⟩, HB3.out.trans (hB.mono hz3)⟩
  · obtain ⟨r, hr⟩ : ∃ r, fxErr ws = r := ⟨_, rfl⟩
    have HE := Lib.hid (fs_err hr (by rw [← hr]; exact h0))
    rw [hr] at HRD h0
    have hrn : (r != 0) = true := by rw [bne_iff_ne]; exact h0
    have HR0 := Lib.hid h0
    obtain ⟨q, hq⟩ : ∃ q, (fxMv ws).length = q := ⟨_, rfl⟩
    rw [hq] at HRD
    clear h0 hr hq
    go_enter Try.func39, Try.ntmps39
    go_wp2_with fail
    refine HRD.out.mono ?_
    rintro e w1 ⟨⟨A1, c1, rfl, -, -⟩, hB1⟩
    go_wp2_with fail
    go_ret2
    exact ⟨fsRes_no HE.out HR0.out, hB1⟩
end Go.Proofs.Ytpifagclhhaniaa
