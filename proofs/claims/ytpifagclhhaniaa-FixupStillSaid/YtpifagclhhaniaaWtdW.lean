/- The entries for headers that differ from those that are wanted: the walk. -/
import Derived.Test.YtpifagclhhaniaaWtd
import Derived.Test.YtpifagclhhaniaaKHeap
namespace Go.Proofs.Ytpifagclhhaniaa
open Go.RowKit

theorem hp_ats {ws : List Nat} (h : hpErr ws = 0) : ∀ k (hk : k < (hpOut ws).length), ∃ m : Nat, (hpOut ws)[k].at_ = (m : Int) ∧ m < ws.length := by
  intro k hk
  obtain ⟨hs, l, hl, ha, ho⟩ := hpErr_zero h
  subst ho
  obtain ⟨a, e1, -, -, e4, -⟩ := blocks_at _ _ hl (by omega) k hk
  exact ⟨a, by rw [e1]; rfl, e4⟩

set_option maxRecDepth 100000 in
set_option maxHeartbeats 8000000 in
theorem mWanted_c (A : Option Addr) (ws : List Nat) (c n : Nat) (w : World) (hn : ws.length = n) (hm : n ≤ 9223372036854775807) (hr : RdW w w.heap.size A ws) (ho : ∀ x ∈ ws, x < 18446744073709551616) :
    Calls Try.prog 21 #[.slice A n c] w fun e w' => WtRes ws e w' ∧ Below w.heap.size w w' := by
  subst hn
  have HR := Lib.hid hr
  have HC := Lib.hid (mHeapF_c A ws c ws.length w rfl hm hr ho)
  unfold MhResF at HC
  have HO := Lib.hid ho
  clear hr ho
  by_cases h0 : hpErr ws = 0
  · obtain ⟨l, hl⟩ : ∃ l, hpOut ws = l := ⟨_, rfl⟩
    have HRC := Lib.hid (fun L cl W (h : RdW W W.heap.size A ws) (h2 : RdB W W.heap.size L l) => mReach_c A L ws c cl ws.length l W rfl hm h0 hl h h2 HO.out)
    unfold RcRes at HRC
    have HAT := hp_ats h0
    have hlb := hpOut_len ws
    rw [h0, hl] at HC
    rw [hl] at HAT hlb
    have HAT := Lib.hid HAT
    have hbd := fr_bd ws (hpErr_zero h0).1
    have hlen := hbd.2.1
    have hlen1 := hbd.1
    by_cases hz : rcErr ws = 0
    · have HV := Lib.hid (show rcErr ws = 0 ∧ wtOut ws = (wntL (seenL ws) l).map (wntE ws (seenL ws)) from ⟨hz, by unfold wtOut; rw [if_pos hz, hl]⟩)
      have hsl := seenL_len ws
      obtain ⟨i0, hi, hz0, hz1, hz2⟩ := info_parts infoEntry
      have HI := Lib.hid hi
      have HZ0 := Lib.hid hz0
      have HZ1 := Lib.hid hz1
      have HZ2 := Lib.hid hz2
      clear hi hz0 hz1 hz2
      clear h0 hl hbd hz
      generalize seenL ws = S at HRC HV hsl
      have HDW := Lib.hid (fun (A1 : Option Addr) (cl gB g c2 H : Nat) (W : World) h1 h2 h3 h4 h5 h6 h7 => wntDelete_c A1 l S gB g c2 ws.length cl H W hsl (by omega) HAT.out h1 h2 h3 h4 h5 h6 h7)
      have HSL := Lib.hid hsl
      have HMK := Lib.hid (fun a m W => hdMarked_c (wd ws a) m W (wd_lt HO.out a))
      go_enter Try.func21, Try.ntmps21
      go_wp2_with fail
      refine HC.out.mono ?_
      rintro e w1 ⟨⟨A1, c1, rfl, hown1⟩, hB1⟩
      have HB1 := Lib.hid hB1
      have HR1 := Lib.hid (HR.out.up hB1 hB1.size)
      have HO1 := Lib.hid hown1
      clear hown1 hB1
      go_wp2_with fail
      refine (HRC.out A1 _ w1 HR1.out (show RdB _ _ _ _ from Rd.of_own HO1.out)).mono ?_
      rintro e wE ⟨⟨-, g, c2, rfl, hownS⟩ | ⟨h9, -⟩, hB2⟩
      · have HBE := Lib.hid (HB1.out.trans (hB2.mono HB1.out.size))
        have HRE := Lib.hid (HR1.out.up hB2 hB2.size)
        have HOE := Lib.hid (own_below HO1.out hB2 (Nat.le_refl _))
        have HS := Lib.hid hownS
        have hgE := hownS.lt g rfl
        have hsep := own_sep HOE.out hownS (by decide)
        have hlt1 := HO1.out.lt
        have hz1 := HB1.out.size
        have hz2 := hB2.size
        have hzE := HBE.out.size
        have h6 : (Value.slice A1 l.length c1).ownBlock ≠ some wE.heap.size := fun h => by
          have := (hlt1 _ h).2; omega
        have h7 : (Value.slice A1 l.length c1).ownBlock ≠ some g := fun h => by
          rcases hsep with h8 | h8
          · rw [h] at h8; cases h8
          · exact h8 h
        clear hownS hB2 hsep hlt1
        have HX := Lib.hid (Bx.new wE 33 #[.slice (some ⟨g, 0, none⟩) ws.length c2])
        have HOX := Lib.hid (HOE.out.alloc (.cells #[.slice (some ⟨g, 0, none⟩) ws.length c2] 33))
        have HSX := Lib.hid ((Rd.of_own HS.out).alloc (Nat.le_refl _) (.cells #[.slice (some ⟨g, 0, none⟩) ws.length c2] 33))
        have HRX := Lib.hid (HRE.out.alloc (Nat.le_refl _) (.cells #[.slice (some ⟨g, 0, none⟩) ws.length c2] 33))
        have HBX := Lib.hid (HBE.out.alloc hzE (.cells #[.slice (some ⟨g, 0, none⟩) ws.length c2] 33))
        go_wp2_with fail
        obtain ⟨wX, hwX⟩ : ∃ wX, wE.alloc (.cells #[.slice (some ⟨g, 0, none⟩) ws.length c2] 33) = wX := ⟨_, rfl⟩
        have hszX : wX.heap.size = wE.heap.size + 1 := by rw [← hwX]; simp
        rw [hwX] at HX HOX HSX HRX HBX ⊢
        clear hwX
        have HSX2 := Lib.hid (Rd.more HSX.out (show wE.heap.size ≤ wX.heap.size by omega))
        refine (HDW.out A1 c1 wE.heap.size g c2 w.heap.size wX HOX.out HBX.out.size (by omega) HX.out.c1.1 HSX2.out h6 h7).mono ?_
        rintro e w3 ⟨A3, c3, rfl, hrd3, hbx3, hrs3, hgB3, hB3⟩
        have HB3 := Lib.hid (HBX.out.trans hB3)
        have HR3 := Lib.hid (HR.out.up HB3.out HB3.out.size)
        have HRD3 := Lib.hid hrd3
        have HBX3 := Lib.hid hbx3
        have HS3 := Lib.hid hrs3
        obtain ⟨gB, hgB⟩ : ∃ gB, wE.heap.size = gB := ⟨_, rfl⟩
        rw [hgB] at HBX3 hgB3
        have hwl := wntL_len S l
        have HWA : Hid (∀ k (hk : k < (wntL S l).length), ∃ m : Nat, (wntL S l)[k].at_ = (m : Int) ∧ m < ws.length) := Lib.hid (fun k hk => by
          obtain ⟨j, hj, e⟩ := List.getElem_of_mem (wntL_mem (List.getElem_mem hk))
          rw [← e]; exact HAT.out j hj)
        have HWT := Lib.hid (fun k (hk : k < (wntL S l).length) => wntE_take ws S (wntL S l) hk)
        obtain ⟨d, hd⟩ : ∃ d, wntL S l = d := ⟨_, rfl⟩
        rw [hd] at HRD3 HWA HWT hwl HV
        simp only [hd, hgB]
        clear hd hrd3 hbx3 hrs3 hB3 HX HOX HSX HRX HBX HSX2 h6 h7 hszX hgB HRC HDW HC HOE HO1 HS HR1 HRE
        go_wp2_with fail
        go_loopw [7, 34] (fun v i wr => ∃ k : Nat, k ≤ d.length ∧ i = .int .i64 k ∧ wr.ownsRow w3.heap.size 43 2 v (d.take k).length (((d.take k).map (wntE ws S)).flatMap En.cells) ∧ Below w3.heap.size w3 wr) (fun _ i _ => d.length - (intOf i).toNat)
        case atStart => exact ⟨0, Nat.zero_le _, rfl, World.ownsRow_nil _ _ _ _, Below.refl _ _⟩
        case round =>
          obtain ⟨k, hk, rfl, hown, hB⟩ := hrel
          have hz := hB.size
          by_cases hlt : k < d.length
          · obtain ⟨b, off, rfl, hbw, q0, q1, q2, q3, q4, q5⟩ := RdB.at_ (Rd.below HRD3.out hB) hlt
            obtain ⟨m, hm1, hm2⟩ := HWA.out k hlt
            have HSN := Lib.hid (HWT.out k hlt)
            obtain ⟨x, hx⟩ : ∃ x, d[k] = x := ⟨_, rfl⟩
            rw [hx] at q0 q1 q2 q3 q4 q5 hm1 HSN
            obtain ⟨xa, xs, xk, xt, xm, xn⟩ := x
            dsimp only at q0 q1 q2 q3 q4 q5 hm1
            subst hm1
            have hwe : wntE ws S ⟨(m : Int), xs, xk, xt, xm, xn⟩ = ⟨(m : Int), mkVal (wd ws m) (S[m]?.getD false)⟩ := by unfold wntE; dsimp only; rw [Int.toNat_natCast]
            rw [hwe] at HSN
            obtain ⟨bW, oW, rfl, hbW, x0⟩ := RdW.at_ (Rd.below HR3.out hB) hm2
            rw [← wd_get] at x0
            obtain ⟨bS, oS, eA, hbS, s0⟩ := Rd.at_flat boolCells_len (Rd.below HS3.out hB) (by omega) (show m < S.length by rw [HSL.out]; exact hm2)
            cases eA
            have s0 := s0 0 (by omega)
            have s0 : wr.cell? ⟨g, m, none⟩ = some (.bool (S[m]'(by rw [HSL.out]; exact hm2))) := by simpa [boolCells] using s0
            have hsm : S[m]'(by rw [HSL.out]; exact hm2) = S[m]?.getD false := by rw [List.getElem?_eq_getElem (by rw [HSL.out]; exact hm2)]; rfl
            rw [hsm] at s0
            have HQ := Lib.hid (fun W => HMK.out m (S[m]?.getD false) W)
            obtain ⟨y, hy⟩ : ∃ y, S[m]?.getD false = y := ⟨_, rfl⟩
            rw [hy] at s0 HSN HQ
            obtain ⟨u, hu⟩ : ∃ u, wd ws m = u := ⟨_, rfl⟩
            rw [hu] at x0 HSN HQ
            obtain ⟨v, hv⟩ : ∃ v, mkVal u y = v := ⟨_, rfl⟩
            obtain ⟨er, her⟩ : ∃ er, mkErr u y = er := ⟨_, rfl⟩
            rw [hv] at HSN HQ
            rw [her] at HQ
            have z0 := (hB.cell (p := ⟨gB, 0, none⟩) hgB3).trans HBX3.out
            have hlm : (k : Int) < (d.length : Int) := by omega
            have hmi : (m : Int) < (ws.length : Int) := by omega
            have hm0 : (0 : Int) ≤ (m : Int) := by omega
            have hk0 : (0 : Int) ≤ (k : Int) := by omega
            have HBN := Lib.hid (hB.alloc hz (.cells #[.int .i64 (m : Int), .int .i64 xs, .int .i64 xk, .int .i64 xt, .bool xm, .int .u64 (xn : Int)] 47))
            have BN := Lib.hid (Bx.new wr 47 #[.int .i64 (m : Int), .int .i64 xs, .int .i64 xk, .int .i64 xt, .bool xm, .int .u64 (xn : Int)])
            have HON := Lib.hid (hown.alloc (.cells #[.int .i64 (m : Int), .int .i64 xs, .int .i64 xk, .int .i64 xt, .bool xm, .int .u64 (xn : Int)] 47))
            have HX0 := Lib.hid ((World.cell?_alloc_lt wr (.cells #[.int .i64 (m : Int), .int .i64 xs, .int .i64 xk, .int .i64 xt, .bool xm, .int .u64 (xn : Int)] 47) ⟨bW, oW + m, none⟩ (by show bW < wr.heap.size; omega)).trans x0)
            have HS0 := Lib.hid ((World.cell?_alloc_lt wr (.cells #[.int .i64 (m : Int), .int .i64 xs, .int .i64 xk, .int .i64 xt, .bool xm, .int .u64 (xn : Int)] 47) ⟨g, m, none⟩ (by show g < wr.heap.size; omega)).trans s0)
            have HZ0' := Lib.hid ((World.cell?_alloc_lt wr (.cells #[.int .i64 (m : Int), .int .i64 xs, .int .i64 xk, .int .i64 xt, .bool xm, .int .u64 (xn : Int)] 47) ⟨gB, 0, none⟩ (by show gB < wr.heap.size; omega)).trans z0)
            clear hx hwe hsm hy hu hv her x0 s0 z0 hown
            go_upto_region 12 with (fail)
            obtain ⟨wn, hwn⟩ : ∃ wn, wr.alloc (.cells #[.int .i64 (m : Int), .int .i64 xs, .int .i64 xk, .int .i64 xt, .bool xm, .int .u64 (xn : Int)] 47) = wn := ⟨_, rfl⟩
            rw [hwn] at HBN BN HON HX0 HS0 HZ0' ⊢
            have hszn : wn.heap.size = wr.heap.size + 1 := by rw [← hwn]; simp
            clear hwn q0 q1 q2 q3 q4 q5
            obtain ⟨p0, p1, p2, p3, p4, p5, pf, hgn⟩ := BN.out.c6
            have x0 := HX0.out
            have s0 := HS0.out
            have z0 := HZ0'.out
            have gW : bW < wn.heap.size := by omega
            have gS : g < wn.heap.size := by omega
            have gZ : gB < wn.heap.size := by omega
            go_region_held3 (fun X : World => X.cell? ⟨bW, oW + m, none⟩ = some (.int .u64 (u : Int)) ∧ X.cell? ⟨gB, 0, none⟩ = some (.slice (some ⟨g, 0, none⟩) ws.length c2) ∧ X.cell? ⟨g, m, none⟩ = some (.bool y) ∧ X.cell? ⟨wr.heap.size, 0, none⟩ = some (.int .i64 (m : Int))) (go_keep)
              (first | (go_at_call 26; refine (HQ.out _).mono ?_; rintro e w5 ⟨rfl, hB5⟩; have m0 := (hB5.cell (p := ⟨bW, oW + m, none⟩) gW).trans x0; have m1 := (hB5.cell (p := ⟨gB, 0, none⟩) gZ).trans z0; have m2 := (hB5.cell (p := ⟨g, m, none⟩) gS).trans s0; have m3 := (hB5.cell (p := ⟨wr.heap.size, 0, none⟩) hgn).trans p0))
            have hb5 : Below wn.heap.size wn w5 := (Below.refl _ _).drew.trans hB5
            have hown5 := own_below HON.out hb5 (Nat.le_refl _)
            have hbb5 := HBN.out.trans (hb5.mono HBN.out.size)
            have hz5 := hbb5.size
            have hkl : (d.take k).length = k := by rw [List.length_take]; omega
            have hkl1 : (d.take (k + 1)).length = k + 1 := by rw [List.length_take]; omega
            rw [hkl] at hown5
            have HL1 := Lib.hid hkl1
            have HOW5 := Lib.hid hown5
            have HBB5 := Lib.hid hbb5
            clear x0 s0 z0 p0 p1 p2 p4 p5 pf m0 m1 m2 hB5 hb5 hkl hkl1 hown5 hbb5 HON HBN BN HX0 HS0 HZ0'
            go_wp2_with (at_builtin; refine wpList_append_own _ rfl _ _ 39 rfl w3.heap.size 43 i0 _ 2 16 Try.underlying39 HI.out HZ0.out HZ1.out HZ2.out rfl (by decide) _ _ _ rfl (HOW5.out.alloc _) ⟨_, 0, none⟩ 1 1 [.int .i64 (m : Int), .int .u64 (v : Int)] rfl rfl (news_new _ _ _) (by simp [Value.oneCell']) (by unfold maxLen; omega) (by omega) (by simp; omega) ?_; intro v1 w6 hown1 hg1 _; have hB6 := below_append HBB5.out (by omega) HOW5.out hg1)
            go_roundw
            case rel => exact ⟨k + 1, by omega, by go_num, by rw [HSN.out, HL1.out, flat_snoc]; exact hown1, hB6⟩
            case measure => simp [intOf]; omega
          · rw [List.take_of_length_le (by omega)] at hown
            have hown2 : wr.ownsRow w3.heap.size 43 2 u7 (wtOut ws).length ((wtOut ws).flatMap En.cells) := by rw [HV.out.2, List.length_map]; exact hown
            obtain ⟨A4, c4, rfl, hle, hrd4⟩ := slice_of hown2
            have HRD4 := Lib.hid hrd4
            have HLE := Lib.hid hle
            clear hrd4 hown hown2 hle
            go_wp2_with fail
            go_ret2
            exact ⟨⟨A4, c4, by rw [HV.out.1]; rfl, HRD4.out, HLE.out⟩, HB3.out.trans (hB.mono HB3.out.size)⟩
      · exfalso
        rw [HV.out.1] at h9
        exact absurd h9 (by decide)
    · have HZ := Lib.hid hz
      clear h0 hl hbd hz
      go_enter Try.func21, Try.ntmps21
      go_wp2_with fail
      refine HC.out.mono ?_
      rintro e w1 ⟨⟨A1, c1, rfl, hown1⟩, hB1⟩
      have HB1 := Lib.hid hB1
      have HR1 := Lib.hid (HR.out.up hB1 hB1.size)
      have HO1 := Lib.hid hown1
      clear hown1 hB1
      go_wp2_with fail
      refine (HRC.out A1 _ w1 HR1.out (show RdB _ _ _ _ from Rd.of_own HO1.out)).mono ?_
      rintro e wE ⟨⟨h9, -⟩ | ⟨h9, rfl⟩, hB2⟩
      · exact absurd h9 HZ.out
      · have HBE := Lib.hid (HB1.out.trans (hB2.mono HB1.out.size))
        have H9 := Lib.hid h9
        clear h9
        go_wp2_with fail
        go_ret2
        exact ⟨wtRes_no H9.out (by decide), HBE.out.alloc HBE.out.size _⟩
  · have HZ := Lib.hid (And.intro (rcErr_heap h0) h0)
    obtain ⟨r, hr⟩ : ∃ r, hpErr ws = r := ⟨_, rfl⟩
    rw [hr] at HC HZ
    have hn1 : (r != 0) = true := by rw [bne_iff_ne, ← hr]; exact h0
    obtain ⟨q, hq⟩ : ∃ q, (hpOut ws).length = q := ⟨_, rfl⟩
    rw [hq] at HC
    clear h0 hr hq
    go_enter Try.func21, Try.ntmps21
    go_wp2_with fail
    refine HC.out.mono ?_
    rintro e w1 ⟨⟨A1, c1, rfl, -⟩, hB1⟩
    go_wp2_with fail
    go_ret2
    exact ⟨wtRes_no HZ.out.1 HZ.out.2, hB1⟩
end Go.Proofs.Ytpifagclhhaniaa
