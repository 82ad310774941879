/- The forwarding words that are wanted: what the program returns. -/
import Derived.Test.YtpifagclhhaniaaFwt
import Derived.Test.YtpifagclhhaniaaPlB
namespace Go.Proofs.Ytpifagclhhaniaa
open Go.RowKit

theorem infoEntry : (Try.prog.info? 43).map (fun i => (i.zero, i.size, i.bytes)) = some (some (.agg #[.int .i64 0, .int .u64 0]), 2, 16) := by kernel_rfl
def wnOut (ws : List Nat) : List En := if hpErr ws = 0 then wantE (hpOut ws) 128 else []
def WnRes (ws : List Nat) (e : Ending) (w' : World) : Prop := ∃ A c, e = .returned (.tuple #[.slice A (wnOut ws).length c, .int .i64 (hpErr ws)]) ∧ RdE w' w'.heap.size A (wnOut ws) ∧ (wnOut ws).length ≤ c
theorem hp_fr {ws : List Nat} (h : hpErr ws = 0) : frErr ws 128 = 0 ∧ frOut ws 128 = hpOut ws ∧ stErr (hpOut ws) 128 = 0 ∧ blocks ws 128 = some (hpOut ws) := by
  obtain ⟨h1, l, h2, h3, h4⟩ := hpErr_zero h
  obtain ⟨g1, g2⟩ := frErr_some h1 (frErr_128 h1) (l := l) h2
  have hb := (sizeOk_iff _).1 h1
  refine ⟨g1, by rw [g2, h4], ?_, by rw [h2, h4]⟩
  rw [h4]
  exact blocks_st (i := 128) (by omega) h2 (by omega) (by omega) (by omega) (s := 128) (by omega) (by omega) (by omega)
theorem wantE_take {l : List Bk} {k : Nat} (hk : k < l.length) (s : Int) : wantE (l.take (k + 1)) s = wantE (l.take k) s ++ (if l[k].kind = 1 ∧ l[k].next ≠ wantN l[k] (endOf (l.take k) s) then [⟨l[k].at_ + 1, wantN l[k] (endOf (l.take k) s)⟩] else []) := by
  rw [List.take_succ_eq_append_getElem hk, wantE_append]
  simp [wantE]
theorem wantE_len (l : List Bk) : ∀ s, (wantE l s).length ≤ l.length := by
  induction l with
  | nil => intro s; exact Nat.le_refl _
  | cons b l ih =>
    intro s
    have := ih (nextS b s)
    simp only [wantE, List.length_append, List.length_cons]
    split <;> simp <;> omega
theorem place_at {l : List Bk} {s : Int} (h : stErr l s = 0) {k : Nat} (hk : k < l.length) : ∃ h2 : k < (plOut l s).length, (plOut l s)[k] = ((wantN l[k] (endOf (l.take k) s) : Nat) : Int) ∧ wantN l[k] (endOf (l.take k) s) ≤ 2048 := by
  have e1 : plOut l s = placesOf l s := by simp [plOut, h]
  have hl : k < (plOut l s).length := by rw [e1, placesOf_len]; exact hk
  refine ⟨hl, ?_, ?_⟩
  · have := placesOf_at (l := l) (s := s) hk
    rw [gk_get l k hk, ← e1, List.getElem?_eq_getElem hl] at this
    rw [Option.some.inj this]
    obtain ⟨h1, h2, h3, _⟩ := stErr_zero h
    have hb := endOf_bd h1 (Nat.le_of_lt hk) h2 h3
    unfold wantN
    split <;> omega
  · obtain ⟨h1, h2, h3, _⟩ := stErr_zero h
    have hb := endOf_bd h1 (Nat.le_of_lt hk) h2 h3
    unfold wantN
    split <;> omega

theorem size_bd' {l : List Bk} {s : Int} (h : stErr l s = 0) {k : Nat} (hk : k < l.length) : 128 ≤ l[k].at_ ∧ l[k].at_ ≤ 2048 ∧ 2 ≤ l[k].size ∧ l[k].size ≤ 2048 := by
  obtain ⟨h1, _⟩ := stErr_zero h
  have := (bkOk_iff _).1 (rowPre_at (rowErr_zero h1).2 hk).1
  rw [gk_get l k hk] at this
  omega

set_option maxRecDepth 100000 in
set_option maxHeartbeats 4000000 in
theorem fwWanted_c (A : Option Addr) (ws : List Nat) (c n : Nat) (w : World) (hn : ws.length = n) (hm : n ≤ 9223372036854775807) (hr : RdW w w.heap.size A ws) (ho : ∀ x ∈ ws, x < 18446744073709551616) :
    Calls Try.prog 50 #[.slice A n c] w fun e w' => WnRes ws e w' ∧ Below w.heap.size w w' := by
  have HC := Lib.hid (mCheck_c A ws c n w hn hm hr ho)
  have HF := Lib.hid (fun W (h : RdW W W.heap.size A ws) => from_c A ws c n 128 W hn hm h ho)
  have HR := Lib.hid hr
  have HFR : Hid (hpErr ws = 0 → frErr ws 128 = 0 ∧ frOut ws 128 = hpOut ws ∧ stErr (hpOut ws) 128 = 0 ∧ blocks ws 128 = some (hpOut ws)) := Lib.hid hp_fr
  have hlen := hpOut_len ws
  clear hr ho hn
  by_cases h0 : hpErr ws = 0
  · obtain ⟨g1, g2, g3, g4⟩ := HFR.out h0
    have HW := Lib.hid (show wnOut ws = wantE (hpOut ws) 128 by simp [wnOut, h0])
    have HE := Lib.hid h0
    rw [h0] at HC
    unfold FrRes at HF
    rw [g1, g2] at HF
    obtain ⟨l, hl⟩ : ∃ l, hpOut ws = l := ⟨_, rfl⟩
    rw [hl] at HF hlen HW g3
    have HG3 := Lib.hid g3
    have HPL := Lib.hid (fun (A2 : Option Addr) (c2 : Nat) (W : World) (h : RdB W W.heap.size A2 l) => places_c A2 l c2 l.length 128 W rfl (by omega) h (by omega))
    unfold PlRes at HPL
    rw [g3] at HPL
    clear h0 g1 g2 g3 g4 hl HFR
    obtain ⟨i0, hi, hz0, hz1, hz2⟩ := info_parts infoEntry
    have HI := Lib.hid hi
    have HZ0 := Lib.hid hz0
    have HZ1 := Lib.hid hz1
    have HZ2 := Lib.hid hz2
    clear hi hz0 hz1 hz2
    go_enter Try.func50, Try.ntmps50
    go_wp2_with fail
    refine HC.out.mono ?_
    rintro e w1 ⟨rfl, hB1⟩
    have hz1 := hB1.size
    go_wp2_with fail
    refine (HF.out _ (HR.out.up hB1 hz1)).mono ?_
    rintro e w2 ⟨⟨A1, c1, rfl, hrd, -⟩, hB2⟩
    have hb2 := hB1.trans (hB2.mono hz1)
    have hz2 := hb2.size
    have HRD := Lib.hid hrd
    clear hrd
    go_wp2_with fail
    refine (HPL.out A1 c1 _ HRD.out).mono ?_
    rintro e w3 ⟨⟨A2, c2, rfl, hrp, -⟩, hB3⟩
    have hb3 := hb2.trans (hB3.mono hz2)
    have hz3 := hb3.size
    have HRP := Lib.hid hrp
    have HRD3 := Lib.hid (HRD.out.up hB3 hB3.size)
    clear hrp HRD
    obtain ⟨pl, hpl⟩ : ∃ pl, plOut l 128 = pl := ⟨_, rfl⟩
    have HPE := Lib.hid hpl
    rw [hpl] at HRP ⊢
    have hpll : pl.length = l.length := by rw [← hpl]; simp [plOut, HG3.out, placesOf_len]
    have HPA := Lib.hid (fun k (hk : k < l.length) => place_at HG3.out hk)
    rw [hpl] at HPA
    have HPL2 := Lib.hid hpll
    rw [hpll]
    clear hpl hpll
    go_wp2_with fail
    go_loopw [9, 30] (fun v i wr => ∃ k : Nat, k ≤ l.length ∧ i = .int .i64 k ∧ wr.ownsRow w3.heap.size 43 2 v (wantE (l.take k) 128).length ((wantE (l.take k) 128).flatMap En.cells) ∧ Below w3.heap.size w3 wr) (fun _ i _ => l.length - (intOf i).toNat)
    case atStart => exact ⟨0, Nat.zero_le _, rfl, World.ownsRow_nil _ _ _ _, Below.refl _ _⟩
    case round =>
      obtain ⟨k, hk, rfl, hown, hB⟩ := hrel
      have hz := hB.size
      by_cases hlt : k < l.length
      · obtain ⟨b, off, rfl, hbw, q0, q1, q2, q3, q4, q5⟩ := RdB.at_ (HRD3.out.below hB) hlt
        obtain ⟨hkp, hp1, hp2⟩ := HPA.out k hlt
        obtain ⟨b2, off2, rfl, hbw2, p0⟩ := RdI.at_ (HRP.out.below hB) hkp
        rw [hp1] at p0
        have HSN := Lib.hid (wantE_take hlt 128)
        have hml := wantE_len (l.take k) 128
        rw [List.length_take] at hml
        have hbd := size_bd' HG3.out hlt
        obtain ⟨m, hm2⟩ : ∃ m, wantE (l.take k) 128 = m := ⟨_, rfl⟩
        rw [hm2] at hown HSN hml
        obtain ⟨v, hv⟩ : ∃ v, wantN l[k] (endOf (l.take k) 128) = v := ⟨_, rfl⟩
        rw [hv] at hp2 p0 HSN
        obtain ⟨x, hx⟩ : ∃ x, l[k] = x := ⟨_, rfl⟩
        rw [hx] at q0 q1 q2 q3 q4 q5 HSN hbd
        obtain ⟨xa, xs, xk, xt, xm, xn⟩ := x
        dsimp only at q0 q1 q2 q3 q4 q5 HSN hbd
        have hlm : (k : Int) < (l.length : Int) := by omega
        have hml2 : m.length ≤ 1024 := by omega
        have hbw' : b2 < wr.heap.size := by omega
        have p0' := (World.cell?_alloc_lt wr (.cells #[.int .i64 xa, .int .i64 xs, .int .i64 xk, .int .i64 xt, .bool xm, .int .u64 (xn : Int)] 47) ⟨b2, off2 + k, none⟩ hbw').trans p0
        have hv2 : (v : Int) ≤ 2048 := by omega
        have hv0 : (0 : Int) ≤ (v : Int) := by omega
        clear hx hm2 hml hv hp1
        by_cases hk1 : xk = 1
        · subst hk1
          by_cases hnv : xn = v
          · have hnb : ((xn : Int) != (v : Int)) = false := by rw [bne_eq_false_iff_eq]; omega
            have HS2 := Lib.hid (show wantE (l.take (k + 1)) 128 = m by rw [HSN.out, if_neg (fun h => h.2 hnv)]; simp)
            clear HSN hnv
            go_wp2_with fail
            go_roundw
            case rel => exact ⟨k + 1, by omega, by go_num, by rw [HS2.out]; exact hown.alloc _, hB.alloc hz _⟩
            case measure => simp [intOf]; omega
          · have hnb : ((xn : Int) != (v : Int)) = true := by rw [bne_iff_ne]; omega
            have HS2 := Lib.hid (show wantE (l.take (k + 1)) 128 = m ++ [⟨xa + 1, v⟩] by rw [HSN.out, if_pos ⟨rfl, hnv⟩])
            clear HSN hnv
            go_wp2_with (at_builtin; refine wpList_append_own _ rfl _ _ 39 rfl w3.heap.size 43 i0 _ 2 16 Try.underlying39 HI.out HZ0.out HZ1.out HZ2.out rfl (by decide) _ _ _ rfl ((hown.alloc _).alloc _) ⟨_, 0, none⟩ 1 1 [.int .i64 (xa + 1), .int .u64 (v : Int)] rfl rfl (news_at _ _ _ (World.size_alloc _ _)) (by simp [Value.oneCell']) (by unfold maxLen; omega) (by omega) (by simp; omega) ?_; intro v1 w2 hown1 hg1 _; have hB2 := below_append (hB.alloc hz (.cells #[.int .i64 xa, .int .i64 xs, .int .i64 1, .int .i64 xt, .bool xm, .int .u64 (xn : Int)] 47)) (by simp; omega) (hown.alloc _) hg1)
            go_roundw
            case rel => exact ⟨k + 1, by omega, by go_num, by rw [HS2.out, List.length_append, flat_snoc]; exact hown1, hB2⟩
            case measure => simp [intOf]; omega
        · have hk2 : (xk == 1) = false := by rw [beq_eq_false_iff_ne]; exact hk1
          have HS2 := Lib.hid (show wantE (l.take (k + 1)) 128 = m by rw [HSN.out, if_neg (fun h => hk1 h.1)]; simp)
          clear HSN hk1
          go_wp2_with fail
          go_roundw
          case rel => exact ⟨k + 1, by omega, by go_num, by rw [HS2.out]; exact hown.alloc _, hB.alloc hz _⟩
          case measure => simp [intOf]; omega
      · rw [List.take_of_length_le (by omega)] at hown
        obtain ⟨A4, c4, rfl, hle, hrd4⟩ := slice_of hown
        have HRD4 := Lib.hid hrd4
        have HLE := Lib.hid hle
        clear hrd4 hown
        go_wp2_with fail
        go_ret2
        exact ⟨⟨A4, c4, by rw [HW.out, HE.out]; rfl, by rw [HW.out]; exact HRD4.out, by rw [HW.out]; exact HLE.out⟩, hb3.trans (hB.mono hz3)⟩
  · have hn1 : (hpErr ws != 0) = true := by rw [bne_iff_ne]; exact h0
    have HW := Lib.hid (show wnOut ws = [] by simp [wnOut, h0])
    obtain ⟨r, hr⟩ : ∃ r, hpErr ws = r := ⟨_, rfl⟩
    have HE := Lib.hid hr
    rw [hr] at HC hn1
    clear h0 hr HFR
    go_enter Try.func50, Try.ntmps50
    go_wp2_with fail
    refine HC.out.mono ?_
    rintro e w1 ⟨rfl, hB1⟩
    go_wp2_with fail
    go_ret2
    exact ⟨⟨none, 0, by rw [HW.out, HE.out]; rfl, by rw [HW.out]; exact Rd.nil_, by rw [HW.out]; exact Nat.le_refl _⟩, hB1⟩
end Go.Proofs.Ytpifagclhhaniaa
