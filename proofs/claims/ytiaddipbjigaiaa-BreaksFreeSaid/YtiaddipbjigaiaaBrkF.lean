/- BreaksFree: which blocks are free does not matter but for their sizes. -/
import Derived.Test.YtiaddipbjigaiaaCut
import Derived.Test.YtiaddipbjigaiaaBrkO
namespace Go.Proofs.Ytiaddipbjigaiaa
open Go.RowKit

/-- The block that takes another one's place. -/
def otherB (b : Bk) (typ : Int) : Bk := if liveB b then { b with typ := typ, next := 77 } else { b with kind := 3 - b.kind, mark := false }
theorem other_same {b : Bk} (h : bkOk b = true) (typ : Int) : bkSame b (otherB b typ) := by
  obtain ⟨xa, xs, xk, xt, xm, xn⟩ := b
  have h1 := (bkOk_iff _).1 h
  dsimp only at h1
  unfold otherB
  cases hl : liveB ⟨xa, xs, xk, xt, xm, xn⟩
  · rw [if_neg (by simp)]
    refine ⟨?_, rfl, rfl, ?_⟩
    · rw [h]
      exact ((bkOk_iff _).2 (by dsimp only; omega)).symm
    · rw [hl]; simp [liveB]
  · rw [if_pos rfl]
    exact ⟨rfl, rfl, rfl, rfl⟩
theorem other_cells1 {b : Bk} (hl : liveB b = true) (typ : Int) : (otherB b typ).cells = (b.cells.set 3 (.int .i64 typ)).set 5 (.int .u64 77) := by simp [otherB, hl, Bk.cells]
theorem other_cells0 {b : Bk} (hl : liveB b = false) (typ : Int) : (otherB b typ).cells = (b.cells.set 2 (.int .i64 (3 - b.kind))).set 4 (.bool false) := by simp [otherB, hl, Bk.cells]

theorem flat_set2 {α : Type} (f : α → List Value) (sz : Nat) (hf : ∀ x, (f x).length = sz) (l : List α) (k j j' : Nat) (hj : j < sz) (hj' : j' < sz) (hk : k < l.length) (x : α) (u u' : Value) (h : f x = ((f l[k]).set j u).set j' u') :
    (l.set k x).flatMap f = ((l.flatMap f).set (k * sz + j) u).set (k * sz + j') u' := by
  induction l generalizing k with
  | nil => simp at hk
  | cons y l ih =>
    cases k with
    | zero =>
      have h : f x = ((f y).set j u).set j' u' := h
      simp only [List.set_cons_zero, List.flatMap_cons, h, Nat.zero_mul, Nat.zero_add]
      rw [List.set_append_left _ _ (by rw [hf]; exact hj), List.set_append_left _ _ (by rw [List.length_set, hf]; exact hj')]
    | succ k =>
      simp only [List.set_cons_succ, List.flatMap_cons]
      rw [ih k (by simpa using hk) h, List.set_append_right _ _ (by rw [hf, Nat.add_mul]; omega), List.set_append_right _ _ (by rw [hf, Nat.add_mul]; omega), hf]
      rw [show (k + 1) * sz + j - sz = k * sz + j by rw [Nat.add_mul]; omega, show (k + 1) * sz + j' - sz = k * sz + j' by rw [Nat.add_mul]; omega]

theorem infoBlkF : (Try.prog.info? 59).map (fun i => (i.zero, i.size, i.bytes)) = some (some (.agg #[.int .i64 0, .int .i64 0, .int .i64 0, .int .i64 0, .bool false, .int .u64 0]), 6, 48) := by kernel_rfl

set_option maxRecDepth 100000 in
set_option maxHeartbeats 3200000 in
theorem breaksFree_walk (w : World) (A : Option Addr) (l : List Bk) (c : Nat) (hm : l.length ≤ maxLen) (_hc : l.length ≤ c) (hr : RdB w w.heap.size A l) (_ho : ∀ x ∈ l, x.ok) (s : Int) (hs : -9223372036854775808 ≤ s ∧ s ≤ 9223372036854775807) (at_ : Int) (ha : -9223372036854775808 ≤ at_ ∧ at_ ≤ 9223372036854775807) (typ : Int) (_ht : -9223372036854775808 ≤ typ ∧ typ ≤ 9223372036854775807) :
    Calls Try.prog 8 #[.slice A l.length c, .int .i64 s, .int .i64 at_, .int .i64 typ] w fun e w' => e = .returned (.bool true) ∧ Below w.heap.size w w' := by
  have HR := Lib.hid hr
  have HS := Lib.hid hs
  clear hr hs
  unfold maxLen at hm
  go_enter Try.func8, Try.ntmps8
  go_wp2_with fail
  refine (alive26_c _).mono ?_
  rintro e w0 ⟨rfl, hB0⟩
  have hz0 := hB0.size
  go_wp2_with fail
  refine (great26_c A l.length c _ (by omega)).mono ?_
  rintro e w1 ⟨rfl, rfl⟩
  cases hg : greatB l.length
  case true =>
    clear hg
    go_wp2_with fail
    go_ret
    exact ⟨rfl, hB0⟩
  case false =>
    have hn := greatB_no hg
    have hlen : l.length ≤ 4294967296 := by omega
    clear hg hn hm
    go_wp2_with fail
    refine (refCheck_c A l c l.length _ rfl (by omega) (HR.out.up hB0 hz0)).mono ?_
    rintro e w1 ⟨rfl, hB1⟩
    have hb1 := hB0.trans (hB1.mono hz0)
    by_cases h0 : rowErr l = 0
    · have HRE := Lib.hid h0
      rw [h0]
      clear h0
      obtain ⟨ha1, ha2⟩ := ha
      by_cases hneg : at_ < 0
      · go_wp2_with fail
        go_ret
        exact ⟨rfl, hb1⟩
      · obtain ⟨k, rfl⟩ := Int.eq_ofNat_of_zero_le (show 0 ≤ at_ by omega)
        clear hneg ha1
        by_cases hge : l.length ≤ k
        · go_wp2_with fail
          go_ret
          exact ⟨rfl, hb1⟩
        · have hlt : k < l.length := by omega
          clear hge
          obtain ⟨b, off, rfl, hb, h0, h1, h2, h3, h4, h5⟩ := HR.out.at_ hlt
          have hz1 := hb1.size
          have HLN := Lib.hid (flat_len Bk.cells 6 Bk.len l)
          have hok := (rowPre_at (rowErr_zero HRE.out).2 hlt).1
          have hkd := ((bkOk_iff _).1 hok).1
          have hkb : 1 ≤ (gk l k).kind ∧ (gk l k).kind ≤ 2 := by omega
          have HSM := Lib.hid (other_same hok typ)
          have E := Lib.hid (gk_get l k hlt)
          have ik1 : (0 : Int) ≤ (k : Int) := by omega
          have ik2 : (k : Int) < (l.length : Int) := by omega
          have HC : Hid (∀ W : World, Below w1.heap.size w1 W → W.cell? ⟨b, off + k * 6, none⟩ = some (.int .i64 l[k].at_) ∧ W.cell? ⟨b, off + k * 6 + 1, none⟩ = some (.int .i64 l[k].size) ∧ W.cell? ⟨b, off + k * 6 + 2, none⟩ = some (.int .i64 l[k].kind) ∧
              W.cell? ⟨b, off + k * 6 + 3, none⟩ = some (.int .i64 l[k].typ) ∧ W.cell? ⟨b, off + k * 6 + 4, none⟩ = some (.bool l[k].mark) ∧ W.cell? ⟨b, off + k * 6 + 5, none⟩ = some (.int .u64 (l[k].next : Int))) := Lib.hid fun W hW => by
            have hh := hb1.trans (hW.mono hz1)
            exact ⟨(hh.cell (p := ⟨b, off + k * 6, none⟩) hb).trans h0, (hh.cell (p := ⟨b, off + k * 6 + 1, none⟩) hb).trans h1, (hh.cell (p := ⟨b, off + k * 6 + 2, none⟩) hb).trans h2, (hh.cell (p := ⟨b, off + k * 6 + 3, none⟩) hb).trans h3, (hh.cell (p := ⟨b, off + k * 6 + 4, none⟩) hb).trans h4, (hh.cell (p := ⟨b, off + k * 6 + 5, none⟩) hb).trans h5⟩
          rw [E.out] at HSM hkb
          clear hkd
          obtain ⟨x, hx⟩ : ∃ x, l[k] = x := ⟨_, rfl⟩
          rw [hx] at HC HSM hkb
          have HX := Lib.hid hx
          clear hok h0 h1 h2 h3 h4 h5 hx
          have hlv := fun W => live_c x W
          unfold Bk.val at hlv
          have HL := Lib.hid hlv
          clear hlv
          obtain ⟨xa, xs, xk, xt, xm, xn⟩ := x
          dsimp only at HC HL hkb
          obtain ⟨kb1, kb2⟩ := hkb
          obtain ⟨i0, hi, hz0, hz1, hz2⟩ := info_parts infoBlkF
          have HI := Lib.hid hi
          have HZ0 := Lib.hid hz0
          have HZ1 := Lib.hid hz1
          have HZ2 := Lib.hid hz2
          clear hi hz0 hz1 hz2
          go_wp2_with (at_builtin; refine wpList_append_rd' _ (by rfl) _ _ 41 rfl w1.heap.size 59 i0 _ 6 48 Try.underlying41 HI.out HZ0.out HZ1.out HZ2.out rfl (by decide) (.slice (some ⟨w1.heap.size, 0, none⟩) 0 0) 0 [] (by rfl) (own_empty w1 _ _ _ (Nat.le_refl _)) w.heap.size (some ⟨b, off, none⟩) l.length _ (l.flatMap Bk.cells) (by rfl) HLN.out (Rd.alloc (HR.out.below hb1) hz1 _) (cells_one Bk.one _) (by unfold maxLen; omega) (by omega) (by simp) ?_; intro v1 wa hown1 hg1; have hBa := below_append0 ((Below.refl w1.heap.size w1).alloc (Nat.le_refl _) _) (by simp) (own_empty w1 w1.heap.size 59 6 (Nat.le_refl _)) hg1; obtain ⟨c0, c1, c2, c3, c4, c5⟩ := HC.out _ hBa)
          refine (HL.out _).mono ?_
          rintro e wb ⟨rfl, hBb⟩
          have hown2 := own_below hown1 hBb (Nat.le_refl _)
          have hB2 := hBa.trans (hBb.mono hBa.size)
          clear c0 c1 c2 c3 c4 c5 hg1
          obtain ⟨c0, c1, c2, c3, c4, c5⟩ := HC.out _ hB2
          rcases hown2.2 with ⟨-, hnil⟩ | ⟨g, cap, cur, rfl, hge, hgg, hle, -⟩
          · omega
          have hrd := Lib.hid (show RdB wb wb.heap.size (some ⟨g, 0, none⟩) l from by have := Rd.of_own hown2; simpa [RdB] using this)
          have bx : Bx wb g 59 cur := hgg
          have f3 := bx.frozen (k * 6 + 3)
          have f5 := bx.frozen (k * 6 + 5)
          have f2 := bx.frozen (k * 6 + 2)
          have f4 := bx.frozen (k * 6 + 4)
          clear hown1 hown2 bx hgg
          obtain ⟨b', o', e', hgl, d0, d1, d2, d3, d4, d5⟩ := hrd.out.at_ hlt
          cases e'
          rw [HX.out] at d0 d1 d2 d3 d4 d5
          simp only [Nat.zero_add] at d0 d1 d2 d3 d4 d5 hle
          cases hlb : liveB ⟨xa, xs, xk, xt, xm, xn⟩
          · have HLB := Lib.hid hlb
            clear hlb
            go_wp2_with fail
            obtain ⟨oc, hoc⟩ : ∃ oc, oc = otherB ⟨xa, xs, xk, xt, xm, xn⟩ typ := ⟨_, rfl⟩
            have hrs : RdB ((wb.setCell ⟨g, k * 6 + 2, none⟩ (.int .i64 (3 - xk))).setCell ⟨g, k * 6 + 4, none⟩ (.bool false)) wb.heap.size (some ⟨g, 0, none⟩) (l.set k oc) := by
              unfold RdB
              rw [flat_set2 Bk.cells 6 Bk.len l k 2 4 (by omega) (by omega) hlt oc (.int .i64 (3 - xk)) (.bool false) (by rw [hoc, HX.out]; exact other_cells0 HLB.out typ)]
              have e1 := Rd.setAt (off := 0) (j := k * 6 + 2) (show Rd wb wb.heap.size (some ⟨g, 0, none⟩) _ from hrd.out) (by rw [HLN.out]; omega) (u0 := .int .i64 xk) (by rw [Nat.zero_add]; exact d2) (.int .i64 (3 - xk))
              have e2 := Rd.setAt (off := 0) (j := k * 6 + 4) e1 (by rw [List.length_set, HLN.out]; omega) (u0 := .bool xm) (by rw [Nat.zero_add, Nat.zero_add]; exact (World.cell?_setCell_other _ _ _ _ (by simp)).trans d4) (.bool false)
              simpa only [Nat.zero_add] using e2
            have hbs : Below w1.heap.size w1 ((wb.setCell ⟨g, k * 6 + 2, none⟩ (.int .i64 (3 - xk))).setCell ⟨g, k * 6 + 4, none⟩ (.bool false)) := (hB2.setCell (p := ⟨g, k * 6 + 2, none⟩) hge _).setCell (p := ⟨g, k * 6 + 4, none⟩) hge _
            have hsz : (((wb.setCell ⟨g, k * 6 + 2, none⟩ (.int .i64 (3 - xk))).setCell ⟨g, k * 6 + 4, none⟩ (.bool false))).heap.size = wb.heap.size := by simp
            obtain ⟨wS, hwS⟩ : ∃ wS, ((wb.setCell ⟨g, k * 6 + 2, none⟩ (.int .i64 (3 - xk))).setCell ⟨g, k * 6 + 4, none⟩ (.bool false)) = wS := ⟨_, rfl⟩
            rw [hwS] at hrs hbs hsz ⊢
            have HRS := Lib.hid hrs
            rw [← hoc] at HSM
            clear hwS hrs c0 c1 c2 c3 c4 c5 d0 d1 d2 d3 d4 d5 f2 f3 f4 f5 hoc
            have hbS := hb1.trans (hbs.mono hz1)
            rw [← HX.out, ← E.out] at HSM
            have HL2 := Lib.hid (show (l.set k oc).length = l.length by simp)
            have HST := Lib.hid (stErr_set HSM.out s)
            have HPS := Lib.hid (places_set HSM.out s)
            have HRX := Lib.hid (rowErr_set HSM.out)
            have HPL := Lib.hid (show plOut (l.set k oc) s = plOut l s by unfold plOut; rw [HST.out, HPS.out.1])
            have HGX := Lib.hid (show gapRes (l.set k oc) = gapRes l by unfold gapRes; rw [HRX.out, HPS.out.2.2])
            refine (places_c _ l c l.length s _ rfl hlen (HR.out.up hbS hbS.size) HS.out).mono ?_
            rintro e w2 ⟨⟨P, cp, rfl, hp, -⟩, hC2⟩
            have hz2 := hC2.size
            have HP2 := Lib.hid hp
            have hb2 := hbS.trans (hC2.mono hbS.size)
            have HRS2 := Lib.hid (show RdB w2 wb.heap.size (some ⟨g, 0, none⟩) (l.set k oc) from HRS.out.below (hC2.mono (by omega)))
            clear hp HRS
            go_wp2_with fail
            refine (places_c _ (l.set k oc) _ l.length s _ HL2.out hlen (show RdB w2 w2.heap.size _ _ from HRS2.out.more (by omega)) HS.out).mono ?_
            rintro e w3 ⟨⟨Q, cq, rfl, hq, -⟩, hC3⟩
            rw [HST.out, HPL.out]
            rw [HPL.out] at hq
            have hz3 := hC3.size
            have HP3 := Lib.hid (Rd.below HP2.out hC3)
            have HQ3 := Lib.hid hq
            have hb3 := hb2.trans (hC3.mono hb2.size)
            have HRS3 := Lib.hid (show RdB w3 wb.heap.size (some ⟨g, 0, none⟩) (l.set k oc) from HRS2.out.below (hC3.mono (by omega)))
            clear hq HRS2 HP2
            obtain ⟨G, hG⟩ : ∃ G, (if rowErr l = 0 then gapsOf l else 0) = G := ⟨_, rfl⟩
            obtain ⟨q, hq⟩ : ∃ q, rowErr l = q := ⟨_, rfl⟩
            have HGV := Lib.hid (show gapRes l = .tuple #[.int .i64 G, .int .i64 q] by unfold gapRes; rw [hG, hq])
            clear hG hq
            go_wp2_with fail
            refine (gaps_c _ l c l.length _ rfl hlen (HR.out.up hb3 hb3.size)).mono ?_
            rintro e w4 ⟨rfl, hC4⟩
            rw [HGV.out]
            have hz4 := hC4.size
            have HP4 := Lib.hid (Rd.below HP3.out (hC4.mono hz3))
            have HQ4 := Lib.hid (Rd.below HQ3.out hC4)
            have hb4 := hb3.trans (hC4.mono hb3.size)
            have HRS4 := Lib.hid (show RdB w4 wb.heap.size (some ⟨g, 0, none⟩) (l.set k oc) from HRS3.out.below (hC4.mono (by omega)))
            clear HRS3 HP3 HQ3
            go_wp2_with fail
            refine (gaps_c _ (l.set k oc) _ l.length _ HL2.out hlen (show RdB w4 w4.heap.size _ _ from HRS4.out.more (by omega))).mono ?_
            rintro e w5 ⟨rfl, hC5⟩
            rw [HGX.out, HGV.out]
            have hz5 := hC5.size
            have HP5 := Lib.hid (Rd.below HP4.out (hC5.mono (by omega)))
            have HQ5 := Lib.hid (Rd.below HQ4.out (hC5.mono (by omega)))
            have hb5 := hb4.trans (hC5.mono hb4.size)
            clear HRS4 HP4 HQ4
            have hpb := plOut_bd (s := s) hlen
            go_wp2_with fail
            refine (sameInts_c _ _ (plOut l s) (plOut l s) _ _ _ _ _ rfl rfl hpb hpb (show RdI w5 w5.heap.size _ _ from Rd.more HP5.out (by omega)) (show RdI w5 w5.heap.size _ _ from Rd.more HQ5.out (by omega))).mono ?_
            rintro e w6 ⟨rfl, hC6⟩
            rw [sameI_refl]
            have hb6 := hb5.trans (hC6.mono hb5.size)
            go_wp2_with fail
            go_ret
            exact ⟨rfl, hb6⟩
          · have HLB := Lib.hid hlb
            clear hlb
            go_wp2_with fail
            obtain ⟨oc, hoc⟩ : ∃ oc, oc = otherB ⟨xa, xs, xk, xt, xm, xn⟩ typ := ⟨_, rfl⟩
            have hrs : RdB ((wb.setCell ⟨g, k * 6 + 3, none⟩ (.int .i64 typ)).setCell ⟨g, k * 6 + 5, none⟩ (.int .u64 77)) wb.heap.size (some ⟨g, 0, none⟩) (l.set k oc) := by
              unfold RdB
              rw [flat_set2 Bk.cells 6 Bk.len l k 3 5 (by omega) (by omega) hlt oc (.int .i64 typ) (.int .u64 77) (by rw [hoc, HX.out]; exact other_cells1 HLB.out typ)]
              have e1 := Rd.setAt (off := 0) (j := k * 6 + 3) (show Rd wb wb.heap.size (some ⟨g, 0, none⟩) _ from hrd.out) (by rw [HLN.out]; omega) (u0 := .int .i64 xt) (by rw [Nat.zero_add]; exact d3) (.int .i64 typ)
              have e2 := Rd.setAt (off := 0) (j := k * 6 + 5) e1 (by rw [List.length_set, HLN.out]; omega) (u0 := .int .u64 (xn : Int)) (by rw [Nat.zero_add, Nat.zero_add]; exact (World.cell?_setCell_other _ _ _ _ (by simp)).trans d5) (.int .u64 77)
              simpa only [Nat.zero_add] using e2
            have hbs : Below w1.heap.size w1 ((wb.setCell ⟨g, k * 6 + 3, none⟩ (.int .i64 typ)).setCell ⟨g, k * 6 + 5, none⟩ (.int .u64 77)) := (hB2.setCell (p := ⟨g, k * 6 + 3, none⟩) hge _).setCell (p := ⟨g, k * 6 + 5, none⟩) hge _
            have hsz : (((wb.setCell ⟨g, k * 6 + 3, none⟩ (.int .i64 typ)).setCell ⟨g, k * 6 + 5, none⟩ (.int .u64 77))).heap.size = wb.heap.size := by simp
            obtain ⟨wS, hwS⟩ : ∃ wS, ((wb.setCell ⟨g, k * 6 + 3, none⟩ (.int .i64 typ)).setCell ⟨g, k * 6 + 5, none⟩ (.int .u64 77)) = wS := ⟨_, rfl⟩
            rw [hwS] at hrs hbs hsz ⊢
            have HRS := Lib.hid hrs
            rw [← hoc] at HSM
            clear hwS hrs c0 c1 c2 c3 c4 c5 d0 d1 d2 d3 d4 d5 f2 f3 f4 f5 hoc
            have hbS := hb1.trans (hbs.mono hz1)
            rw [← HX.out, ← E.out] at HSM
            have HL2 := Lib.hid (show (l.set k oc).length = l.length by simp)
            have HST := Lib.hid (stErr_set HSM.out s)
            have HPS := Lib.hid (places_set HSM.out s)
            have HRX := Lib.hid (rowErr_set HSM.out)
            have HPL := Lib.hid (show plOut (l.set k oc) s = plOut l s by unfold plOut; rw [HST.out, HPS.out.1])
            have HGX := Lib.hid (show gapRes (l.set k oc) = gapRes l by unfold gapRes; rw [HRX.out, HPS.out.2.2])
            refine (places_c _ l c l.length s _ rfl hlen (HR.out.up hbS hbS.size) HS.out).mono ?_
            rintro e w2 ⟨⟨P, cp, rfl, hp, -⟩, hC2⟩
            have hz2 := hC2.size
            have HP2 := Lib.hid hp
            have hb2 := hbS.trans (hC2.mono hbS.size)
            have HRS2 := Lib.hid (show RdB w2 wb.heap.size (some ⟨g, 0, none⟩) (l.set k oc) from HRS.out.below (hC2.mono (by omega)))
            clear hp HRS
            go_wp2_with fail
            refine (places_c _ (l.set k oc) _ l.length s _ HL2.out hlen (show RdB w2 w2.heap.size _ _ from HRS2.out.more (by omega)) HS.out).mono ?_
            rintro e w3 ⟨⟨Q, cq, rfl, hq, -⟩, hC3⟩
            rw [HST.out, HPL.out]
            rw [HPL.out] at hq
            have hz3 := hC3.size
            have HP3 := Lib.hid (Rd.below HP2.out hC3)
            have HQ3 := Lib.hid hq
            have hb3 := hb2.trans (hC3.mono hb2.size)
            have HRS3 := Lib.hid (show RdB w3 wb.heap.size (some ⟨g, 0, none⟩) (l.set k oc) from HRS2.out.below (hC3.mono (by omega)))
            clear hq HRS2 HP2
            obtain ⟨G, hG⟩ : ∃ G, (if rowErr l = 0 then gapsOf l else 0) = G := ⟨_, rfl⟩
            obtain ⟨q, hq⟩ : ∃ q, rowErr l = q := ⟨_, rfl⟩
            have HGV := Lib.hid (show gapRes l = .tuple #[.int .i64 G, .int .i64 q] by unfold gapRes; rw [hG, hq])
            clear hG hq
            go_wp2_with fail
            refine (gaps_c _ l c l.length _ rfl hlen (HR.out.up hb3 hb3.size)).mono ?_
            rintro e w4 ⟨rfl, hC4⟩
            rw [HGV.out]
            have hz4 := hC4.size
            have HP4 := Lib.hid (Rd.below HP3.out (hC4.mono hz3))
            have HQ4 := Lib.hid (Rd.below HQ3.out hC4)
            have hb4 := hb3.trans (hC4.mono hb3.size)
            have HRS4 := Lib.hid (show RdB w4 wb.heap.size (some ⟨g, 0, none⟩) (l.set k oc) from HRS3.out.below (hC4.mono (by omega)))
            clear HRS3 HP3 HQ3
            go_wp2_with fail
            refine (gaps_c _ (l.set k oc) _ l.length _ HL2.out hlen (show RdB w4 w4.heap.size _ _ from HRS4.out.more (by omega))).mono ?_
            rintro e w5 ⟨rfl, hC5⟩
            rw [HGX.out, HGV.out]
            have hz5 := hC5.size
            have HP5 := Lib.hid (Rd.below HP4.out (hC5.mono (by omega)))
            have HQ5 := Lib.hid (Rd.below HQ4.out (hC5.mono (by omega)))
            have hb5 := hb4.trans (hC5.mono hb4.size)
            clear HRS4 HP4 HQ4
            have hpb := plOut_bd (s := s) hlen
            go_wp2_with fail
            refine (sameInts_c _ _ (plOut l s) (plOut l s) _ _ _ _ _ rfl rfl hpb hpb (show RdI w5 w5.heap.size _ _ from Rd.more HP5.out (by omega)) (show RdI w5 w5.heap.size _ _ from Rd.more HQ5.out (by omega))).mono ?_
            rintro e w6 ⟨rfl, hC6⟩
            rw [sameI_refl]
            have hb6 := hb5.trans (hC6.mono hb5.size)
            go_wp2_with fail
            go_ret
            exact ⟨rfl, hb6⟩
    · have h8 : rowErr l = 8 := (rowErr_val l).resolve_left h0
      rw [h8]
      clear h0 h8
      go_wp2_with fail
      go_ret
      exact ⟨rfl, hb1⟩
end Go.Proofs.Ytiaddipbjigaiaa
