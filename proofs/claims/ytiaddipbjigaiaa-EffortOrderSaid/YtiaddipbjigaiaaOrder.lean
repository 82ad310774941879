/- EffortOrder: neither the order of entries nor that of changes matters, and parts add up: the walk of the law. -/
import Derived.Test.YtiaddipbjigaiaaSum
import Derived.Test.YtiaddipbjigaiaaOrdP
import Derived.Test.YtiaddipbjigaiaaAl34
import Derived.Deep.RegionHeld3
namespace Go.Proofs.Ytiaddipbjigaiaa
open Go.RowKit

set_option maxHeartbeats 400000 in
theorem plus_c (a b c d e f : Int) (w : World) (h : (0 ≤ a ∧ a ≤ 1000000000000) ∧ (0 ≤ b ∧ b ≤ 1000000000000) ∧ (0 ≤ c ∧ c ≤ 1000000000000) ∧ (0 ≤ d ∧ d ≤ 1000000000000) ∧ (0 ≤ e ∧ e ≤ 1000000000000) ∧ (0 ≤ f ∧ f ≤ 1000000000000)) :
    Calls Try.prog 17 #[.agg #[.int .i64 a, .int .i64 b, .int .i64 c], .agg #[.int .i64 d, .int .i64 e, .int .i64 f]] w fun r w' => r = .returned (.agg #[.int .i64 (a + d), .int .i64 (b + e), .int .i64 (c + f)]) ∧ Below w.heap.size w w' := by
  obtain ⟨⟨a1, a2⟩, ⟨b1, b2⟩, ⟨c1, c2⟩, ⟨d1, d2⟩, ⟨e1, e2⟩, f1, f2⟩ := h
  go_enter Try.func17, Try.ntmps17
  go_wp2_with fail
  refine bodyPost_ret (v := .agg #[.int .i64 (a + d), .int .i64 (b + e), .int .i64 (c + f)]) (by simp [results, Try.results17, go_sem]) rfl ⟨rfl, ?_⟩
  (repeat' (first | with_reducible assumption | with_reducible exact Below.refl _ _ | (with_reducible refine below_drewN ?_ _) | (with_reducible refine Below.drew ?_) | (with_reducible refine Below.alloc ?_ ?_ _) | (with_reducible refine Below.setCell ?_ ?_ _))) <;> (first | exact Nat.le_refl _ | exact Nat.le_succ _ | omega | (dsimp only; omega) | ((repeat (first | (with_reducible refine le_alloc_ ?_) | (with_reducible refine le_set_ ?_) | (with_reducible refine le_drewN_ ?_))); first | exact Nat.le_refl _ | omega))

/-- The entries that the law makes of a change: in the other order, with another value. -/
def turned (l : List En) : List En := l.reverse.map fun e => ⟨e.a, 7⟩
theorem addrs_turned (l : List En) : addrs (turned l) = (addrs l).reverse := by simp [addrs, turned, Function.comp_def]

theorem infoEntries : (Try.prog.info? 22).map (fun i => (i.zero, i.size, i.bytes)) = some (some (.slice none 0 0), 1, 24) := by kernel_rfl

/-- What the law's outer loop keeps: m changes are still to be turned. -/
structure BackRel (H : Nat) (cs : List Ch) (m : Nat) (w wr : World) (v : Value) : Prop where
  below : Below H w wr
  row : ∃ bl : List Ch, wr.ownsRow H 22 1 v (cs.length - m) (bl.flatMap Ch.cells) ∧ (∀ x ∈ bl, wr.ownsRow H 37 2 (.slice x.A x.l.length x.c) x.l.length (x.l.flatMap En.cells)) ∧
    bl.map (·.l) = (cs.drop m).reverse.map fun x => turned x.l

theorem BackRel.step {H m : Nat} {cs : List Ch} {w wr w1 w2 : World} {v v2 : Value} {A : Option Addr} {c : Nat} {o : Obj} {tl : List En} (hb : Below H w wr) (bl : List Ch) (hown : wr.ownsRow H 22 1 v (cs.length - (m + 1)) (bl.flatMap Ch.cells))
    (hit : ∀ x ∈ bl, wr.ownsRow H 37 2 (.slice x.A x.l.length x.c) x.l.length (x.l.flatMap En.cells)) (hmap : bl.map (·.l) = (cs.drop (m + 1)).reverse.map fun x => turned x.l)
    (hm : m < cs.length) (htl : tl = turned cs[m].l) (hH : H ≤ wr.heap.size) (hB : Below wr.heap.size wr w1)
    (hx : w1.ownsRow wr.heap.size 37 2 (.slice A tl.length c) tl.length (tl.flatMap En.cells))
    (happ : w2.ownsRow H 22 1 v2 (cs.length - (m + 1) + 1) (bl.flatMap Ch.cells ++ [.slice A tl.length c]))
    (hg : (w1.alloc o).grownBy w2 v.ownBlock) : BackRel H cs m w w2 v2 := by
  have hown1 := own_below hown hB (Nat.le_refl _)
  refine ⟨below_append (hb.trans (hB.mono hH)) (Nat.le_trans hH hB.size) hown1 hg, bl ++ [⟨A, c, tl⟩], ?_, fun x hx2 => ?_, ?_⟩
  · rw [show cs.length - m = cs.length - (m + 1) + 1 from by omega, flat_snoc]
    exact happ
  · have key : ∀ {u : Value} {n : Nat} {xs : List Value}, w1.ownsRow H 37 2 u n xs → w2.ownsRow H 37 2 u n xs := fun hu =>
      (hu.alloc o).kept hg (own_sep (hu.alloc o) (hown1.alloc o) (by decide))
    rcases List.mem_append.1 hx2 with hx2 | hx2
    · exact key (own_below (hit x hx2) hB (Nat.le_refl _))
    · have : x = ⟨A, c, tl⟩ := by simpa using hx2
      subst this
      exact key (own_mono hx hH)
  · rw [List.map_append, hmap, drop_rev cs m hm, List.map_append, htl]
    rfl

set_option maxRecDepth 100000 in
set_option maxHeartbeats 1600000 in
theorem effortOrder_walk (w : World) (A : Option Addr) (cs : List Ch) (c : Nat) (_hm : cs.length ≤ maxLen) (hcap : cs.length ≤ c) (hr : RdC w w.heap.size A cs) (hok : ∀ x ∈ cs, x.ok w) (n : Int) (_hn : -9223372036854775808 ≤ n ∧ n ≤ 9223372036854775807) :
    Calls Try.prog 4 #[.slice A cs.length c, .int .i64 n] w fun e w' => e = .returned (.bool true) ∧ Below w.heap.size w w' := by
  have HR := Lib.hid hr
  have HO := Lib.hid hok
  clear hr hok _hm
  obtain ⟨nb1, nb2⟩ := _hn
  by_cases h50 : 50 < cs.length
  · go_enter Try.func4, Try.ntmps4
    go_wp2_with fail
    refine (alive34_c _).mono ?_
    rintro e w1 ⟨rfl, hB1⟩
    go_wp2_with fail
    go_ret
    exact ⟨rfl, hB1⟩
  · have h50' : cs.length ≤ 50 := by omega
    clear h50
    by_cases hn0 : n < 0
    · go_enter Try.func4, Try.ntmps4
      go_wp2_with fail
      refine (alive34_c _).mono ?_
      rintro e w1 ⟨rfl, hB1⟩
      go_wp2_with fail
      go_ret
      exact ⟨rfl, hB1⟩
    · obtain ⟨n, rfl⟩ := Int.eq_ofNat_of_zero_le (show 0 ≤ n by omega)
      clear hn0
      by_cases hnl : cs.length < n
      · go_enter Try.func4, Try.ntmps4
        go_wp2_with fail
        refine (alive34_c _).mono ?_
        rintro e w1 ⟨rfl, hB1⟩
        go_wp2_with fail
        go_ret
        exact ⟨rfl, hB1⟩
      · have hnl' : n ≤ cs.length := by omega
        clear hnl
        have d1 : decide ((50 : Int) < (cs.length : Int)) = false := by rw [decide_eq_false_iff_not]; omega
        have d2 : decide ((n : Int) < 0) = false := by rw [decide_eq_false_iff_not]; omega
        have d3 : decide (cs.length < n) = false := by rw [decide_eq_false_iff_not]; omega
        go_enter Try.func4, Try.ntmps4
        go_wp2_with fail
        refine (alive34_c _).mono ?_
        rintro e w1 ⟨rfl, hB1⟩
        have hz1 := hB1.size
        go_wp2_with fail
        go_loopw [6, 7] (fun v i wr => ∃ m : Nat, m ≤ cs.length ∧ i = .int .i64 ((m : Int) - 1) ∧ BackRel w.heap.size cs m w wr v) (fun _ i _ => (intOf i + 1).toNat)
        case atStart => exact ⟨cs.length, Nat.le_refl _, rfl, hB1, [], by rw [Nat.sub_self]; exact World.ownsRow_nil _ _ _ _, fun _ h => by simp at h, by simp⟩
        case round =>
          obtain ⟨m, hm, rfl, hR⟩ := hrel
          have HRel := Lib.hid hR
          clear hR
          rcases m with _ | m
          · have hB := HRel.out.below
            have hz := hB.size
            obtain ⟨bl, hownb, hit, hmap⟩ := HRel.out.row
            have HIT := Lib.hid hit
            have hbl : bl.length = cs.length := by simpa using congrArg List.length hmap
            have hchb : chA bl = (chA cs).reverse.map List.reverse := by
              have : (bl.map (·.l)).map addrs = (chA cs).reverse.map List.reverse := by
                rw [hmap]; simp [chA, addrs_turned, Function.comp_def]
              simpa [chA, Function.comp_def] using this
            have HCHB := Lib.hid hchb
            have HBL := Lib.hid hbl
            rw [Nat.sub_zero] at hownb
            clear hit hmap hchb hbl
            obtain ⟨Ab, cb, rfl⟩ := own_slice hownb
            rw [← HBL.out] at hownb
            have hokr : Hid (∀ x ∈ cs, x.l.length ≤ maxLen ∧ RdE wr wr.heap.size x.A x.l) := fun x hx => ⟨(HO.out x hx).1, (HO.out x hx).2.1.up hB hz⟩
            have hrdr := Lib.hid (HR.out.up hB hz)
            obtain ⟨s, hs⟩ : ∃ x, smS (chA cs) = x := ⟨_, rfl⟩
            obtain ⟨f, hf⟩ : ∃ x, smF (chA cs) = x := ⟨_, rfl⟩
            obtain ⟨q, hq⟩ : ∃ x, smN (chA cs) = x := ⟨_, rfl⟩
            obtain ⟨r, hr⟩ : ∃ x, sumErr (chA cs) = x := ⟨_, rfl⟩
            have HE := Lib.hid (show sumRes (chA cs) = .tuple #[.agg #[.int .i64 s, .int .i64 f, .int .i64 q], .int .i64 r] by rw [sumRes, effV, hs, hf, hq, hr])
            go_wp2_with fail
            refine (sum_c A cs c _ (by omega) hrdr.out hokr.out).mono ?_
            rintro e w2 ⟨rfl, hB2⟩
            rw [HE.out]
            have hb2 := hB.trans (hB2.mono hz)
            have hz2 := hB2.size
            by_cases h0 : r = 0
            · subst h0
              obtain ⟨hb0, hbs, hbf, hbn⟩ := sum_back _ hr
              obtain ⟨hp1, hp2, hps, hpf, hpn⟩ := sum_parts _ n hr
              rw [← HCHB.out] at hb0 hbs hbf hbn
              have HE2 := Lib.hid (show sumRes (chA bl) = .tuple #[.agg #[.int .i64 s, .int .i64 f, .int .i64 q], .int .i64 0] by rw [sumRes, effV, hb0, hbs, hbf, hbn, hs, hf, hq])
              rw [hs] at hps
              rw [hf] at hpf
              rw [hq] at hpn
              obtain ⟨⟨sb1, sb2⟩, ⟨sb3, sb4⟩, sb5, sb6⟩ := sm_bd ((chA cs).take n) (by rw [List.length_take, chA_len]; omega)
              obtain ⟨⟨tb1, tb2⟩, ⟨tb3, tb4⟩, tb5, tb6⟩ := sm_bd ((chA cs).drop n) (by rw [List.length_drop, chA_len]; omega)
              have et : chA (cs.take n) = (chA cs).take n := by simp [chA]
              have ed : chA (cs.drop n) = (chA cs).drop n := by simp [chA]
              obtain ⟨s1, hs1⟩ : ∃ x, smS ((chA cs).take n) = x := ⟨_, rfl⟩
              obtain ⟨f1, hf1⟩ : ∃ x, smF ((chA cs).take n) = x := ⟨_, rfl⟩
              obtain ⟨q1, hq1⟩ : ∃ x, smN ((chA cs).take n) = x := ⟨_, rfl⟩
              obtain ⟨s2, hs2⟩ : ∃ x, smS ((chA cs).drop n) = x := ⟨_, rfl⟩
              obtain ⟨f2, hf2⟩ : ∃ x, smF ((chA cs).drop n) = x := ⟨_, rfl⟩
              obtain ⟨q2, hq2⟩ : ∃ x, smN ((chA cs).drop n) = x := ⟨_, rfl⟩
              have HE3 := Lib.hid (show sumRes (chA (cs.take n)) = .tuple #[.agg #[.int .i64 s1, .int .i64 f1, .int .i64 q1], .int .i64 0] by rw [et, sumRes, effV, hp1, hs1, hf1, hq1])
              have HE4 := Lib.hid (show sumRes (chA (cs.drop n)) = .tuple #[.agg #[.int .i64 s2, .int .i64 f2, .int .i64 q2], .int .i64 0] by rw [ed, sumRes, effV, hp2, hs2, hf2, hq2])
              rw [hs1, hs2] at hps
              rw [hf1, hf2] at hpf
              rw [hq1, hq2] at hpn
              rw [hs1] at sb1 sb2
              rw [hf1] at sb3 sb4
              rw [hq1] at sb5 sb6
              rw [hs2] at tb1 tb2
              rw [hf2] at tb3 tb4
              rw [hq2] at tb5 tb6
              have HPS := Lib.hid hps
              have HPF := Lib.hid hpf
              have HPN := Lib.hid hpn
              clear hs hf hq hr hb0 hbs hbf hbn hp1 hp2 hps hpf hpn et ed hs1 hf1 hq1 hs2 hf2 hq2
              have hbl := HBL.out
              have hitb : Hid (∀ x ∈ bl, x.l.length ≤ maxLen ∧ RdE w2 w2.heap.size x.A x.l) := fun x hx => ⟨by
                have := (HIT.out x hx)
                rcases this.2 with ⟨_, h⟩ | ⟨_, cap, _, _, _, _, h1, h2, _⟩
                · rw [h]; exact Nat.zero_le _
                · exact Nat.le_trans h1 h2, (Rd.of_own (HIT.out x hx)).up hB2 hz2⟩
              have hrdb := Lib.hid ((Rd.of_own hownb).up hB2 hz2)
              have hbl50 : bl.length ≤ 4294967296 := by omega
              clear hbl
              go_wp2_with fail
              have hcall := sum_c Ab bl cb (w2.alloc (.cells #[.int .i64 s, .int .i64 f, .int .i64 q] 24)) hbl50 ((hrdb.out.alloc (Nat.le_refl _) _).more (by simp)) (fun x hx => ⟨(hitb.out x hx).1, ((hitb.out x hx).2.alloc (Nat.le_refl _) _).more (by simp)⟩)
              rw [HBL.out] at hcall
              refine hcall.mono ?_
              clear hcall
              rintro e w3 ⟨rfl, hB3⟩
              rw [HE2.out]
              rw [World.size_alloc] at hB3
              have x1 := Bx.of_new hB3
              have hb3 := hb2.trans ((below_call hB3).mono (Nat.le_trans hz hz2))
              have hx1 := x1.lt
              have hz3 : w.heap.size ≤ w3.heap.size := hb3.size
              have hok3 : Hid (∀ x ∈ cs, x.l.length ≤ maxLen ∧ RdE w3 w3.heap.size x.A x.l) := fun x hx => ⟨(HO.out x hx).1, (HO.out x hx).2.1.up hb3 hz3⟩
              have hrd3 := Lib.hid (HR.out.up hb3 hz3)
              have hnc : n ≤ c := by omega
              go_wp2_with fail
              refine (sum_n A (cs.take n) c n _ (by rw [List.length_take]; omega) (by omega) ?rd1 ?ok1).mono ?_
              case rd1 =>
                have := hrd3.out.take_ n
                have e : (cs.take n).flatMap Ch.cells = (cs.flatMap Ch.cells).take n := flat1_take Ch.cells Ch.len cs n
                unfold RdC
                rw [e]
                exact (this.alloc (Nat.le_refl _) _).more (by simp)
              case ok1 => exact fun x hx => ⟨(hok3.out x (List.mem_of_mem_take hx)).1, ((hok3.out x (List.mem_of_mem_take hx)).2.alloc (Nat.le_refl _) _).more (by simp)⟩
              rintro e w4 ⟨rfl, hB4⟩
              rw [HE3.out]
              rw [World.size_alloc] at hB4
              have y1 := (x1.alloc _).up hB4 (by omega)
              have y2 := Bx.of_new hB4
              have hb4 := hb3.trans ((below_call hB4).mono hz3)
              have hx2 := y2.lt
              have hz4 : w.heap.size ≤ w4.heap.size := hb4.size
              have hok4 : Hid (∀ x ∈ cs, x.l.length ≤ maxLen ∧ RdE w4 w4.heap.size x.A x.l) := fun x hx => ⟨(HO.out x hx).1, (HO.out x hx).2.1.up hb4 hz4⟩
              have hrd4 := Lib.hid (HR.out.up hb4 hz4)
              go_wp2_with fail
              all_goals
                refine (sum_n _ (cs.drop n) _ (cs.length - n) _ (by rw [List.length_drop]) (by omega) ?rd2 ?ok2).mono ?_
                case rd2 =>
                  first
                    | (rw [List.drop_eq_nil_of_le (by omega)]; exact Rd.nil_)
                    | (unfold RdC; rw [flat1_drop Ch.cells Ch.len]; exact ((hrd4.out.drop_ n).alloc (Nat.le_refl _) _).more (by simp))
                case ok2 => exact fun x hx => ⟨(hok4.out x (List.mem_of_mem_drop hx)).1, ((hok4.out x (List.mem_of_mem_drop hx)).2.alloc (Nat.le_refl _) _).more (by simp)⟩
                rintro e w5 ⟨rfl, hB5⟩
                rw [HE4.out]
                rw [World.size_alloc] at hB5
                have z1 := ((y1.alloc _).up hB5 (by omega)).alloc (.cells #[.int .i64 s2, .int .i64 f2, .int .i64 q2] 24)
                have z2 := ((y2.alloc _).up hB5 (by omega)).alloc (.cells #[.int .i64 s2, .int .i64 f2, .int .i64 q2] 24)
                have z3 := (Bx.of_new hB5).alloc (.cells #[.int .i64 s2, .int .i64 f2, .int .i64 q2] 24)
                have z4 := Bx.new w5 24 #[.int .i64 s2, .int .i64 f2, .int .i64 q2]
                have hb5 := hb4.trans ((below_call hB5).mono hz4)
                have hz5 : w.heap.size ≤ w5.heap.size := hb5.size
                have hb6 := hb5.alloc hz5 (.cells #[.int .i64 s2, .int .i64 f2, .int .i64 q2] 24)
                go_wp2_with fail
                obtain ⟨g2, hg2⟩ : ∃ g, g = w2.heap.size := ⟨_, rfl⟩
                obtain ⟨g3, hg3⟩ : ∃ g, g = w3.heap.size := ⟨_, rfl⟩
                obtain ⟨g4, hg4⟩ : ∃ g, g = w4.heap.size := ⟨_, rfl⟩
                obtain ⟨g5, hg5⟩ : ∃ g, g = w5.heap.size := ⟨_, rfl⟩
                rw [← hg2] at z1 ⊢
                rw [← hg3] at z2 ⊢
                rw [← hg4] at z3 ⊢
                rw [← hg5] at z4 ⊢
                generalize w5.alloc (.cells #[.int .i64 s2, .int .i64 f2, .int .i64 q2] 24) = W at *
                clear hg2 hg3 hg4 hg5
                have hps := HPS.out
                have hpf := HPF.out
                have hpn := HPN.out
                subst hps hpf hpn
                obtain ⟨k1, k2, k3, -, -, -, l1⟩ := z1.c3
                obtain ⟨k4, k5, k6, -, -, -, l2⟩ := z2.c3
                obtain ⟨k7, k8, k9, -, -, -, l3⟩ := z3.c3
                obtain ⟨j1, j2, j3, -, -, -, l4⟩ := z4.c3
                clear z1 z2 z3 z4
                go_region_held3 (fun w' => (w'.cell? ⟨g2, 0, none⟩ = some (.int .i64 (s1 + s2)) ∧ w'.cell? ⟨g2, 1, none⟩ = some (.int .i64 (f1 + f2)) ∧ w'.cell? ⟨g2, 2, none⟩ = some (.int .i64 (q1 + q2))) ∧ (w'.cell? ⟨g3, 0, none⟩ = some (.int .i64 (s1 + s2)) ∧ w'.cell? ⟨g3, 1, none⟩ = some (.int .i64 (f1 + f2)) ∧ w'.cell? ⟨g3, 2, none⟩ = some (.int .i64 (q1 + q2))) ∧ (w'.cell? ⟨g4, 0, none⟩ = some (.int .i64 s1) ∧ w'.cell? ⟨g4, 1, none⟩ = some (.int .i64 f1) ∧ w'.cell? ⟨g4, 2, none⟩ = some (.int .i64 q1)) ∧ (w'.cell? ⟨g5, 0, none⟩ = some (.int .i64 s2) ∧ w'.cell? ⟨g5, 1, none⟩ = some (.int .i64 f2) ∧ w'.cell? ⟨g5, 2, none⟩ = some (.int .i64 q2))) (go_keep)
                  (first | (go_at_call 17; refine (plus_c s1 f1 q1 s2 f2 q2 _ ⟨⟨sb1, sb2⟩, ⟨sb3, sb4⟩, ⟨sb5, sb6⟩, ⟨tb1, tb2⟩, ⟨tb3, tb4⟩, tb5, tb6⟩).mono ?_; rintro e w6 ⟨rfl, hB6⟩; have m0 := (hB6.cell (p := ⟨g2, 0, none⟩) l1).trans k1; have m1 := (hB6.cell (p := ⟨g2, 1, none⟩) l1).trans k2; have m2 := (hB6.cell (p := ⟨g2, 2, none⟩) l1).trans k3; have m3 := (hB6.cell (p := ⟨g3, 0, none⟩) l2).trans k4; have m4 := (hB6.cell (p := ⟨g3, 1, none⟩) l2).trans k5; have m5 := (hB6.cell (p := ⟨g3, 2, none⟩) l2).trans k6; have m6 := (hB6.cell (p := ⟨g4, 0, none⟩) l3).trans k7; have m7 := (hB6.cell (p := ⟨g4, 1, none⟩) l3).trans k8; have m8 := (hB6.cell (p := ⟨g4, 2, none⟩) l3).trans k9; have m9 := (hB6.cell (p := ⟨g5, 0, none⟩) l4).trans j1; have m10 := (hB6.cell (p := ⟨g5, 1, none⟩) l4).trans j2; have m11 := (hB6.cell (p := ⟨g5, 2, none⟩) l4).trans j3))
                go_wp2_with fail
                go_ret
                exact ⟨rfl, (hb6.drew).trans (hB6.mono hb6.size)⟩
            · have hn1 : (r == 0) = false := by rw [beq_eq_false_iff_ne]; exact h0
              have hn2 : (r != 0) = true := by rw [bne_iff_ne]; exact h0
              have e1 : s = 0 := by rw [← hs, smS, hr, if_neg h0]
              have e2 : f = 0 := by rw [← hf, smF, hr, if_neg h0]
              have e3 : q = 0 := by rw [← hq, smN, hr, if_neg h0]
              subst e1 e2 e3
              clear hs hf hq hr h0
              go_wp2_with fail
              go_ret
              refine ⟨rfl, ?_⟩
              (repeat' (first | with_reducible assumption | with_reducible exact Below.refl _ _ | (with_reducible refine below_drewN ?_ _) | (with_reducible refine Below.drew ?_) | (with_reducible refine Below.alloc ?_ ?_ _) | (with_reducible refine Below.setCell ?_ ?_ _))) <;> (first | exact Nat.le_refl _ | exact Nat.le_succ _ | omega | (dsimp only; omega) | ((repeat (first | (with_reducible refine le_alloc_ ?_) | (with_reducible refine le_set_ ?_) | (with_reducible refine le_drewN_ ?_))); first | exact Nat.le_refl _ | omega))
          · rw [show ((m + 1 : Nat) : Int) - 1 = (m : Int) from by omega]
            have hB := HRel.out.below
            have hz := hB.size
            have hlt : m < cs.length := by omega
            obtain ⟨b, off, rfl, hb, h2⟩ := HR.out.at_ hlt
            replace h2 := (hB.cell (p := ⟨b, off + m, none⟩) hb).trans h2
            have hO2 := HO.out cs[m] (List.getElem_mem hlt)
            obtain ⟨bl, hownb, hit, hmap⟩ := HRel.out.row
            have hbl : (cs.length - (m + 1)) ≤ 50 := by omega
            have hstep := fun w1 w2 v2 A c o tl => BackRel.step (w1 := w1) (w2 := w2) (v2 := v2) (A := A) (c := c) (o := o) (tl := tl) hB bl hownb hit hmap hlt
            clear hit hmap
            have hmm := Lib.hid (show cs.length - m = cs.length - (m + 1) + 1 by omega)
            generalize cs[m] = x at *
            obtain ⟨xA, xc, xl⟩ := x
            dsimp only at *
            obtain ⟨ho1, ho2, ho3⟩ := hO2
            dsimp only at ho1 ho2 ho3
            have HX := Lib.hid ho2
            have HX3 := Lib.hid ho3
            have HStep := Lib.hid hstep
            clear ho1 ho2 ho3 hstep
            by_cases h40 : 40 < xl.length
            · go_wp2_with fail
              go_ret
              exact ⟨rfl, hB⟩
            · have h40' : xl.length ≤ 40 := by omega
              clear h40
              go_wp2_with fail
              obtain ⟨i0, hi, hz0, hz1, hz2⟩ := info_parts infoEntry
              have HI := Lib.hid hi
              have HZ0 := Lib.hid hz0
              have HZ1 := Lib.hid hz1
              have HZ2 := Lib.hid hz2
              clear hi hz0 hz1 hz2
              obtain ⟨wo, rfl⟩ : ∃ wo : World, wo = wr := ⟨_, rfl⟩
              go_loopw [8, 9] (fun v i wi => ∃ j : Nat, j ≤ xl.length ∧ i = .int .i64 ((j : Int) - 1) ∧ Below wo.heap.size wo wi ∧ wi.ownsRow wo.heap.size 37 2 v (xl.length - j) (((xl.drop j).reverse.map fun e => (⟨e.a, 7⟩ : En)).flatMap En.cells)) (fun _ i _ => (intOf i + 1).toNat)
              case atStart => exact ⟨xl.length, Nat.le_refl _, rfl, Below.refl _ _, by rw [Nat.sub_self]; simp only [List.drop_length, List.reverse_nil, List.map_nil, List.flatMap_nil]; exact World.ownsRow_nil _ _ _ _⟩
              case round =>
                obtain ⟨j, hj, rfl, hBi, hown⟩ := hrel
                have hbo : b < wo.heap.size := by omega
                have hBw := hB.trans (hBi.mono hz)
                rcases j with _ | j
                · obtain ⟨Ax, cx, rfl⟩ := own_slice hown
                  simp only [List.drop_zero, Nat.sub_zero] at hown
                  have hlen : (turned xl).length = xl.length := by simp [turned]
                  have hlen2 := Lib.hid hlen
                  rw [← hlen] at hown ⊢
                  have hown2 : wr.ownsRow wo.heap.size 37 2 (.slice Ax (turned xl).length cx) (turned xl).length ((turned xl).flatMap En.cells) := hown
                  clear hlen hown
                  have htl := Lib.hid (show turned xl = turned xl from rfl)
                  have hst := Lib.hid (HStep.out wr · · Ax cx · (turned xl) rfl hz hBi hown2)
                  generalize turned xl = tl at *
                  have h3 := hBi.size
                  have hbw := hB.trans (hBi.mono hz)
                  have hzw := hbw.size
                  have hownc := own_below hownb hBi (Nat.le_refl _)
                  obtain ⟨i2, hi, hz0, hz1, hz2⟩ := info_parts infoEntries
                  have HJ := Lib.hid hi
                  have HJ0 := Lib.hid hz0
                  have HJ1 := Lib.hid hz1
                  have HJ2 := Lib.hid hz2
                  clear hi hz0 hz1 hz2
                  go_wp2_with (at_builtin; refine wpList_append_own _ rfl _ _ 33 rfl w.heap.size 22 i2 _ 1 24 Try.underlying33 HJ.out HJ0.out HJ1.out HJ2.out rfl (by decide) _ _ _ rfl (hownc.alloc _) ⟨_, 0, none⟩ 1 1 [.slice Ax tl.length cx] rfl rfl (news_new _ _ _) (by simp [Value.oneCell']) (by unfold maxLen; omega) (by omega) (le_alloc_ hbw.size) ?_; intro v1 w2 hown1 hg1 _)
                  go_roundw
                  case rel =>
                    exact ⟨m, by omega, rfl, hst.out _ _ _ hown1 hg1⟩
                  case measure => simp [intOf]
                · rw [show ((j + 1 : Nat) : Int) - 1 = (j : Int) from by omega]
                  have h3 := (hBi.cell (p := ⟨b, off + m, none⟩) hbo).trans h2
                  obtain ⟨b', off', rfl, hb', h4, _⟩ := HX.out.at_ (show j < xl.length by omega)
                  replace h4 := (hBw.cell (p := ⟨b', off' + j * 2, none⟩) hb').trans h4
                  have hl4 := Lib.hid (show xl.length - j = xl.length - (j + 1) + 1 by omega)
                  obtain ⟨y, hy⟩ : ∃ y, xl[j].a = y := ⟨_, rfl⟩
                  rw [hy] at h4
                  have hd := Lib.hid (show ((xl.drop j).reverse.map fun e => (⟨e.a, 7⟩ : En)).flatMap En.cells = ((xl.drop (j + 1)).reverse.map fun e => (⟨e.a, 7⟩ : En)).flatMap En.cells ++ [.int .i64 y, .int .u64 7] by
                    rw [drop_rev xl j (by omega), List.map_append, List.flatMap_append]
                    simp only [List.map_cons, List.map_nil, List.flatMap_cons, List.flatMap_nil, En.cells, List.append_nil, hy]
                    rfl)
                  clear hy
                  go_wp2_with (at_builtin; refine wpList_append_own _ rfl _ _ 22 rfl wo.heap.size 37 i0 _ 2 16 Try.underlying22 HI.out HZ0.out HZ1.out HZ2.out rfl (by decide) _ _ _ rfl (hown.alloc _) ⟨_, 0, none⟩ 1 1 [.int .i64 y, .int .u64 7] rfl rfl (news_new _ _ _) (by simp [Value.oneCell']) (by unfold maxLen; omega) (by omega) (le_alloc_ hBi.size) ?_; intro v1 w2 hown1 hg1 _; have hB2 := below_append hBi hBi.size hown hg1)
                  go_roundw
                  case rel =>
                    exact ⟨j, by omega, rfl, hB2, by rw [hl4.out, hd.out]; exact hown1⟩
                  case measure => simp [intOf]
end Go.Proofs.Ytiaddipbjigaiaa
