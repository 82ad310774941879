/- The law ForwardOn: for words that are not great, two numbers and an index, the moves from a later block on are the last ones. -/
import Derived.Test.YtkcancjalpjbgaaAl27
import Derived.Test.YtkcancjalpjbgaaOnP
namespace Go.Proofs.Ytkcancjalpjbgaa
open Go.RowKit

def nxS (mv : List (Int × Int)) (s : Int) (i : Nat) : Int := if i = 0 then s else (mv[i - 1]?.getD (0, 0)).2
def n2S (cnt j : Nat) (s x2 sz : Int) (i : Nat) : Int := if cnt = 0 then s else if j < i then x2 + sz else x2
theorem RdM.cut {w : World} {B : Nat} {A : Option Addr} {l : List (Int × Int)} (h : RdM w B A l) (k c : Nat) (hc : l.length ≤ c) : RdM w B (if c = k then A else A.map (·.add (k * 2))) (l.drop k) := by
  unfold RdM
  rw [flat_drop mvCells 2 mvCells_len]
  by_cases e : c = k
  · rw [if_pos e]
    intro hn
    exact absurd (List.drop_eq_nil_of_le (by rw [flat_len mvCells 2 mvCells_len]; exact Nat.mul_le_mul_right _ (by omega))) hn
  · rw [if_neg e]
    exact Rd.drop_ h _

theorem addr_add (b o k : Nat) : (⟨b, o, none⟩ : Addr).add k = ⟨b, o + k, none⟩ := by unfold Addr.add; split <;> simp_all

set_option maxRecDepth 100000 in
set_option maxHeartbeats 16000000 in
theorem forwardOn_walk (w : World) (A : Option Addr) (ws : List Nat) (c : Nat) (hn : ws.length ≤ maxLen) (_hc : ws.length ≤ c) (hr : RdW w w.heap.size A ws) (ho : ∀ x ∈ ws, x < 18446744073709551616) (f : Int) (hf : -9223372036854775808 ≤ f ∧ f ≤ 9223372036854775807)
    (s : Int) (hs : -9223372036854775808 ≤ s ∧ s ≤ 9223372036854775807) (p : Int) (hp : -9223372036854775808 ≤ p ∧ p ≤ 9223372036854775807) :
    Calls Try.prog 5 #[.slice A ws.length c, .int .i64 f, .int .i64 s, .int .i64 p] w fun e w' => e = .returned (.bool true) ∧ Below w.heap.size w w' := by
  unfold maxLen at hn
  have HR := Lib.hid hr
  have HO := Lib.hid ho
  have HF := Lib.hid hf
  have HS := Lib.hid hs
  clear hr ho hf hs
  cases hg : greatW ws.length
  · have HG := Lib.hid hg
    have hgn := greatW_no hg
    have hlen : ws.length ≤ 2060 := by omega
    have HC := Lib.hid (fun W (h : RdW W W.heap.size A ws) => fwRead_c A ws c ws.length f s W rfl hn HF.out HS.out h HO.out)
    unfold RdRes at HC
    have HFR := Lib.hid (fun W (h : RdW W W.heap.size A ws) => from_c A ws c ws.length f W rfl hn h HO.out)
    unfold FrRes at HFR
    have hml := rdMv_len ws f s
    by_cases h0 : rdErr ws f s = 0
    · obtain ⟨g1, g2, l, g3, g4, g5⟩ := rdErr_zero h0
      rw [isImg_size] at g1
      obtain ⟨f1, f2⟩ := frErr_some g1 (frArg_rd g2) g3
      rw [h0] at HC
      rw [f1, f2] at HFR
      by_cases hpb : 0 ≤ p ∧ p < (l.length : Int)
      · obtain ⟨hp0, hp1⟩ := hpb
        obtain ⟨k, rfl⟩ := Int.eq_ofNat_of_zero_le hp0
        have hkl : k < l.length := by omega
        obtain ⟨a1, a2, a3, a4, a5⟩ := rdArg_no g2
        have hb := (sizeOk_iff _).1 g1
        have hst := blocks_st (ws := ws) (i := f.toNat) (by omega) g3 (by omega) (by omega) (by omega) (s := s) a3 a2 (by omega)
        obtain ⟨hre, hs1, hs2, hs3⟩ := stErr_zero hst
        have hend := endOf_bd hre (Nat.le_of_lt hkl) hs1 hs2
        have hbk := size_bd' hst hkl
        have hlb := (blocks_chain (ws := ws) (by omega) _ _ g3 (by omega) (by omega) (by omega)).1
        obtain ⟨o1, o2⟩ := on_plain h0 g3 hkl
        obtain ⟨cnt, hcnt⟩ : ∃ cnt, (moves (l.take k) s).length = cnt := ⟨_, rfl⟩
        obtain ⟨n1, n2, n3, n4, n5⟩ := on_cnt hre s hkl hcnt
        rw [hcnt] at o2
        rw [g5] at o2
        have HC2 := Lib.hid (fun W (h : RdW W W.heap.size A ws) => fwRead_c A ws c ws.length l[k].at_ (endOf (l.take k) s) W rfl hn (by omega) (by omega) h HO.out)
        unfold RdRes at HC2
        rw [o1, o2] at HC2
        rw [g5] at HC hml
        have HBD : Hid (∀ i (hi : i < l.length), 128 ≤ l[i].at_ ∧ l[i].at_ ≤ 2048 ∧ 2 ≤ l[i].size ∧ l[i].size ≤ 2048) := Lib.hid fun i hi => size_bd' hst hi
        have HML : Hid (∀ i (hi : i < (moves l s).length), 128 ≤ ((moves l s)[i]).2 ∧ ((moves l s)[i]).2 ≤ 2048) := Lib.hid fun i hi => by
          obtain ⟨j, hj, b1, b2, b3⟩ := moves_get hi
          rw [List.getElem?_eq_getElem hi] at b2
          rw [Option.some.inj b2]
          exact endOf_bd hre (Nat.le_of_lt hj) hs1 hs2
        have HN2 := Lib.hid n2
        have HN3 := Lib.hid n3
        -- the last move in front of the block
        obtain ⟨j, x2, sz, hjk, HJ, hxb, hEnd⟩ : ∃ (j : Nat) (x2 sz : Int), j ≤ k ∧ Hid (0 < cnt → ∃ x1, (moves l s)[cnt - 1]? = some (x1, x2) ∧ (∀ i (_ : i < k) (h : i < l.length), l[i].at_ = x1 ↔ i = j) ∧ j < k ∧ ∀ h : j < l.length, l[j].size = sz) ∧ ((128 ≤ x2 ∧ x2 ≤ 2048) ∧ (2 ≤ sz ∧ sz ≤ 2048)) ∧ n2S cnt j s x2 sz k = endOf (l.take k) s := by
          by_cases h : cnt = 0
          · refine ⟨0, 128, 2, by omega, fun h2 => absurd h2 (by omega), by omega, ?_⟩
            unfold n2S; rw [if_pos h, n4 h]
          · obtain ⟨j, hj, b1, b2, b3⟩ := n5 (by omega)
            have hj2 := HBD.out j (by omega)
            have he2 := endOf_bd hre (show j ≤ l.length by omega) hs1 hs2
            refine ⟨j, _, l[j].size, by omega, fun _ => ⟨_, b1, fun i hi _ => ⟨b2 i hi, fun e => by subst e; rfl⟩, hj, fun _ => rfl⟩, ⟨he2, by omega⟩, ?_⟩
            unfold n2S; rw [if_neg h, if_pos hj, b3]
        clear n2 n3 n4 n5 o1 o2 g4 g5 hcnt
        generalize hak : l[k].at_ = ak at HC2 HN2 HN3 hbk
        generalize hE : endOf (l.take k) s = E at HC2 hEnd hend
        generalize moves l s = mv at HC HC2 HN2 HN3 HML HJ n1 hml
        have HEnd := Lib.hid hEnd
        have HSM := Lib.hid (fun A1 c1 A2 c2 W (h1 : RdM W W.heap.size A1 (mv.drop cnt)) (h2 : RdM W W.heap.size A2 (mv.drop cnt)) => sameMoves_c A1 A2 (mv.drop cnt) (mv.drop cnt) (mv.drop cnt).length (mv.drop cnt).length c1 c2 W.heap.size W rfl rfl (by rw [List.length_drop]; omega) h1 h2 (Nat.le_refl _))
        rw [show decide (mv.drop cnt = mv.drop cnt) = true by rw [decide_eq_true_iff]] at HSM
        have HDL := Lib.hid (List.length_drop (i := cnt) (l := mv))
        have HAK : Hid (∀ h : k < l.length, l[k].at_ = ak) := Lib.hid fun _ => hak
        have hll : l.length ≤ 2060 := by omega
        have hk0 : (0 : Int) ≤ (k : Int) := by omega
        have hkli : (k : Int) < (l.length : Int) := by omega
        have hkd : decide ((l.length : Int) ≤ (k : Int)) = false := by rw [decide_eq_false_iff_not]; omega
        have hkdn : decide (l.length ≤ k) = false := by rw [decide_eq_false_iff_not]; omega
        clear hg hgn h0 hp g1 g2 g3 f1 f2 a1 a2 a3 a4 a5 hst hre hs1 hs2 hs3 hak hE hEnd hp0 hp1 hb hlb
        go_enter Try.func5, Try.ntmps5
        go_wp2_with fail
        refine (alive27_c w).mono ?_
        rintro e w1 ⟨rfl, hB1⟩
        go_wp2_with fail
        refine (great25_c A ws.length c _ hn).mono ?_
        rintro e w1' ⟨rfl, rfl⟩
        rw [HG.out]
        go_wp2_with fail
        refine (HC.out _ (HR.out.up hB1 hB1.size)).mono ?_
        rintro e w2 ⟨⟨A2, c2, rfl, hr2, hc2⟩, hB2⟩
        have hb2 := hB1.trans (hB2.mono hB1.size)
        have HR2 := Lib.hid hr2
        clear hr2
        go_wp2_with fail
        refine (HFR.out _ (HR.out.up hb2 hb2.size)).mono ?_
        rintro e w3 ⟨⟨A3, c3, rfl, hr3, -⟩, hB3⟩
        have hb3 := hb2.trans (hB3.mono hb2.size)
        have HR3 := Lib.hid hr3
        have HM3 := Lib.hid (HR2.out.up hB3 hB3.size)
        have HB3 := Lib.hid hb3
        have HW3 := Lib.hid (HR.out.up hb3 hb3.size)
        clear hr3 HR2 hB3 hb3 hB2 hb2 hB1
        go_wp2_with fail
        go_loopw [14, 15, 16] (fun nx q i wr => ∃ m : Nat, m ≤ cnt ∧ i = .int .i64 m ∧ q = .int .i64 m ∧ nx = .int .i64 (nxS mv s m) ∧ Below w3.heap.size w3 wr) (fun _ _ i _ => cnt - (intOf i).toNat)
        case atStart => exact ⟨0, by omega, rfl, rfl, rfl, Below.refl _ _⟩
        case round =>
          obtain ⟨m, hm, rfl, rfl, rfl, hB⟩ := hrel
          have hz := hB.size
          obtain ⟨b3, off3, rfl, hbw3, q0, q1, q2, q3, q4, q5⟩ := RdB.at_ (HR3.out.below hB) hkl
          rw [HAK.out hkl] at q0
          clear q1 q2 q3 q4 q5
          by_cases hlt : m < cnt
          · have hlm : m < mv.length := by omega
            obtain ⟨b2, off2, rfl, hbw2, r0, r1⟩ := RdM.at_ (Rd.below HM3.out hB) hlm
            have hx := HN2.out m hlt hlm
            have HX : Hid (nxS mv s (m + 1) = mv[m].2) := Lib.hid (by simp [nxS, hlm])
            obtain ⟨x, hxe⟩ : ∃ x, mv[m] = x := ⟨_, rfl⟩
            rw [hxe] at r0 r1 hx HX
            obtain ⟨y1, y2⟩ := x
            dsimp only at r0 r1 hx HX
            have hmi : (m : Int) < (mv.length : Int) := by omega
            have hm0 : (0 : Int) ≤ (m : Int) := by omega
            clear hxe
            go_wp2_with fail
            go_quiet (fail)
            go_wp2_with fail
            go_roundw
            case rel => exact ⟨m + 1, by omega, by go_num, by go_num, by rw [HX.out], by first | exact hB | exact below_drewN hB _ | exact hB.drew⟩
            case measure => simp [intOf]; omega
          · obtain rfl : m = cnt := by omega
            have HNX : Hid (nxS mv s m = n2S m j s x2 sz 0) := Lib.hid (by
              unfold nxS n2S
              by_cases h : m = 0
              · rw [if_pos h, if_pos h]
              · obtain ⟨x1, hx1, -⟩ := HJ.out (by omega)
                rw [if_neg h, if_neg h, if_neg (by omega), hx1]; rfl)
            have hBa := hB
            obtain ⟨wa, rfl⟩ : ∃ wa : World, wa = wr := ⟨_, rfl⟩
            have hm0 : (0 : Int) ≤ (m : Int) := by omega
            by_cases hlm : m < mv.length
            · obtain ⟨b2, off2, hA2, hbw2, r0, r1⟩ := RdM.at_ (Rd.below HM3.out hB) hlm
              subst hA2
              have hx := HN3.out hlm
              obtain ⟨x, hxe⟩ : ∃ x, mv[m] = x := ⟨_, rfl⟩
              rw [hxe] at r0 r1 hx
              obtain ⟨y1, y2⟩ := x
              dsimp only at r0 r1 hx
              have hx' : ak ≤ y1 := by omega
              have hmi : (m : Int) < (mv.length : Int) := by omega
              clear hxe hx hB
              go_wp2_with fail
              go_quiet (fail)
              go_wp2_with fail
              go_loopw [14, 17] (fun nx i wr => ∃ q : Nat, q ≤ k ∧ i = .int .i64 q ∧ nx = .int .i64 (n2S m j s x2 sz q) ∧ Below w3.heap.size w3 wr) (fun _ i _ => k - (intOf i).toNat)
              case atStart => exact ⟨0, by omega, rfl, by rw [HNX.out], by first | exact hBa | exact below_drewN hBa _ | exact hBa.drew⟩
              case round =>
                obtain ⟨q, hq, rfl, rfl, hB⟩ := hrel
                have hz := hB.size
                by_cases hlt : q < k
                · have hql : q < l.length := by omega
                  obtain ⟨b5, off5, hA5, hbw5, q0, q1, q2, q3, q4, q5⟩ := RdB.at_ (HR3.out.below hB) hql
                  cases hA5
                  have hqi : (q : Int) < (l.length : Int) := by omega
                  have hqk : (q : Int) < (k : Int) := by omega
                  have hq0 : (0 : Int) ≤ (q : Int) := by omega
                  clear q2 q3 q4 q5
                  by_cases hc0 : m = 0
                  · have hd0 : decide ((0 : Int) < (m : Int)) = false := by rw [decide_eq_false_iff_not]; omega
                    have hd0n : decide (0 < m) = false := by rw [decide_eq_false_iff_not]; omega
                    have HX : Hid (n2S m j s x2 sz (q + 1) = n2S m j s x2 sz q) := Lib.hid (by unfold n2S; rw [if_pos hc0, if_pos hc0])
                    obtain ⟨V, hV⟩ : ∃ V, n2S m j s x2 sz q = V := ⟨_, rfl⟩
                    rw [hV] at HX ⊢
                    clear hV hc0
                    go_wp2_with fail
                    go_quiet (fail)
                    go_wp2_with fail
                    go_roundw
                    case rel => exact ⟨q + 1, by omega, by go_num, by rw [HX.out], by first | exact hB | exact below_drewN hB _ | exact hB.drew⟩
                    case measure => simp [intOf]; omega
                  · have hm0' : (0 : Int) < (m : Int) := by omega
                    have hd0 : decide ((0 : Int) < (m : Int)) = true := by rw [decide_eq_true_iff]; omega
                    have hd0n : decide (0 < m) = true := by rw [decide_eq_true_iff]; omega
                    obtain ⟨x1, hx1, hx2, hx3, hx4⟩ := HJ.out (by omega)
                    have hlm1 : m - 1 < mv.length := by omega
                    obtain ⟨b4, off4, hA4, hbw4, r0, r1⟩ := RdM.at_ (Rd.below HM3.out hB) hlm1
                    rw [List.getElem?_eq_getElem hlm1] at hx1
                    rw [Option.some.inj hx1] at r0 r1
                    dsimp only at r0 r1
                    have hmi1 : (m : Int) - 1 < (mv.length : Int) := by omega
                    have hmi2 : (0 : Int) ≤ (m : Int) - 1 := by omega
                    have hmw : IntKind.i64.wrap ((m : Int) - 1) = (m : Int) - 1 := IntWalk.i64_in _ (by omega)
                    have hmt : ((m : Int) - 1).toNat = m - 1 := by omega
                    cases hA4
                    by_cases hqj : q = j
                    · have hat : (l[q].at_ == x1) = true := by rw [beq_iff_eq]; exact (hx2 q hlt hql).2 hqj
                      have hsz := hx4 (by omega)
                      have hsq : l[q].size = sz := by subst hqj; exact hsz
                      have HX : Hid (n2S m j s x2 sz (q + 1) = n2S m j s x2 sz q + sz) := Lib.hid (by unfold n2S; rw [if_neg hc0, if_neg hc0, if_pos (by omega), if_neg (by omega)])
                      have hVb : 128 ≤ n2S m j s x2 sz q ∧ n2S m j s x2 sz q ≤ 2048 := by unfold n2S; rw [if_neg hc0, if_neg (by omega)]; omega
                      obtain ⟨V, hV⟩ : ∃ V, n2S m j s x2 sz q = V := ⟨_, rfl⟩
                      rw [hV] at HX hVb ⊢
                      rw [hsq] at q1
                      obtain ⟨aq, haq⟩ : ∃ aq, l[q].at_ = aq := ⟨_, rfl⟩
                      rw [haq] at q0 hat
                      obtain ⟨hv1, hv2⟩ := hVb
                      obtain ⟨-, hz1, hz2⟩ := hxb
                      clear hV hc0 hqj hsz hsq haq hx1 hx2 hx3 hx4
                      go_wp2_with fail
                      go_quiet (fail)
                      go_wp2_with fail
                      go_roundw
                      case rel => exact ⟨q + 1, by omega, by go_num, by rw [HX.out], by first | exact hB | exact below_drewN hB _ | exact hB.drew⟩
                      case measure => simp [intOf]; omega
                    · have hat : (l[q].at_ == x1) = false := by rw [beq_eq_false_iff_ne]; exact fun h => hqj ((hx2 q hlt hql).1 h)
                      have HX : Hid (n2S m j s x2 sz (q + 1) = n2S m j s x2 sz q) := Lib.hid (by
                        unfold n2S
                        rw [if_neg hc0, if_neg hc0]
                        by_cases h : j < q
                        · rw [if_pos h, if_pos (by omega)]
                        · rw [if_neg h, if_neg (by omega)])
                      obtain ⟨V, hV⟩ : ∃ V, n2S m j s x2 sz q = V := ⟨_, rfl⟩
                      rw [hV] at HX ⊢
                      obtain ⟨aq, haq⟩ : ∃ aq, l[q].at_ = aq := ⟨_, rfl⟩
                      rw [haq] at q0 hat
                      clear hV hc0 hqj haq hx1 hx2 hx3 hx4 q1
                      go_wp2_with fail
                      go_quiet (fail)
                      go_wp2_with fail
                      go_roundw
                      case rel => exact ⟨q + 1, by omega, by go_num, by rw [HX.out], by first | exact hB | exact below_drewN hB _ | exact hB.drew⟩
                      case measure => simp [intOf]; omega
                · obtain rfl : q = k := by omega
                  rw [HEnd.out]
                  obtain ⟨b5, off5, hA5, hbw5, q0, q1, q2, q3, q4, q5⟩ := RdB.at_ (HR3.out.below hB) hkl
                  cases hA5
                  rw [HAK.out hkl] at q0
                  clear q1 q2 q3 q4 q5
                  go_wp2_with fail
                  refine (HC2.out _ (HW3.out.up hB hz)).mono ?_
                  rintro e w8 ⟨⟨A8, c8, rfl, hr8, -⟩, hB8⟩
                  have hb8 := HB3.out.trans ((hB.trans (hB8.mono hz)).mono HB3.out.size)
                  have hcut := RdM.cut ((HM3.out.up hB hz).up hB8 hB8.size) m c2 hc2
                  have HR8 := Lib.hid hr8
                  have hd8 : (mv.drop m).length = mv.length - m := HDL.out
                  by_cases hck : c2 = m
                  · rw [if_pos hck] at hcut
                    have hl0 : (mv.drop m).length = 0 := by omega
                    have HC8 := Lib.hid hcut
                    have HS8 := Lib.hid (HSM.out A8 c8 _ 0 w8 hr8 hcut)
                    have hck2 : (c2 : Int) = (m : Int) := by omega
                    rw [hl0] at HS8 ⊢
                    subst hck
                    clear hr8 hcut hd8 hl0
                    go_wp2_with fail
                    refine HS8.out.mono ?_
                    rintro e w9 ⟨rfl, hB9⟩
                    go_wp2_with fail
                    go_ret
                    exact ⟨rfl, hb8.trans (hB9.mono hb8.size)⟩
                  · rw [if_neg hck] at hcut
                    have HC8 := Lib.hid hcut
                    rw [hd8] at HSM ⊢
                    clear hr8 hcut hd8
                    go_wp2_with fail
                    refine (HSM.out A8 c8 _ _ w8 HR8.out (by first | exact HC8.out | (have h := HC8.out; rw [Option.map_some, addr_add] at h; exact h))).mono ?_
                    rintro e w9 ⟨rfl, hB9⟩
                    go_wp2_with fail
                    go_ret
                    exact ⟨rfl, hb8.trans (hB9.mono hb8.size)⟩
            · have hmi : ¬ (m : Int) < (mv.length : Int) := by omega
              have hmd : decide ((m : Int) < (mv.length : Int)) = false := by rw [decide_eq_false_iff_not]; omega
              have hmdn : decide (m < mv.length) = false := by rw [decide_eq_false_iff_not]; omega
              clear hB
              go_wp2_with fail
              go_quiet (fail)
              go_wp2_with fail
              go_loopw [14, 17] (fun nx i wr => ∃ q : Nat, q ≤ k ∧ i = .int .i64 q ∧ nx = .int .i64 (n2S m j s x2 sz q) ∧ Below w3.heap.size w3 wr) (fun _ i _ => k - (intOf i).toNat)
              case atStart => exact ⟨0, by omega, rfl, by rw [HNX.out], by first | exact hBa | exact below_drewN hBa _ | exact hBa.drew⟩
              case round =>
                obtain ⟨q, hq, rfl, rfl, hB⟩ := hrel
                have hz := hB.size
                by_cases hlt : q < k
                · have hql : q < l.length := by omega
                  obtain ⟨b5, off5, hA5, hbw5, q0, q1, q2, q3, q4, q5⟩ := RdB.at_ (HR3.out.below hB) hql
                  cases hA5
                  have hqi : (q : Int) < (l.length : Int) := by omega
                  have hqk : (q : Int) < (k : Int) := by omega
                  have hq0 : (0 : Int) ≤ (q : Int) := by omega
                  clear q2 q3 q4 q5
                  by_cases hc0 : m = 0
                  · have hd0 : decide ((0 : Int) < (m : Int)) = false := by rw [decide_eq_false_iff_not]; omega
                    have hd0n : decide (0 < m) = false := by rw [decide_eq_false_iff_not]; omega
                    have HX : Hid (n2S m j s x2 sz (q + 1) = n2S m j s x2 sz q) := Lib.hid (by unfold n2S; rw [if_pos hc0, if_pos hc0])
                    obtain ⟨V, hV⟩ : ∃ V, n2S m j s x2 sz q = V := ⟨_, rfl⟩
                    rw [hV] at HX ⊢
                    clear hV hc0
                    go_wp2_with fail
                    go_quiet (fail)
                    go_wp2_with fail
                    go_roundw
                    case rel => exact ⟨q + 1, by omega, by go_num, by rw [HX.out], by first | exact hB | exact below_drewN hB _ | exact hB.drew⟩
                    case measure => simp [intOf]; omega
                  · have hm0' : (0 : Int) < (m : Int) := by omega
                    have hd0 : decide ((0 : Int) < (m : Int)) = true := by rw [decide_eq_true_iff]; omega
                    have hd0n : decide (0 < m) = true := by rw [decide_eq_true_iff]; omega
                    obtain ⟨x1, hx1, hx2, hx3, hx4⟩ := HJ.out (by omega)
                    have hlm1 : m - 1 < mv.length := by omega
                    obtain ⟨b4, off4, hA4, hbw4, r0, r1⟩ := RdM.at_ (Rd.below HM3.out hB) hlm1
                    rw [List.getElem?_eq_getElem hlm1] at hx1
                    rw [Option.some.inj hx1] at r0 r1
                    dsimp only at r0 r1
                    have hmi1 : (m : Int) - 1 < (mv.length : Int) := by omega
                    have hmi2 : (0 : Int) ≤ (m : Int) - 1 := by omega
                    have hmw : IntKind.i64.wrap ((m : Int) - 1) = (m : Int) - 1 := IntWalk.i64_in _ (by omega)
                    have hmt : ((m : Int) - 1).toNat = m - 1 := by omega
                    cases hA4
                    by_cases hqj : q = j
                    · have hat : (l[q].at_ == x1) = true := by rw [beq_iff_eq]; exact (hx2 q hlt hql).2 hqj
                      have hsz := hx4 (by omega)
                      have hsq : l[q].size = sz := by subst hqj; exact hsz
                      have HX : Hid (n2S m j s x2 sz (q + 1) = n2S m j s x2 sz q + sz) := Lib.hid (by unfold n2S; rw [if_neg hc0, if_neg hc0, if_pos (by omega), if_neg (by omega)])
                      have hVb : 128 ≤ n2S m j s x2 sz q ∧ n2S m j s x2 sz q ≤ 2048 := by unfold n2S; rw [if_neg hc0, if_neg (by omega)]; omega
                      obtain ⟨V, hV⟩ : ∃ V, n2S m j s x2 sz q = V := ⟨_, rfl⟩
                      rw [hV] at HX hVb ⊢
                      rw [hsq] at q1
                      obtain ⟨aq, haq⟩ : ∃ aq, l[q].at_ = aq := ⟨_, rfl⟩
                      rw [haq] at q0 hat
                      obtain ⟨hv1, hv2⟩ := hVb
                      obtain ⟨-, hz1, hz2⟩ := hxb
                      clear hV hc0 hqj hsz hsq haq hx1 hx2 hx3 hx4
                      go_wp2_with fail
                      go_quiet (fail)
                      go_wp2_with fail
                      go_roundw
                      case rel => exact ⟨q + 1, by omega, by go_num, by rw [HX.out], by first | exact hB | exact below_drewN hB _ | exact hB.drew⟩
                      case measure => simp [intOf]; omega
                    · have hat : (l[q].at_ == x1) = false := by rw [beq_eq_false_iff_ne]; exact fun h => hqj ((hx2 q hlt hql).1 h)
                      have HX : Hid (n2S m j s x2 sz (q + 1) = n2S m j s x2 sz q) := Lib.hid (by
                        unfold n2S
                        rw [if_neg hc0, if_neg hc0]
                        by_cases h : j < q
                        · rw [if_pos h, if_pos (by omega)]
                        · rw [if_neg h, if_neg (by omega)])
                      obtain ⟨V, hV⟩ : ∃ V, n2S m j s x2 sz q = V := ⟨_, rfl⟩
                      rw [hV] at HX ⊢
                      obtain ⟨aq, haq⟩ : ∃ aq, l[q].at_ = aq := ⟨_, rfl⟩
                      rw [haq] at q0 hat
                      clear hV hc0 hqj haq hx1 hx2 hx3 hx4 q1
                      go_wp2_with fail
                      go_quiet (fail)
                      go_wp2_with fail
                      go_roundw
                      case rel => exact ⟨q + 1, by omega, by go_num, by rw [HX.out], by first | exact hB | exact below_drewN hB _ | exact hB.drew⟩
                      case measure => simp [intOf]; omega
                · obtain rfl : q = k := by omega
                  rw [HEnd.out]
                  obtain ⟨b5, off5, hA5, hbw5, q0, q1, q2, q3, q4, q5⟩ := RdB.at_ (HR3.out.below hB) hkl
                  cases hA5
                  rw [HAK.out hkl] at q0
                  clear q1 q2 q3 q4 q5
                  go_wp2_with fail
                  refine (HC2.out _ (HW3.out.up hB hz)).mono ?_
                  rintro e w8 ⟨⟨A8, c8, rfl, hr8, -⟩, hB8⟩
                  have hb8 := HB3.out.trans ((hB.trans (hB8.mono hz)).mono HB3.out.size)
                  have hcut := RdM.cut ((HM3.out.up hB hz).up hB8 hB8.size) m c2 hc2
                  have HR8 := Lib.hid hr8
                  have hd8 : (mv.drop m).length = mv.length - m := HDL.out
                  by_cases hck : c2 = m
                  · rw [if_pos hck] at hcut
                    have hl0 : (mv.drop m).length = 0 := by omega
                    have HC8 := Lib.hid hcut
                    have HS8 := Lib.hid (HSM.out A8 c8 _ 0 w8 hr8 hcut)
                    have hck2 : (c2 : Int) = (m : Int) := by omega
                    rw [hl0] at HS8 ⊢
                    subst hck
                    clear hr8 hcut hd8 hl0
                    go_wp2_with fail
                    refine HS8.out.mono ?_
                    rintro e w9 ⟨rfl, hB9⟩
                    go_wp2_with fail
                    go_ret
                    exact ⟨rfl, hb8.trans (hB9.mono hb8.size)⟩
                  · rw [if_neg hck] at hcut
                    have HC8 := Lib.hid hcut
                    rw [hd8] at HSM ⊢
                    clear hr8 hcut hd8
                    go_wp2_with fail
                    refine (HSM.out A8 c8 _ _ w8 HR8.out (by first | exact HC8.out | (have h := HC8.out; rw [Option.map_some, addr_add] at h; exact h))).mono ?_
                    rintro e w9 ⟨rfl, hB9⟩
                    go_wp2_with fail
                    go_ret
                    exact ⟨rfl, hb8.trans (hB9.mono hb8.size)⟩
      · have hways : p < 0 ∨ 0 ≤ p ∧ (l.length : Int) ≤ p := by omega
        obtain ⟨m, hm⟩ : ∃ m, (rdMv ws f s).length = m := ⟨_, rfl⟩
        rw [hm] at HC
        clear hg hgn h0 hpb hm g1 g2 g3 g4 g5 f1 f2 hml
        rcases hways with h1 | ⟨h1, h2⟩
        all_goals
          go_enter Try.func5, Try.ntmps5
          go_wp2_with fail
          refine (alive27_c w).mono ?_
          rintro e w1 ⟨rfl, hB1⟩
          go_wp2_with fail
          refine (great25_c A ws.length c _ hn).mono ?_
          rintro e w1' ⟨rfl, rfl⟩
          rw [HG.out]
          go_wp2_with fail
          refine (HC.out _ (HR.out.up hB1 hB1.size)).mono ?_
          rintro e w2 ⟨⟨A2, c2, rfl, -, -⟩, hB2⟩
          have hb2 := hB1.trans (hB2.mono hB1.size)
          go_wp2_with fail
          refine (HFR.out _ (HR.out.up hb2 hb2.size)).mono ?_
          rintro e w3 ⟨⟨A3, c3, rfl, -, -⟩, hB3⟩
          have hb3 := hb2.trans (hB3.mono hb2.size)
          go_wp2_with fail
          go_ret
          exact ⟨rfl, hb3⟩
    · have hn1 : (rdErr ws f s != 0) = true := by rw [bne_iff_ne]; exact h0
      obtain ⟨m, hm⟩ : ∃ m, (rdMv ws f s).length = m := ⟨_, rfl⟩
      obtain ⟨r, hr⟩ : ∃ r, rdErr ws f s = r := ⟨_, rfl⟩
      obtain ⟨r2, hr2⟩ : ∃ r2, frErr ws f = r2 := ⟨_, rfl⟩
      obtain ⟨l2, hl2⟩ : ∃ l2, frOut ws f = l2 := ⟨_, rfl⟩
      rw [hm, hr] at HC
      rw [hr2, hl2] at HFR
      rw [hr] at hn1
      clear hg hgn h0 hm hr hml hr2 hl2
      go_enter Try.func5, Try.ntmps5
      go_wp2_with fail
      refine (alive27_c w).mono ?_
      rintro e w1 ⟨rfl, hB1⟩
      go_wp2_with fail
      refine (great25_c A ws.length c _ hn).mono ?_
      rintro e w1' ⟨rfl, rfl⟩
      rw [HG.out]
      go_wp2_with fail
      refine (HC.out _ (HR.out.up hB1 hB1.size)).mono ?_
      rintro e w2 ⟨⟨A2, c2, rfl, -, -⟩, hB2⟩
      have hb2 := hB1.trans (hB2.mono hB1.size)
      go_wp2_with fail
      refine (HFR.out _ (HR.out.up hb2 hb2.size)).mono ?_
      rintro e w3 ⟨⟨A3, c3, rfl, -, -⟩, hB3⟩
      have hb3 := hb2.trans (hB3.mono hb2.size)
      go_wp2_with fail
      go_ret
      exact ⟨rfl, hb3⟩
  · have HG := Lib.hid hg
    clear hg
    go_enter Try.func5, Try.ntmps5
    go_wp2_with fail
    refine (alive27_c w).mono ?_
    rintro e w1 ⟨rfl, hB1⟩
    go_wp2_with fail
    refine (great25_c A ws.length c _ hn).mono ?_
    rintro e w1' ⟨rfl, rfl⟩
    rw [HG.out]
    go_wp2_with fail
    go_ret
    exact ⟨rfl, hB1⟩
end Go.Proofs.Ytkcancjalpjbgaa
