/- What is reached: what the program's search returns. -/
import Derived.Test.YtpifagclhhaniaaHnd2
import Derived.Test.YtpifagclhhaniaaKHeap
import Derived.Test.YtpifagclhhaniaaFlds
import Derived.Laws.OwnMore
namespace Go.Proofs.Ytpifagclhhaniaa
open Go.RowKit

def natCells (x : Nat) : List Value := [.int .i64 (x : Int)]
def boolCells (x : Bool) : List Value := [.bool x]
theorem natCells_len (x : Nat) : (natCells x).length = 1 := rfl
theorem boolCells_len (x : Bool) : (boolCells x).length = 1 := rfl
theorem ints_zero (n : Nat) : (List.replicate n (0 : Int)).flatMap intCells = List.replicate n (.int .i64 0) := by
  induction n with
  | zero => rfl
  | succ n ih => rw [List.replicate_succ, List.flatMap_cons, ih, List.replicate_succ]; rfl
theorem bools_zero (n : Nat) : (List.replicate n false).flatMap boolCells = List.replicate n (.bool false) := by
  induction n with
  | zero => rfl
  | succ n ih => rw [List.replicate_succ, List.flatMap_cons, ih, List.replicate_succ]; rfl
theorem ints_set (l : List Int) (k : Nat) (x : Int) : (l.set k x).flatMap intCells = (l.flatMap intCells).set k (.int .i64 x) := by
  have := flat_set intCells 1 intCells_len l k 0 (by omega) x (.int .i64 x) (fun y _ => rfl)
  simpa using this
theorem bools_set (l : List Bool) (k : Nat) (x : Bool) : (l.set k x).flatMap boolCells = (l.flatMap boolCells).set k (.bool x) := by
  have := flat_set boolCells 1 boolCells_len l k 0 (by omega) x (.bool x) (fun y _ => rfl)
  simpa using this
theorem ints_get (l : List Int) (k : Nat) (h : k < l.length) : (l.flatMap intCells)[k]? = some (.int .i64 (l[k]?.getD 0)) := by
  have := flat_get intCells 1 intCells_len l k 0 h (by omega)
  simpa [intCells, h] using this
theorem bools_get (l : List Bool) (k : Nat) (h : k < l.length) : (l.flatMap boolCells)[k]? = some (.bool (l[k]?.getD false)) := by
  have := flat_get boolCells 1 boolCells_len l k 0 h (by omega)
  simpa [boolCells, h] using this
theorem infoInt' : (Try.prog.info? 3).map (fun i => (i.zero, i.size, i.bytes)) = some (some (.int .i64 0), 1, 8) := by kernel_rfl
theorem infoBool' : (Try.prog.info? 4).map (fun i => (i.zero, i.size, i.bytes)) = some (some (.bool false), 1, 1) := by kernel_rfl
open Classical in
theorem rc_ok {ws : List Nat} (h : hpErr ws = 0) (h1 : slsOk ws = true) (h2 : Good ws) : rcErr ws = 0 := by simp [rcErr, h, h1, h2]
open Classical in
theorem rc_sl {ws : List Nat} (h : hpErr ws = 0) (h1 : slsOk ws = false) : rcErr ws = 50 := by simp [rcErr, h, h1]
open Classical in
theorem rc_bad {ws : List Nat} (h : hpErr ws = 0) (h2 : ¬ Good ws) : rcErr ws = 50 := by
  simp [rcErr, h, h2]
theorem ints_snoc (l : List Nat) (x : Nat) : (l ++ [x]).flatMap natCells = l.flatMap natCells ++ [.int .i64 (x : Int)] := by simp [natCells]
theorem nat_get (l : List Nat) (a : Nat) : ((l ++ [a]).flatMap natCells)[l.length]? = some (.int .i64 (a : Int)) := by
  have := flat_get natCells 1 natCells_len (l ++ [a]) l.length 0 (by simp) (by omega)
  simpa [natCells] using this
/-- A row of the call's own, but for its last element. -/
theorem own_pop {w : World} {H n c g : Nat} {e : TypeId} {xs ys : List Value} (h : w.ownsRow H e 1 (.slice (some ⟨g, 0, none⟩) (n + 1) c) (n + 1) (xs ++ ys)) (hx : xs.length = n) : w.ownsRow H e 1 (.slice (some ⟨g, 0, none⟩) n c) n xs := by
  refine ⟨by rw [hx, Nat.mul_one], .inr ?_⟩
  rcases h.2 with ⟨h1, _⟩ | ⟨g', cap, cur, h1, h2, h3, h4, h5, h6, h7⟩
  · cases h1
  · simp only [Value.slice.injEq, Option.some.injEq, Addr.mk.injEq, and_true, true_and] at h1
    obtain ⟨rfl, rfl⟩ := h1
    refine ⟨g, c, cur, rfl, h2, h3, by omega, h5, h6, ?_⟩
    have h8 := congrArg (List.take n) h7
    rw [List.take_take, Nat.mul_one, Nat.min_eq_left (by omega), List.take_left' hx] at h8
    rw [Nat.mul_one]; exact h8
theorem own_capR {w : World} {H n c : Nat} {e : TypeId} {sz : Nat} {A : Option Addr} {xs : List Value} (h : w.ownsRow H e sz (.slice A n c) n xs) : n ≤ c := by
  obtain ⟨A', c', hv, hle, -⟩ := slice_of h
  cases hv; exact hle
/-- A row of the call's own behind a store into another block. -/
theorem own_far {w : World} {H n c g : Nat} {e : TypeId} {sz : Nat} {xs : List Value} (h : w.ownsRow H e sz (.slice (some ⟨g, 0, none⟩) n c) n xs) {p : Addr} (hp : g ≠ p.block) (u : Value) : (w.setCell p u).ownsRow H e sz (.slice (some ⟨g, 0, none⟩) n c) n xs := by
  refine ⟨h.1, ?_⟩
  rcases h.2 with ⟨h1, _⟩ | ⟨g', cap, cur, h1, h2, h3, h4⟩
  · cases h1
  · refine .inr ⟨g', cap, cur, h1, h2, ?_, h4⟩
    simp only [Value.slice.injEq, Option.some.injEq, Addr.mk.injEq, and_true, true_and] at h1
    obtain ⟨rfl, rfl⟩ := h1
    exact (Below.heap_setCell w p u g hp).trans h3
def RcRes (ws : List Nat) (B : Nat) (e : Ending) (w' : World) : Prop :=
  (rcErr ws = 0 ∧ ∃ g c, e = .returned (.tuple #[.slice (some ⟨g, 0, none⟩) ws.length c, .int .i64 0]) ∧ w'.ownsRow B 4 1 (.slice (some ⟨g, 0, none⟩) ws.length c) ws.length ((seenL ws).flatMap boolCells)) ∨
  (rcErr ws = 50 ∧ e = .returned (.tuple #[.slice none 0 0, .int .i64 50]))

set_option maxRecDepth 100000 in
set_option maxHeartbeats 16000000 in
theorem mReach_c (A L : Option Addr) (ws : List Nat) (c cl n : Nat) (l : List Bk) (w : World) (hn : ws.length = n) (hm : n ≤ 9223372036854775807) (h0 : hpErr ws = 0) (hl : hpOut ws = l) (hr : RdW w w.heap.size A ws) (hrl : RdB w w.heap.size L l) (ho : ∀ x ∈ ws, x < 18446744073709551616) :
    Calls Try.prog 55 #[.slice A n c, .slice L l.length cl] w fun e w' => RcRes ws w.heap.size e w' ∧ Below w.heap.size w w' := by
  subst hn
  have HR := Lib.hid hr
  have HL := Lib.hid hrl
  have HO := Lib.hid ho
  obtain ⟨hs, -⟩ := hpErr_zero h0
  have hbd := fr_bd ws hs
  obtain ⟨hb1, hb2, -⟩ := hbd
  have HLT : Hid (∀ k, wd ws k < 18446744073709551616) := Lib.hid (wd_lt ho)
  have HHA := Lib.hid (hAll_c A ws c ws.length w rfl hm hr ho)
  unfold HaRes at HHA
  have HH0 := Lib.hid h0
  clear hr hrl ho
  cases hso : slsOk ws
  · have he := hdlErr_bad hs hso
    have hq : hdlOut ws = [] := by simp [hdlOut, he]
    rw [he, hq] at HHA
    have HV := Lib.hid (rc_sl h0 hso)
    clear hs hso he hq h0
    go_enter Try.func55, Try.ntmps55
    go_wp2_with fail
    refine HHA.out.mono ?_
    rintro e w1 ⟨⟨A1, c1, rfl, -, -⟩, hB1⟩
    go_wp2_with fail
    go_ret2
    exact ⟨.inr ⟨HV.out, rfl⟩, hB1⟩
  · obtain ⟨g1, g2⟩ := hdlErr_ok hs hso
    rw [g1, g2, slL_len] at HHA
    have HSO := Lib.hid hso
    obtain ⟨i0, hi, hz0, hz1, hz2⟩ := info_parts infoInt'
    obtain ⟨i1, hj, hy0, hy1, hy2⟩ := info_parts infoBool'
    have HII := Lib.hid (And.intro hi (And.intro hz0 (And.intro hz1 hz2)))
    have HIB := Lib.hid (And.intro hj (And.intro hy0 (And.intro hy1 hy2)))
    have hll := hpOut_len ws
    rw [hl] at hll
    have HHL := Lib.hid hl
    have HOBJ : Hid (∀ k (h : k < l.length), l[k].kind = 1 → ∃ a t : Nat, l[k].at_ = (a : Int) ∧ l[k].typ = (t : Int) ∧ a < ws.length ∧ t < 128) := Lib.hid (by
      subst hl
      intro k h h1
      obtain ⟨a, e1, e2⟩ := obj_of h0 h h1
      refine ⟨a, wd ws a / 512 % 128, by rw [e1]; rfl, by rw [e1]; rfl, e2.2.2.1, Nat.mod_lt _ (by omega)⟩)
    clear hl
    clear hs hso g1 g2 hi hz0 hz1 hz2 hj hy0 hy1 hy2 h0
    go_enter Try.func55, Try.ntmps55
    go_wp2_with fail
    refine HHA.out.mono ?_
    rintro e w1 ⟨⟨A1, c1, rfl, hrs, -⟩, hB1⟩
    have HS1 := Lib.hid hrs
    obtain ⟨W2, hmk, hown0, hg0⟩ := run_make_full (P := Try.prog) w1 w1.heap.size 25 3 i0 (.int .i64 0) 1 Try.underlying25 HII.out.1 HII.out.2.1 HII.out.2.2.1 .i64 .i64 ws.length (by rw [HII.out.2.2.2]; omega) (by unfold maxLen; omega) (Nat.le_refl _)
    have hTY : W2.ownsRow w1.heap.size 3 1 (.slice (some ⟨w1.heap.size, 0, none⟩) ws.length ws.length) ws.length ((tabL ws.length (l.take 0)).flatMap intCells) := by
      show W2.ownsRow _ _ _ _ _ ((List.replicate ws.length (0 : Int)).flatMap intCells)
      rw [ints_zero, ← toList_madeCells_one]; have := hown0; rw [Nat.mul_one] at this; exact this
    have hb2' := (Below.refl w1.heap.size w1).grown hg0 (Nat.le_refl _) (fun k hk => by cases hk)
    have HTY := Lib.hid hTY
    have HB1 := Lib.hid hB1
    have HB2 := Lib.hid (hB1.trans (hb2'.mono hB1.size))
    have HB12 := Lib.hid hb2'
    have HS2X := Lib.hid HS1.out
    have hz1w := hB1.size
    have hz2w := hb2'.size
    clear hrs hown0 hg0 hTY hb2' hB1
    go_wp2_with fail
    clear hmk
    go_loopw [34] (fun i wr => ∃ k : Nat, k ≤ l.length ∧ i = .int .i64 k ∧ wr.ownsRow w1.heap.size 3 1 (.slice (some ⟨w1.heap.size, 0, none⟩) ws.length ws.length) ws.length ((tabL ws.length (l.take k)).flatMap intCells) ∧ Below w1.heap.size w1 wr) (fun i _ => l.length - (intOf i).toNat)
    case atStart => exact ⟨0, Nat.zero_le _, rfl, HTY.out, HB12.out⟩
    case round =>
      obtain ⟨k, hk, rfl, hown, hB⟩ := hrel
      have hz := hB.size
      by_cases hlt : k < l.length
      · have hBw := HB1.out.trans (hB.mono hz1w)
        obtain ⟨b, off, rfl, hbw, q0, q1, q2, q3, q4, q5⟩ := RdB.at_ (Rd.below HL.out hBw) hlt
        have HTK := Lib.hid (tabL_take (n := ws.length) hlt)
        have HOB := Lib.hid (HOBJ.out k hlt)
        have htl := tabL_len ws.length (l.take k)
        obtain ⟨x, hx⟩ : ∃ x, l[k] = x := ⟨_, rfl⟩
        obtain ⟨tl, htl2⟩ : ∃ tl, tabL ws.length (l.take k) = tl := ⟨_, rfl⟩
        rw [hx] at q0 q1 q2 q3 q4 q5 HTK HOB
        rw [htl2] at HTK hown htl
        obtain ⟨xa, xs, xk, xt, xm, xn⟩ := x
        dsimp only at q0 q1 q2 q3 q4 q5 HTK HOB
        have hlm : (k : Int) < (l.length : Int) := by omega
        clear hx htl2
        by_cases hk1 : xk = 1
        · obtain ⟨a, t, ha, ht, han, ht8⟩ := HOB.out hk1
          subst ha ht
          have hke : (xk == 1) = true := by rw [beq_iff_eq]; exact hk1
          have HT2 := Lib.hid (HTK.out.trans (if_pos hk1))
          simp only [Int.toNat_natCast] at HT2
          have hw1 : IntKind.i64.wrap ((t : Int) + 1) = (t : Int) + 1 := IntWalk.i64_in _ (by omega)
          have ha1 : (a : Int) < (ws.length : Int) := by omega
          have ha0 : (0 : Int) ≤ (a : Int) := by omega
          have hown' := hown.alloc (.cells #[.int .i64 (a : Int), .int .i64 xs, .int .i64 xk, .int .i64 (t : Int), .bool xm, .int .u64 (xn : Int)] 47)
          have c0 := (hown.cellAt a (by omega)).trans (ints_get tl a (by omega))
          have f0 := hown.frozenAt a
          have c0' := (hown'.cellAt a (by omega)).trans (ints_get tl a (by omega))
          have f0' := hown'.frozenAt a
          obtain ⟨u, hu⟩ : ∃ u, tl[a]?.getD 0 = u := ⟨_, rfl⟩
          rw [hu] at c0 c0'
          have hgw := (hown.lt _ rfl).2
          have HOW := Lib.hid hown
          clear hown'
          clear hk1 hu HTK hown
          go_wp2_with fail
          go_roundw
          case rel =>
            refine ⟨k + 1, by omega, by go_num, ?_, (hB.setCell (p := ⟨w1.heap.size, a, none⟩) (Nat.le_refl _) _).alloc (by rw [World.size_setCell]; exact hz) _⟩
            rw [HT2.out, ints_set]
            exact (HOW.out.stored a _).1.alloc _
          case measure => simp [intOf]; omega
        · have hke : (xk == 1) = false := by rw [beq_eq_false_iff_ne]; exact hk1
          have HT2 := Lib.hid (HTK.out.trans (if_neg hk1))
          have HOW := Lib.hid hown
          clear hk1 HTK hown
          go_wp2_with fail
          go_roundw
          case rel => exact ⟨k + 1, by omega, by go_num, by rw [HT2.out]; exact HOW.out.alloc _, hB.alloc hz _⟩
          case measure => simp [intOf]; omega
      · rename World => wA
        rw [List.take_of_length_le (by omega)] at hown
        obtain ⟨tl, htl2⟩ : ∃ tl, tabL ws.length l = tl := ⟨_, rfl⟩
        have htl := tabL_len ws.length l
        rw [htl2] at hown htl
        have HTB : Hid (∀ a, tb ws a = tl[a]?.getD 0) := Lib.hid fun a => by unfold tb; rw [HHL.out, htl2]
        have HTY2 := Lib.hid hown
        have hBw := HB1.out.trans (hB.mono hz1w)
        have HBW := Lib.hid hBw
        have hzw := hBw.size
        have HS3 := Lib.hid (Rd.below HS2X.out hB)
        clear htl2 hown hBw
        obtain ⟨W3, hmk, hown0, hg0⟩ := run_make_full (P := Try.prog) wA wA.heap.size 33 4 i1 (.bool false) 1 Try.underlying33 HIB.out.1 HIB.out.2.1 HIB.out.2.2.1 .i64 .i64 ws.length (by rw [HIB.out.2.2.2]; omega) (by unfold maxLen; omega) (Nat.le_refl _)
        have hSE : W3.ownsRow wA.heap.size 4 1 (.slice (some ⟨wA.heap.size, 0, none⟩) ws.length ws.length) ws.length ((List.replicate ws.length false).flatMap boolCells) := by
          rw [bools_zero, ← toList_madeCells_one]; have := hown0; rw [Nat.mul_one] at this; exact this
        have HSE := Lib.hid hSE
        have HB3 := Lib.hid ((Below.refl wA.heap.size wA).grown hg0 (Nat.le_refl _) (fun k hk => by cases hk))
        have hgs : wA.heap.size < W3.heap.size := by have := hSE.lt wA.heap.size rfl; exact this.2
        clear hown0 hg0 hSE
        go_wp2_with fail
        clear hmk
        go_loopw [12, 54] (fun v i w4 => ∃ k : Nat, k ≤ 16 ∧ i = .int .i64 k ∧ w4.ownsRow W3.heap.size 3 1 v (slTo ws k).length ((slTo ws k).flatMap natCells) ∧ Below W3.heap.size W3 w4) (fun _ i _ => 16 - (intOf i).toNat)
        case atStart => exact ⟨0, Nat.zero_le _, rfl, World.ownsRow_nil _ _ _ _, Below.refl _ _⟩
        case round =>
          obtain ⟨k2, hk2, rfl, hown, hB4⟩ := hrel
          have hz4 := hB4.size
          have hB34 := HB3.out.trans (hB4.mono (Nat.le_of_lt hgs))
          by_cases hlt2 : k2 < 16
          · obtain ⟨b, off, rfl, hbw, q0, q1, q2⟩ := RdS.at_ (Rd.below HS3.out (hB34.mono hz)) (show k2 < (slL ws).length by rw [slL_len]; exact hlt2)
            rw [slL_get] at q0 q1 q2
            have HSS := Lib.hid (slTo_succ ws k2)
            have hsl := slTo_len ws k2
            obtain ⟨-, -, hat0, hat1⟩ := slRaw_bd (wd ws (112 + k2))
            have hsa : slAt ws k2 = slRaw (wd ws (112 + k2)) := rfl
            rw [← hsa] at hat0 hat1
            obtain ⟨s, hs2⟩ : ∃ s, slAt ws k2 = s := ⟨_, rfl⟩
            rw [hs2] at q0 q1 q2 HSS hat0 hat1
            obtain ⟨m, hm2⟩ : ∃ m, slTo ws k2 = m := ⟨_, rfl⟩
            rw [hm2] at hown HSS hsl
            obtain ⟨sg, su, sa⟩ := s
            dsimp only at q0 q1 q2 HSS hat0 hat1
            obtain ⟨u, rfl⟩ := Int.eq_ofNat_of_zero_le hat0
            rw [Int.toNat_natCast] at HSS
            have hk16 : (k2 : Int) < 16 := by omega
            have hk00 : (0 : Int) ≤ (k2 : Int) := by omega
            clear hsa hs2 hm2 hB34 hat0
            cases su
            · have HS2 := Lib.hid (HSS.out.trans (by simp : m ++ (if false = true then [u] else []) = m))
              clear HSS
              go_wp2_with fail
              go_roundw
              case rel => exact ⟨k2 + 1, by omega, by go_num, by rw [HS2.out]; exact hown.alloc _, hB4.alloc hz4 _⟩
              case measure => simp [intOf]; omega
            · have HS2 := Lib.hid (show slTo ws (k2 + 1) = m ++ [u] from HSS.out)
              clear HSS
              go_wp2_with (at_builtin; refine wpList_append_own _ rfl _ _ 25 rfl W3.heap.size 3 i0 _ 1 8 Try.underlying25 HII.out.1 HII.out.2.1 HII.out.2.2.1 HII.out.2.2.2 rfl (by decide) _ _ _ rfl ((hown.alloc _).alloc _) ⟨_, 0, none⟩ 1 1 [.int .i64 (u : Int)] rfl rfl (news_at _ _ _ (World.size_alloc _ _)) (by simp [Value.oneCell']) (by unfold maxLen; omega) (by omega) (by simp; omega) ?_; intro v1 w2 hown1 hg1 _; have hB5 := below_append (hB4.alloc hz4 (.cells #[.int .i64 sg, .bool true, .int .i64 (u : Int)] 35)) (by simp; omega) (hown.alloc _) hg1)
              go_roundw
              case rel => exact ⟨k2 + 1, by omega, by go_num, by rw [HS2.out, List.length_append, ints_snoc]; exact hown1, hB5⟩
              case measure => simp [intOf]; omega
          · obtain rfl : k2 = 16 := by omega
            have hst := Wk.start ws
            have hsl := slTo_len ws 16
            obtain ⟨td0, htd0⟩ : ∃ t, slTo ws 16 = t := ⟨_, rfl⟩
            rw [htd0] at hst hown hsl
            have HST := Lib.hid hst
            have HOWN := Lib.hid hown
            have HSE4 := Lib.hid (own_below HSE.out hB4 (Nat.le_refl _))
            have hfl : falses (List.replicate ws.length false) = ws.length := by simp [falses]
            have HFL := Lib.hid hfl
            have HB4 := Lib.hid hB34
            clear htd0 hst hown hfl hB34
            go_wp2_with fail
            go_loopg [12] 30000 (fun g v w5 => ∃ (seen : List Bool) (todo : List Nat), g ≤ 30000 ∧ Hid (Wk ws seen todo) ∧ Hid (falses seen * 9 + todo.length ≤ g) ∧ w5.ownsRow wA.heap.size 4 1 (.slice (some ⟨wA.heap.size, 0, none⟩) ws.length ws.length) ws.length (seen.flatMap boolCells) ∧ w5.ownsRow W3.heap.size 3 1 v todo.length (todo.flatMap natCells) ∧ W3.heap.size ≤ w5.heap.size ∧ Below wA.heap.size wA w5)
            case atStart => exact ⟨List.replicate ws.length false, td0, Nat.le_refl _, HST.out, by show _ ≤ _; rw [HFL.out]; omega, HSE4.out, HOWN.out, hz4, HB4.out⟩
            case round =>
              obtain ⟨seen, todo, hg30, HWK, HME, hse, hto, hz35, hB5⟩ := hrel
              have hz5 := hB5.size
              rcases List.eq_nil_or_concat todo with rfl | ⟨td, a, rfl⟩
              · have hend := HWK.out.end_
                have HV := Lib.hid (rc_ok HH0.out HSO.out hend.1)
                have HSL := Lib.hid HWK.out.seenL
                have HSE5 := Lib.hid hse
                rw [List.length_nil] at hto
                obtain ⟨A6, c6, rfl⟩ := own_slice hto
                have HBZ := Lib.hid (HBW.out.trans (hB5.mono hzw))
                clear hend hse hto HME HWK
                go_wp2_with fail
                go_ret2
                exact ⟨.inl ⟨HV.out, wA.heap.size, ws.length, rfl, by rw [← HSL.out]; exact own_mono HSE5.out hzw⟩, HBZ.out⟩
              · simp only [List.concat_eq_append, List.length_append, List.length_singleton] at HWK HME hto
                have hme := HME.out
                rw [ints_snoc] at hto
                obtain ⟨gT, cT, rfl⟩ : ∃ g c, u12 = .slice (some ⟨g, 0, none⟩) (td.length + 1) c := by
                  obtain ⟨g, c, h1, _⟩ := hto.form (by omega)
                  exact ⟨g, c, h1⟩
                have hcT := own_capR hto
                have hfl := flat_len natCells 1 natCells_len td
                rw [Nat.mul_one] at hfl
                have ct := (hto.cellAt td.length (by omega)).trans (by rw [List.getElem?_append_right (by omega), hfl, Nat.sub_self]; rfl : _ = some (.int .i64 (a : Int)))
                have hpop := own_pop hto hfl
                have hgT := hto.lt gT rfl
                have hml : td.length ≤ 30000 := by omega
                have hwl : IntKind.i64.wrap ((td.length : Int) + 1 - 1) = (td.length : Int) := by rw [IntWalk.i64_in _ (by omega)]; omega
                have hd0 : decide ((0 : Int) < (td.length : Int) + 1) = true := by rw [decide_eq_true_iff]; omega
                have t0 : (0 : Int) ≤ (td.length : Int) := by omega
                have t1 : (td.length : Int) < (td.length : Int) + 1 := by omega
                have t2 : (td.length : Int) ≤ (cT : Int) := by omega
                have HBZ := Lib.hid (HBW.out.trans (hB5.mono hzw))
                have HTO := Lib.hid hto
                have HPOP := Lib.hid hpop
                clear hme hfl hpop hto
                by_cases han : a < ws.length
                · have hty := own_below HTY2.out hB5 (Nat.le_refl _)
                  have ca := (hty.cellAt a (by omega)).trans (ints_get tl a (by omega))
                  have htb := HTB.out a
                  rw [← htb] at ca
                  have hge : decide ((ws.length : Int) ≤ (a : Int)) = false := by rw [decide_eq_false_iff_not]; omega
                  have hgen : decide (ws.length ≤ a) = false := by rw [decide_eq_false_iff_not]; omega
                  have ha0 : (0 : Int) ≤ (a : Int) := by omega
                  have ha1 : (a : Int) < (ws.length : Int) := by omega
                  clear hty htb
                  by_cases ht0 : tb ws a = 0
                  · have HV := Lib.hid (rc_bad HH0.out (HWK.out.bad ht0))
                    rw [ht0] at ca
                    clear ht0 hse
                    go_wp2_with fail
                    go_ret2
                    exact ⟨.inr ⟨HV.out, rfl⟩, HBZ.out⟩
                  · obtain ⟨hobj, htv⟩ := tb_obj HH0.out ht0
                    have HOBA := Lib.hid hobj
                    have htn : (tb ws a == 0) = false := by rw [beq_eq_false_iff_ne]; exact ht0
                    have hsl := HWK.out.hlen
                    have cs := (hse.cellAt a (by omega)).trans (bools_get seen a (by omega))
                    have HT0 := Lib.hid ht0
                    obtain ⟨t, ht⟩ : ∃ t : Nat, (rawBk (wd ws a)).typ = (t : Int) := ⟨wd ws a / 512 % 128, rfl⟩
                    have ht8 : t < 8 := by
                      have h7 := (hdOk_iff _).1 (bkAt_hd hobj.2.2.2.1)
                      have h5 := hobj.2.2.2.2.1
                      omega
                    have HFD : Hid (flds ws a = krOut (wd ws (96 + 2 * t)) (wd ws (96 + 2 * t + 1))) := Lib.hid (by unfold flds; rw [ht]; rfl)
                    rw [ht] at htv
                    rw [htv] at ca htn
                    have HTV := Lib.hid htv
                    have hwt : IntKind.i64.wrap ((t : Int) + 1 - 1) = (t : Int) := by rw [IntWalk.i64_in _ (by omega)]; omega
                    clear hobj htv ht0 ht
                    cases hsa : seen[a]?.getD false
                    · rw [hsa] at cs
                      have fs := hse.frozenAt a
                      have hsn : seen[a]? = some false := by
                        rw [List.getElem?_eq_getElem (by omega)] at hsa ⊢
                        rw [Option.getD_some] at hsa; rw [hsa]
                      have HWN := Lib.hid (HWK.out.new_ HT0.out)
                      have HFS := Lib.hid (falses_set hsn)
                      have HSS := Lib.hid (show (wr.setCell ⟨wA.heap.size, a, none⟩ (.bool true)).ownsRow wA.heap.size 4 1 (.slice (some ⟨wA.heap.size, 0, none⟩) ws.length ws.length) ws.length ((seen.set a true).flatMap boolCells) by
                        rw [bools_set]; exact (hse.stored a (.bool true)).1)
                      have hb6 := hB5.setCell (p := ⟨wA.heap.size, a, none⟩) (Nat.le_refl _) (.bool true)
                      have HB6 := Lib.hid hb6
                      have hpop6 : (wr.setCell ⟨wA.heap.size, a, none⟩ (.bool true)).ownsRow W3.heap.size 3 1 (.slice (some ⟨gT, 0, none⟩) td.length cT) td.length (td.flatMap natCells) := own_far HPOP.out (p := ⟨wA.heap.size, a, none⟩) (by show gT ≠ wA.heap.size; omega) (.bool true)
                      have HPO6 := Lib.hid hpop6
                      have c6 := (own_below HTY2.out hb6 (Nat.le_refl _)).cellAt a (by omega) |>.trans (ints_get tl a (by omega))
                      rw [← HTB.out a, HTV.out] at c6
                      have HFLD := Lib.hid (fun W (h : RdW W W.heap.size A ws) => mFieldsF_c A ws c ws.length t W rfl (by omega) hb1 ht8 h HO.out)
                      unfold FlResF at HFLD
                      rw [← HFD.out] at HFLD
                      clear hse HTO
                      have hfl8 := flds_le ws a
                      have HFIN : Hid (∀ j, j < (flds ws a).length → a + 2 + j < ws.length) := Lib.hid fun j hj => flds_in HOBA.out hj
                      have HTG : Hid (∀ j, tgts ws a (j + 1) = tgts ws a j ++ (if (flds ws a)[j]? = some 3 ∧ wd ws (a + 2 + j) ≠ 0 then [min (wd ws (a + 2 + j)) 2048] else [])) := Lib.hid fun j => tgts_succ ws a j
                      have HTL : Hid (∀ j, (tgts ws a j).length ≤ j) := Lib.hid fun j => tgts_len ws a j
                      have HR6 := Lib.hid (HR.out.up (HBW.out.trans (hb6.mono hzw)) (HBW.out.trans (hb6.mono hzw)).size)
                      obtain ⟨F, hF⟩ : ∃ F, flds ws a = F := ⟨_, rfl⟩
                      rw [hF] at HFLD HWN hfl8 HFIN HTG
                      have hw2 : IntKind.i64.wrap ((a : Int) + 2) = (a : Int) + 2 := IntWalk.i64_in _ (by omega)
                      have hme := HME.out
                      clear hF hb6 hpop6 hsa hsn
                      go_wp2_with fail
                      refine (HFLD.out _ HR6.out).mono ?_
                      rintro e w7 ⟨⟨A7, c7, rfl, hrf⟩, hB7⟩
                      have HF7 := Lib.hid hrf
                      have HB7 := Lib.hid (HB6.out.trans (hB7.mono HB6.out.size))
                      have HS7 := Lib.hid (own_below HSS.out hB7 (Nat.le_refl _))
                      have HT7 := Lib.hid (own_below HPO6.out hB7 (Nat.le_refl _))
                      have hz37 : W3.heap.size ≤ w7.heap.size := by have := hB7.size; rw [World.size_setCell] at this; omega
                      clear hB7 hrf cs ca c6 ct fs
                      go_wp2_with fail
                      go_loopw [12, 110] (fun v i w8 => ∃ j : Nat, j ≤ F.length ∧ i = .int .i64 j ∧ w8.ownsRow W3.heap.size 3 1 v (td ++ tgts ws a j).length ((td ++ tgts ws a j).flatMap natCells) ∧ w8.ownsRow wA.heap.size 4 1 (.slice (some ⟨wA.heap.size, 0, none⟩) ws.length ws.length) ws.length ((seen.set a true).flatMap boolCells) ∧ (∃ H, w8.ownsRow H 5 1 (.slice A7 F.length c7) F.length (F.flatMap byteCells)) ∧ W3.heap.size ≤ w8.heap.size ∧ Below wA.heap.size wA w8) (fun _ i _ => F.length - (intOf i).toNat)
                      case atStart => exact ⟨0, Nat.zero_le _, rfl, by rw [show td ++ tgts ws a 0 = td from List.append_nil td]; exact HT7.out, HS7.out, ⟨_, HF7.out⟩, hz37, HB7.out⟩
                      case round =>
                        obtain ⟨j, hj, rfl, hto, hse, ⟨H8, hfo⟩, hz38, hB8⟩ := hrel
                        have hz8 := hB8.size
                        have hlen8 : (td ++ tgts ws a j).length ≤ td.length + j := by rw [List.length_append]; have := HTL.out j; omega
                        by_cases hltj : j < F.length
                        · obtain ⟨bF, oF, rfl, hbF, y0⟩ := RdY.at_ (show RdY wr wr.heap.size A7 F from Rd.of_own hfo) hltj
                          have hin := HFIN.out j hltj
                          have HR8 := HR.out.up (HBW.out.trans (hB8.mono hzw)) (HBW.out.trans (hB8.mono hzw)).size
                          obtain ⟨bW, oW, rfl, hbW, x0⟩ := RdW.at_ HR8 hin
                          rw [← wd_get] at x0
                          have HTS := Lib.hid (HTG.out j)
                          rw [List.getElem?_eq_getElem hltj] at HTS
                          have hxl := HLT.out (a + 2 + j)
                          have HSEP := Lib.hid (own_sep hfo hto (by decide))
                          obtain ⟨kd, hkd⟩ : ∃ kd, F[j] = kd := ⟨_, rfl⟩
                          obtain ⟨x, hx⟩ : ∃ x, wd ws (a + 2 + j) = x := ⟨_, rfl⟩
                          obtain ⟨m, hm8⟩ : ∃ m, td ++ tgts ws a j = m := ⟨_, rfl⟩
                          rw [hkd] at y0 HTS
                          rw [hx] at x0 HTS hxl
                          rw [hm8] at hto hlen8
                          have HTM : Hid (td ++ tgts ws a (j + 1) = m ++ (if some kd = some 3 ∧ x ≠ 0 then [min x 2048] else [])) := Lib.hid (by rw [HTS.out, ← List.append_assoc, hm8])
                          have hji : (j : Int) < (F.length : Int) := by omega
                          have hj0 : (0 : Int) ≤ (j : Int) := by omega
                          have hw3 : IntKind.i64.wrap ((a : Int) + 2 + (j : Int)) = (a : Int) + 2 + (j : Int) := IntWalk.i64_in _ (by omega)
                          have i0' : (0 : Int) ≤ (a : Int) + 2 + (j : Int) := by omega
                          have i1' : (a : Int) + 2 + (j : Int) < (ws.length : Int) := by omega
                          have it' : ((a : Int) + 2 + (j : Int)).toNat = a + 2 + j := by omega
                          have hmm : m.length ≤ 40000 := by omega
                          have HTO8 := Lib.hid hto
                          have HSE8 := Lib.hid hse
                          have HFO8 := Lib.hid hfo
                          have HXL := Lib.hid hxl
                          clear HTS hkd hx hm8 HR8 hse hfo hin hxl
                          by_cases hk3 : kd = 3
                          · have e3 : ((kd : Int) != 3) = false := by rw [bne_eq_false_iff_eq]; omega
                            have e3n : (kd != 3) = false := by rw [bne_eq_false_iff_eq]; exact hk3
                            by_cases hx0 : x = 0
                            · have e0 : ((x : Int) == 0) = true := by rw [beq_iff_eq]; omega
                              have e0n : (x == 0) = true := by rw [beq_iff_eq]; exact hx0
                              have HY := Lib.hid (show td ++ tgts ws a (j + 1) = m by rw [HTM.out, if_neg (fun h => h.2 hx0), List.append_nil])
                              clear hk3 hx0 HTM hto
                              go_wp2_with fail
                              go_roundw
                              case rel => exact ⟨j + 1, by omega, by go_num, by rw [HY.out]; exact HTO8.out, HSE8.out, ⟨_, HFO8.out⟩, hz38, hB8⟩
                              case measure => simp [intOf]; omega
                            · have e0 : ((x : Int) == 0) = false := by rw [beq_eq_false_iff_ne]; omega
                              have e0n : (x == 0) = false := by rw [beq_eq_false_iff_ne]; exact hx0
                              have HY := Lib.hid (show td ++ tgts ws a (j + 1) = m ++ [min x 2048] by rw [HTM.out, if_pos ⟨by rw [hk3], hx0⟩])
                              clear hk3 hx0 HTM
                              have hww := fun (z : Int) (h0 : 0 ≤ z) (h1 : z ≤ 2048) => show IntKind.i64.wrap z = z from IntWalk.i64_in _ (by omega)
                              have hmways : min x 2048 = x ∧ x ≤ 2048 ∨ min x 2048 = 2048 ∧ 2048 < x := by omega
                              rcases hmways with ⟨hme, hx2⟩ | ⟨hme, hx2⟩
                              · rw [hme] at HY
                                have hwx := hww (x : Int) (by omega) (by omega)
                                have hmin : (if (x : Int) < 2048 then (x : Int) else 2048) = (x : Int) := by split <;> omega
                                clear hww hme
                                go_wp2_with (at_builtin; refine wpList_append_own _ rfl _ _ 25 rfl W3.heap.size 3 i0 _ 1 8 Try.underlying25 HII.out.1 HII.out.2.1 HII.out.2.2.1 HII.out.2.2.2 rfl (by decide) _ _ _ rfl (HTO8.out.alloc _) ⟨_, 0, none⟩ 1 1 [.int .i64 (x : Int)] rfl rfl (news_new _ _ _) (by simp [Value.oneCell']) (by unfold maxLen; omega) (by omega) (by simp; omega) ?_; intro v1 w9 hown1 hg1 _; have HOW1 := Lib.hid hown1; have HG1 := Lib.hid hg1; clear hown1 hg1)
                                go_roundw
                                case rel =>
                                  have hgz := HG1.out.size
                                  rw [World.size_alloc] at hgz
                                  refine ⟨j + 1, by omega, by go_num, by rw [HY.out, List.length_append, ints_snoc]; exact HOW1.out, (HSE8.out.alloc _).kept HG1.out (.inr ?_), ⟨_, (HFO8.out.alloc _).kept HG1.out HSEP.out⟩, by omega, (hB8.alloc hz8 _).grown HG1.out (by rw [World.size_alloc]; omega) (fun k hk => by have := (HTO8.out.lt k hk).1; omega)⟩
                                  intro h
                                  have := (HTO8.out.lt wA.heap.size h.symm).1
                                  omega
                                case measure => simp [intOf]; omega
                              · rw [hme] at HY
                                have hxi1 : (2048 : Int) < (x : Int) := by omega
                                have hxi2 : ¬ (x : Int) < 2048 := by omega
                                have hxi3 : ¬ (x : Int) ≤ 2048 := by omega
                                have hxi4 : ¬ x < 2048 := by omega
                                have hxi5 : ¬ x ≤ 2048 := by omega
                                clear hww hme
                                go_wp2_with (at_builtin; refine wpList_append_own _ rfl _ _ 25 rfl W3.heap.size 3 i0 _ 1 8 Try.underlying25 HII.out.1 HII.out.2.1 HII.out.2.2.1 HII.out.2.2.2 rfl (by decide) _ _ _ rfl (HTO8.out.alloc _) ⟨_, 0, none⟩ 1 1 [.int .i64 2048] rfl rfl (news_new _ _ _) (by simp [Value.oneCell']) (by unfold maxLen; omega) (by omega) (by simp; omega) ?_; intro v1 w9 hown1 hg1 _; have HOW1 := Lib.hid hown1; have HG1 := Lib.hid hg1; clear hown1 hg1)
                                go_roundw
                                case rel =>
                                  have hgz := HG1.out.size
                                  rw [World.size_alloc] at hgz
                                  refine ⟨j + 1, by omega, by go_num, by rw [HY.out, List.length_append, ints_snoc]; exact HOW1.out, (HSE8.out.alloc _).kept HG1.out (.inr ?_), ⟨_, (HFO8.out.alloc _).kept HG1.out HSEP.out⟩, by omega, (hB8.alloc hz8 _).grown HG1.out (by rw [World.size_alloc]; omega) (fun k hk => by have := (HTO8.out.lt k hk).1; omega)⟩
                                  intro h
                                  have := (HTO8.out.lt wA.heap.size h.symm).1
                                  omega
                                case measure => simp [intOf]; omega
                          · have e3 : ((kd : Int) != 3) = true := by rw [bne_iff_ne]; omega
                            have e3n : (kd != 3) = true := by rw [bne_iff_ne]; exact hk3
                            have HY := Lib.hid (show td ++ tgts ws a (j + 1) = m by rw [HTM.out, if_neg (fun h => hk3 (Option.some.inj h.1)), List.append_nil])
                            clear hk3 HTM hto
                            go_wp2_with fail
                            go_roundw
                            case rel => exact ⟨j + 1, by omega, by go_num, by rw [HY.out]; exact HTO8.out, HSE8.out, ⟨_, HFO8.out⟩, hz38, hB8⟩
                            case measure => simp [intOf]; omega
                        · obtain rfl : j = F.length := by omega
                          have HTO8 := Lib.hid hto
                          have HSE8 := Lib.hid hse
                          have hfs := HFS.out
                          clear hto hse hfo
                          go_wp2_with fail
                          go_roundg (gk - 1)
                          case rel => exact ⟨seen.set a true, td ++ tgts ws a F.length, by omega, HWN.out, by show _ ≤ _; omega, HSE8.out, HTO8.out, hz38, hB8⟩
                          case measure => omega
                    · rw [hsa] at cs
                      have HWO := Lib.hid (HWK.out.old (show seen[a]? = some true by
                        rw [List.getElem?_eq_getElem (by omega)] at hsa ⊢
                        rw [Option.getD_some] at hsa; rw [hsa]))
                      have HSE5 := Lib.hid hse
                      have hme := HME.out
                      clear hse hsa HWK
                      go_wp2_with fail
                      go_roundg (gk - 1)
                      case rel => exact ⟨seen, td, by omega, HWO.out, by show _ ≤ _; omega, HSE5.out, HPOP.out, hz35, hB5⟩
                      case measure => omega
                · have hge : decide ((ws.length : Int) ≤ (a : Int)) = true := by rw [decide_eq_true_iff]; omega
                  have hgen : decide (ws.length ≤ a) = true := by rw [decide_eq_true_iff]; omega
                  have HV := Lib.hid (rc_bad HH0.out (HWK.out.bad (by
                    by_cases h : tb ws a = 0
                    · exact h
                    · exact absurd (tb_lt h) han)))
                  clear hse han
                  go_wp2_with fail
                  go_ret2
                  exact ⟨.inr ⟨HV.out, rfl⟩, HBZ.out⟩
end Go.Proofs.Ytpifagclhhaniaa
