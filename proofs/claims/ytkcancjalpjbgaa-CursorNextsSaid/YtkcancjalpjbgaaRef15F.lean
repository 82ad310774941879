/- All blocks from an address on: what the reference returns. -/
import Derived.Test.YtkcancjalpjbgaaRef15
import Derived.Test.YtkcancjalpjbgaaFrom
namespace Go.Proofs.Ytkcancjalpjbgaa
open Go.RowKit

def rfOut (ws : List Nat) (a : Nat) : List Bk := (blocks ws a).getD []
def RfRes (ws : List Nat) (a : Nat) (e : Ending) (w' : World) : Prop := ∃ A c, e = .returned (.tuple #[.slice A (rfOut ws a).length c, .bool (blocks ws a).isSome]) ∧ RdB w' w'.heap.size A (rfOut ws a) ∧ (rfOut ws a).length ≤ c
def rtF (ws : List Nat) (i j : Nat) : Value := .bool (decide (i ≤ j ∧ j % 2 = 0) && (blocks ws j).isSome)
theorem rfRes_no {ws : List Nat} {a : Nat} {w' : World} (h : blocks ws a = none) : RfRes ws a (.returned (.tuple #[.slice none 0 0, .bool false])) w' := by
  have : rfOut ws a = [] := by simp [rfOut, h]
  exact ⟨none, 0, by rw [this, h]; rfl, by rw [this]; exact Rd.nil_, by rw [this]; simp⟩
theorem rfRes_own {H : Nat} {ws : List Nat} {a : Nat} {v : Value} {w' : World} {l : List Bk} (h0 : blocks ws a = some l) (h : w'.ownsRow H 26 6 v l.length (l.flatMap Bk.cells)) : RfRes ws a (.returned (.tuple #[v, .bool true])) w' := by
  have hl : rfOut ws a = l := by simp [rfOut, h0]
  have hc : ∃ A c, v = .slice A l.length c ∧ l.length ≤ c := by
    rcases h.2 with ⟨rfl, hnil⟩ | ⟨g, cap, cur, rfl, _, _, hle, _⟩
    · exact ⟨none, 0, by rw [hnil], by omega⟩
    · exact ⟨_, _, rfl, hle⟩
  obtain ⟨A, c, rfl, hle⟩ := hc
  exact ⟨A, c, by rw [hl, h0]; rfl, by rw [hl]; exact Rd.of_own h, by rw [hl]; exact hle⟩
theorem rtF_start (ws : List Nat) (m : Nat) (hm : m = ws.length + 1) (he : ws.length % 2 = 0) {w : World} {g : Nat} (h : w.rowIs g 4 m (fun _ => .bool false)) : (w.setCell ⟨g, ws.length, none⟩ (.bool true)).rowIs g 4 m (rtF ws ws.length) :=
  (h.set ws.length (.bool true)).congr fun i hi => by
    unfold rtF
    by_cases e : i = ws.length
    · subst e
      rw [blocks_end (Nat.le_refl _)]; simp [he]
    · rw [if_neg e]
      have : decide (ws.length ≤ i ∧ i % 2 = 0) = false := by rw [decide_eq_false_iff_not]; omega
      rw [this]; rfl
theorem rtF_step (ws : List Nat) (m i : Nat) (he : i % 2 = 0) {w : World} {g : Nat} (h : w.rowIs g 4 m (rtF ws (i + 2))) : (w.setCell ⟨g, i, none⟩ (.bool (blocks ws i).isSome)).rowIs g 4 m (rtF ws i) :=
  (h.set i _).congr fun j _ => by
    unfold rtF
    by_cases e : j = i
    · subst e; simp [he]
    · rw [if_neg e]
      congr 2
      rw [decide_eq_decide]
      omega
theorem infoBoolW : (Try.prog.info? 4).map (fun i => (i.zero, i.size, i.bytes)) = some (some (.bool false), 1, 1) := by kernel_rfl

set_option maxRecDepth 100000 in
set_option maxHeartbeats 2000000 in
theorem rfFrom_c (A : Option Addr) (ws : List Nat) (c n a : Nat) (w : World) (hn : ws.length = n) (hm : n ≤ 100000) (he : n % 2 = 0) (ha : a ≤ n) (ha2 : a % 2 = 0) (hr : RdW w w.heap.size A ws) (ho : ∀ x ∈ ws, x < 18446744073709551616) :
    Calls Try.prog 49 #[.slice A n c, .int .i64 (a : Int)] w fun e w' => RfRes ws a e w' ∧ Below w.heap.size w w' := by
  subst hn
  have HR := Lib.hid hr
  have HO := Lib.hid ho
  obtain ⟨m, hmm⟩ : ∃ m, m = ws.length + 1 := ⟨_, rfl⟩
  have hmk : (Instr.makeSlice 70 (.int .i64 ((ws.length : Int) + 1)) (.int .i64 ((ws.length : Int) + 1))).run Try.prog w = .ok (.slice (some ⟨w.heap.size, 0, none⟩) m m) (w.alloc (.cells (madeCells #[.bool false] m) 4)) := by
    have := run_make_row' (P := Try.prog) 70 4 (.bool false) 1 Try.underlying70 infoBoolW rfl .i64 .i64 m (by omega) (by omega) w
    rw [show ((m : Nat) : Int) = (ws.length : Int) + 1 by omega] at this
    exact this
  have r0 := World.rowIs_made w (.bool false) m 4
  have hb0 : Below w.heap.size w (w.alloc (.cells (madeCells #[.bool false] m) 4)) := (Below.refl _ _).alloc (Nat.le_refl _) _
  have hz0 : (w.alloc (.cells (madeCells #[.bool false] m) 4)).heap.size = w.heap.size + 1 := by simp
  obtain ⟨W0, hW0⟩ : ∃ W0, w.alloc (.cells (madeCells #[.bool false] m) 4) = W0 := ⟨_, rfl⟩
  rw [hW0] at hmk r0 hb0 hz0
  have HMM := Lib.hid hmm
  have c0 := r0.cell (i := ws.length) (by omega)
  have f0 := r0.frozen ws.length
  have R1 := Lib.hid (rtF_start ws m hmm he r0)
  have hlm : (ws.length : Int) < (m : Int) := by omega
  have HE := Lib.hid he
  have HA2 := Lib.hid ha2
  have HZ0 := Lib.hid hz0
  have HB0 := Lib.hid hb0
  clear hr ho hmm hW0 r0 he ha2 hz0 hb0
  go_enter Try.func49, Try.ntmps49
  go_wp2_with fail
  go_loopw [7] (fun p wr => ∃ k : Nat, k ≤ ws.length ∧ a ≤ k ∧ k % 2 = 0 ∧ p = .int .i64 ((k : Int) - 2) ∧ wr.rowIs w.heap.size 4 m (rtF ws k) ∧ Below w.heap.size w wr) (fun p _ => (intOf p + 2).toNat)
  case atStart => exact ⟨ws.length, Nat.le_refl _, ha, HE.out, rfl, R1.out, HB0.out.setCell (Nat.le_refl _) _⟩
  case round =>
    obtain ⟨k, q1, q2, q3, rfl, hrow, hB⟩ := hrel
    have hz := hB.size
    by_cases hlt : a + 2 ≤ k
    · obtain ⟨i, rfl⟩ : ∃ i, k = i + 2 := ⟨k - 2, by omega⟩
      rw [show (((i + 2 : Nat) : Int) - 2) = (i : Int) by omega]
      have hi2 : i % 2 = 0 := by omega
      have HI2 := Lib.hid hi2
      have g1 : (a : Int) ≤ (i : Int) := by omega
      have g2 : (0 : Int) ≤ (i : Int) := by omega
      have HC := Lib.hid (at_c A ws c ws.length i wr rfl (by omega) (by omega) (HR.out.up hB hz) HO.out)
      cases hst : stands ws i
      · have HN := Lib.hid (show (blocks ws i).isSome = false by rw [blocks_bad (by omega) hst]; rfl)
        rw [(st_no hst).1, hst] at HC
        unfold noBk Bk.val at HC
        dsimp only at HC
        have HROW := Lib.hid hrow
        clear hst q3 hi2 hrow
        go_wp2_with fail
        refine HC.out.mono ?_
        rintro e w1 ⟨rfl, hB1⟩
        have hr1 := (rowIs_below HROW.out hB1 HROW.out.lt).alloc (.cells #[.int .i64 0, .int .i64 0, .int .i64 0, .int .i64 0, .bool false, .int .u64 0] 26)
        have hb1 := ((hB.trans (hB1.mono hz)).alloc (Nat.le_trans hz hB1.size) (.cells #[.int .i64 0, .int .i64 0, .int .i64 0, .int .i64 0, .bool false, .int .u64 0] 26))
        have hlm2 : i < m := by omega
        have e1 := hr1.cell hlm2
        have e2 := hr1.frozen i
        unfold rtF at e1
        obtain ⟨q, hq⟩ : ∃ q, (decide (i + 2 ≤ i ∧ i % 2 = 0) && (blocks ws i).isSome) = q := ⟨_, rfl⟩
        rw [hq] at e1
        have HR1 := Lib.hid (rtF_step ws m i HI2.out hr1)
        rw [HN.out] at HR1
        have HB1 := Lib.hid hb1
        clear hr1 hb1 hq hB1
        go_wp2_with fail
        go_roundw
        case rel => exact ⟨i, by omega, by omega, HI2.out, by go_num, HR1.out, HB1.out.setCell (Nat.le_refl _) _⟩
        case measure => simp [intOf]; omega
      · have hsz := stands_sz hst
        have HN := Lib.hid (show (blocks ws i).isSome = (blocks ws (i + szAt ws i)).isSome by rw [blocks_step (by omega) hst, Option.isSome_map])
        have hbk : (bkAt ws i).val = .agg #[.int .i64 (i : Int), .int .i64 ((szAt ws i : Nat) : Int), .int .i64 ((wd ws i % 256 : Nat) : Int), .int .i64 ((wd ws i / 512 % 128 : Nat) : Int), .bool (wd ws i / 256 % 2 == 1), .int .u64 ((wd ws (i + 1) : Nat) : Int)] := rfl
        rw [(st_ok hst).1, hst, hbk] at HC
        have HSE := Lib.hid (show (i + szAt ws i) % 2 = 0 by omega)
        obtain ⟨S, hS⟩ : ∃ S, szAt ws i = S := ⟨_, rfl⟩
        obtain ⟨K, hK⟩ : ∃ K, ((wd ws i % 256 : Nat) : Int) = K := ⟨_, rfl⟩
        obtain ⟨T, hT⟩ : ∃ T, ((wd ws i / 512 % 128 : Nat) : Int) = T := ⟨_, rfl⟩
        obtain ⟨M, hM⟩ : ∃ M, (wd ws i / 256 % 2 == 1) = M := ⟨_, rfl⟩
        obtain ⟨X, hX⟩ : ∃ X, ((wd ws (i + 1) : Nat) : Int) = X := ⟨_, rfl⟩
        rw [hS] at HN hsz HSE
        rw [hS, hK, hT, hM, hX] at HC
        obtain ⟨z1, z2, z3⟩ := hsz
        have HROW := Lib.hid hrow
        clear hst hi2 hrow hbk hS hK hT hM hX z2
        go_wp2_with fail
        refine HC.out.mono ?_
        rintro e w1 ⟨rfl, hB1⟩
        have hr1 := (rowIs_below HROW.out hB1 HROW.out.lt).alloc (.cells #[.int .i64 (i : Int), .int .i64 (S : Int), .int .i64 K, .int .i64 T, .bool M, .int .u64 X] 26)
        have hb1 := ((hB.trans (hB1.mono hz)).alloc (Nat.le_trans hz hB1.size) (.cells #[.int .i64 (i : Int), .int .i64 (S : Int), .int .i64 K, .int .i64 T, .bool M, .int .u64 X] 26))
        have hlm2 : i < m := by omega
        have hlm3 : i + S < m := by omega
        have htn : ((i : Int) + (S : Int)).toNat = i + S := by omega
        have hub : (i : Int) + (S : Int) < (m : Int) := by omega
        have hlb : (0 : Int) ≤ (i : Int) + (S : Int) := by omega
        have hbn := Bx.new w1 26 #[.int .i64 (i : Int), .int .i64 (S : Int), .int .i64 K, .int .i64 T, .bool M, .int .u64 X]
        have e0 : (w1.alloc (.cells #[.int .i64 (i : Int), .int .i64 (S : Int), .int .i64 K, .int .i64 T, .bool M, .int .u64 X] 26)).cell? ⟨w1.heap.size, 1, none⟩ = some (.int .i64 (S : Int)) := hbn.cell 1
        have e1 := hr1.cell hlm2
        have e2 := hr1.frozen i
        have e3 := hr1.cell hlm3
        unfold rtF at e1 e3
        rw [show decide (i + 2 ≤ i + S ∧ (i + S) % 2 = 0) = true by rw [decide_eq_true_iff]; exact ⟨by omega, HSE.out⟩, Bool.true_and, ← HN.out] at e3
        obtain ⟨q, hq⟩ : ∃ q, (decide (i + 2 ≤ i ∧ i % 2 = 0) && (blocks ws i).isSome) = q := ⟨_, rfl⟩
        rw [hq] at e1
        have HR1 := Lib.hid (rtF_step ws m i HI2.out hr1)
        obtain ⟨r, hr⟩ : ∃ r, (blocks ws i).isSome = r := ⟨_, rfl⟩
        rw [hr] at HR1 e3
        have HB1 := Lib.hid hb1
        clear hr1 hb1 hq hB1 hr hbn
        obtain ⟨w2, hw2⟩ : ∃ w2, (w1.alloc (.cells #[.int .i64 (i : Int), .int .i64 (S : Int), .int .i64 K, .int .i64 T, .bool M, .int .u64 X] 26)) = w2 := ⟨_, rfl⟩
        rw [hw2] at e0 e1 e2 e3 HR1 HB1
        go_wp2_with fail
        go_roundw
        case rel => exact ⟨i, by omega, by omega, HI2.out, by go_num, HR1.out, HB1.out.setCell (Nat.le_refl _) _⟩
        case measure => simp [intOf]; omega
    · obtain rfl : k = a := by have := HA2.out; omega
      have hlt2 : (k : Int) - 2 < (k : Int) := by omega
      have hlm2 : k < m := by omega
      have e1 := hrow.cell hlm2
      have ik : (k : Int) < (m : Int) := by omega
      have ik0 : (0 : Int) ≤ (k : Int) := by omega
      unfold rtF at e1
      rw [show decide (k ≤ k ∧ k % 2 = 0) = true by rw [decide_eq_true_iff]; exact ⟨Nat.le_refl _, q3⟩, Bool.true_and] at e1
      have d1 : decide ((k : Int) < 0) = false := by rw [decide_eq_false_iff_not]; omega
      have d2 : decide ((ws.length : Int) < (k : Int)) = false := by rw [decide_eq_false_iff_not]; omega
      have d2n : decide (ws.length < k) = false := by rw [decide_eq_false_iff_not]; omega
      clear hlt q3 hrow
      cases hbl : blocks ws k with
      | none =>
        rw [hbl] at e1
        have HN := Lib.hid hbl
        rw [show (none : Option (List Bk)).isSome = false from rfl] at e1
        clear hbl
        go_wp2_with fail
        go_ret2
        exact ⟨rfRes_no HN.out, hB⟩
      | some l =>
        rw [hbl] at e1
        have HSO := Lib.hid hbl
        rw [show (some l).isSome = true from rfl] at e1
        clear hbl
        have HB0' := Lib.hid hB
        clear hB
        obtain ⟨i2, hi, hz0, hz1, hz2⟩ := info_parts infoBlkW
        have HJ := Lib.hid hi
        have HJ0 := Lib.hid hz0
        have HJ1 := Lib.hid hz1
        have HJ2 := Lib.hid hz2
        clear hi hz0 hz1 hz2
        go_wp2_with fail
        clear e1
        go_loopw [1, 10] (fun p v wr => ∃ (i : Nat) (acc : List Bk), p = .int .i64 i ∧ i ≤ ws.length ∧ i % 2 = 0 ∧ blocks ws k = (blocks ws i).map (acc ++ ·) ∧ acc.length ≤ i ∧ wr.ownsRow w.heap.size 26 6 v acc.length (acc.flatMap Bk.cells) ∧ Below w.heap.size w wr) (fun p _ _ => ws.length - (intOf p).toNat)
        case atStart => exact ⟨k, [], rfl, ha, HA2.out, by simp, by simp, World.ownsRow_nil _ _ _ _, HB0'.out⟩
        case round =>
          obtain ⟨i, acc, rfl, q2, q3, q4, q5, hown, hB⟩ := hrel
          have hz := hB.size
          have HQ3 := Lib.hid q3
          have HQ4 := Lib.hid q4
          clear q4
          by_cases hlt : i < ws.length
          · have hlt1 : i + 1 < ws.length := by have := HE.out; omega
            clear q3
            have hst : stands ws i = true := by
              cases h : stands ws i with
              | true => rfl
              | false => have := HQ4.out; rw [blocks_bad hlt h, HSO.out] at this; cases this
            have hsz := stands_sz hst
            have HC := Lib.hid (at_c A ws c ws.length i wr rfl (by omega) hlt1 (HR.out.up hB hz) HO.out)
            rw [(st_ok hst).1, hst] at HC
            have HNX := Lib.hid (show blocks ws k = (blocks ws (i + szAt ws i)).map ((acc ++ [bkAt ws i]) ++ ·) by
              rw [HQ4.out, blocks_step hlt hst]
              cases blocks ws (i + szAt ws i) <;> simp)
            have HFL := Lib.hid (flat_snoc Bk.cells acc (bkAt ws i))
            have hss := bkAt_size ws i
            obtain ⟨x, hx⟩ : ∃ x, bkAt ws i = x := ⟨_, rfl⟩
            obtain ⟨z, hzz⟩ : ∃ z, szAt ws i = z := ⟨_, rfl⟩
            rw [hx] at HC HNX HFL hss
            rw [hzz] at HNX hsz hss
            have HX := Lib.hid hx
            obtain ⟨xa, xs, xk, xt, xm, xn⟩ := x
            dsimp only at hss
            subst hss
            unfold Bk.val at HC
            dsimp only at HC
            obtain ⟨z1, z2, z3⟩ := hsz
            have HZ2 := Lib.hid z2
            clear hst hx hzz z2
            go_wp2_with fail
            refine HC.out.mono ?_
            rintro e w1 ⟨rfl, hB1⟩
            have hb1 := hB.trans (hB1.mono hz)
            have hownw := own_below hown hB1 (Nat.le_refl _)
            have hz1 := hb1.size
            go_wp2_with (at_builtin; refine wpList_append_own _ rfl _ _ 42 rfl w.heap.size 26 i2 _ 6 48 Try.underlying42 HJ.out HJ0.out HJ1.out HJ2.out rfl (by decide) _ _ _ rfl ((hownw.alloc _).alloc _) ⟨_, 0, none⟩ 1 1 [.int .i64 xa, .int .i64 (z : Int), .int .i64 xk, .int .i64 xt, .bool xm, .int .u64 (xn : Int)] rfl rfl (news_at _ _ _ (World.size_alloc _ _)) (by simp [Value.oneCell']) (by unfold maxLen; omega) (by omega) (by simp; omega) ?_; intro v1 w2 hown1 hg1 _; have hbx : Bx w2 w1.heap.size 26 #[.int .i64 xa, .int .i64 (z : Int), .int .i64 xk, .int .i64 xt, .bool xm, .int .u64 (xn : Int)] := ((Bx.new w1 26 _).alloc _).grown hg1 (own_new hownw); have hB2 := below_append (hb1.alloc hz1 (.cells #[.int .i64 xa, .int .i64 (z : Int), .int .i64 xk, .int .i64 xt, .bool xm, .int .u64 (xn : Int)] 26)) (by simp; omega) (hownw.alloc _) hg1; have hc1 : w2.cell? ⟨w1.heap.size, 1, none⟩ = some (.int .i64 (z : Int)) := hbx.cell 1; have hf1 := hbx.frozen 1; have hl1 := hbx.lt; clear hg1 hbx)
            go_roundw
            case rel => exact ⟨i + z, acc ++ [⟨xa, (z : Int), xk, xt, xm, xn⟩], by rw [Int.natCast_add], by omega, by have := HQ3.out; have := HZ2.out; omega, HNX.out, by simp; omega, by rw [HFL.out, List.length_append]; exact hown1, hB2⟩
            case measure => simp [intOf]; omega
          · have hi : i = ws.length := by omega
            have HD := Lib.hid (show blocks ws k = some acc by rw [HQ4.out, blocks_end (by omega)]; simp)
            clear hi q3
            go_wp2_with fail
            go_ret2
            exact ⟨rfRes_own HD.out hown, hB⟩
end Go.Proofs.Ytkcancjalpjbgaa
