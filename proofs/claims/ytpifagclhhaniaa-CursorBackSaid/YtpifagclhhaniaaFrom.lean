/- All blocks of a heap from an address on: what the program returns. -/
import Derived.Test.YtpifagclhhaniaaWalk
namespace Go.Proofs.Ytpifagclhhaniaa
open Go.RowKit

def frArg (n : Nat) (a : Int) : Bool := decide (a < 128) || (decide ((n : Int) < a) || a % 2 != 0)
/-- The error of walking from an address on. -/
def frErr (ws : List Nat) (a : Int) : Int := if sizeOk (ws.length : Int) = true then (if frArg ws.length a = true then 2 else (match blocks ws a.toNat with | none => 50 | some _ => 0)) else 8
def frOut (ws : List Nat) (a : Int) : List Bk := if frErr ws a = 0 then (blocks ws a.toNat).getD [] else []
def FrRes (ws : List Nat) (a : Int) (e : Ending) (w' : World) : Prop := ∃ A c, e = .returned (.tuple #[.slice A (frOut ws a).length c, .int .i64 (frErr ws a)]) ∧ RdB w' w'.heap.size A (frOut ws a) ∧ (frOut ws a).length ≤ c
theorem frErr_img {ws : List Nat} {a : Int} (h : sizeOk (ws.length : Int) = false) : frErr ws a = 8 := by simp [frErr, h]
theorem frErr_arg {ws : List Nat} {a : Int} (h : sizeOk (ws.length : Int) = true) (h2 : frArg ws.length a = true) : frErr ws a = 2 := by simp [frErr, h, h2]
theorem frErr_none {ws : List Nat} {a : Int} (h : sizeOk (ws.length : Int) = true) (h2 : frArg ws.length a = false) (h3 : blocks ws a.toNat = none) : frErr ws a = 50 := by simp [frErr, h, h2, h3]
theorem frErr_some {ws : List Nat} {a : Int} (h : sizeOk (ws.length : Int) = true) (h2 : frArg ws.length a = false) {l : List Bk} (h3 : blocks ws a.toNat = some l) : frErr ws a = 0 ∧ frOut ws a = l := by
  have : frErr ws a = 0 := by simp [frErr, h, h2, h3]
  exact ⟨this, by simp [frOut, this, h3]⟩
theorem frArg_no {n : Nat} {a : Int} (h : frArg n a = false) : 128 ≤ a ∧ a ≤ (n : Int) ∧ a % 2 = 0 := by
  simp only [frArg, Bool.or_eq_false_iff, decide_eq_false_iff_not, bne_eq_false_iff_eq] at h
  omega
theorem frArg_yes {n : Nat} {a : Int} (h : ¬ (128 ≤ a ∧ a ≤ (n : Int) ∧ a % 2 = 0)) : frArg n a = true := by
  cases hq : frArg n a with
  | true => rfl
  | false => exact absurd (frArg_no hq) h
theorem frRes_no {ws : List Nat} {a r : Int} {w' : World} (hr : frErr ws a = r) (h0 : r ≠ 0) : FrRes ws a (.returned (.tuple #[.slice none 0 0, .int .i64 r])) w' := by
  subst hr
  have : frOut ws a = [] := by simp [frOut, h0]
  exact ⟨none, 0, by rw [this]; rfl, by rw [this]; exact Rd.nil_, by rw [this]; simp⟩
theorem frRes_own {H : Nat} {ws : List Nat} {a : Int} {v : Value} {w' : World} {l : List Bk} (h0 : frErr ws a = 0) (hl : frOut ws a = l) (h : w'.ownsRow H 47 6 v l.length (l.flatMap Bk.cells)) : FrRes ws a (.returned (.tuple #[v, .int .i64 0])) w' := by
  have hc : ∃ A c, v = .slice A l.length c ∧ l.length ≤ c := by
    rcases h.2 with ⟨rfl, hnil⟩ | ⟨g, cap, cur, rfl, _, _, hle, _⟩
    · exact ⟨none, 0, by rw [hnil], by omega⟩
    · exact ⟨_, _, rfl, hle⟩
  obtain ⟨A, c, rfl, hle⟩ := hc
  exact ⟨A, c, by rw [hl, h0], by rw [hl]; exact Rd.of_own h, by rw [hl]; exact hle⟩
theorem infoBlkW : (Try.prog.info? 47).map (fun i => (i.zero, i.size, i.bytes)) = some (some (.agg #[.int .i64 0, .int .i64 0, .int .i64 0, .int .i64 0, .bool false, .int .u64 0]), 6, 48) := by kernel_rfl

theorem own_new {w : World} {H : Nat} {e : TypeId} {sz n : Nat} {v : Value} {xs : List Value} (hown : w.ownsRow H e sz v n xs) : some w.heap.size ≠ v.ownBlock := fun h => by
  have := (hown.lt _ h.symm).2; omega
theorem news_at (w : World) (cs : List Value) (t : TypeId) {H : Nat} (h : w.heap.size = H) : ∀ j u, cs[j]? = some u → (w.alloc (.cells cs.toArray t)).cell? ((⟨H, 0, none⟩ : Addr).add j) = some u := by
  subst h; exact news_new w cs t

set_option maxRecDepth 100000 in
set_option maxHeartbeats 1600000 in
theorem from_c (A : Option Addr) (ws : List Nat) (c n : Nat) (a : Int) (w : World) (hn : ws.length = n) (hm : n ≤ 9223372036854775807) (hr : RdW w w.heap.size A ws) (ho : ∀ x ∈ ws, x < 18446744073709551616) :
    Calls Try.prog 29 #[.slice A n c, .int .i64 a] w fun e w' => FrRes ws a e w' ∧ Below w.heap.size w w' := by
  subst hn
  have HR := Lib.hid hr
  have HO := Lib.hid ho
  clear hr ho
  cases hs : sizeOk (ws.length : Int)
  · have HI := Lib.hid (imgErr_no hs)
    have HE := Lib.hid (frErr_img (a := a) hs)
    clear hs
    go_enter Try.func29, Try.ntmps29
    go_wp2_with fail
    refine (imCheck_c A ws.length c w hm).mono ?_
    rintro e w1 ⟨rfl, rfl⟩
    rw [HI.out]
    go_wp2_with fail
    go_ret2
    exact ⟨frRes_no HE.out (by omega), Below.refl _ _⟩
  · have HI := Lib.hid (imgErr_ok hs)
    have HS := Lib.hid hs
    have hb := imgErr_zero (imgErr_ok hs)
    obtain ⟨hb1, hb2, hb3⟩ := hb
    have HB3 := Lib.hid hb3
    clear hs hm hb3
    by_cases hbad : 128 ≤ a ∧ a ≤ (ws.length : Int) ∧ a % 2 = 0
    · obtain ⟨a1, a2, a3⟩ := hbad
      have HAR : Hid (frArg ws.length a = false) := Lib.hid (by
        simp only [frArg, Bool.or_eq_false_iff, decide_eq_false_iff_not, bne_eq_false_iff_eq]; omega)
      have hev : (a % 2 != 0) = false := by rw [bne_eq_false_iff_eq]; exact a3
      have d1 : decide (a < 128) = false := by rw [decide_eq_false_iff_not]; omega
      have d2 : decide ((ws.length : Int) < a) = false := by rw [decide_eq_false_iff_not]; omega
      have HA3 := Lib.hid a3
      obtain ⟨i0, rfl⟩ := Int.eq_ofNat_of_zero_le (show 0 ≤ a by omega)
      have d2n : decide (ws.length < i0) = false := by rw [decide_eq_false_iff_not]; omega
      clear a3
      obtain ⟨i2, hi, hz0, hz1, hz2⟩ := info_parts infoBlkW
      have HJ := Lib.hid hi
      have HJ0 := Lib.hid hz0
      have HJ1 := Lib.hid hz1
      have HJ2 := Lib.hid hz2
      clear hi hz0 hz1 hz2
      go_enter Try.func29, Try.ntmps29
      go_wp2_with fail
      refine (imCheck_c A ws.length c w (by omega)).mono ?_
      rintro e w1 ⟨rfl, rfl⟩
      rw [HI.out]
      go_wp2_with fail
      go_loopw [1, 7] (fun p v wr => ∃ (i : Nat) (acc : List Bk), p = .int .i64 i ∧ i0 ≤ i ∧ i ≤ ws.length ∧ i % 2 = 0 ∧ blocks ws i0 = (blocks ws i).map (acc ++ ·) ∧ acc.length ≤ i ∧ wr.ownsRow w.heap.size 47 6 v acc.length (acc.flatMap Bk.cells) ∧ Below w.heap.size w wr) (fun p _ _ => ws.length - (intOf p).toNat)
      case atStart => exact ⟨i0, [], rfl, Nat.le_refl _, by omega, by have := HA3.out; omega, by simp, by simp, World.ownsRow_nil _ _ _ _, Below.refl _ _⟩
      case round =>
        obtain ⟨i, acc, rfl, q1, q2, q3, q4, q5, hown, hB⟩ := hrel
        have hz := hB.size
        have HQ3 := Lib.hid q3
        have HQ4 := Lib.hid q4
        clear q4
        by_cases hlt : i < ws.length
        · have hlt1 : i + 1 < ws.length := by have := HB3.out; omega
          clear q3
          have ik1 : (i : Int) < (ws.length : Int) := by omega
          cases hst : stands ws i
          · have HN := Lib.hid (frErr_none HS.out HAR.out (by rw [Int.toNat_natCast, HQ4.out, blocks_bad hlt hst]; rfl))
            obtain ⟨g1, g2⟩ := st_no hst
            have HC := Lib.hid (stands_c A ws c ws.length i wr rfl (by omega) hlt1 (HR.out.up hB hz) HO.out)
            rw [g1, g2] at HC
            unfold noBk Bk.val at HC
            dsimp only at HC
            clear hst g1 g2 hown
            go_wp2_with fail
            refine HC.out.mono ?_
            rintro e w1 ⟨rfl, hB1⟩
            have hb1 := hB.trans (hB1.mono hz)
            go_wp2_with fail
            go_ret2
            exact ⟨frRes_no HN.out (by omega), hb1.alloc hb1.size _⟩
          · have hsz := stands_sz hst
            obtain ⟨g1, g2⟩ := st_ok hst
            have HC := Lib.hid (stands_c A ws c ws.length i wr rfl (by omega) hlt1 (HR.out.up hB hz) HO.out)
            rw [g1, g2] at HC
            have HNX := Lib.hid (show blocks ws i0 = (blocks ws (i + szAt ws i)).map ((acc ++ [bkAt ws i]) ++ ·) by
              rw [HQ4.out, blocks_step hlt hst]
              cases blocks ws (i + szAt ws i) <;> simp)
            have HFL := Lib.hid (flat_snoc Bk.cells acc (bkAt ws i))
            have hss := bkAt_size ws i
            obtain ⟨x, hx⟩ : ∃ x, bkAt ws i = x := ⟨_, rfl⟩
            obtain ⟨z, hzz⟩ : ∃ z, szAt ws i = z := ⟨_, rfl⟩
            rw [hx] at HC HNX HFL hss
            rw [hzz] at HNX hsz hss
            have HX := Lib.hid hx
            obtain ⟨xa, xs, xk, xt, xm, xn⟩ := x
            dsimp only at hss
            subst hss
            unfold Bk.val at HC
            dsimp only at HC
            obtain ⟨z1, z2, z3⟩ := hsz
            have HZ2 := Lib.hid z2
            clear hst g1 g2 hx hzz z2
            go_wp2_with fail
            refine HC.out.mono ?_
            rintro e w1 ⟨rfl, hB1⟩
            have hb1 := hB.trans (hB1.mono hz)
            have hownw := own_below hown hB1 (Nat.le_refl _)
            have hz1 := hb1.size
            go_wp2_with (at_builtin; refine wpList_append_own _ rfl _ _ 54 rfl w.heap.size 47 i2 _ 6 48 Try.underlying54 HJ.out HJ0.out HJ1.out HJ2.out rfl (by decide) _ _ _ rfl ((hownw.alloc _).alloc _) ⟨_, 0, none⟩ 1 1 [.int .i64 xa, .int .i64 (z : Int), .int .i64 xk, .int .i64 xt, .bool xm, .int .u64 (xn : Int)] rfl rfl (news_at _ _ _ (World.size_alloc _ _)) (by simp [Value.oneCell']) (by unfold maxLen; omega) (by omega) (by simp; omega) ?_; intro v1 w2 hown1 hg1 _; have hbx : Bx w2 w1.heap.size 47 #[.int .i64 xa, .int .i64 (z : Int), .int .i64 xk, .int .i64 xt, .bool xm, .int .u64 (xn : Int)] := ((Bx.new w1 47 _).alloc _).grown hg1 (own_new hownw); have hB2 := below_append (hb1.alloc hz1 (.cells #[.int .i64 xa, .int .i64 (z : Int), .int .i64 xk, .int .i64 xt, .bool xm, .int .u64 (xn : Int)] 47)) (by simp; omega) (hownw.alloc _) hg1; have hc1 : w2.cell? ⟨w1.heap.size, 1, none⟩ = some (.int .i64 (z : Int)) := hbx.cell 1; have hf1 := hbx.frozen 1; have hl1 := hbx.lt; clear hg1 hbx)
            go_roundw
            case rel => exact ⟨i + z, acc ++ [⟨xa, (z : Int), xk, xt, xm, xn⟩], by rw [Int.natCast_add], by omega, by omega, by have := HQ3.out; have := HZ2.out; omega, HNX.out, by simp; omega, by rw [HFL.out, List.length_append]; exact hown1, hB2⟩
            case measure => simp [intOf]; omega
        · have hi : i = ws.length := by omega
          have HD := Lib.hid (frErr_some HS.out HAR.out (l := acc) (by rw [Int.toNat_natCast, HQ4.out, blocks_end (by omega)]; simp))
          clear hi q3
          go_wp2_with fail
          go_ret2
          exact ⟨frRes_own HD.out.1 HD.out.2 hown, hB⟩
    · have HE := Lib.hid (frErr_arg HS.out (frArg_yes hbad))
      go_enter Try.func29, Try.ntmps29
      go_wp2_with fail
      refine (imCheck_c A ws.length c w (by omega)).mono ?_
      rintro e w1 ⟨rfl, rfl⟩
      rw [HI.out]
      by_cases h1 : a < 128
      · clear hbad
        go_wp2_with fail
        go_ret2
        exact ⟨frRes_no HE.out (by omega), Below.refl _ _⟩
      · by_cases h2 : (ws.length : Int) < a
        · clear hbad
          go_wp2_with fail
          go_ret2
          exact ⟨frRes_no HE.out (by omega), Below.refl _ _⟩
        · have hev : (a % 2 != 0) = true := by rw [bne_iff_ne]; omega
          have d1 : decide (a < 128) = false := by rw [decide_eq_false_iff_not]; omega
          have d2 : decide ((ws.length : Int) < a) = false := by rw [decide_eq_false_iff_not]; omega
          have a0 : 0 ≤ a := by omega
          clear hbad
          go_wp2_with fail
          go_ret2
          exact ⟨frRes_no HE.out (by omega), Below.refl _ _⟩
end Go.Proofs.Ytpifagclhhaniaa
