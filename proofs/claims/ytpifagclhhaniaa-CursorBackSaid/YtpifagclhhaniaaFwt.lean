/- Whether an object has a type that there is, and its size: what the program returns. -/
import Derived.Test.YtpifagclhhaniaaMrk2
namespace Go.Proofs.Ytpifagclhhaniaa
open Go.RowKit

theorem typed_eq (ws : List Nat) (xa xs xk : Int) (t : Nat) (xm : Bool) (xn : Nat) : typedB ws ⟨xa, xs, xk, (t : Int), xm, xn⟩ = (typOk (wd ws (96 + 2 * t)) (wd ws (96 + 2 * t + 1)) && xs == ((objSz (krOut (wd ws (96 + 2 * t)) (wd ws (96 + 2 * t + 1))).length : Nat) : Int)) := by
  have h := fit_obj (ws := ws) (b := ⟨xa, xs, 1, (t : Int), xm, xn⟩) rfl
  unfold fitB at h
  exact h
theorem krOut_knd (a b : Nat) : kndErr (krOut a b) = 0 := by
  unfold krOut
  split
  · rename_i h
    unfold typOk at h
    simp only [Bool.and_eq_true, decide_eq_true_eq] at h
    exact kndErr_ok (by rw [fldL_len]; exact h.1.1) h.1.2
  · rfl
theorem krOut_le (a b : Nat) : (krOut a b).length ≤ 8 := (kndErr_zero (krOut_knd a b)).1

set_option maxRecDepth 100000 in
set_option maxHeartbeats 2000000 in
theorem fwTyped_c (A : Option Addr) (ws : List Nat) (c n t : Nat) (xa xs xk : Int) (xm : Bool) (xn : Nat) (w : World) (hn : ws.length = n) (hm : n ≤ 1000000) (h2 : 256 ≤ n) (ht : t < 8) (hr : RdW w w.heap.size A ws) (ho : ∀ x ∈ ws, x < 18446744073709551616) :
    Calls Try.prog 72 #[.slice A n c, .agg #[.int .i64 xa, .int .i64 xs, .int .i64 xk, .int .i64 (t : Int), .bool xm, .int .u64 (xn : Int)]] w fun e w' => e = .returned (.bool (typedB ws ⟨xa, xs, xk, (t : Int), xm, xn⟩)) ∧ Below w.heap.size w w' := by
  subst hn
  have hx := wd_lt ho (96 + 2 * t)
  have hy := wd_lt ho (96 + 2 * t + 1)
  have HTE := Lib.hid (typed_eq ws xa xs xk t xm xn)
  have HC := Lib.hid (fun W => kRead_c (wd ws (96 + 2 * t)) (wd ws (96 + 2 * t + 1)) W hx hy)
  have HK := Lib.hid (krErr_eq (wd ws (96 + 2 * t)) (wd ws (96 + 2 * t + 1)))
  have hmx := krOut_le (wd ws (96 + 2 * t)) (wd ws (96 + 2 * t + 1))
  have HKN := Lib.hid (krOut_knd (wd ws (96 + 2 * t)) (wd ws (96 + 2 * t + 1)))
  obtain ⟨b, off, rfl, hb, h0⟩ := RdW.at_ hr (show 96 + 2 * t < ws.length by omega)
  obtain ⟨b', off', e', -, h1⟩ := RdW.at_ hr (show 96 + 2 * t + 1 < ws.length by omega)
  cases e'
  rw [← wd_get] at h0 h1
  obtain ⟨x, hx2⟩ : ∃ x, wd ws (96 + 2 * t) = x := ⟨_, rfl⟩
  obtain ⟨y, hy2⟩ : ∃ y, wd ws (96 + 2 * t + 1) = y := ⟨_, rfl⟩
  obtain ⟨q, hq2⟩ : ∃ q, typedB ws ⟨xa, xs, xk, (t : Int), xm, xn⟩ = q := ⟨_, rfl⟩
  rw [hx2] at h0 HC HK HTE HKN hmx
  rw [hy2] at h1 HC HK HTE HKN hmx
  rw [hq2] at HTE ⊢
  have t0 : (0 : Int) ≤ (t : Int) := by omega
  have t8 : (t : Int) < 8 := by omega
  have w1 : IntKind.i64.wrap (2 * (t : Int)) = 2 * (t : Int) := IntWalk.i64_in _ (by omega)
  have w2 : IntKind.i64.wrap (96 + 2 * (t : Int)) = 96 + 2 * (t : Int) := IntWalk.i64_in _ (by omega)
  have w3 : IntKind.i64.wrap (96 + 2 * (t : Int) + 1) = 96 + 2 * (t : Int) + 1 := IntWalk.i64_in _ (by omega)
  have i1 : (0 : Int) ≤ 96 + 2 * (t : Int) := by omega
  have i2 : (96 : Int) + 2 * (t : Int) < (ws.length : Int) := by omega
  have i3 : (0 : Int) ≤ 96 + 2 * (t : Int) + 1 := by omega
  have i4 : (96 : Int) + 2 * (t : Int) + 1 < (ws.length : Int) := by omega
  have n1 : ((96 : Int) + 2 * (t : Int)).toNat = 96 + 2 * t := by omega
  have n2 : ((96 : Int) + 2 * (t : Int) + 1).toNat = 96 + 2 * t + 1 := by omega
  obtain ⟨cs, hcs⟩ : ∃ cs, cs = #[Value.int .i64 xa, .int .i64 xs, .int .i64 xk, .int .i64 (t : Int), .bool xm, .int .u64 (xn : Int)] := ⟨_, rfl⟩
  have bx := Bx.new w 47 #[.int .i64 xa, .int .i64 xs, .int .i64 xk, .int .i64 (t : Int), .bool xm, .int .u64 (xn : Int)]
  have hbw := (Below.refl w.heap.size w).alloc (Nat.le_refl _) (.cells #[.int .i64 xa, .int .i64 xs, .int .i64 xk, .int .i64 (t : Int), .bool xm, .int .u64 (xn : Int)] 47)
  replace h0 := (hbw.cell (p := ⟨b, off + (96 + 2 * t), none⟩) hb).trans h0
  replace h1 := (hbw.cell (p := ⟨b, off + (96 + 2 * t + 1), none⟩) hb).trans h1
  have hsw : (w.alloc (.cells #[.int .i64 xa, .int .i64 xs, .int .i64 xk, .int .i64 (t : Int), .bool xm, .int .u64 (xn : Int)] 47)).heap.size = w.heap.size + 1 := by simp
  clear hr hx hy hx2 hy2 ho ht hq2 hcs
  go_enter Try.func72, Try.ntmps72
  go_wp2_with fail
  obtain ⟨W0, hW0⟩ : ∃ W0, w.alloc (.cells #[.int .i64 xa, .int .i64 xs, .int .i64 xk, .int .i64 (t : Int), .bool xm, .int .u64 (xn : Int)] 47) = W0 := ⟨_, rfl⟩
  rw [hW0] at h0 h1 bx hbw hsw ⊢
  clear hW0
  have b3 : W0.cell? ⟨w.heap.size, 3, none⟩ = some (.int .i64 (t : Int)) := bx.cell 3
  have hbb : b < W0.heap.size := by omega
  have hgg : w.heap.size < W0.heap.size := by omega
  have BX := Lib.hid bx
  have HBW := Lib.hid hbw
  clear bx hbw hsw
  go_region_held3 (fun X : World => X.cell? ⟨b, off + (96 + 2 * t), none⟩ = some (.int .u64 (x : Int)) ∧ X.cell? ⟨b, off + (96 + 2 * t + 1), none⟩ = some (.int .u64 (y : Int)) ∧ X.cell? ⟨w.heap.size, 3, none⟩ = some (.int .i64 (t : Int))) (go_keep)
    (first | (go_at_call 58; refine (HC.out _).mono ?_; rintro e w5 ⟨⟨A1, c1, rfl, hrd, hcl⟩, hB5⟩; have m0 := (hB5.cell (p := ⟨b, off + (96 + 2 * t), none⟩) hbb).trans h0; have m1 := (hB5.cell (p := ⟨b, off + (96 + 2 * t + 1), none⟩) hbb).trans h1; have m2 := (hB5.cell (p := ⟨w.heap.size, 3, none⟩) hgg).trans b3; have HRD := Lib.hid hrd; have HB5 := Lib.hid hB5; clear hrd hcl))
  have hsz := kSize_c A1 (krOut x y) c1 (krOut x y).length w5.heap.size w5 rfl (by omega) HRD.out
  have hks : kSz (krOut x y) = objSz (krOut x y).length := by simp [kSz, HKN.out]
  rw [HKN.out, hks] at hsz
  have HSZ := Lib.hid hsz
  have hob : objSz (krOut x y).length ≤ 10 := by unfold objSz; omega
  have c1x : w5.cell? ⟨w.heap.size, 1, none⟩ = some (.int .i64 xs) := (HB5.out.cell (p := ⟨w.heap.size, 1, none⟩) hgg).trans (BX.out.cell 1)
  obtain ⟨m, hm2⟩ : ∃ m, (krOut x y).length = m := ⟨_, rfl⟩
  rw [hm2] at HTE HSZ hmx hob ⊢
  obtain ⟨z, hz⟩ : ∃ z, objSz m = z := ⟨_, rfl⟩
  rw [hz] at HSZ HTE hob
  have HKR : Hid (krErr x y = if typOk x y = true then 0 else 50) := Lib.hid rfl
  obtain ⟨r, hr⟩ : ∃ r, krErr x y = r := ⟨_, rfl⟩
  obtain ⟨ok, hok⟩ : ∃ ok, typOk x y = ok := ⟨_, rfl⟩
  rw [hr] at HKR HK ⊢
  rw [hok] at HKR HTE HK
  clear hr hok hsz hks hm2 hz m0 m1 m2 h0 h1 b3
  cases ok
  · obtain rfl : r = 50 := HKR.out
    go_wp2_with fail
    refine HSZ.out.mono ?_
    rintro e w6 ⟨rfl, rfl⟩
    go_wp2_with fail
    go_ret
    exact ⟨by rw [HTE.out]; rfl, HBW.out.trans ((Below.refl _ _).drew.trans (HB5.out.mono (by show _ ≤ W0.heap.size; omega)))⟩
  · obtain rfl : r = 0 := HKR.out
    rw [Bool.true_and] at HTE
    go_wp2_with fail
    refine HSZ.out.mono ?_
    rintro e w6 ⟨rfl, rfl⟩
    go_wp2_with fail
    go_ret
    exact ⟨by rw [HTE.out]; rfl, HBW.out.trans ((Below.refl _ _).drew.trans (HB5.out.mono (by show _ ≤ W0.heap.size; omega)))⟩
end Go.Proofs.Ytpifagclhhaniaa
