/- Headers with or without the mark: what the program returns. -/
import Derived.Test.YtkcancjalpjbgaaWalk
import Derived.Test.YtkcancjalpjbgaaAgg
namespace Go.Proofs.Ytkcancjalpjbgaa
open Go.RowKit

def remark (x : Nat) (m : Bool) : Bk := { rawBk x with mark := m }
def mkVal (x : Nat) (m : Bool) : Nat := if splitOk x = true then hwVal (remark x m) else 0
def mkErr (x : Nat) (m : Bool) : Int := if splitOk x = true then hdErr (remark x m) else 50
set_option maxRecDepth 100000 in
set_option maxHeartbeats 2000000 in
theorem hdMarked_c (x : Nat) (m : Bool) (w : World) (hx : x < 18446744073709551616) : Calls Try.prog 42 #[.int .u64 (x : Int), .bool m] w fun e w' => e = .returned (.tuple #[.int .u64 (mkVal x m : Nat), .int .i64 (mkErr x m)]) ∧ Below w.heap.size w w' := by
  have HSP := Lib.hid (hdSplit_c x w hx)
  have hraw : (rawBk x).val = .agg #[.int .i64 0, .int .i64 ((x / 65536 % 65536 : Nat) : Int), .int .i64 ((x % 256 : Nat) : Int), .int .i64 ((x / 512 % 128 : Nat) : Int), .bool (x / 256 % 2 == 1), .int .u64 0] := rfl
  have hrem : (remark x m).val = .agg #[.int .i64 0, .int .i64 ((x / 65536 % 65536 : Nat) : Int), .int .i64 ((x % 256 : Nat) : Int), .int .i64 ((x / 512 % 128 : Nat) : Int), .bool m, .int .u64 0] := rfl
  cases hs : splitOk x
  · have HV := Lib.hid (show mkVal x m = 0 ∧ mkErr x m = 50 by simp [mkVal, mkErr, hs])
    rw [(spl_no hs).1, (spl_no hs).2] at HSP
    unfold noBk Bk.val at HSP
    dsimp only at HSP
    clear hs hraw hrem hx
    go_enter Try.func42, Try.ntmps42
    go_wp2_with fail
    refine HSP.out.mono ?_
    rintro e w1 ⟨rfl, hB1⟩
    go_wp2_with fail
    go_ret2
    exact ⟨by rw [HV.out.1, HV.out.2]; rfl, hB1.alloc hB1.size _⟩
  · have HV := Lib.hid (show mkVal x m = hwVal (remark x m) ∧ mkErr x m = hdErr (remark x m) by simp [mkVal, mkErr, hs])
    have HW := Lib.hid (fun W => hdWord_c (remark x m) W)
    rw [(spl_ok hs).1, (spl_ok hs).2, hraw] at HSP
    rw [hrem] at HW
    obtain ⟨S, hS⟩ : ∃ S, ((x / 65536 % 65536 : Nat) : Int) = S := ⟨_, rfl⟩
    obtain ⟨K, hK⟩ : ∃ K, ((x % 256 : Nat) : Int) = K := ⟨_, rfl⟩
    obtain ⟨T, hT⟩ : ∃ T, ((x / 512 % 128 : Nat) : Int) = T := ⟨_, rfl⟩
    obtain ⟨M, hM⟩ : ∃ M, (x / 256 % 2 == 1) = M := ⟨_, rfl⟩
    obtain ⟨V, hV⟩ : ∃ V, hwVal (remark x m) = V := ⟨_, rfl⟩
    obtain ⟨R, hR⟩ : ∃ R, hdErr (remark x m) = R := ⟨_, rfl⟩
    rw [hS, hK, hT, hM] at HSP
    rw [hS, hK, hT, hV, hR] at HW
    rw [hV, hR] at HV
    clear hs hraw hrem hx hS hK hT hM hV hR
    go_enter Try.func42, Try.ntmps42
    go_wp2_with fail
    refine HSP.out.mono ?_
    rintro e w1 ⟨rfl, hB1⟩
    have hz1 := hB1.size
    go_wp2_with fail
    refine (HW.out _).mono ?_
    rintro e w2 ⟨rfl, hB2⟩
    have hb2 := (hB1.alloc hz1 (.cells #[.int .i64 0, .int .i64 S, .int .i64 K, .int .i64 T, .bool m, .int .u64 0] 26)).trans (hB2.mono (by simp; omega))
    go_wp2_with fail
    go_ret2
    exact ⟨by rw [HV.out.1, HV.out.2]; rfl, hb2⟩
end Go.Proofs.Ytkcancjalpjbgaa
