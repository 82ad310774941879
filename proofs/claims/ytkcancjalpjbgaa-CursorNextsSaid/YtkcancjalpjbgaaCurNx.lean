/- The law CursorNexts: for words that are not great, and any address, the program's next object is the reference's. -/
import Derived.Test.YtkcancjalpjbgaaNxt
import Derived.Test.YtkcancjalpjbgaaNxtR
namespace Go.Proofs.Ytkcancjalpjbgaa
open Go.RowKit

set_option maxRecDepth 100000 in
set_option maxHeartbeats 2000000 in
theorem cursorNexts_walk (w : World) (A : Option Addr) (ws : List Nat) (c : Nat) (hn : ws.length ≤ maxLen) (_hc : ws.length ≤ c) (hr : RdW w w.heap.size A ws) (ho : ∀ x ∈ ws, x < 18446744073709551616) (a : Int) (ha : -9223372036854775808 ≤ a ∧ a ≤ 9223372036854775807) :
    Calls Try.prog 3 #[.slice A ws.length c, .int .i64 a] w fun e w' => e = .returned (.bool true) ∧ Below w.heap.size w w' := by
  unfold maxLen at hn
  have HR := Lib.hid hr
  have HO := Lib.hid ho
  have HA := Lib.hid ha
  clear hr ho ha
  cases hg : greatW ws.length
  · have HG := Lib.hid hg
    have HC1 := Lib.hid (fun W (h : RdW W W.heap.size A ws) => next_c A ws c ws.length a W rfl (by omega) HA.out h HO.out)
    have HC2 := Lib.hid (fun W (h : RdW W W.heap.size A ws) => refNext_c A ws c ws.length a W rfl (by omega) HA.out h HO.out)
    obtain ⟨b, hb⟩ : ∃ b, nxtB ws a = b := ⟨_, rfl⟩
    obtain ⟨r, hr⟩ : ∃ r, nxtErr ws a = r := ⟨_, rfl⟩
    rw [hb, hr] at HC1 HC2
    clear hg hb hr
    obtain ⟨xa, xs, xk, xt, xm, xn⟩ := b
    unfold Bk.val at HC1 HC2
    dsimp only at HC1 HC2
    go_enter Try.func3, Try.ntmps3
    go_wp2_with fail
    refine (great25_c A ws.length c _ hn).mono ?_
    rintro e w1 ⟨rfl, rfl⟩
    rw [HG.out]
    go_wp2_with fail
    refine (HC1.out _ HR.out).mono ?_
    rintro e w1 ⟨rfl, hB1⟩
    have hz1 := hB1.size
    go_wp2_with fail
    refine (HC2.out _ (((HR.out.up hB1 hz1).alloc (Nat.le_refl _) _).more (by simp))).mono ?_
    rintro e w2 ⟨rfl, hB2⟩
    rw [World.size_alloc] at hB2
    have b1 := Bx.of_new hB2
    have hb2 := hB1.trans ((below_call hB2).mono hz1)
    have hz2 := hb2.size
    obtain ⟨c0, c1, c2, c3, c4, c5, -, cz⟩ := b1.c6
    clear b1
    go_wp2_with fail
    go_ret
    exact ⟨rfl, hb2.alloc hz2 _⟩
  · have HG := Lib.hid hg
    clear hg
    go_enter Try.func3, Try.ntmps3
    go_wp2_with fail
    refine (great25_c A ws.length c _ hn).mono ?_
    rintro e w1 ⟨rfl, rfl⟩
    rw [HG.out]
    go_wp2_with fail
    go_ret
    exact ⟨rfl, Below.refl _ _⟩
end Go.Proofs.Ytkcancjalpjbgaa
