/- The headers that are wanted: the closure of mark.Wanted, and slices.IndexFunc and DeleteFunc with it. -/
import Derived.Test.YtpifagclhhaniaaRcd
import Derived.Test.YtpifagclhhaniaaFrmF
namespace Go.Proofs.Ytpifagclhhaniaa
open Go.RowKit

/-- A block's mark is as it should be. -/
def keepB (S : List Bool) (b : Bk) : Bool := b.mark == (S[b.at_.toNat]?.getD false)

set_option maxRecDepth 100000 in
set_option maxHeartbeats 2000000 in
theorem wntIs_c (gB g c n m : Nat) (S : List Bool) (xs xk xt : Int) (xm : Bool) (xn : Nat) (w : World) (hS : S.length = n) (hm : m < n) (hB : gB < w.heap.size) (hbox : w.cell? ⟨gB, 0, none⟩ = some (.slice (some ⟨g, 0, none⟩) n c)) (h : Rd w w.heap.size (some ⟨g, 0, none⟩) (S.flatMap boolCells)) :
    Calls Try.prog 60 #[.agg #[.int .i64 (m : Int), .int .i64 xs, .int .i64 xk, .int .i64 xt, .bool xm, .int .u64 (xn : Int)], .pointer (some ⟨gB, 0, none⟩)] w fun e w' => e = .returned (.bool (xm == (S[m]?.getD false))) ∧ Below w.heap.size w w' := by
  have hmi : (m : Int) < (n : Int) := by omega
  have hm0 : (0 : Int) ≤ (m : Int) := by omega
  obtain ⟨b, off, eA, hb, hc⟩ := Rd.at_flat boolCells_len h (by omega) (show m < S.length by omega)
  cases eA
  have c0 := hc 0 (by omega)
  have c0 : w.cell? ⟨g, m, none⟩ = some (.bool (S[m]'(by omega))) := by simpa [boolCells] using c0
  rw [show S[m]?.getD false = S[m]'(by omega) by rw [List.getElem?_eq_getElem (by omega)]; rfl]
  obtain ⟨y, hy⟩ : ∃ y, S[m]'(show m < S.length by omega) = y := ⟨_, rfl⟩
  rw [hy] at c0 ⊢
  have q0 := (World.cell?_alloc_lt w (.cells #[.int .i64 (m : Int), .int .i64 xs, .int .i64 xk, .int .i64 xt, .bool xm, .int .u64 (xn : Int)] 47) ⟨g, m, none⟩ hb).trans c0
  have q1 := (World.cell?_alloc_lt w (.cells #[.int .i64 (m : Int), .int .i64 xs, .int .i64 xk, .int .i64 xt, .bool xm, .int .u64 (xn : Int)] 47) ⟨gB, 0, none⟩ hB).trans hbox
  clear hc h hy c0 hbox
  go_enter Try.func60, Try.ntmps60
  go_wp2_with fail
  go_quiet (fail)
  go_wp2_with fail
  go_ret
  exact ⟨rfl, below_drewN ((Below.refl _ _).alloc (Nat.le_refl _) _) _⟩

def NoKeep (S : List Bool) (l : List Bk) (k : Nat) : Prop := ∀ j, j < k → keepB S (gk l j) = false
theorem NoKeep.zero (S : List Bool) (l : List Bk) : NoKeep S l 0 := fun j h => absurd h (by omega)
theorem NoKeep.succ {S : List Bool} {l : List Bk} {k : Nat} (h : NoKeep S l k) (h1 : keepB S (gk l k) = false) : NoKeep S l (k + 1) := fun j hj => by
  rcases Nat.lt_or_ge j k with h2 | h2
  · exact h j h2
  · have : j = k := by omega
    subst this; exact h1
def IxRes (S : List Bool) (l : List Bk) (e : Ending) : Prop := (e = .returned (.int .i64 (-1)) ∧ NoKeep S l l.length) ∨ ∃ k : Nat, k < l.length ∧ e = .returned (.int .i64 (k : Int)) ∧ NoKeep S l k ∧ keepB S (gk l k) = true

set_option maxRecDepth 100000 in
set_option maxHeartbeats 4000000 in
theorem wntIndex_c (A : Option Addr) (l : List Bk) (S : List Bool) (gB g c n cl : Nat) (w : World) (hS : S.length = n) (hl : l.length ≤ 2048) (hat : ∀ k (hk : k < l.length), ∃ m : Nat, l[k].at_ = (m : Int) ∧ m < n) (hrl : RdB w w.heap.size A l)
    (hB : gB < w.heap.size) (hbox : w.cell? ⟨gB, 0, none⟩ = some (.slice (some ⟨g, 0, none⟩) n c)) (h : Rd w w.heap.size (some ⟨g, 0, none⟩) (S.flatMap boolCells)) :
    Calls Try.prog 88 #[.slice A l.length cl, .func (.func 60) #[] #[.pointer (some ⟨gB, 0, none⟩)]] w fun e w' => IxRes S l e ∧ Below w.heap.size w w' := by
  have HL := Lib.hid hrl
  have HBX := Lib.hid (And.intro hB hbox)
  have HS := Lib.hid h
  have HAT := Lib.hid hat
  have HC := Lib.hid (fun m xs xk xt xm xn W hm h1 h2 h3 => wntIs_c gB g c n m S xs xk xt xm xn W hS hm h1 h2 h3)
  clear hrl hB hbox h hat
  go_enter Try.func88, Try.ntmps88
  go_wp2_with fail
  go_loopw [8] (fun i wr => ∃ k : Nat, k ≤ l.length ∧ i = .int .i64 k ∧ Hid (NoKeep S l k) ∧ Below w.heap.size w wr) (fun i _ => l.length - (intOf i).toNat)
  case atStart => exact ⟨0, Nat.zero_le _, rfl, NoKeep.zero S l, Below.refl _ _⟩
  case round =>
    obtain ⟨k, hk, rfl, HNK, hB⟩ := hrel
    have hz := hB.size
    by_cases hlt : k < l.length
    · obtain ⟨b, off, rfl, hbw, q0, q1, q2, q3, q4, q5⟩ := RdB.at_ (Rd.below HL.out hB) hlt
      obtain ⟨m, hm1, hm2⟩ := HAT.out k hlt
      have HNS := Lib.hid (fun h => HNK.out.succ h)
      have HKK := Lib.hid (show ∀ r, keepB S (gk l k) = r → IxRes S l (.returned (.int .i64 (k : Int))) ∨ r = false from fun r hr => by
        cases r
        · exact .inr rfl
        · exact .inl (.inr ⟨k, hlt, rfl, HNK.out, hr⟩))
      rw [gk_get l k hlt] at HNS HKK
      obtain ⟨x, hx⟩ : ∃ x, l[k] = x := ⟨_, rfl⟩
      rw [hx] at q0 q1 q2 q3 q4 q5 hm1 HNS HKK
      obtain ⟨xa, xs, xk, xt, xm, xn⟩ := x
      dsimp only at q0 q1 q2 q3 q4 q5 hm1
      subst hm1
      have hkb : keepB S ⟨(m : Int), xs, xk, xt, xm, xn⟩ = (xm == (S[m]?.getD false)) := by unfold keepB; dsimp only; rw [Int.toNat_natCast]
      rw [hkb] at HNS HKK
      have hlm : (k : Int) < (l.length : Int) := by omega
      have hk0 : (0 : Int) ≤ (k : Int) := by omega
      have HQ := Lib.hid (HC.out m xs xk xt xm xn wr hm2 (by have := HBX.out.1; omega) ((hB.cell (p := ⟨gB, 0, none⟩) HBX.out.1).trans HBX.out.2) (HS.out.up hB hz))
      obtain ⟨r, hr⟩ : ∃ r, (xm == (S[m]?.getD false)) = r := ⟨_, rfl⟩
      rw [hr] at HQ HNS HKK
      clear hx hr hkb
      go_wp2_with fail
      refine HQ.out.mono ?_
      rintro e w2 ⟨rfl, hB2⟩
      have hb2 := hB.trans (hB2.mono hz)
      cases r
      · have HY := Lib.hid (HNS.out rfl)
        go_wp2_with fail
        go_roundw
        case rel => exact ⟨k + 1, by omega, by go_num, HY.out, hb2⟩
        case measure => simp [intOf]; omega
      · have HY := Lib.hid ((HKK.out true rfl).resolve_right (by decide))
        go_wp2_with fail
        go_ret
        exact ⟨HY.out, hb2⟩
    · obtain rfl : k = l.length := by omega
      go_wp2_with fail
      go_ret
      exact ⟨.inl ⟨rfl, HNK.out⟩, hB⟩
end Go.Proofs.Ytpifagclhhaniaa
