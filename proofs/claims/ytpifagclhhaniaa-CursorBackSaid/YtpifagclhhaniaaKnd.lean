/- Types: the error of fields and the size of an object, as the program returns them. -/
import Derived.Test.YtpifagclhhaniaaKindP
import Derived.Test.YtpifagclhhaniaaHdrX
namespace Go.Proofs.Ytpifagclhhaniaa
open Go.RowKit

def byteCells (x : Nat) : List Value := [.int .u8 (x : Int)]
theorem byteCells_len (x : Nat) : (byteCells x).length = 1 := rfl
def RdY (w : World) (B : Nat) (A : Option Addr) (l : List Nat) : Prop := Rd w B A (l.flatMap byteCells)
theorem RdY.at_ {w : World} {B : Nat} {A : Option Addr} {l : List Nat} (h : RdY w B A l) {k : Nat} (hk : k < l.length) :
    ∃ b off, A = some ⟨b, off, none⟩ ∧ b < B ∧ w.cell? ⟨b, off + k, none⟩ = some (.int .u8 (l[k] : Int)) := by
  obtain ⟨b, off, e, hb, hc⟩ := Rd.at_flat byteCells_len h (by omega) hk
  have := hc 0 (by omega)
  simp only [Nat.mul_one, Nat.add_zero] at this
  exact ⟨b, off, e, hb, this⟩
theorem kndOk_snoc {l : List Nat} {k : Nat} (hk : k < l.length) (h : kndOk (l.take k) = true) (h1 : 1 ≤ l[k]) (h2 : l[k] ≤ 3) : kndOk (l.take (k + 1)) = true := by
  rw [List.take_succ_eq_append_getElem hk]
  rw [kndOk_iff] at h ⊢
  intro x hx
  rw [List.mem_append] at hx
  rcases hx with hx | hx
  · exact h x hx
  · simp only [List.mem_cons, List.not_mem_nil, or_false] at hx
    subst hx; exact ⟨h1, h2⟩

set_option maxRecDepth 100000 in
set_option maxHeartbeats 800000 in
theorem kCheck_c (A : Option Addr) (l : List Nat) (c n B : Nat) (w : World) (hn : l.length = n) (hm : n ≤ 9223372036854775807) (hr : RdY w B A l) :
    Calls Try.prog 107 #[.slice A n c] w fun e w' => e = .returned (.int .i64 (kndErr l)) ∧ w = w' := by
  subst hn
  have HR := Lib.hid hr
  clear hr
  by_cases h8 : 8 < l.length
  · have HE := Lib.hid (kndErr_many h8)
    go_enter Try.func107, Try.ntmps107
    go_wp2_with fail
    go_ret
    exact ⟨by rw [HE.out]; rfl, rfl⟩
  · have h8' : l.length ≤ 8 := by omega
    have HB : Hid (kndOk l = false → kndErr l = 8) := Lib.hid fun h => kndErr_bad h8' h
    have HO : Hid (kndOk l = true → kndErr l = 0) := Lib.hid fun h => kndErr_ok h8' h
    clear h8
    go_enter Try.func107, Try.ntmps107
    go_wp2_with fail
    go_loop [10] (fun i => ∃ k : Nat, k ≤ l.length ∧ i = .int .i64 k ∧ Hid (kndOk (l.take k) = true)) (fun i => l.length - (intOf i).toNat)
    case atStart => exact ⟨0, Nat.zero_le _, rfl, rfl⟩
    case round =>
      obtain ⟨k, hk, rfl, HK⟩ := hrel
      by_cases hlt : k < l.length
      · obtain ⟨b, off, rfl, hb, h0⟩ := HR.out.at_ hlt
        have HS := Lib.hid (fun h1 h2 => kndOk_snoc hlt HK.out h1 h2)
        have HN := Lib.hid (fun h => kndOk_bad hlt h)
        obtain ⟨x, hx⟩ : ∃ x, l[k] = x := ⟨_, rfl⟩
        rw [hx] at h0 HS HN
        clear hx
        by_cases h1 : x < 1
        · have E := Lib.hid (HB.out (HN.out (.inl h1)))
          go_wp2_with fail
          go_ret
          exact ⟨by rw [E.out]; rfl, rfl⟩
        · by_cases h2 : 3 < x
          · have E := Lib.hid (HB.out (HN.out (.inr h2)))
            go_wp2_with fail
            go_ret
            exact ⟨by rw [E.out]; rfl, rfl⟩
          · have h3 : 1 ≤ x := by omega
            have h4 : x ≤ 3 := by omega
            clear h1 h2
            go_wp2_with fail
            go_round
            case rel => exact ⟨k + 1, by omega, by go_num, HS.out h3 h4⟩
            case measure => simp [intOf]; omega
      · have E := Lib.hid (HO.out (by have := HK.out; rwa [List.take_of_length_le (by omega)] at this))
        go_wp2_with fail
        go_ret
        exact ⟨by rw [E.out]; rfl, rfl⟩

def kSz (l : List Nat) : Nat := if kndErr l = 0 then objSz l.length else 0
set_option maxRecDepth 100000 in
set_option maxHeartbeats 800000 in
theorem kSize_c (A : Option Addr) (l : List Nat) (c n B : Nat) (w : World) (hn : l.length = n) (hm : n ≤ 9223372036854775807) (hr : RdY w B A l) :
    Calls Try.prog 94 #[.slice A n c] w fun e w' => e = .returned (.tuple #[.int .i64 (kSz l : Nat), .int .i64 (kndErr l)]) ∧ w = w' := by
  have HC := Lib.hid (kCheck_c A l c n B w hn hm hr)
  clear hr
  by_cases h0 : kndErr l = 0
  · have hl := (kndErr_zero h0).1
    have HS := Lib.hid (show ((kSz l : Nat) : Int) = 2 + ((n : Int) + 1) / 2 * 2 by simp only [kSz, h0, if_true, objSz, hn]; omega)
    rw [hn] at hl
    rw [h0] at HC
    have H0 := Lib.hid h0
    clear h0 hn
    go_enter Try.func94, Try.ntmps94
    go_wp2_with fail
    refine HC.out.mono ?_
    rintro e w1 ⟨rfl, rfl⟩
    go_wp2_with fail
    go_ret2
    exact ⟨by rw [HS.out, H0.out]; rfl, rfl⟩
  · have HS := Lib.hid (show kSz l = 0 by simp [kSz, h0])
    have hne : (kndErr l != 0) = true := by rw [bne_iff_ne]; exact h0
    clear h0 hn
    go_enter Try.func94, Try.ntmps94
    go_wp2_with fail
    refine HC.out.mono ?_
    rintro e w1 ⟨rfl, rfl⟩
    go_wp2_with fail
    go_ret2
    exact ⟨by rw [HS.out]; rfl, rfl⟩
end Go.Proofs.Ytpifagclhhaniaa
