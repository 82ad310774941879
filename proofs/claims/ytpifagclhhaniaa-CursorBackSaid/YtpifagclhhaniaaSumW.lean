/- Bytes and sums of words: what the program and the reference return. -/
import Derived.Test.YtpifagclhhaniaaImg
import Derived.Test.YtpifagclhhaniaaArr
import Derived.Laws.BitsAllLaws
import Derived.Laws.Shifts
namespace Go.Proofs.Ytpifagclhhaniaa
open Go.RowKit

/-- The bytes of a word, the first k of them. -/
def bytesTo (w k : Nat) : Array Value := ((List.range 8).map fun i => Value.int .u8 (if i < k then ((byteOf w i : Nat) : Int) else 0)).toArray
theorem bytesTo_size (w k : Nat) : (bytesTo w k).size = 8 := by simp [bytesTo]
theorem bytesTo_get (w k i : Nat) (h : i < 8) : (bytesTo w k)[i]? = some (.int .u8 (if i < k then ((byteOf w i : Nat) : Int) else 0)) := by simp [bytesTo, h]
theorem bytesTo_set (w k : Nat) (hk : k < 8) : (bytesTo w k).setIfInBounds k (.int .u8 (byteOf w k : Nat)) = bytesTo w (k + 1) := by
  apply Array.ext_getElem?
  intro i
  rw [Array.getElem?_setIfInBounds]
  by_cases h : i < 8
  · rw [bytesTo_get _ _ _ h, bytesTo_get _ _ _ h]
    by_cases e : k = i
    · subst e; rw [if_pos rfl, if_pos (by rw [bytesTo_size]; exact h), if_pos (by omega)]
    · rw [if_neg e]
      by_cases h2 : i < k
      · rw [if_pos h2, if_pos (by omega)]
      · rw [if_neg h2, if_neg (by omega)]
  · rw [if_neg (by omega), Array.getElem?_eq_none (by rw [bytesTo_size]; omega), Array.getElem?_eq_none (by rw [bytesTo_size]; omega)]
def zero8 : Array Value := Array.replicate 8 (.int .u8 0)
theorem zero8_eq (w : Nat) : zero8 = bytesTo w 0 := by simp [zero8, bytesTo]; rfl
theorem byte_shift (w k : Nat) : (w : Int) / 2 ^ (8 * k) % 256 = ((byteOf w k : Nat) : Int) := by
  rw [byteOf, show (256 : Nat) ^ k = 2 ^ (8 * k) by rw [Nat.pow_mul]]
  rfl
theorem info8 : (Try.prog.info? 162).map (·.size) = some 8 := by kernel_rfl
theorem infoByte : (Try.prog.info? 5).map (fun i => (i.zero, i.size, i.bytes)) = some (some (.int .u8 0), 1, 1) := by kernel_rfl
theorem aggByte (w : World) : (isAgg 5).run Try.prog w = .ok false w := by kernel_rfl
theorem bytesTo_one (x k : Nat) : (bytesTo x k).all (·.oneCell') = true := by
  rw [Array.all_eq_true]
  intro i hi
  rw [bytesTo_size] at hi
  have h := bytesTo_get x k i hi
  rw [Array.getElem?_eq_getElem (by rw [bytesTo_size]; exact hi)] at h
  injection h with h
  rw [h]; rfl
theorem zero8v (w : World) : (zeroValue 162).run Try.prog w = .ok (.agg zero8) w := by kernel_rfl

set_option maxRecDepth 100000 in
set_option maxHeartbeats 1000000 in
theorem bytes_c (x : Nat) (w : World) (hx : x < 18446744073709551616) :
    Calls Try.prog 125 #[.int .u64 (x : Int)] w fun e w' => e = .returned (.agg (bytesTo x 8)) ∧ Below w.heap.size w w' := by
  have hzv := zero8v
  have hx0 : (0 : Int) ≤ (x : Int) := by omega
  clear hx
  go_enter Try.func125, Try.ntmps125
  go_wp2_with fail
  go_loopw [4, 5] (fun i' i wr => ∃ k : Nat, k ≤ 8 ∧ i = .int .i64 k ∧ Bx wr w.heap.size 162 zero8 ∧ Bx wr (w.heap.size + 1) 162 (bytesTo x k) ∧ Below w.heap.size w wr) (fun _ i _ => 8 - (intOf i).toNat)
  case atStart =>
    refine ⟨0, Nat.zero_le _, rfl, (Bx.new w _ _).alloc _, ?_, ((Below.refl _ _).alloc (Nat.le_refl _) _).alloc (by simp) _⟩
    have := Bx.new (w.alloc (.cells zero8 162)) 162 zero8
    rw [World.size_alloc] at this
    rw [← zero8_eq]; exact this
  case round =>
    obtain ⟨k, hk, rfl, b0, b1, hB⟩ := hrel
    have hz := hB.size
    by_cases hlt : k < 8
    · have hc := b1.cell k
      rw [bytesTo_get _ _ _ hlt] at hc
      have hf := b1.frozen k
      have HB1 := Lib.hid b1
      have HB0 := Lib.hid b0
      have ik0 : (0 : Int) ≤ (k : Int) := by omega
      have ik1 : (k : Int) < 8 := by omega
      clear b0 b1
      go_wp2_with fail
      rw [byte_shift]
      refine ⟨⟨k + 1, by omega, by go_num, HB0.out.far (p := ⟨w.heap.size + 1, k, none⟩) (by dsimp only; omega) _, ?_, hB.setCell (p := ⟨w.heap.size + 1, k, none⟩) (by dsimp only; omega) _⟩, by simp [intOf]; omega⟩
      rw [← bytesTo_set x k hlt]
      exact HB1.out.set_ k _
    · obtain rfl : k = 8 := by omega
      have hi : (Try.prog.info? 162).map (·.size) = some (bytesTo x 8).size := by rw [bytesTo_size]; exact info8
      have h1c := bytesTo_one x 8
      have hth := there_bx b0
      rw [show zero8.size = (bytesTo x 8).size by rw [bytesTo_size]; simp [zero8]] at hth
      have HB2 := Lib.hid (setCells_all b0 (cs := bytesTo x 8) (by rw [bytesTo_size]; simp [zero8]))
      have HB1 := Lib.hid b1
      have HBL := Lib.hid (below_setCells (Nat.le_refl _) (bytesTo x 8).toList (o := 0) hB)
      clear b0 b1
      obtain ⟨cs, hcs⟩ : ∃ cs, bytesTo x 8 = cs := ⟨_, rfl⟩
      have HCS := Lib.hid hcs
      rw [hcs] at hi h1c hth HB2 HB1 HBL
      clear hcs
      go_wp2_with (first
        | (refine wpList_load_row rfl _ _ rfl (w.heap.size + 1) (by rfl) 162 cs (0, 0) _ HB1.out Try.underlying162 (by rfl) hi ?_)
        | (refine wpList_store_mid rfl _ _ _ rfl w.heap.size 0 cs (by rfl) (by rfl) hth hi h1c ?_))
      exact bodyPost_ret (v := .agg cs) (results_cell_row rfl _ _ w.heap.size _ cs (0, 0) _ (by rfl) HB2.out Try.underlying162 (by rfl) hi) rfl ⟨by rw [HCS.out], HBL.out⟩

/-- What Next gives. -/
def nxErr (l : List Nat) : Int := if 2048 < l.length then 4 else 0
def nxVal (s : Nat) (l : List Nat) : Nat := if 2048 < l.length then 0 else sumFrom s l
theorem wrap_u64_mod (n : Nat) : IntKind.u64.wrap (n : Int) = ((n % 18446744073709551616 : Nat) : Int) := by simp [IntKind.wrap, IntKind.bits, IntKind.signed]

set_option maxRecDepth 100000 in
set_option maxHeartbeats 1600000 in
theorem sumNext_c (s : Nat) (A : Option Addr) (l : List Nat) (c n : Nat) (w : World) (hn : l.length = n) (hm : n ≤ 2048) (hs : s < 18446744073709551616) (hr : RdW w w.heap.size A l) (ho : ∀ x ∈ l, x < 18446744073709551616) :
    Calls Try.prog 119 #[.int .u64 (s : Int), .slice A n c] w fun e w' => e = .returned (.tuple #[.int .u64 (sumFrom s l : Nat), .int .i64 0]) ∧ Below w.heap.size w w' := by
  subst hn
  have HR := Lib.hid hr
  have HO := Lib.hid ho
  have HS := Lib.hid hs
  clear hr ho hs
  obtain ⟨i0, hi, hz0, hz1, hz2⟩ := info_parts infoByte
  have HI := Lib.hid hi
  have HZ0 := Lib.hid hz0
  have HZ1 := Lib.hid hz1
  have HZ2 := Lib.hid hz2
  clear hi hz0 hz1 hz2
  go_enter Try.func119, Try.ntmps119
  go_wp2_with fail
  go_loopw [0, 15] (fun st i wr => ∃ k : Nat, k ≤ l.length ∧ i = .int .i64 k ∧ st = .int .u64 (sumFrom s (l.take k) : Nat) ∧ Below w.heap.size w wr) (fun _ i _ => l.length - (intOf i).toNat)
  case atStart => exact ⟨0, Nat.zero_le _, rfl, rfl, Below.refl _ _⟩
  case round =>
    obtain ⟨k, hk, rfl, rfl, hB⟩ := hrel
    have hz := hB.size
    by_cases hlt : k < l.length
    · obtain ⟨b, off, rfl, hb, h0⟩ := RdW.at_ HR.out hlt
      replace h0 := (hB.cell (p := ⟨b, off + k, none⟩) hb).trans h0
      have HX := Lib.hid (HO.out l[k] (List.getElem_mem hlt))
      have HT := Lib.hid (sumFrom_take hlt s)
      obtain ⟨x, hx⟩ : ∃ x, l[k] = x := ⟨_, rfl⟩
      rw [hx] at h0 HX HT
      have HQ := Lib.hid (sumFrom_lt HS.out (l.take k))
      obtain ⟨q, hq⟩ : ∃ q, sumFrom s (l.take k) = q := ⟨_, rfl⟩
      rw [hq] at HT HQ ⊢
      clear hx hq
      have ik1 : (0 : Int) ≤ (k : Int) := by omega
      have ik2 : (k : Int) < (l.length : Int) := by omega
      go_wp2_with fail
      refine (bytes_c x _ HX.out).mono ?_
      rintro e w1 ⟨rfl, hB1⟩
      have hb1 := hB.trans (hB1.mono hz)
      go_wp2_with fail
      go_loopw [0, 21] (fun st i wr => ∃ j : Nat, j ≤ 8 ∧ i = .int .i64 j ∧ st = .int .u64 (fnvN q x j : Nat) ∧ Below w.heap.size w wr) (fun _ i _ => 8 - (intOf i).toNat)
      case atStart => exact ⟨0, Nat.zero_le _, rfl, rfl, hb1⟩
      case round =>
        obtain ⟨j, hj, rfl, rfl, hB2⟩ := hrel
        by_cases hlj : j < 8
        · have hget := bytesTo_get x 8 j hlj
          rw [if_pos hlj] at hget
          have hrun := run_index_agg (P := Try.prog) Try.underlying162 HI.out HZ1.out aggByte hlj hget
          have hbt := byteOf_lt x j
          have HFN := Lib.hid (fnvN_lt HQ.out x j)
          have HNX : Hid (fnvN q x (j + 1) = fnvB (fnvN q x j) (byteOf x j)) := Lib.hid rfl
          obtain ⟨p, hp⟩ : ∃ p, fnvN q x j = p := ⟨_, rfl⟩
          obtain ⟨y, hy⟩ : ∃ y, byteOf x j = y := ⟨_, rfl⟩
          rw [hp] at HFN HNX ⊢
          rw [hy] at hbt hrun HNX
          clear hp hy hget
          have HXOR := Lib.hid (u64_xor_nat p y HFN.out (by omega))
          have hxor := HXOR.out
          go_wp2_with fail
          refine ⟨⟨j + 1, by omega, by go_num, ?_, hB2⟩, by simp [intOf]; omega⟩
          rw [HNX.out]
          unfold fnvB
          rw [← wrap_u64_mod, Int.natCast_mul]
          rfl
        · obtain rfl : j = 8 := by omega
          go_wp2_with fail
          go_roundw
          case rel => exact ⟨k + 1, by omega, by go_num, by rw [HT.out]; rfl, hB2⟩
          case measure => simp [intOf]; omega
    · obtain rfl : k = l.length := by omega
      rw [List.take_length]
      go_wp2_with fail
      go_ret2
      exact ⟨rfl, hB⟩

set_option maxHeartbeats 800000 in
theorem sumOf_c (A : Option Addr) (l : List Nat) (c n : Nat) (w : World) (hn : l.length = n) (hm : n ≤ 2048) (hr : RdW w w.heap.size A l) (ho : ∀ x ∈ l, x < 18446744073709551616) :
    Calls Try.prog 108 #[.slice A n c] w fun e w' => e = .returned (.tuple #[.int .u64 (sumFrom 14695981039346656037 l : Nat), .int .i64 0]) ∧ Below w.heap.size w w' := by
  have HR := Lib.hid hr
  have HO := Lib.hid ho
  have HN := Lib.hid hn
  clear hr ho hn
  go_enter Try.func108, Try.ntmps108
  go_wp2_with fail
  refine (sumNext_c 14695981039346656037 A l c n w HN.out hm (by omega) HR.out HO.out).mono ?_
  rintro e w1 ⟨rfl, hB1⟩
  obtain ⟨q, hq⟩ : ∃ q, sumFrom 14695981039346656037 l = q := ⟨_, rfl⟩
  have HQE := Lib.hid hq
  rw [hq]
  clear hq
  go_wp2_with fail
  go_ret2
  exact ⟨by rw [HQE.out]; rfl, hB1⟩

theorem and_mask32 (s : Nat) : s &&& 4294967295 = s % 4294967296 := by
  rw [show (4294967295 : Nat) = 2 ^ 32 - 1 from rfl, Nat.and_two_pow_sub_one_eq_mod]
set_option maxRecDepth 100000 in
set_option maxHeartbeats 800000 in
theorem mask32_c (w : World) : Calls Try.prog 120 #[.int .i64 0, .int .i64 32] w fun e w' => e = .returned (.int .u64 4294967295) ∧ w = w' := by
  go_enter Try.func120, Try.ntmps120
  go_wp2_with fail
  go_ret
  exact ⟨rfl, rfl⟩
set_option maxRecDepth 100000 in
set_option maxHeartbeats 800000 in
theorem get32_c (s : Nat) (w : World) (hs : s < 18446744073709551616) : Calls Try.prog 112 #[.int .u64 (s : Int), .int .i64 0, .int .i64 32] w fun e w' => e = .returned (.tuple #[.int .u64 ((s % 4294967296 : Nat) : Int), .int .i64 0]) ∧ w = w' := by
  have HA := Lib.hid (u64_and_nat s 4294967295 hs (by omega))
  clear hs
  go_enter Try.func112, Try.ntmps112
  go_wp2_with fail
  refine (mask32_c w).mono ?_
  rintro e w1 ⟨rfl, rfl⟩
  have hand := HA.out
  rw [and_mask32] at hand
  go_wp2_with fail
  go_ret2
  exact ⟨by rw [← hand]; rfl, rfl⟩

set_option maxRecDepth 100000 in
set_option maxHeartbeats 800000 in
theorem sumLow32_c (A : Option Addr) (l : List Nat) (c n : Nat) (w : World) (hn : l.length = n) (hm : n ≤ 2048) (hr : RdW w w.heap.size A l) (ho : ∀ x ∈ l, x < 18446744073709551616) :
    Calls Try.prog 99 #[.slice A n c, .int .i64 32] w fun e w' => e = .returned (.tuple #[.int .u64 ((sumFrom 14695981039346656037 l % 4294967296 : Nat) : Int), .int .i64 0]) ∧ Below w.heap.size w w' := by
  have HR := Lib.hid hr
  have HO := Lib.hid ho
  have HN := Lib.hid hn
  clear hr ho hn
  have HQ := Lib.hid (sumFrom_lt (s := 14695981039346656037) (by omega) l)
  go_enter Try.func99, Try.ntmps99
  go_wp2_with fail
  refine (sumOf_c A l c n w HN.out hm HR.out HO.out).mono ?_
  rintro e w1 ⟨rfl, hB1⟩
  obtain ⟨q, hq⟩ : ∃ q, sumFrom 14695981039346656037 l = q := ⟨_, rfl⟩
  have HQE := Lib.hid hq
  rw [hq] at HQ ⊢
  clear hq
  go_wp2_with fail
  refine (get32_c q _ HQ.out).mono ?_
  rintro e w2 ⟨rfl, rfl⟩
  obtain ⟨r, hr⟩ : ∃ r, q % 4294967296 = r := ⟨_, rfl⟩
  have HRE := Lib.hid hr
  rw [hr]
  clear hr
  go_wp2_with fail
  go_ret2
  exact ⟨by rw [HQE.out, HRE.out]; rfl, hB1⟩
end Go.Proofs.Ytpifagclhhaniaa
