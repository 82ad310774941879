/- Bytes and sums of words: what the reference returns. -/
import Derived.Test.YtpifagclhhaniaaRef01
import Derived.Test.YtpifagclhhaniaaSumW
namespace Go.Proofs.Ytpifagclhhaniaa
open Go.RowKit

set_option maxRecDepth 100000 in
set_option maxHeartbeats 1000000 in
theorem refBytes_c (x : Nat) (w : World) (hx : x < 18446744073709551616) :
    Calls Try.prog 123 #[.int .u64 (x : Int)] w fun e w' => e = .returned (.agg (bytesTo x 8)) ∧ Below w.heap.size w w' := by
  have hzv := zero8v
  have HX := Lib.hid hx
  clear hx
  go_enter Try.func123, Try.ntmps123
  go_wp2_with fail
  go_loopw [0, 4] (fun v i wr => ∃ k : Nat, k ≤ 8 ∧ i = .int .i64 k ∧ v = .int .u64 ((x / 256 ^ k : Nat) : Int) ∧ Bx wr w.heap.size 162 zero8 ∧ Bx wr (w.heap.size + 1) 162 (bytesTo x k) ∧ Below w.heap.size w wr) (fun _ i _ => 8 - (intOf i).toNat)
  case atStart =>
    refine ⟨0, Nat.zero_le _, rfl, by simp, (Bx.new w _ _).alloc _, ?_, ((Below.refl _ _).alloc (Nat.le_refl _) _).alloc (by simp) _⟩
    have := Bx.new (w.alloc (.cells zero8 162)) 162 zero8
    rw [World.size_alloc] at this
    rw [← zero8_eq]; exact this
  case round =>
    obtain ⟨k, hk, rfl, rfl, b0, b1, hB⟩ := hrel
    have hz := hB.size
    by_cases hlt : k < 8
    · have hc := b1.cell k
      rw [bytesTo_get _ _ _ hlt] at hc
      have hf := b1.frozen k
      have HST := Lib.hid (bytesTo_set x k hlt)
      have HB1 := Lib.hid b1
      have HB0 := Lib.hid b0
      have ik0 : (0 : Int) ≤ (k : Int) := by omega
      have ik1 : (k : Int) < 8 := by omega
      obtain ⟨y, hy⟩ : ∃ y, x / 256 ^ k = y := ⟨_, rfl⟩
      have HYB : Hid (y < 18446744073709551616) := Lib.hid (by rw [← hy]; exact Nat.lt_of_le_of_lt (Nat.div_le_self _ _) HX.out)
      have HBY : Hid (byteOf x k = y % 256) := Lib.hid (by rw [← hy]; rfl)
      have HN : Hid (x / 256 ^ (k + 1) = y / 256) := Lib.hid (by rw [← hy, Nat.pow_succ, Nat.div_div_eq_div_mul])
      have hy0 : (0 : Int) ≤ (y : Int) := by omega
      have hy1 : (y : Int) / 256 < 18446744073709551616 := by have := HYB.out; omega
      have hy2 : (0 : Int) ≤ (y : Int) / 256 := by omega
      rw [hy]
      clear b0 b1 hy
      go_wp2_with fail
      refine ⟨⟨k + 1, by omega, by go_num, by rw [HN.out]; go_num, HB0.out.far (p := ⟨w.heap.size + 1, k, none⟩) (by dsimp only; omega) _, ?_, hB.setCell (p := ⟨w.heap.size + 1, k, none⟩) (by dsimp only; omega) _⟩, by simp [intOf]; omega⟩
      rw [← HST.out, HBY.out]
      exact HB1.out.set_ k _
    · obtain rfl : k = 8 := by omega
      have hi : (Try.prog.info? 162).map (·.size) = some (bytesTo x 8).size := by rw [bytesTo_size]; exact info8
      have h1c := bytesTo_one x 8
      have hth := there_bx b0
      rw [show zero8.size = (bytesTo x 8).size by rw [bytesTo_size]; simp [zero8]] at hth
      have HB2 := Lib.hid (setCells_all b0 (cs := bytesTo x 8) (by rw [bytesTo_size]; simp [zero8]))
      have HB1 := Lib.hid b1
      have HBL := Lib.hid (below_setCells (Nat.le_refl _) (bytesTo x 8).toList (o := 0) hB)
      clear b0 b1
      obtain ⟨cs, hcs⟩ : ∃ cs, bytesTo x 8 = cs := ⟨_, rfl⟩
      have HCS := Lib.hid hcs
      rw [hcs] at hi h1c hth HB2 HB1 HBL
      obtain ⟨y, hy⟩ : ∃ y, x / 256 ^ 8 = y := ⟨_, rfl⟩
      rw [hy]
      clear hcs hy
      go_wp2_with (first
        | (refine wpList_load_row rfl _ _ rfl (w.heap.size + 1) (by rfl) 162 cs (0, 0) _ HB1.out Try.underlying162 (by rfl) hi ?_)
        | (refine wpList_store_mid rfl _ _ _ rfl w.heap.size 0 cs (by rfl) (by rfl) hth hi h1c ?_))
      exact bodyPost_ret (v := .agg cs) (results_cell_row rfl _ _ w.heap.size _ cs (0, 0) _ (by rfl) HB2.out Try.underlying162 (by rfl) hi) rfl ⟨by rw [HCS.out], HBL.out⟩

theorem fnvB_ref (s b : Nat) (hb : b < 256) : fnvB s b = (s - s % 256 + ((s % 256) ^^^ b)) * 1099511628211 % 18446744073709551616 := by rw [xor_low s b hb]; rfl
theorem low_xor_lt (s b : Nat) (hb : b < 256) : (s % 256) ^^^ b < 256 := Nat.xor_lt_two_pow (n := 8) (Nat.mod_lt _ (by omega)) hb

set_option maxRecDepth 100000 in
set_option maxHeartbeats 1000000 in
theorem step_c (s b : Nat) (w : World) (hs : s < 18446744073709551616) (hb : b < 256) :
    Calls Try.prog 124 #[.int .u64 (s : Int), .int .u8 (b : Int)] w fun e w' => e = .returned (.int .u64 ((fnvB s b : Nat) : Int)) ∧ w' = w := by
  have HR := Lib.hid (fnvB_ref s b hb)
  have hl := low_xor_lt s b hb
  have hx := u8_xor_nat (s % 256) b (Nat.mod_lt _ (by omega)) hb
  rw [Int.natCast_emod] at hx
  obtain ⟨q, hq⟩ : ∃ q, (s % 256) ^^^ b = q := ⟨_, rfl⟩
  rw [hq] at HR hl hx
  have hx' : bits .xor .u8 ((s : Int) % 256) (b : Int) = (q : Int) := hx
  have hs0 : (0 : Int) ≤ (s : Int) := by omega
  have ht0 : (0 : Int) ≤ (s : Int) - (s : Int) % 256 := by omega
  have ht1 : (s : Int) - (s : Int) % 256 < 18446744073709551616 := by omega
  have hu0 : (0 : Int) ≤ (s : Int) - (s : Int) % 256 + (q : Int) := by omega
  have hu1 : (s : Int) - (s : Int) % 256 + (q : Int) < 18446744073709551616 := by omega
  have HE : Hid ((s : Int) - (s : Int) % 256 + (q : Int) = ((s - s % 256 + q : Nat) : Int)) := Lib.hid (by omega)
  clear hs hb hq hx
  go_enter Try.func124, Try.ntmps124
  go_wp2_with fail
  go_ret
  refine ⟨?_, rfl⟩
  rw [HR.out, ← wrap_u64_mod, Int.natCast_mul, ← HE.out]
  rfl

set_option maxRecDepth 100000 in
set_option maxHeartbeats 1600000 in
theorem behind_c (s : Nat) (A : Option Addr) (l : List Nat) (c n : Nat) (w : World) (hn : l.length = n) (hm : n ≤ 2048) (hs : s < 18446744073709551616) (hr : RdW w w.heap.size A l) (ho : ∀ x ∈ l, x < 18446744073709551616) :
    Calls Try.prog 115 #[.int .u64 (s : Int), .slice A n c] w fun e w' => e = .returned (.int .u64 (sumFrom s l : Nat)) ∧ Below w.heap.size w w' := by
  subst hn
  have HR := Lib.hid hr
  have HO := Lib.hid ho
  have HS := Lib.hid hs
  have hzv := zero8v
  clear hr ho hs
  obtain ⟨i0, hi, hz0, hz1, hz2⟩ := info_parts infoByte
  have HI := Lib.hid hi
  have HZ0 := Lib.hid hz0
  have HZ1 := Lib.hid hz1
  have HZ2 := Lib.hid hz2
  clear hi hz0 hz1 hz2
  go_enter Try.func115, Try.ntmps115
  go_wp2_with fail
  go_loopw [0, 5] (fun st i wr => ∃ k : Nat, k ≤ l.length ∧ i = .int .i64 k ∧ st = .int .u64 (sumFrom s (l.take k) : Nat) ∧ Below w.heap.size w wr) (fun _ i _ => l.length - (intOf i).toNat)
  case atStart => exact ⟨0, Nat.zero_le _, rfl, rfl, Below.refl _ _⟩
  case round =>
    obtain ⟨k, hk, rfl, rfl, hB⟩ := hrel
    have hz := hB.size
    by_cases hlt : k < l.length
    · obtain ⟨b, off, rfl, hb, h0⟩ := RdW.at_ HR.out hlt
      replace h0 := (hB.cell (p := ⟨b, off + k, none⟩) hb).trans h0
      have HX := Lib.hid (HO.out l[k] (List.getElem_mem hlt))
      have HT := Lib.hid (sumFrom_take hlt s)
      obtain ⟨x, hx⟩ : ∃ x, l[k] = x := ⟨_, rfl⟩
      rw [hx] at h0 HX HT
      have HQ := Lib.hid (sumFrom_lt HS.out (l.take k))
      obtain ⟨q, hq⟩ : ∃ q, sumFrom s (l.take k) = q := ⟨_, rfl⟩
      rw [hq] at HT HQ ⊢
      clear hx hq
      have ik1 : (0 : Int) ≤ (k : Int) := by omega
      have ik2 : (k : Int) < (l.length : Int) := by omega
      go_wp2_with fail
      refine (refBytes_c x _ HX.out).mono ?_
      rintro e w1 ⟨rfl, hB1⟩
      have hb1 := hB.trans (hB1.mono hz)
      have hz1 := hb1.size
      have b0 := Bx.new w1 162 zero8
      have hi : (Try.prog.info? 162).map (·.size) = some (bytesTo x 8).size := by rw [bytesTo_size]; exact info8
      have h1c := bytesTo_one x 8
      have hth := there_bx b0
      rw [show zero8.size = (bytesTo x 8).size by rw [bytesTo_size]; simp [zero8]] at hth
      have HB2 := Lib.hid (setCells_all b0 (cs := bytesTo x 8) (by rw [bytesTo_size]; simp [zero8]))
      have HBL := Lib.hid (below_setCells hz1 (bytesTo x 8).toList (o := 0) (hb1.alloc hz1 (.cells zero8 162)))
      clear b0
      obtain ⟨cs, hcs⟩ : ∃ cs, bytesTo x 8 = cs := ⟨_, rfl⟩
      have HCS := Lib.hid hcs
      rw [hcs] at hi h1c hth HB2 HBL ⊢
      clear hcs
      go_wp2_with (refine wpList_store_mid rfl _ _ _ rfl w1.heap.size 0 cs (by rfl) (by rfl) hth hi h1c ?_)
      go_loopw [0, 7] (fun st i wr => ∃ j : Nat, j ≤ 8 ∧ i = .int .i64 j ∧ st = .int .u64 (fnvN q x j : Nat) ∧ Bx wr w1.heap.size 162 cs ∧ Below w.heap.size w wr) (fun _ i _ => 8 - (intOf i).toNat)
      case atStart => exact ⟨0, Nat.zero_le _, rfl, rfl, HB2.out, HBL.out⟩
      case round =>
        obtain ⟨j, hj, rfl, rfl, bx, hB2⟩ := hrel
        by_cases hlj : j < 8
        · have hc := bx.cell j
          rw [← HCS.out, bytesTo_get x 8 j hlj, if_pos hlj] at hc
          have hf := bx.frozen j
          have hlb := bx.lt
          have HBX := Lib.hid bx
          have hbt := byteOf_lt x j
          have HFN := Lib.hid (fnvN_lt HQ.out x j)
          have HNX : Hid (fnvN q x (j + 1) = fnvB (fnvN q x j) (byteOf x j)) := Lib.hid rfl
          obtain ⟨p, hp⟩ : ∃ p, fnvN q x j = p := ⟨_, rfl⟩
          obtain ⟨y, hy⟩ : ∃ y, byteOf x j = y := ⟨_, rfl⟩
          rw [hp] at HFN HNX ⊢
          rw [hy] at hbt hc HNX
          have ij0 : (0 : Int) ≤ (j : Int) := by omega
          have ij1 : (j : Int) < 8 := by omega
          clear hp hy bx
          go_wp2_with fail
          refine (step_c p y _ HFN.out hbt).mono ?_
          rintro e w2 ⟨rfl, rfl⟩
          obtain ⟨r, hr⟩ : ∃ r, fnvB p y = r := ⟨_, rfl⟩
          rw [hr] at HNX ⊢
          clear hr
          go_wp2_with fail
          refine ⟨⟨j + 1, by omega, by go_num, by rw [HNX.out], HBX.out, hB2⟩, by simp [intOf]; omega⟩
        · obtain rfl : j = 8 := by omega
          clear bx
          go_wp2_with fail
          go_roundw
          case rel => exact ⟨k + 1, by omega, by go_num, by rw [HT.out]; rfl, hB2⟩
          case measure => simp [intOf]; omega
    · obtain rfl : k = l.length := by omega
      rw [List.take_length]
      go_wp2_with fail
      go_ret
      exact ⟨rfl, hB⟩

set_option maxHeartbeats 800000 in
theorem sum_c (A : Option Addr) (l : List Nat) (c n : Nat) (w : World) (hn : l.length = n) (hm : n ≤ 2048) (hr : RdW w w.heap.size A l) (ho : ∀ x ∈ l, x < 18446744073709551616) :
    Calls Try.prog 104 #[.slice A n c] w fun e w' => e = .returned (.int .u64 (sumFrom 14695981039346656037 l : Nat)) ∧ Below w.heap.size w w' := by
  have HR := Lib.hid hr
  have HO := Lib.hid ho
  have HN := Lib.hid hn
  clear hr ho hn
  go_enter Try.func104, Try.ntmps104
  go_wp2_with fail
  refine (behind_c 14695981039346656037 A l c n w HN.out hm (by omega) HR.out HO.out).mono ?_
  rintro e w1 ⟨rfl, hB1⟩
  obtain ⟨q, hq⟩ : ∃ q, sumFrom 14695981039346656037 l = q := ⟨_, rfl⟩
  have HQE := Lib.hid hq
  rw [hq]
  clear hq
  go_wp2_with fail
  go_ret
  exact ⟨by rw [HQE.out]; rfl, hB1⟩

set_option maxHeartbeats 800000 in
theorem part32_c (A : Option Addr) (l : List Nat) (c n : Nat) (w : World) (hn : l.length = n) (hm : n ≤ 2048) (hr : RdW w w.heap.size A l) (ho : ∀ x ∈ l, x < 18446744073709551616) :
    Calls Try.prog 106 #[.slice A n c, .int .i64 32] w fun e w' => e = .returned (.int .u64 ((sumFrom 14695981039346656037 l % 4294967296 : Nat) : Int)) ∧ Below w.heap.size w w' := by
  have HR := Lib.hid hr
  have HO := Lib.hid ho
  have HN := Lib.hid hn
  clear hr ho hn
  go_enter Try.func106, Try.ntmps106
  go_wp2_with fail
  refine (sum_c A l c n w HN.out hm HR.out HO.out).mono ?_
  rintro e w1 ⟨rfl, hB1⟩
  have HQL := Lib.hid (sumFrom_lt (s := 14695981039346656037) (by omega) l)
  obtain ⟨q, hq⟩ : ∃ q, sumFrom 14695981039346656037 l = q := ⟨_, rfl⟩
  have HQE := Lib.hid hq
  rw [hq] at HQL ⊢
  clear hq
  go_wp2_with fail
  refine (value_c q 0 32 w1 HQL.out (by omega)).mono ?_
  rintro e w2 ⟨rfl, rfl⟩
  obtain ⟨r, hr⟩ : ∃ r, fieldOf q 0 32 = r := ⟨_, rfl⟩
  have HRE := Lib.hid hr
  rw [hr]
  clear hr
  go_wp2_with fail
  go_ret
  exact ⟨by rw [HQE.out, ← HRE.out]; simp [fieldOf], hB1⟩
end Go.Proofs.Ytpifagclhhaniaa
