/- Texts laid together: Ref13 Bld Pair. -/
import Derived.Test.YtoaepffpjoibaaaGreatKHeap
import Derived.Test.YtoaepffpjoibaaaGreatKRefs
import Derived.Test.YtoaepffpjoibaaaGreatKHead
import Derived.Test.YtoaepffpjoibaaaGreatKMove
namespace Go.Proofs.YtoaepffpjoibaaaGreat
open Go.RowKit

def fN : List Nat → Nat
  | [] => 0
  | k :: l => fN l * 4 + k
theorem fldW_fN (l : List Nat) : ∀ j, fldW l j = 4 ^ j * fN l := by
  induction l with
  | nil => intro j; rfl
  | cons k l ih => intro j; simp only [fldW, fN, ih]; rw [Nat.pow_succ, Nat.mul_add, Nat.mul_comm k, Nat.mul_comm (fN l) 4, Nat.mul_assoc]; omega
theorem fN_typW (l : List Nat) : fN l * 256 + l.length = typW l := by
  unfold typW
  rw [fldW_fN, show (4 : Nat) ^ 4 = 256 by decide]; omega
theorem fN_lt {l : List Nat} (h : kndOk l = true) : fN l < 4 ^ l.length := by
  induction l with
  | nil => simp [fN]
  | cons k l ih =>
    rw [kndOk_iff] at h
    have h1 := ih ((kndOk_iff l).2 fun x hx => h x (by simp [hx]))
    have h2 := h k (by simp)
    simp only [fN, List.length_cons, Nat.pow_succ]; omega
theorem fN_drop {l : List Nat} {k : Nat} (hk : k < l.length) : fN (l.drop k) = fN (l.drop (k + 1)) * 4 + l[k] := by rw [List.drop_eq_getElem_cons hk]; rfl
theorem fN_drop_lt {l : List Nat} (h8 : l.length ≤ 8) (h : kndOk l = true) (k : Nat) : fN (l.drop k) < 65536 := by
  have h1 : kndOk (l.drop k) = true := (kndOk_iff _).2 fun x hx => (kndOk_iff l).1 h x (List.mem_of_mem_drop hx)
  have h2 := fN_lt h1
  have h3 : 4 ^ (l.drop k).length ≤ 4 ^ 8 := Nat.pow_le_pow_right (by omega) (by rw [List.length_drop]; omega)
  have h4 : (4 : Nat) ^ 8 = 65536 := by decide
  omega

set_option maxRecDepth 100000 in
set_option maxHeartbeats 1000000 in
theorem r13First_c (A : Option Addr) (l : List Nat) (c n B : Nat) (w : World) (hn : l.length = n) (h8 : n ≤ 8) (hk : kndOk l = true) (hr : RdY w B A l) :
    Calls Tryz.prog 81 #[.slice A n c] w fun e w' => e = .returned (.int .u64 (typW l : Nat)) ∧ w = w' := by
  subst hn
  have HR := Lib.hid hr
  have HT := Lib.hid (fN_typW l)
  have HK := Lib.hid hk
  clear hr hk
  go_enter Tryz.func81, Tryz.ntmps81
  go_wp2_with fail
  go_loop [3, 4] (fun s i => ∃ k : Nat, k ≤ l.length ∧ i = .int .i64 ((k : Int) - 1) ∧ s = .int .u64 (fN (l.drop k) : Nat)) (fun _ i => (intOf i + 1).toNat)
  case atStart => exact ⟨l.length, Nat.le_refl _, rfl, by rw [List.drop_length]; rfl⟩
  case round =>
    obtain ⟨k, hk, rfl, rfl⟩ := hrel
    cases k with
    | zero =>
      have hlt := fN_drop_lt h8 HK.out 0
      rw [List.drop_zero] at hlt ⊢
      obtain ⟨q, hq⟩ : ∃ q, fN l = q := ⟨_, rfl⟩
      rw [hq] at hlt HT ⊢
      have hq0 : (0 : Int) ≤ (q : Int) := by omega
      have hq1 : (q : Int) < 65536 := by omega
      clear hq
      go_wp2_with fail
      go_ret
      exact ⟨by rw [← HT.out]; try simp, rfl⟩
    | succ k =>
      rw [show (((k + 1 : Nat) : Int) - 1) = (k : Int) by omega]
      have hlt : k < l.length := by omega
      obtain ⟨b, off, rfl, hb, h0⟩ := HR.out.at_ hlt
      have hq := fN_drop_lt h8 HK.out (k + 1)
      have HS := Lib.hid (fN_drop hlt)
      have hx3 := ((kndOk_iff l).1 HK.out l[k] (List.getElem_mem hlt)).2
      obtain ⟨x, hx⟩ : ∃ x, l[k] = x := ⟨_, rfl⟩
      obtain ⟨q, hq2⟩ : ∃ q, fN (l.drop (k + 1)) = q := ⟨_, rfl⟩
      rw [hx] at h0 HS hx3
      rw [hq2] at hq HS ⊢
      have hq0 : (0 : Int) ≤ (q : Int) := by omega
      have hq1 : (q : Int) < 65536 := by omega
      have hx0 : (0 : Int) ≤ (x : Int) := by omega
      have hx1 : (x : Int) ≤ 3 := by omega
      have hk0 : (0 : Int) ≤ (k : Int) := by omega
      have hkl : (k : Int) < (l.length : Int) := by omega
      clear hx hq2
      go_wp2_with fail
      go_round
      case rel => exact ⟨k, by omega, rfl, by rw [HS.out]; simp⟩
      case measure => simp [intOf] <;> omega

set_option maxRecDepth 100000 in
set_option maxHeartbeats 1000000 in
theorem r13Check_c (A : Option Addr) (l : List Nat) (c n B : Nat) (w : World) (hn : l.length = n) (h8 : n ≤ 8) (hk : kndOk l = true) (hr : RdY w B A l) :
    Calls Tryz.prog 80 #[.slice A n c] w fun e w' => e = .returned (.int .i64 0) ∧ w = w' := by
  subst hn
  have HR := Lib.hid hr
  have HK := Lib.hid hk
  clear hr hk
  go_enter Tryz.func80, Tryz.ntmps80
  go_wp2_with fail
  go_loop [3] (fun i => ∃ k : Nat, k ≤ l.length ∧ i = .int .i64 k) (fun i => l.length - (intOf i).toNat)
  case atStart => exact ⟨0, Nat.zero_le _, rfl⟩
  case round =>
    obtain ⟨k, hk, rfl⟩ := hrel
    by_cases hlt : k < l.length
    · obtain ⟨b, off, rfl, hb, h0⟩ := HR.out.at_ hlt
      obtain ⟨g1, g2⟩ := (kndOk_iff l).1 HK.out l[k] (List.getElem_mem hlt)
      obtain ⟨x, hx⟩ : ∃ x, l[k] = x := ⟨_, rfl⟩
      rw [hx] at h0 g1 g2
      have e1 : ((x : Int) == 0) = false := by rw [beq_eq_false_iff_ne]; omega
      clear hx
      go_wp2_with fail
      go_round
      case rel => exact ⟨k + 1, by omega, by go_num⟩
      case measure => simp [intOf]; omega
    · go_wp2_with fail
      go_ret
      exact ⟨rfl, rfl⟩

set_option maxRecDepth 100000 in
set_option maxHeartbeats 1000000 in
theorem refSum_c (A : Option Addr) (l : List Nat) (c n : Nat) (w : World) (hn : l.length = n) (hm : n ≤ 2048) (hr : RdW w w.heap.size A l) (ho : ∀ x ∈ l, x < 18446744073709551616) :
    Calls Tryz.prog 82 #[.slice A n c] w fun e w' => e = .returned (.int .u64 (sumFrom 14695981039346656037 l : Nat)) ∧ Below w.heap.size w w' := by
  have HC := Lib.hid (behind_c 14695981039346656037 A l c n w hn hm (by omega) hr ho)
  clear hr ho
  obtain ⟨q, hq⟩ : ∃ q, sumFrom 14695981039346656037 l = q := ⟨_, rfl⟩
  rw [hq] at HC ⊢
  clear hq
  go_enter Tryz.func82, Tryz.ntmps82
  go_wp2_with fail
  refine HC.out.mono ?_
  rintro e w1 ⟨rfl, hB1⟩
  go_wp2_with fail
  go_ret
  exact ⟨rfl, hB1⟩

set_option maxRecDepth 100000 in
set_option maxHeartbeats 2000000 in
theorem r13Write_c (A : Option Addr) (l : List Nat) (c n H : Nat) (w : World) (hn : l.length = n) (h8 : n ≤ 8) (hk : kndOk l = true) (hr : RdY w H A l) (hH : H ≤ w.heap.size) :
    Calls Tryz.prog 59 #[.slice A n c] w fun e w' => e = .returned (.tuple #[twoV (typW l) (sum1 (typW l)), .int .i64 0]) ∧ Below w.heap.size w w' := by
  have hra : RdY (w.alloc (.cells #[.int .u64 0, .int .u64 0] 108)) H A l := Rd.alloc hr hH _
  have HK := Lib.hid (r13Check_c A l c n H (w.alloc (.cells #[.int .u64 0, .int .u64 0] 108)) hn h8 hk hra)
  have HF := Lib.hid (r13First_c A l c n H (w.alloc (.cells #[.int .u64 0, .int .u64 0] 108)) hn h8 hk hra)
  have bx := Bx.new w 108 #[.int .u64 0, .int .u64 0]
  have hlt := typW_lt (by omega) hk
  have HSM : Hid (sumFrom 14695981039346656037 [typW l] = sum1 (typW l)) := Lib.hid rfl
  obtain ⟨q, hq⟩ : ∃ q, typW l = q := ⟨_, rfl⟩
  rw [hq] at HF hlt HSM ⊢
  have HV : Hid (twoV q (sum1 q) = .agg #[.int .u64 (q : Int), .int .u64 (sum1 q : Nat)]) := Lib.hid rfl
  have hi2 : (Tryz.prog.info? 108).map (·.size) = some 2 := by kernel_rfl
  have BX := Lib.hid bx
  clear hr hra hk hq bx hn
  go_enter Tryz.func59, Tryz.ntmps59
  go_wp2_with fail
  refine HK.out.mono ?_
  rintro e w1 ⟨rfl, rfl⟩
  go_wp2_with fail
  refine HF.out.mono ?_
  rintro e w1 ⟨rfl, rfl⟩
  go_wp2_with fail
  refine HF.out.mono ?_
  rintro e w1 ⟨rfl, rfl⟩
  go_wp2_with fail
  have hrd := rd_new1 (w.alloc (.cells #[.int .u64 0, .int .u64 0] 108)) [.int .u64 (q : Int)] 46
  refine (refSum_c _ [q] _ 1 _ rfl (by omega) (by simp only [World.size_alloc] at hrd ⊢; exact hrd) (by intro y hy; simp at hy; subst hy; omega)).mono ?_
  rintro e w1 ⟨rfl, hB1⟩
  rw [World.size_alloc, World.size_alloc] at hB1
  have hb1 := (((Below.refl _ _).alloc (Nat.le_refl _) (.cells #[.int .u64 0, .int .u64 0] 108)).alloc (by simp) (.cells #[.int .u64 (q : Int)] 46)).trans (hB1.mono (by omega))
  have bx1 := (BX.out.alloc (.cells #[.int .u64 (q : Int)] 46)).up hB1 (by omega)
  have BX1 := Lib.hid bx1
  have HB1 := Lib.hid hb1
  rw [HSM.out]
  obtain ⟨z, hz⟩ : ∃ z, sum1 q = z := ⟨_, rfl⟩
  have HZ := Lib.hid hz
  rw [hz] at HV ⊢
  clear hz bx1 hb1 hB1 hrd
  go_wp2_with ((with_reducible refine at_store 108 (.tmp 2) _ ?_); refine wpList_store_agg rfl _ _ _ rfl w.heap.size 108 #[.int .u64 0, .int .u64 0] #[.int .u64 (q : Int), .int .u64 (z : Int)] (by rfl) (by rfl) BX1.out rfl hi2 (by simp [Value.oneCell']) ?_; intro w3 hb3 ha3; have HB3 := Lib.hid hb3; have HA3 := Lib.hid ha3; clear hb3 ha3)
  exact bodyPost_ret (v := .tuple #[.agg #[.int .u64 (q : Int), .int .u64 (z : Int)], .int .i64 0]) (results_two Tryz.results59 _ HB3.out rfl rfl) rfl ⟨by rw [HZ.out, HV.out], HA3.out.below HB1.out (Nat.le_refl _)⟩
end Go.Proofs.YtoaepffpjoibaaaGreat

namespace Go.Proofs.YtoaepffpjoibaaaGreat
open Go.RowKit

/-! What is built, as plain functions -/
def tyPut (w : List Nat) (i : Nat) (t : List Nat) : List Nat := (w.set (96 + 2 * i) (typW t)).set (96 + 2 * i + 1) (sum1 (typW t))
def tysPut (ts : List (List Nat)) (w : List Nat) : Nat → List Nat
  | 0 => w
  | k + 1 => tyPut (tysPut ts w k) k (ts[k]?.getD [])
def bkPut (w : List Nat) (a : Nat) (b : Bk) : List Nat := (w.set a (headW b)).set (a + 1) b.next
def bksPut (bs : List Bk) (s : List Nat × Nat) : Nat → List Nat × Nat
  | 0 => s
  | k + 1 => (bkPut (bksPut bs s k).1 (bksPut bs s k).2 (gk bs k), (bksPut bs s k).2 + (gk bs k).size.toNat)
def freeBk (n : Nat) : Bk := ⟨0, (n : Int), 2, 0, false, 0⟩
def frPut (n : Nat) (s : List Nat × Nat) : List Nat := if s.2 < n then s.1.set s.2 (headW (freeBk (n - s.2))) else s.1
def slsPut (ss : List Int) (w : List Nat) : Nat → List Nat
  | 0 => w
  | k + 1 => if 0 < ss[k]?.getD 0 then (slsPut ss w k).set (112 + k) (9223372041149743104 + (ss[k]?.getD 0).toNat) else slsPut ss w k
def buildB (n : Nat) (ts : List (List Nat)) (bs : List Bk) : List Nat × Nat := bksPut bs (tysPut ts (List.replicate n 0) ts.length, 128) bs.length
def buildL (n : Nat) (ts : List (List Nat)) (bs : List Bk) (ss : List Int) : List Nat := slsPut ss (frPut n (buildB n ts bs)) ss.length
theorem words_zero (n : Nat) : (List.replicate n 0).flatMap wordCells = List.replicate n (.int .u64 0) := by
  induction n with
  | zero => rfl
  | succ n ih => rw [List.replicate_succ, List.flatMap_cons, ih, List.replicate_succ]; rfl
theorem headW_nat (K T S : Nat) (m : Bool) (a : Int) (x : Nat) : headW ⟨a, (S : Int), (K : Int), (T : Int), m, x⟩ = K + mk01 m * 256 + T * 512 + S * 65536 + sum1 (K + mk01 m * 256 + T * 512 + S * 65536) % 4294967296 * 4294967296 := by
  unfold headW lowOf; simp only [Int.toNat_natCast]
/-- A list of fields that lies in a slice of such: its value's parts, and its fields. -/
structure Ty where
  A : Option Addr
  c : Nat
  l : List Nat
  deriving Inhabited
def Ty.cells (x : Ty) : List Value := [.slice x.A x.l.length x.c]
theorem Ty.len (x : Ty) : x.cells.length = 1 := rfl
def RdT (w : World) (B : Nat) (A : Option Addr) (ts : List Ty) : Prop := Rd w B A (ts.flatMap Ty.cells) ∧ ∀ x ∈ ts, RdY w B x.A x.l ∧ x.l.length ≤ 8 ∧ kndOk x.l = true
theorem RdT.at_ {w : World} {B : Nat} {A : Option Addr} {l : List Ty} (h : RdT w B A l) {k : Nat} (hk : k < l.length) :
    ∃ b off, A = some ⟨b, off, none⟩ ∧ b < B ∧ w.cell? ⟨b, off + k, none⟩ = some (.slice l[k].A l[k].l.length l[k].c) ∧ RdY w B l[k].A l[k].l ∧ l[k].l.length ≤ 8 ∧ kndOk l[k].l = true := by
  obtain ⟨b, off, e, hb, hc⟩ := Rd.at_flat Ty.len h.1 (by omega) hk
  have := hc 0 (by omega)
  simp only [Nat.mul_one, Nat.add_zero] at this
  obtain ⟨h1, h2, h3⟩ := h.2 l[k] (List.getElem_mem hk)
  exact ⟨b, off, e, hb, this, h1, h2, h3⟩
theorem RdT.below {w w' : World} {B : Nat} {A : Option Addr} {l : List Ty} (h : RdT w B A l) (hb : Below B w w') : RdT w' B A l := ⟨h.1.below hb, fun x hx => ⟨(h.2 x hx).1.below hb, (h.2 x hx).2⟩⟩
theorem RdT.more {w : World} {B B' : Nat} {A : Option Addr} {l : List Ty} (h : RdT w B A l) (hB : B ≤ B') : RdT w B' A l := ⟨h.1.more hB, fun x hx => ⟨(h.2 x hx).1.more hB, (h.2 x hx).2⟩⟩
theorem RdT.nil_ {w : World} {B : Nat} : RdT w B none [] := ⟨Rd.nil_, fun x h => by cases h⟩
/-- What the call's own words are, and what they become by a store. -/
def OwnB (H n : Nat) (w wr : World) (cur : List Nat) : Prop := wr.ownsRow H 46 1 (.slice (some ⟨H, 0, none⟩) n n) n (cur.flatMap wordCells) ∧ Below H w wr
theorem OwnB.len {H n : Nat} {w wr : World} {cur : List Nat} (h : OwnB H n w wr cur) : cur.length = n := by
  have := h.1.1
  rw [words_len] at this; omega
theorem OwnB.set_ {H n : Nat} {w wr : World} {cur : List Nat} (h : OwnB H n w wr cur) (j v : Nat) : OwnB H n w (wr.setCell ⟨H, j, none⟩ (.int .u64 (v : Int))) (cur.set j v) := by
  refine ⟨?_, h.2.setCell (p := ⟨H, j, none⟩) (Nat.le_refl _) _⟩
  rw [words_set]
  exact (h.1.stored j (.int .u64 (v : Int))).1
theorem OwnB.alloc {H n : Nat} {w wr : World} {cur : List Nat} (h : OwnB H n w wr cur) (o : Obj) : OwnB H n w (wr.alloc o) cur := ⟨h.1.alloc o, h.2.alloc (Nat.le_of_lt (h.1.lt H rfl).2) o⟩
theorem OwnB.drew {H n : Nat} {w wr : World} {cur : List Nat} (h : OwnB H n w wr cur) : OwnB H n w wr.drew cur := ⟨h.1, h.2.drew⟩
theorem OwnB.up {H n : Nat} {w wr w1 : World} {cur : List Nat} (h : OwnB H n w wr cur) (hb : Below wr.heap.size wr w1) : OwnB H n w w1 cur := ⟨own_below h.1 hb (Nat.le_refl _), h.2.trans (hb.mono (Nat.le_of_lt (h.1.lt H rfl).2))⟩
theorem OwnB.cell {H n : Nat} {w wr : World} {cur : List Nat} (h : OwnB H n w wr cur) {j : Nat} (hj : j < n) : ∃ u, wr.cell? ⟨H, j, none⟩ = some u ∧ wr.frozen? ⟨H, j, none⟩ = false :=
  ⟨_, (h.1.cellAt j (by omega)).trans (words_get cur j (by rw [h.len]; exact hj)), h.1.frozenAt j⟩

theorem or_slot (v : Nat) (hv : v < 4294967296) : bits BinOp.or .u64 9223372041149743104 (v : Int) = ((9223372041149743104 + v : Nat) : Int) := by
  have h := u64_or_nat 9223372041149743104 v (by omega) (by omega)
  have e : 9223372041149743104 ||| v = 9223372041149743104 + v := by
    rw [Nat.or_comm, show (9223372041149743104 : Nat) = 2147483649 * 2 ^ 32 by decide, or_join (i := 32) (by omega), Nat.add_comm]
  rw [e] at h
  exact h

set_option maxRecDepth 100000 in
set_option maxHeartbeats 8000000 in
theorem build_c (TA BA SA : Option Addr) (ts : List Ty) (bs : List Bk) (ss : List Int) (tc bc sc n H : Nat) (w : World) (hn : n ≤ 2048) (h128 : 128 ≤ n) (hT : RdT w H TA ts) (ht8 : ts.length ≤ 8) (hB0 : RdB w H BA bs) (hS : RdI w H SA ss) (hs16 : ss.length ≤ 16) (hH : H ≤ w.heap.size) (hb2 : bs.length ≤ 2048)
    (hbs : ∀ k, k < bs.length → (0 ≤ (gk bs k).kind ∧ (gk bs k).kind < 256) ∧ (0 ≤ (gk bs k).typ ∧ (gk bs k).typ < 128) ∧ (2 ≤ (gk bs k).size ∧ (gk bs k).size < 65536) ∧ (bksPut bs (tysPut (ts.map Ty.l) (List.replicate n 0) ts.length, 128) k).2 + (gk bs k).size.toNat ≤ n)
    (hss : ∀ k, k < ss.length → ss[k]?.getD 0 < 4294967296 ∧ -4294967296 < ss[k]?.getD 0) :
    Calls Tryz.prog 40 #[.int .i64 (n : Int), .slice TA ts.length tc, .slice BA bs.length bc, .slice SA ss.length sc] w fun e w' => OwnW w (buildL n (ts.map Ty.l) bs ss) e w' := by
  have HT := Lib.hid (hT.more hH)
  have HB0 := Lib.hid (hB0.more hH)
  have HS := Lib.hid (hS.more hH)
  have HBS := Lib.hid hbs
  have HSS := Lib.hid hss
  clear hT hB0 hS hH hbs hss
  obtain ⟨i0, hi, hz0, hz1, hz2⟩ := info_parts infoWord
  obtain ⟨W0, hmk, hown0, hg0⟩ := run_make_full (P := Tryz.prog) w w.heap.size 22 46 i0 (.int .u64 0) 1 Tryz.underlying22 hi hz0 hz1 .i64 .i64 n (by rw [hz2]; omega) (by unfold maxLen; omega) (Nat.le_refl _)
  have HOW := Lib.hid (show OwnB w.heap.size n w W0 (List.replicate n 0) from ⟨by rw [words_zero, ← toList_madeCells_one]; have := hown0; rw [Nat.mul_one] at this; exact this, (Below.refl _ _).grown hg0 (Nat.le_refl _) (fun k hk => by cases hk)⟩)
  clear hown0 hg0 hi hz0 hz1 hz2
  go_enter Tryz.func40, Tryz.ntmps40
  go_wp2_with fail
  clear hmk
  go_loopw [10] (fun i wr => ∃ k : Nat, k ≤ ts.length ∧ i = .int .i64 k ∧ OwnB w.heap.size n w wr (tysPut (ts.map Ty.l) (List.replicate n 0) k)) (fun i _ => ts.length - (intOf i).toNat)
  case atStart => exact ⟨0, Nat.zero_le _, rfl, HOW.out⟩
  case round =>
    obtain ⟨k, hk, rfl, hO⟩ := hrel
    by_cases hlt : k < ts.length
    · obtain ⟨b, off, rfl, hb, h0, hy, hy8, hyk⟩ := RdT.at_ (HT.out.below hO.2) hlt
      have HSP : Hid (tysPut (ts.map Ty.l) (List.replicate n 0) (k + 1) = tyPut (tysPut (ts.map Ty.l) (List.replicate n 0) k) k ts[k].l) := Lib.hid (by simp [tysPut, hlt])
      have HC := Lib.hid (r13Write_c ts[k].A ts[k].l ts[k].c ts[k].l.length w.heap.size wr rfl hy8 hyk hy hO.2.size)
      obtain ⟨x, hx⟩ : ∃ x, ts[k] = x := ⟨_, rfl⟩
      rw [hx] at h0 HSP HC
      obtain ⟨xA, xc, xl⟩ := x
      dsimp only at h0 HSP HC
      obtain ⟨p, hp⟩ : ∃ p, typW xl = p := ⟨_, rfl⟩
      obtain ⟨q, hq⟩ : ∃ q, sum1 p = q := ⟨_, rfl⟩
      unfold tyPut at HSP
      unfold twoV at HC
      rw [hp, hq] at HC HSP
      have HO := Lib.hid hO
      have hk1 : (k : Int) < (ts.length : Int) := by omega
      have hk0 : (0 : Int) ≤ (k : Int) := by omega
      have w1 : IntKind.i64.wrap (2 * (k : Int)) = 2 * (k : Int) := IntWalk.i64_in _ (by omega)
      have w2 : IntKind.i64.wrap (96 + 2 * (k : Int)) = 96 + 2 * (k : Int) := IntWalk.i64_in _ (by omega)
      have w3 : IntKind.i64.wrap (96 + 2 * (k : Int) + 1) = 96 + 2 * (k : Int) + 1 := IntWalk.i64_in _ (by omega)
      have i1 : (0 : Int) ≤ 96 + 2 * (k : Int) := by omega
      have i2 : (96 : Int) + 2 * (k : Int) < (n : Int) := by omega
      have i3 : (0 : Int) ≤ 96 + 2 * (k : Int) + 1 := by omega
      have i4 : (96 : Int) + 2 * (k : Int) + 1 < (n : Int) := by omega
      have n1 : ((96 : Int) + 2 * (k : Int)).toNat = 96 + 2 * k := by omega
      have n2 : ((96 : Int) + 2 * (k : Int) + 1).toNat = 96 + 2 * k + 1 := by omega
      clear hx hp hq hO hy hyk
      go_wp2_with fail
      refine HC.out.mono ?_
      rintro e w1' ⟨rfl, hB1⟩
      have ho1 := (HO.out.up hB1).alloc (.cells #[.int .u64 (p : Int), .int .u64 (q : Int)] 108)
      have bx := Bx.new w1' 108 #[.int .u64 (p : Int), .int .u64 (q : Int)]
      go_wp2_with fail
      obtain ⟨W, hW⟩ : ∃ W, w1'.alloc (.cells #[.int .u64 (p : Int), .int .u64 (q : Int)] 108) = W := ⟨_, rfl⟩
      rw [hW] at ho1 bx ⊢
      obtain ⟨x0, x1, -, -, hgg⟩ := bx.c2
      obtain ⟨u0, c0, f0⟩ := ho1.cell (j := 96 + 2 * k) (by omega)
      obtain ⟨u1, c1, f1⟩ := ho1.cell (j := 96 + 2 * k + 1) (by omega)
      have hne : w.heap.size ≠ w1'.heap.size := by have := HO.out.2.size; have := hB1.size; have := HO.out.1.lt w.heap.size rfl; omega
      have HO1 := Lib.hid ho1
      clear hW ho1 bx hB1
      first
        | (go_region_held3 (fun X : World => X.cell? ⟨w1'.heap.size, 0, none⟩ = some (.int .u64 (p : Int)) ∧ X.cell? ⟨w1'.heap.size, 1, none⟩ = some (.int .u64 (q : Int))) (go_keep) (fail))
        | fail
      all_goals
        go_wp2_with fail
        go_roundw
        case rel => exact ⟨k + 1, by omega, by go_num, by rw [HSP.out]; exact ((HO1.out.drew).set_ _ _).set_ _ _⟩
        case measure => simp [intOf]; omega
    · obtain rfl : k = ts.length := by omega
      obtain ⟨s0, hs0⟩ : ∃ s0, tysPut (ts.map Ty.l) (List.replicate n 0) ts.length = s0 := ⟨_, rfl⟩
      have HS0 := Lib.hid hs0
      rw [hs0] at hO HBS
      have HO := Lib.hid hO
      obtain ⟨wa, rfl⟩ : ∃ wa : World, wa = wr := ⟨_, rfl⟩
      clear hs0 hO HOW
      go_wp2_with fail
      go_loopw [13, 14] (fun p i wr => ∃ k : Nat, k ≤ bs.length ∧ i = .int .i64 k ∧ p = .int .i64 ((bksPut bs (s0, 128) k).2 : Nat) ∧ OwnB w.heap.size n w wr (bksPut bs (s0, 128) k).1) (fun _ i _ => bs.length - (intOf i).toNat)
      case atStart => exact ⟨0, Nat.zero_le _, rfl, rfl, HO.out⟩
      case round =>
        obtain ⟨k, hk, rfl, rfl, hO⟩ := hrel
        have HSP : Hid (bksPut bs (s0, 128) (k + 1) = (bkPut (bksPut bs (s0, 128) k).1 (bksPut bs (s0, 128) k).2 (gk bs k), (bksPut bs (s0, 128) k).2 + (gk bs k).size.toNat)) := Lib.hid rfl
        by_cases hlt : k < bs.length
        · obtain ⟨b, off, rfl, hb, q0, q1, q2, q3, q4, q5⟩ := RdB.at_ (Rd.below HB0.out hO.2) hlt
          obtain ⟨⟨e1, e2⟩, ⟨e3, e4⟩, ⟨e5, e6⟩, e7⟩ := HBS.out k hlt
          rw [← gk_get bs k hlt] at q0 q1 q2 q3 q4 q5
          obtain ⟨x, hx⟩ : ∃ x, gk bs k = x := ⟨_, rfl⟩
          obtain ⟨s1, hs1⟩ : ∃ s1, bksPut bs (s0, 128) k = s1 := ⟨_, rfl⟩
          rw [hx] at q0 q1 q2 q3 q4 q5 HSP e1 e2 e3 e4 e5 e6 e7
          rw [hs1] at HSP hO e7 ⊢
          obtain ⟨xa, xs, xk, xt, xm, xn⟩ := x
          obtain ⟨cur, a⟩ := s1
          dsimp only at q0 q1 q2 q3 q4 q5 e1 e2 e3 e4 e5 e6 e7 hO HSP ⊢
          obtain ⟨K, rfl⟩ := Int.eq_ofNat_of_zero_le e1
          obtain ⟨T, rfl⟩ := Int.eq_ofNat_of_zero_le e3
          obtain ⟨S, rfl⟩ := Int.eq_ofNat_of_zero_le (show 0 ≤ xs by omega)
          simp only [Int.toNat_natCast] at e7 HSP
          unfold bkPut at HSP
          rw [headW_nat] at HSP
          have HWD := Lib.hid (fun W => refWord_c K T S xm W (by omega) (by omega) (by omega))
          obtain ⟨h, hh⟩ : ∃ h, K + mk01 xm * 256 + T * 512 + S * 65536 + sum1 (K + mk01 xm * 256 + T * 512 + S * 65536) % 4294967296 * 4294967296 = h := ⟨_, rfl⟩
          rw [hh] at HSP HWD
          have HO1 := Lib.hid hO
          have hk1 : (k : Int) < (bs.length : Int) := by omega
          have hk0 : (0 : Int) ≤ (k : Int) := by omega
          have ha0 : (0 : Int) ≤ (a : Int) := by omega
          have ha1 : (a : Int) < (n : Int) := by omega
          have ha2 : (a : Int) + 1 < (n : Int) := by omega
          have ha3 : (0 : Int) ≤ (a : Int) + 1 := by omega
          have hwr : IntKind.i64.wrap ((a : Int) + 1) = (a : Int) + 1 := IntWalk.i64_in _ (by omega)
          have htn : ((a : Int) + 1).toNat = a + 1 := by omega
          have hle : (a : Int) + (S : Int) ≤ (n : Int) := by omega
          have hS0 : (0 : Int) ≤ (S : Int) := by omega
          have hbh : b < w.heap.size := hb
          have hbw : b < wr.heap.size := by have := hO.2.size; omega
          have hbn : b ≠ w.heap.size := by omega
          have hbn2 : w.heap.size ≠ b := by omega
          clear hx hs1 hh hO e1 e2 e3 e4 e5 e6
          go_wp2_with fail
          first
            | (go_region_held3 (fun X : World => X.cell? ⟨b, off + k * 6 + 1, none⟩ = some (.int .i64 (S : Int)) ∧ X.cell? ⟨b, off + k * 6 + 2, none⟩ = some (.int .i64 (K : Int)) ∧ X.cell? ⟨b, off + k * 6 + 3, none⟩ = some (.int .i64 (T : Int)) ∧ X.cell? ⟨b, off + k * 6 + 4, none⟩ = some (.bool xm) ∧ X.cell? ⟨b, off + k * 6 + 5, none⟩ = some (.int .u64 (xn : Int))) (go_keep)
                (first | (go_at_call 60; refine (HWD.out _).mono ?_; rintro e w5 ⟨rfl, hB5⟩; have m1 := (hB5.cell (p := ⟨b, off + k * 6 + 1, none⟩) hbw).trans q1; have m2 := (hB5.cell (p := ⟨b, off + k * 6 + 2, none⟩) hbw).trans q2; have m3 := (hB5.cell (p := ⟨b, off + k * 6 + 3, none⟩) hbw).trans q3; have m4 := (hB5.cell (p := ⟨b, off + k * 6 + 4, none⟩) hbw).trans q4; have m5 := (hB5.cell (p := ⟨b, off + k * 6 + 5, none⟩) hbw).trans q5; have ho5 := HO1.out.drew.up hB5; obtain ⟨u0, c0, f0⟩ := ho5.cell (j := a) (by omega); obtain ⟨u1, c1, f1⟩ := ho5.cell (j := a + 1) (by omega); have HO5 := Lib.hid ho5; clear hB5 ho5)))
            | fail
          all_goals
            go_wp2_with fail
            go_roundw
            case rel => exact ⟨k + 1, by omega, by go_num, by rw [HSP.out]; simp, by rw [HSP.out]; exact ((HO5.out).set_ _ _).set_ _ _⟩
            case measure => simp [intOf]; omega
        · obtain rfl : k = bs.length := by omega
          clear HSP HBS
          have HBD : Hid (buildB n (ts.map Ty.l) bs = bksPut bs (s0, 128) bs.length) := Lib.hid (by unfold buildB; rw [← HS0.out, List.length_map])
          have HBL : Hid (buildL n (ts.map Ty.l) bs ss = slsPut ss (frPut n (bksPut bs (s0, 128) bs.length)) ss.length) := Lib.hid (by unfold buildL; rw [HBD.out])
          obtain ⟨s1, hs1⟩ : ∃ s1, bksPut bs (s0, 128) bs.length = s1 := ⟨_, rfl⟩
          rw [hs1] at hO HBL ⊢
          obtain ⟨cur, a⟩ := s1
          dsimp only at hO ⊢
          obtain ⟨wa, rfl⟩ : ∃ wa : World, wa = wr := ⟨_, rfl⟩
          have ha0 : (0 : Int) ≤ (a : Int) := by omega
          by_cases han : a < n
          · have HBL2 : Hid (frPut n (cur, a) = cur.set a (headW (freeBk (n - a)))) := Lib.hid (by unfold frPut; rw [if_pos han])
            rw [HBL2.out] at HBL
            have hfr : headW (freeBk (n - a)) = 2 + mk01 false * 256 + 0 * 512 + (n - a) * 65536 + sum1 (2 + mk01 false * 256 + 0 * 512 + (n - a) * 65536) % 4294967296 * 4294967296 := headW_nat 2 0 (n - a) false 0 0
            have HWD := Lib.hid (fun W => refWord_c 2 0 (n - a) false W (by omega) (by omega) (by omega))
            rw [← hfr] at HWD
            obtain ⟨h, hh⟩ : ∃ h, headW (freeBk (n - a)) = h := ⟨_, rfl⟩
            rw [hh] at HWD HBL
            rw [show (((n - a : Nat)) : Int) = (n : Int) - (a : Int) by omega] at HWD
            have HO1 := Lib.hid hO
            have ha1 : (a : Int) < (n : Int) := by omega
            clear hs1 hfr hh hO HBL2
            go_wp2_with fail
            refine (HWD.out _).mono ?_
            rintro e w5 ⟨rfl, hB5⟩
            have ho5 := HO1.out.up hB5
            obtain ⟨u0, c0, f0⟩ := ho5.cell (j := a) (by omega)
            have HO3 := Lib.hid (ho5.set_ a h)
            clear hB5 ho5
            go_wp2_with fail
            obtain ⟨c3, hc3⟩ : ∃ c3, cur.set a h = c3 := ⟨_, rfl⟩
            rw [hc3] at HO3 HBL
            clear hc3 c0 f0
            go_loopw [15] (fun i wr => ∃ k : Nat, k ≤ ss.length ∧ i = .int .i64 k ∧ OwnB w.heap.size n w wr (slsPut ss c3 k)) (fun i _ => ss.length - (intOf i).toNat)
            case atStart => exact ⟨0, Nat.zero_le _, rfl, HO3.out⟩
            case round =>
              obtain ⟨k, hk, rfl, hO⟩ := hrel
              have HSP : Hid (slsPut ss c3 (k + 1) = if 0 < ss[k]?.getD 0 then (slsPut ss c3 k).set (112 + k) (9223372041149743104 + (ss[k]?.getD 0).toNat) else slsPut ss c3 k) := Lib.hid rfl
              by_cases hlt : k < ss.length
              · obtain ⟨b, off, rfl, hb, q0⟩ := RdI.at_ (Rd.below HS.out hO.2) hlt
                obtain ⟨g1, g2⟩ := HSS.out k hlt
                have hget : ss[k]?.getD 0 = ss[k] := by simp [hlt]
                rw [hget] at HSP g1 g2
                obtain ⟨x, hx⟩ : ∃ x, ss[k] = x := ⟨_, rfl⟩
                rw [hx] at q0 HSP g1 g2
                obtain ⟨c4, hc4⟩ : ∃ c4, slsPut ss c3 k = c4 := ⟨_, rfl⟩
                rw [hc4] at HSP hO
                have HO4 := Lib.hid hO
                obtain ⟨u0, c0, f0⟩ := hO.cell (j := 112 + k) (by omega)
                have hk1 : (k : Int) < (ss.length : Int) := by omega
                have hk0 : (0 : Int) ≤ (k : Int) := by omega
                have hk16 : (k : Int) < 16 := by omega
                have i1 : (0 : Int) ≤ 112 + (k : Int) := by omega
                have i2 : (112 : Int) + (k : Int) < (n : Int) := by omega
                have n1 : ((112 : Int) + (k : Int)).toNat = 112 + k := by omega
                clear hx hget hc4 hO
                by_cases hx0 : 0 < x
                · obtain ⟨v, rfl⟩ := Int.eq_ofNat_of_zero_le (show 0 ≤ x by omega)
                  have hor := or_slot v (by omega)
                  rw [if_pos hx0, Int.toNat_natCast] at HSP
                  obtain ⟨y, hy⟩ : ∃ y, 9223372041149743104 + v = y := ⟨_, rfl⟩
                  rw [hy] at hor HSP
                  have HOR := Lib.hid hor
                  have hwv : IntKind.u64.wrap (v : Int) = (v : Int) := IntWalk.u64_in _ (by omega)
                  clear hy hor g1 g2
                  go_wp2_with fail
                  go_roundw
                  case rel => exact ⟨k + 1, by omega, by go_num, by rw [HSP.out]; have h5 := HO4.out.set_ (112 + k) y; rw [← HOR.out] at h5; exact h5⟩
                  case measure => simp [intOf]; omega
                · rw [if_neg hx0] at HSP
                  go_wp2_with fail
                  go_roundw
                  case rel => exact ⟨k + 1, by omega, by go_num, by rw [HSP.out]; exact HO4.out⟩
                  case measure => simp [intOf]; omega
              · obtain rfl : k = ss.length := by omega
                have HO4 := Lib.hid hO
                clear hO HSP
                go_wp2_with fail
                go_ret
                rw [← HBL.out] at HO4
                have hl := HO4.out.len
                exact ⟨w.heap.size, n, by rw [hl]; rfl, by rw [hl]; exact HO4.out.1, HO4.out.2⟩
          · have HBL2 : Hid (frPut n (cur, a) = cur) := Lib.hid (by unfold frPut; rw [if_neg han])
            rw [HBL2.out] at HBL
            have HO3 := Lib.hid hO
            clear hs1 hO HBL2
            go_wp2_with fail
            go_loopw [15] (fun i wr => ∃ k : Nat, k ≤ ss.length ∧ i = .int .i64 k ∧ OwnB w.heap.size n w wr (slsPut ss cur k)) (fun i _ => ss.length - (intOf i).toNat)
            case atStart => exact ⟨0, Nat.zero_le _, rfl, HO3.out⟩
            case round =>
              obtain ⟨k, hk, rfl, hO⟩ := hrel
              have HSP : Hid (slsPut ss cur (k + 1) = if 0 < ss[k]?.getD 0 then (slsPut ss cur k).set (112 + k) (9223372041149743104 + (ss[k]?.getD 0).toNat) else slsPut ss cur k) := Lib.hid rfl
              by_cases hlt : k < ss.length
              · obtain ⟨b, off, rfl, hb, q0⟩ := RdI.at_ (Rd.below HS.out hO.2) hlt
                obtain ⟨g1, g2⟩ := HSS.out k hlt
                have hget : ss[k]?.getD 0 = ss[k] := by simp [hlt]
                rw [hget] at HSP g1 g2
                obtain ⟨x, hx⟩ : ∃ x, ss[k] = x := ⟨_, rfl⟩
                rw [hx] at q0 HSP g1 g2
                obtain ⟨c4, hc4⟩ : ∃ c4, slsPut ss cur k = c4 := ⟨_, rfl⟩
                rw [hc4] at HSP hO
                have HO4 := Lib.hid hO
                obtain ⟨u0, c0, f0⟩ := hO.cell (j := 112 + k) (by omega)
                have hk1 : (k : Int) < (ss.length : Int) := by omega
                have hk0 : (0 : Int) ≤ (k : Int) := by omega
                have hk16 : (k : Int) < 16 := by omega
                have i1 : (0 : Int) ≤ 112 + (k : Int) := by omega
                have i2 : (112 : Int) + (k : Int) < (n : Int) := by omega
                have n1 : ((112 : Int) + (k : Int)).toNat = 112 + k := by omega
                clear hx hget hc4 hO
                by_cases hx0 : 0 < x
                · obtain ⟨v, rfl⟩ := Int.eq_ofNat_of_zero_le (show 0 ≤ x by omega)
                  have hor := or_slot v (by omega)
                  rw [if_pos hx0, Int.toNat_natCast] at HSP
                  obtain ⟨y, hy⟩ : ∃ y, 9223372041149743104 + v = y := ⟨_, rfl⟩
                  rw [hy] at hor HSP
                  have HOR := Lib.hid hor
                  have hwv : IntKind.u64.wrap (v : Int) = (v : Int) := IntWalk.u64_in _ (by omega)
                  clear hy hor g1 g2
                  go_wp2_with fail
                  go_roundw
                  case rel => exact ⟨k + 1, by omega, by go_num, by rw [HSP.out]; have h5 := HO4.out.set_ (112 + k) y; rw [← HOR.out] at h5; exact h5⟩
                  case measure => simp [intOf]; omega
                · rw [if_neg hx0] at HSP
                  go_wp2_with fail
                  go_roundw
                  case rel => exact ⟨k + 1, by omega, by go_num, by rw [HSP.out]; exact HO4.out⟩
                  case measure => simp [intOf]; omega
              · obtain rfl : k = ss.length := by omega
                have HO4 := Lib.hid hO
                clear hO HSP
                go_wp2_with fail
                go_ret
                rw [← HBL.out] at HO4
                have hl := HO4.out.len
                exact ⟨w.heap.size, n, by rw [hl]; rfl, by rw [hl]; exact HO4.out.1, HO4.out.2⟩
end Go.Proofs.YtoaepffpjoibaaaGreat

namespace Go.Proofs.YtoaepffpjoibaaaGreat
open Go.RowKit

theorem Rd.of_bx {w : World} {g B : Nat} {t : TypeId} {cs : Array Value} (h : Bx w g t cs) (hg : g < B) : Rd w B (some ⟨g, 0, none⟩) cs.toList := fun _ =>
  ⟨g, 0, rfl, hg, fun j hj => by
    rw [Nat.zero_add, h.cell j]
    simp⟩
def obj4 (m : Bool) : Bk := ⟨0, 4, 1, 0, m, 0⟩
def pairL : List Nat := (buildL 256 [[3, 1], []] [obj4 false, obj4 false] [132]).set 134 132
def oneL : List Nat := buildL 256 [] [obj4 false, obj4 true] []
def twoL : List Nat := pairL.set 132 (oneL[132]?.getD 0)

/-- Whether blocks fit. -/
def fits (n : Nat) (ts : List (List Nat)) (bs : List Bk) (k : Nat) : Prop := (0 ≤ (gk bs k).kind ∧ (gk bs k).kind < 256) ∧ (0 ≤ (gk bs k).typ ∧ (gk bs k).typ < 128) ∧ (2 ≤ (gk bs k).size ∧ (gk bs k).size < 65536) ∧ (bksPut bs (tysPut ts (List.replicate n 0) ts.length, 128) k).2 + (gk bs k).size.toNat ≤ n
instance (n : Nat) (ts : List (List Nat)) (bs : List Bk) (k : Nat) : Decidable (fits n ts bs k) := by unfold fits; infer_instance
theorem fit_pair : ∀ k, k < 2 → fits 256 [[3, 1], []] [obj4 false, obj4 false] k := by decide +kernel
theorem slot_pair : ∀ k, k < 1 → ([132] : List Int)[k]?.getD 0 < 4294967296 ∧ -4294967296 < ([132] : List Int)[k]?.getD 0 := by decide +kernel
theorem fit_one : ∀ k, k < 2 → fits 256 [] [obj4 false, obj4 true] k := by decide +kernel
theorem slot_none : ∀ k, k < 0 → ([] : List Int)[k]?.getD 0 < 4294967296 ∧ -4294967296 < ([] : List Int)[k]?.getD 0 := fun k hk => absurd hk (by omega)
theorem pairB_len : (buildL 256 [[3, 1], []] [obj4 false, obj4 false] [132]).length = 256 := by decide +kernel
theorem pairL_len : pairL.length = 256 := by unfold pairL; rw [List.length_set, pairB_len]
theorem oneL_len : oneL.length = 256 := by decide +kernel
theorem twoL_len : twoL.length = 256 := by unfold twoL; rw [List.length_set, pairL_len]
/-- Behind a store into it the call's own list is the one with the other word. -/
theorem OwnW.set_ {w w1 : World} {xs : List Nat} {g c n : Nat} (hl : xs.length = n) (hown : w1.ownsRow w.heap.size 46 1 (.slice (some ⟨g, 0, none⟩) n c) n (xs.flatMap wordCells)) (hB : Below w.heap.size w w1) (j v : Nat) :
    OwnW w (xs.set j v) (.returned (.slice (some ⟨g, 0, none⟩) n c)) (w1.setCell ⟨g, j, none⟩ (.int .u64 (v : Int))) := by
  have hs := (hown.stored j (.int .u64 (v : Int))).1
  rw [← words_set] at hs
  refine ⟨g, c, by rw [List.length_set, hl], ?_, hB.setCell (p := ⟨g, j, none⟩) (own_base hown) _⟩
  rw [List.length_set, hl]
  exact hs
theorem OwnW.mk_ {w w0 w1 : World} {xs : List Nat} {e : Ending} (hB : Below w.heap.size w w0) (h : OwnW w0 xs e w1) : OwnW w xs e w1 := by
  obtain ⟨g, c, h1, h2, h3⟩ := h
  exact ⟨g, c, h1, own_mono h2 hB.size, hB.trans (h3.mono hB.size)⟩

set_option maxRecDepth 100000 in
set_option maxHeartbeats 2000000 in
theorem pair_c (w : World) : Calls Tryz.prog 19 #[] w fun e w' => OwnW w pairL e w' := by
  have hlen := pairB_len
  have HPL : Hid (pairL = (buildL 256 [[3, 1], []] [obj4 false, obj4 false] [132]).set 134 132) := Lib.hid rfl
  have x0 := Bx.new w 5 #[.int .u8 3, .int .u8 1]
  have x1 := Bx.new (w.alloc (.cells #[.int .u8 3, .int .u8 1] 5)) 5 #[]
  have x2 := Bx.new ((w.alloc (.cells #[.int .u8 3, .int .u8 1] 5)).alloc (.cells #[] 5)) 82 #[.slice (some ⟨w.heap.size, 0, none⟩) 2 2, .slice (some ⟨w.heap.size + 1, 0, none⟩) 0 0]
  have x3 := Bx.new (((w.alloc (.cells #[.int .u8 3, .int .u8 1] 5)).alloc (.cells #[] 5)).alloc (.cells #[.slice (some ⟨w.heap.size, 0, none⟩) 2 2, .slice (some ⟨w.heap.size + 1, 0, none⟩) 0 0] 82)) 48 #[.int .i64 0, .int .i64 4, .int .i64 1, .int .i64 0, .bool false, .int .u64 0, .int .i64 0, .int .i64 4, .int .i64 1, .int .i64 0, .bool false, .int .u64 0]
  have x4 := Bx.new ((((w.alloc (.cells #[.int .u8 3, .int .u8 1] 5)).alloc (.cells #[] 5)).alloc (.cells #[.slice (some ⟨w.heap.size, 0, none⟩) 2 2, .slice (some ⟨w.heap.size + 1, 0, none⟩) 0 0] 82)).alloc (.cells #[.int .i64 0, .int .i64 4, .int .i64 1, .int .i64 0, .bool false, .int .u64 0, .int .i64 0, .int .i64 4, .int .i64 1, .int .i64 0, .bool false, .int .u64 0] 48)) 3 #[.int .i64 132]
  simp only [World.size_alloc] at x0 x1 x2 x3 x4
  replace x0 := (((x0.alloc (.cells #[] 5)).alloc (.cells #[.slice (some ⟨w.heap.size, 0, none⟩) 2 2, .slice (some ⟨w.heap.size + 1, 0, none⟩) 0 0] 82)).alloc (.cells #[.int .i64 0, .int .i64 4, .int .i64 1, .int .i64 0, .bool false, .int .u64 0, .int .i64 0, .int .i64 4, .int .i64 1, .int .i64 0, .bool false, .int .u64 0] 48)).alloc (.cells #[.int .i64 132] 3)
  replace x2 := (x2.alloc (.cells #[.int .i64 0, .int .i64 4, .int .i64 1, .int .i64 0, .bool false, .int .u64 0, .int .i64 0, .int .i64 4, .int .i64 1, .int .i64 0, .bool false, .int .u64 0] 48)).alloc (.cells #[.int .i64 132] 3)
  replace x3 := x3.alloc (.cells #[.int .i64 132] 3)
  have hbz : Below w.heap.size w (((((w.alloc (.cells #[.int .u8 3, .int .u8 1] 5)).alloc (.cells #[] 5)).alloc (.cells #[.slice (some ⟨w.heap.size, 0, none⟩) 2 2, .slice (some ⟨w.heap.size + 1, 0, none⟩) 0 0] 82)).alloc (.cells #[.int .i64 0, .int .i64 4, .int .i64 1, .int .i64 0, .bool false, .int .u64 0, .int .i64 0, .int .i64 4, .int .i64 1, .int .i64 0, .bool false, .int .u64 0] 48)).alloc (.cells #[.int .i64 132] 3)) := by
    refine ((((Below.refl _ _).alloc (Nat.le_refl _) _).alloc ?_ _).alloc ?_ _).alloc ?_ _ |>.alloc ?_ _ <;> simp only [World.size_alloc] <;> omega
  have X := Lib.hid (And.intro x0 (And.intro x2 (And.intro x3 (And.intro x4 hbz))))
  clear x0 x1 x2 x3 x4 hbz
  go_enter Tryz.func19, Tryz.ntmps19
  go_wp2_with fail
  obtain ⟨Z, hZ⟩ : ∃ Z, ((((w.alloc (.cells #[.int .u8 3, .int .u8 1] 5)).alloc (.cells #[] 5)).alloc (.cells #[.slice (some ⟨w.heap.size, 0, none⟩) 2 2, .slice (some ⟨w.heap.size + 1, 0, none⟩) 0 0] 82)).alloc (.cells #[.int .i64 0, .int .i64 4, .int .i64 1, .int .i64 0, .bool false, .int .u64 0, .int .i64 0, .int .i64 4, .int .i64 1, .int .i64 0, .bool false, .int .u64 0] 48)).alloc (.cells #[.int .i64 132] 3) = Z := ⟨_, rfl⟩
  rw [hZ] at X ⊢
  clear hZ
  obtain ⟨x0, x2, x3, x4, hbz⟩ := X.out
  have hT : RdT Z Z.heap.size (some ⟨w.heap.size + 1 + 1, 0, none⟩) [⟨some ⟨w.heap.size, 0, none⟩, 2, [3, 1]⟩, ⟨some ⟨w.heap.size + 1, 0, none⟩, 0, []⟩] := by
    refine ⟨Rd.of_bx x2 x2.lt, fun x hx => ?_⟩
    simp only [List.mem_cons, List.not_mem_nil, or_false] at hx
    rcases hx with rfl | rfl
    · exact ⟨Rd.of_bx x0 x0.lt, show (2 : Nat) ≤ 8 by decide, show kndOk [3, 1] = true by decide⟩
    · exact ⟨Rd.nil_, show (0 : Nat) ≤ 8 by decide, show kndOk [] = true by decide⟩
  have HC := Lib.hid (build_c (some ⟨w.heap.size + 1 + 1, 0, none⟩) (some ⟨w.heap.size + 1 + 1 + 1, 0, none⟩) (some ⟨w.heap.size + 1 + 1 + 1 + 1, 0, none⟩) [⟨some ⟨w.heap.size, 0, none⟩, 2, [3, 1]⟩, ⟨some ⟨w.heap.size + 1, 0, none⟩, 0, []⟩] [obj4 false, obj4 false] [132] 2 2 1 256 Z.heap.size Z (by omega) (by omega) hT (show (2 : Nat) ≤ 8 by decide)
    (show Rd _ _ _ _ from Rd.of_bx x3 x3.lt) (show Rd _ _ _ _ from Rd.of_bx x4 x4.lt) (by decide) (Nat.le_refl _) (by decide)
    (fun k hk => fit_pair k hk) (fun k hk => slot_pair k hk))
  refine HC.out.mono ?_
  rintro e w1 ⟨g, c, rfl, hown, hB⟩
  have hown : w1.ownsRow Z.heap.size 46 1 (.slice (some ⟨g, 0, none⟩) 256 c) 256 ((buildL 256 [[3, 1], []] [obj4 false, obj4 false] [132]).flatMap wordCells) := by
    rw [show (buildL 256 (List.map Ty.l [⟨some ⟨w.heap.size, 0, none⟩, 2, [3, 1]⟩, ⟨some ⟨w.heap.size + 1, 0, none⟩, 0, []⟩]) [obj4 false, obj4 false] [132]) = buildL 256 [[3, 1], []] [obj4 false, obj4 false] [132] from rfl, hlen] at hown
    exact hown
  rw [show (buildL 256 (List.map Ty.l [⟨some ⟨w.heap.size, 0, none⟩, 2, [3, 1]⟩, ⟨some ⟨w.heap.size + 1, 0, none⟩, 0, []⟩]) [obj4 false, obj4 false] [132]) = buildL 256 [[3, 1], []] [obj4 false, obj4 false] [132] from rfl, hlen]
  obtain ⟨bl, hbl⟩ : ∃ bl, buildL 256 [[3, 1], []] [obj4 false, obj4 false] [132] = bl := ⟨_, rfl⟩
  rw [hbl] at hown HPL hlen
  have c0 := (hown.cellAt 134 (by omega)).trans (words_get bl 134 (by rw [hlen]; omega))
  have f0 := hown.frozenAt 134
  obtain ⟨u, hu⟩ : ∃ u, ((bl[134]'(by rw [hlen]; omega) : Nat) : Int) = u := ⟨_, rfl⟩
  rw [hu] at c0
  have HO := Lib.hid hown
  have HB := Lib.hid hB
  have HLN := Lib.hid hlen
  have HBZ := Lib.hid hbz
  clear hu hbl hown hB x0 x2 x3 x4 hT hbz hlen
  go_wp2_with fail
  go_ret
  have := OwnW.mk_ HBZ.out (OwnW.set_ HLN.out HO.out HB.out 134 132)
  rw [← HPL.out] at this
  exact this
end Go.Proofs.YtoaepffpjoibaaaGreat
