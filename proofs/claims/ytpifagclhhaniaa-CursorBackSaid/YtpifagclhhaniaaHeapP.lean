/- Sums of words, headers of blocks, and the blocks of a heap, as plain functions of lists of numbers. -/
import Derived.Test.YtpifagclhhaniaaBase
namespace Go.Proofs.Ytpifagclhhaniaa

/-! Sums -/
def fnvB (s b : Nat) : Nat := ((s ^^^ b) * 1099511628211) % 18446744073709551616
def byteOf (w i : Nat) : Nat := w / 256 ^ i % 256
/-- The state behind the first k bytes of a word. -/
def fnvN (s w : Nat) : Nat → Nat
  | 0 => s
  | k + 1 => fnvB (fnvN s w k) (byteOf w k)
def fnvW (s w : Nat) : Nat := fnvN s w 8
def sumFrom (s : Nat) : List Nat → Nat
  | [] => s
  | w :: l => sumFrom (fnvW s w) l
def sum1 (w : Nat) : Nat := fnvW 14695981039346656037 w
theorem byteOf_lt (w i : Nat) : byteOf w i < 256 := Nat.mod_lt _ (by omega)
theorem fnvB_lt (s b : Nat) : fnvB s b < 18446744073709551616 := Nat.mod_lt _ (by omega)
theorem fnvN_lt {s : Nat} (hs : s < 18446744073709551616) (w k : Nat) : fnvN s w k < 18446744073709551616 := by
  cases k with
  | zero => exact hs
  | succ k => exact fnvB_lt _ _
theorem fnvW_lt {s : Nat} (hs : s < 18446744073709551616) (w : Nat) : fnvW s w < 18446744073709551616 := fnvN_lt hs w 8
theorem sumFrom_lt {s : Nat} (hs : s < 18446744073709551616) (l : List Nat) : sumFrom s l < 18446744073709551616 := by
  induction l generalizing s with
  | nil => exact hs
  | cons w l ih => exact ih (fnvW_lt hs w)
theorem sumFrom_append (s : Nat) (a b : List Nat) : sumFrom s (a ++ b) = sumFrom (sumFrom s a) b := by
  induction a generalizing s with
  | nil => rfl
  | cons w a ih => exact ih _
theorem sumFrom_take {l : List Nat} {k : Nat} (h : k < l.length) (s : Nat) : sumFrom s (l.take (k + 1)) = fnvW (sumFrom s (l.take k)) l[k] := by
  rw [List.take_succ_eq_append_getElem h, sumFrom_append]; rfl
/-- The reference's step. -/
theorem xor_low (s b : Nat) (hb : b < 256) : s - s % 256 + ((s % 256) ^^^ b) = s ^^^ b := by
  have h1 : (s % 256) ^^^ b < 2 ^ 8 := Nat.xor_lt_two_pow (Nat.mod_lt _ (by omega)) hb
  have h2 : s - s % 256 = 2 ^ 8 * (s / 256) := by have := Nat.div_add_mod s 256; omega
  apply Nat.eq_of_testBit_eq
  intro j
  rw [h2, Nat.testBit_two_pow_mul_add _ h1, Nat.testBit_xor]
  split
  · rename_i hj
    rw [Nat.testBit_xor, show (256 : Nat) = 2 ^ 8 from rfl, Nat.testBit_mod_two_pow]
    simp [hj]
  · rename_i hj
    have hb2 : b.testBit j = false := Nat.testBit_lt_two_pow (Nat.lt_of_lt_of_le hb (by
      have : 2 ^ 8 ≤ 2 ^ j := Nat.pow_le_pow_right (by omega) (by omega)
      simpa using this))
    rw [Nat.testBit_xor, hb2, Bool.xor_false, show (256 : Nat) = 2 ^ 8 from rfl, ← Nat.shiftRight_eq_div_pow, Nat.testBit_shiftRight]
    congr 1; omega

/-! Headers -/
/-- Whether a block has a header. -/
def hdOk (b : Bk) : Bool := (decide (2 ≤ b.size) && b.size % 2 == 0) && ((b.kind == 1 && (decide (0 ≤ b.typ) && (decide (b.typ < 8) && decide (b.size ≤ 10)))) || (b.kind == 2 && (b.typ == 0 && (!b.mark && decide (b.size ≤ 1920)))))
theorem hdOk_iff (b : Bk) : hdOk b = true ↔ (2 ≤ b.size ∧ b.size % 2 = 0) ∧ (b.kind = 1 ∧ 0 ≤ b.typ ∧ b.typ < 8 ∧ b.size ≤ 10 ∨ b.kind = 2 ∧ b.typ = 0 ∧ b.mark = false ∧ b.size ≤ 1920) := by
  simp only [hdOk, Bool.and_eq_true, Bool.or_eq_true, beq_iff_eq, decide_eq_true_eq, Bool.not_eq_true']
def mk01 (m : Bool) : Nat := if m then 1 else 0
/-- The lower half of a header. -/
def lowOf (b : Bk) : Nat := b.kind.toNat + mk01 b.mark * 256 + b.typ.toNat * 512 + b.size.toNat * 65536
/-- The header of a block. -/
def headW (b : Bk) : Nat := lowOf b + sum1 (lowOf b) % 4294967296 * 4294967296
/-- The block that a word says, if it is a header. -/
def rawBk (w : Nat) : Bk := ⟨0, (w / 65536 % 65536 : Nat), (w % 256 : Nat), (w / 512 % 128 : Nat), w / 256 % 2 == 1, 0⟩
def splitOk (w : Nat) : Bool := hdOk (rawBk w) && headW (rawBk w) == w
theorem mk01_le (m : Bool) : mk01 m ≤ 1 := by cases m <;> simp [mk01]
theorem hdOk_bd {b : Bk} (h : hdOk b = true) : b.kind.toNat < 256 ∧ b.typ.toNat < 128 ∧ b.size.toNat < 65536 ∧ 0 ≤ b.kind ∧ 0 ≤ b.typ ∧ 0 ≤ b.size ∧ b.size ≤ 1920 := by
  have := (hdOk_iff b).1 h
  omega
theorem lowOf_lt {b : Bk} (h : hdOk b = true) : lowOf b < 4294967296 := by
  obtain ⟨h1, h2, h3, -⟩ := hdOk_bd h
  have := mk01_le b.mark
  unfold lowOf; omega
theorem headW_lt {b : Bk} (h : hdOk b = true) : headW b < 18446744073709551616 := by
  have h1 := lowOf_lt h
  have h2 : sum1 (lowOf b) % 4294967296 < 4294967296 := Nat.mod_lt _ (by omega)
  unfold headW; omega
theorem raw_head {b : Bk} (h : hdOk b = true) : rawBk (headW b) = ⟨0, b.size, b.kind, b.typ, b.mark, 0⟩ := by
  obtain ⟨h1, h2, h3, h4, h5, h6, h7⟩ := hdOk_bd h
  have hm := mk01_le b.mark
  unfold rawBk headW
  generalize sum1 (lowOf b) % 4294967296 = t
  have hl : lowOf b = b.kind.toNat + mk01 b.mark * 256 + b.typ.toNat * 512 + b.size.toNat * 65536 := rfl
  generalize lowOf b = q at *
  generalize hmm : mk01 b.mark = m at *
  have e1 : (q + t * 4294967296) / 65536 % 65536 = b.size.toNat := by omega
  have e2 : (q + t * 4294967296) % 256 = b.kind.toNat := by omega
  have e3 : (q + t * 4294967296) / 512 % 128 = b.typ.toNat := by omega
  have e4 : (q + t * 4294967296) / 256 % 2 = m := by omega
  rw [e1, e2, e3, e4]
  congr 1
  · omega
  · omega
  · omega
  · rw [← hmm]; cases b.mark <;> simp [mk01]
theorem head_congr {a b : Bk} (h1 : a.size = b.size) (h2 : a.kind = b.kind) (h3 : a.typ = b.typ) (h4 : a.mark = b.mark) : headW a = headW b ∧ hdOk a = hdOk b := by
  unfold headW lowOf hdOk
  rw [h1, h2, h3, h4]
  exact ⟨rfl, rfl⟩
theorem split_head {b : Bk} (h : hdOk b = true) : splitOk (headW b) = true := by
  unfold splitOk
  rw [raw_head h]
  have := head_congr (a := ⟨0, b.size, b.kind, b.typ, b.mark, 0⟩) (b := b) rfl rfl rfl rfl
  rw [this.1, this.2, h]; simp

/-! The blocks of a heap -/
def wd (ws : List Nat) (i : Nat) : Nat := ws[i]?.getD 0
/-- The block at an address. -/
def bkAt (ws : List Nat) (i : Nat) : Bk := { rawBk (wd ws i) with at_ := (i : Nat), next := wd ws (i + 1) }
def stands (ws : List Nat) (i : Nat) : Bool := splitOk (wd ws i) && decide ((rawBk (wd ws i)).size ≤ (ws.length : Int) - i)
def szAt (ws : List Nat) (i : Nat) : Nat := wd ws i / 65536 % 65536
/-- The blocks from an address on; none: they cannot be parsed. -/
def fromL (ws : List Nat) : Nat → Nat → Option (List Bk)
  | 0, i => if ws.length ≤ i then some [] else none
  | f + 1, i => if ws.length ≤ i then some [] else if stands ws i then (fromL ws f (i + szAt ws i)).map (bkAt ws i :: ·) else none
def blocks (ws : List Nat) (i : Nat) : Option (List Bk) := fromL ws ws.length i
theorem stands_sz {ws : List Nat} {i : Nat} (h : stands ws i = true) : 2 ≤ szAt ws i ∧ szAt ws i % 2 = 0 ∧ i + szAt ws i ≤ ws.length := by
  unfold stands splitOk at h
  simp only [Bool.and_eq_true, decide_eq_true_eq] at h
  obtain ⟨⟨h1, _⟩, h2⟩ := h
  have h3 := (hdOk_iff _).1 h1
  simp only [rawBk] at h2 h3
  unfold szAt
  omega
theorem fromL_more {ws : List Nat} {f i : Nat} (h : ws.length - i ≤ f) : ∀ {g : Nat}, ws.length - i ≤ g → fromL ws f i = fromL ws g i := by
  induction f generalizing i with
  | zero =>
    intro g _
    cases g with
    | zero => rfl
    | succ g => simp only [fromL]; rw [if_pos (by omega), if_pos (by omega)]
  | succ f ih =>
    intro g hg
    cases g with
    | zero => simp only [fromL]; rw [if_pos (by omega), if_pos (by omega)]
    | succ g =>
      simp only [fromL]
      split
      · rfl
      · split
        · rename_i hs
          have := stands_sz hs
          rw [ih (i := i + szAt ws i) (by omega) (g := g) (by omega)]
        · rfl
/-- One step. -/
theorem blocks_end {ws : List Nat} {i : Nat} (h : ws.length ≤ i) : blocks ws i = some [] := by
  unfold blocks
  cases hn : ws.length with
  | zero => simp [fromL, hn]
  | succ n => rw [fromL, if_pos (by omega)]
theorem blocks_step {ws : List Nat} {i : Nat} (h : i < ws.length) (hs : stands ws i = true) : blocks ws i = (blocks ws (i + szAt ws i)).map (bkAt ws i :: ·) := by
  have hsz := stands_sz hs
  unfold blocks
  rw [fromL_more (f := ws.length) (i := i) (by omega) (g := ws.length + 1) (by omega), fromL, if_neg (by omega), if_pos hs]
theorem blocks_bad {ws : List Nat} {i : Nat} (h : i < ws.length) (hs : stands ws i = false) : blocks ws i = none := by
  unfold blocks
  rw [fromL_more (f := ws.length) (i := i) (by omega) (g := ws.length + 1) (by omega), fromL, if_neg (by omega), if_neg (by rw [hs]; exact Bool.false_ne_true)]
end Go.Proofs.Ytpifagclhhaniaa
