/- Arguments opened: a slice that came in, as data, reads as a list of elements (entries, blocks, words). -/
import Derived.Test.YtoaepffpjoibaaaGreatKPlain
import Derived.ProofKit
import Derived.OpenShut
import Derived.Deep.Slices
import Derived.Deep.Fields
namespace Go.Proofs.YtoaepffpjoibaaaGreat
open Go.ChangeShapes Go.WideShapes Go.RowKit Go.Deep

theorem Tryz.own : ownKnob Tryz.prog.godebug = none := by kernel_rfl
theorem Tryz.laidOut : laidOutB Tryz.prog = true := by kernel_rfl

theorem Rd.of_flat {α : Type} {f : α → List Value} {sz : Nat} {w : World} {B b off : Nat} {l : List α} (hf : ∀ x, (f x).length = sz) (hsz : 0 < sz) (hb : 0 < l.length → b < B)
    (h : ∀ k (hk : k < l.length) j, j < sz → w.cell? ⟨b, off + k * sz + j, none⟩ = (f l[k])[j]?) : Rd w B (some ⟨b, off, none⟩) (l.flatMap f) := by
  intro hn
  have hl := flat_len f sz hf l
  have hpos : 0 < l.length := by
    rcases Nat.eq_zero_or_pos l.length with h0 | h0
    · rw [List.eq_nil_of_length_eq_zero h0] at hn; simp at hn
    · exact h0
  refine ⟨b, off, rfl, hb hpos, fun j hj => ?_⟩
  rw [hl] at hj
  have hk : j / sz < l.length := (Nat.div_lt_iff_lt_mul hsz).2 hj
  have hm : j % sz < sz := Nat.mod_lt _ hsz
  have e : j = j / sz * sz + j % sz := by rw [Nat.mul_comm]; exact (Nat.div_add_mod j sz).symm
  have h1 := h _ hk _ hm
  have h2 := flat_get f sz hf l (j / sz) (j % sz) hk hm
  rw [← h2, Nat.add_assoc, ← e] at h1
  rw [h1]
  exact List.getElem?_eq_getElem (by rw [hl]; exact hj)

section
variable {H : Type} {enc : TypeId × Value → H} {P : Program} {w : World} {base : Nat} {spare : Nat → Bool} {held : Bool}

theorem open_list {α : Type} [Inhabited α] (cells : α → List Value) (ok : α → Prop) (sz : Nat) {t e : TypeId} {fuel len cap : Nat} {A : Option Addr} {x : DataW H × List MemPlace}
    (hf : ∀ x, (cells x).length = sz) (hsz : 0 < sz) (ht : P.underlying t = some (.slice e)) (hC : P.cellsOf e = sz)
    (hdec : ∀ n cs y, DataW.trod enc P w base spare held n e cs = some y → ∃ x : α, cs = cells x ∧ ok x)
    (h : DataW.trod enc P w base spare held fuel t [.slice A len cap] = some x) :
    ∃ l : List α, l.length = len ∧ len ≤ maxLen ∧ len ≤ cap ∧ Rd w w.heap.size A (l.flatMap cells) ∧ ∀ x ∈ l, ok x := by
  rcases open_slice ht h with ⟨h0, _⟩ | ⟨a, len', cap', m, n, D, Pl, hcs, _, hl, hm, hmm, _, hx⟩
  · simp only [List.cons.injEq, Value.slice.injEq, and_true] at h0
    obtain ⟨rfl, rfl, rfl⟩ := h0
    exact ⟨[], rfl, Nat.zero_le _, Nat.zero_le _, Rd.nil_, fun _ h => by simp at h⟩
  · simp only [List.cons.injEq, Value.slice.injEq, and_true] at hcs
    obtain ⟨rfl, rfl, rfl⟩ := hcs
    have hlm : len ≤ m := by rw [hmm]; split <;> omega
    have each : ∀ i, i < len → ∃ y : α, ok y ∧ ∀ j, j < sz → w.cell? ((a.add (i * sz)).add j) = (cells y)[j]? := by
      intro i hi
      obtain ⟨cs', h1, h2⟩ := hx i (by omega)
      rw [hC] at h1
      obtain ⟨_, hlen, hcell⟩ := World.cells?_some h1
      obtain ⟨y, rfl, hy⟩ := hdec _ _ _ h2
      exact ⟨y, hy, fun j hj => hcell j hj⟩
    obtain ⟨g, hg⟩ := choose_lt each
    refine ⟨(List.range len).map g, by simp, by omega, hl, ?_, fun y hy => ?_⟩
    · rcases Nat.eq_zero_or_pos len with h0 | h0
      · subst h0; exact Rd.nil_
      · obtain ⟨b, off, spot⟩ := a
        have hc := (hg 0 h0).2 0 hsz
        have hs : spot = none := by
          have hlt : 0 < (cells (g 0)).length := by rw [hf]; exact hsz
          rw [List.getElem?_eq_getElem hlt] at hc
          simpa [Addr.add] using World.cell?_spot hc
        subst hs
        have hadd : ∀ i j, ((⟨b, off, none⟩ : Addr).add i).add j = ⟨b, off + i + j, none⟩ := fun i j => by
          unfold Addr.add
          by_cases h1 : i = 0 <;> by_cases h2 : j = 0 <;> simp [h1, h2]
        refine Rd.of_flat hf hsz (fun _ => ?_) (fun k hk j hj => ?_)
        · have hlt : 0 < (cells (g 0)).length := by rw [hf]; exact hsz
          rw [List.getElem?_eq_getElem hlt, hadd] at hc
          exact World.block_lt_of_cell? w _ hc
        · have hk' : k < len := by simpa using hk
          have := (hg k hk').2 j hj
          rw [hadd] at this
          rw [this]
          simp
    · obtain ⟨i, hi, rfl⟩ := List.mem_map.1 hy
      exact (hg i (List.mem_range.1 hi)).1
end

theorem wf_bounds {n : Int} (h : (Lit.int .i64 n).wf = true) : -9223372036854775808 ≤ n ∧ n ≤ 9223372036854775807 := by
  simp [Lit.wf, IntKind.min, IntKind.max, IntKind.signed, IntKind.bits] at h; omega
theorem wf_bounds_u {n : Int} (h : (Lit.int .u64 n).wf = true) : 0 ≤ n ∧ n < 18446744073709551616 := by
  simp [Lit.wf, IntKind.min, IntKind.max, IntKind.signed, IntKind.bits] at h; omega

section
variable {H : Type} {enc : TypeId × Value → H} {w : World} {base : Nat} {spare : Nat → Bool} {held : Bool}

theorem dec_int {n : Nat} {cs : List Value} {y : DataW H × List MemPlace} (h : DataW.trod enc Tryz.prog w base spare held n 3 cs = some y) :
    ∃ x : Int, cs = intCells x ∧ -9223372036854775808 ≤ x ∧ x ≤ 9223372036854775807 := by
  obtain ⟨x, hc, _, hw⟩ := DataW.trod_int Tryz.underlying3 h
  exact ⟨x, hc, wf_bounds hw⟩
theorem dec_word {n : Nat} {cs : List Value} {y : DataW H × List MemPlace} (h : DataW.trod enc Tryz.prog w base spare held n 46 cs = some y) :
    ∃ x : Nat, cs = wordCells x ∧ x < 18446744073709551616 := by
  obtain ⟨x, hc, _, hw⟩ := DataW.trod_int Tryz.underlying46 h
  obtain ⟨h0, h1⟩ := wf_bounds_u hw
  refine ⟨x.toNat, ?_, by omega⟩
  rw [hc, wordCells, Int.toNat_of_nonneg h0]
theorem trod_fields {P : Program} {e : TypeId} {fs : Array Field} {n : Nat} {cs : List Value} {y : DataW H × List MemPlace} (he : P.underlying e = some (.struct fs)) (hone : oneCellFields P fs = true) (hC : P.cellsOf e = fs.size)
    (h : DataW.trod enc P w base spare held n e cs = some y) : cs.length = fs.size ∧ ∃ k, ∀ (i : Nat) (f : Field), fs[i]? = some f → ∃ v y, cs[i]? = some v ∧ DataW.trod enc P w base spare held k f.type [v] = some y := by
  obtain ⟨xs, k, _, _, hlen, hxl, hg⟩ := DataW.trod_struct he h
  refine ⟨hlen.trans hC, k, fun i f hi => ?_⟩
  obtain ⟨ho, hk⟩ := hone_of hone i f hi
  have hil : i < fs.size := (Array.getElem?_eq_some_iff.1 hi).1
  have hic : i < cs.length := by rw [hlen, hC]; exact hil
  have h1 := hg i f hi
  rw [ho, hk] at h1
  have h2 : (cs.drop i).take 1 = [cs[i]] := by
    rw [List.drop_eq_getElem_cons hic]
    rfl
  rw [h2] at h1
  exact ⟨cs[i], xs[i]'(by rw [hxl]; exact hil), List.getElem?_eq_getElem hic, h1.trans (List.getElem?_eq_getElem (by rw [hxl]; exact hil))⟩
theorem dec_entry {n : Nat} {cs : List Value} {y : DataW H × List MemPlace} (h : DataW.trod enc Tryz.prog w base spare held n 53 cs = some y) : ∃ x : En, cs = x.cells ∧ x.ok := by
  obtain ⟨hl, k, hg⟩ := trod_fields Tryz.underlying53 (by kernel_rfl) (by kernel_rfl) h
  obtain ⟨v0, y0, e0, g0⟩ := hg 0 _ rfl
  obtain ⟨v1, y1, e1, g1⟩ := hg 1 _ rfl
  obtain ⟨a, ha, ha1, ha2⟩ := dec_int g0
  obtain ⟨v, hv, hv1⟩ := dec_word g1
  simp only [intCells, wordCells, List.cons.injEq, and_true] at ha hv
  match cs, hl with
  | [w0, w1], _ =>
    simp only [List.getElem?_cons_zero, List.getElem?_cons_succ, Option.some.injEq] at e0 e1
    subst e0
    subst e1
    exact ⟨⟨a, v⟩, by rw [ha, hv]; rfl, ha1, ha2, hv1⟩
theorem dec_bool {n : Nat} {cs : List Value} {y : DataW H × List MemPlace} (h : DataW.trod enc Tryz.prog w base spare held n 4 cs = some y) : ∃ x : Bool, cs = [.bool x] := by
  obtain ⟨x, hc, _⟩ := DataW.trod_bool Tryz.underlying4 h
  exact ⟨x, hc⟩
theorem dec_block {n : Nat} {cs : List Value} {y : DataW H × List MemPlace} (h : DataW.trod enc Tryz.prog w base spare held n 48 cs = some y) : ∃ x : Bk, cs = x.cells ∧ x.ok := by
  obtain ⟨hl, k, hg⟩ := trod_fields Tryz.underlying48 (by kernel_rfl) (by kernel_rfl) h
  obtain ⟨v0, y0, e0, g0⟩ := hg 0 _ rfl
  obtain ⟨v1, y1, e1, g1⟩ := hg 1 _ rfl
  obtain ⟨v2, y2, e2, g2⟩ := hg 2 _ rfl
  obtain ⟨v3, y3, e3, g3⟩ := hg 3 _ rfl
  obtain ⟨v4, y4, e4, g4⟩ := hg 4 _ rfl
  obtain ⟨v5, y5, e5, g5⟩ := hg 5 _ rfl
  obtain ⟨a0, h0, b0⟩ := dec_int g0
  obtain ⟨a1, h1, b1⟩ := dec_int g1
  obtain ⟨a2, h2, b2⟩ := dec_int g2
  obtain ⟨a3, h3, b3⟩ := dec_int g3
  obtain ⟨a4, h4⟩ := dec_bool g4
  obtain ⟨a5, h5, b5⟩ := dec_word g5
  simp only [intCells, wordCells, List.cons.injEq, and_true] at h0 h1 h2 h3 h4 h5
  match cs, hl with
  | [w0, w1, w2, w3, w4, w5], _ =>
    simp only [List.getElem?_cons_zero, List.getElem?_cons_succ, Option.some.injEq] at e0 e1 e2 e3 e4 e5
    subst e0 e1 e2 e3 e4 e5
    exact ⟨⟨a0, a1, a2, a3, a4, a5⟩, by rw [h0, h1, h2, h3, h4, h5]; rfl, b0, b1, b2, b3, b5⟩

/-- What the walk is told of a slice that came in. -/
theorem open_entries {fuel len cap : Nat} {A : Option Addr} {x : DataW H × List MemPlace} (h : DataW.trod enc Tryz.prog w base spare held fuel 30 [.slice A len cap] = some x) :
    ∃ l : List En, l.length = len ∧ len ≤ maxLen ∧ len ≤ cap ∧ RdE w w.heap.size A l ∧ ∀ x ∈ l, x.ok :=
  open_list En.cells En.ok 2 En.len (by omega) Tryz.underlying30 (by kernel_rfl) (fun _ _ _ h => dec_entry h) h
theorem open_blocks {fuel len cap : Nat} {A : Option Addr} {x : DataW H × List MemPlace} (h : DataW.trod enc Tryz.prog w base spare held fuel 37 [.slice A len cap] = some x) :
    ∃ l : List Bk, l.length = len ∧ len ≤ maxLen ∧ len ≤ cap ∧ RdB w w.heap.size A l ∧ ∀ x ∈ l, x.ok :=
  open_list Bk.cells Bk.ok 6 Bk.len (by omega) Tryz.underlying37 (by kernel_rfl) (fun _ _ _ h => dec_block h) h
theorem open_words {fuel len cap : Nat} {A : Option Addr} {x : DataW H × List MemPlace} (h : DataW.trod enc Tryz.prog w base spare held fuel 22 [.slice A len cap] = some x) :
    ∃ l : List Nat, l.length = len ∧ len ≤ maxLen ∧ len ≤ cap ∧ RdW w w.heap.size A l ∧ ∀ x ∈ l, x < 18446744073709551616 :=
  open_list wordCells (fun x => x < 18446744073709551616) 1 wordCells_len (by omega) Tryz.underlying22 (by kernel_rfl) (fun _ _ _ h => dec_word h) h
end
end Go.Proofs.YtoaepffpjoibaaaGreat
