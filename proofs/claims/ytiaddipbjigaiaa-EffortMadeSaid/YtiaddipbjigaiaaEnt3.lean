/- The words of a change, its lines, and how many operations it takes: what the program returns. -/
import Derived.Test.YtiaddipbjigaiaaEnt2
import Derived.Test.YtiaddipbjigaiaaArr
import Derived.Test.YtiaddipbjigaiaaCut
namespace Go.Proofs.Ytiaddipbjigaiaa
open Go.RowKit Go.Maps

/-- The words of entries that are right. -/
def entWl : List En → List Nat
  | [] => []
  | e :: l => e.a.toNat :: e.v :: entWl l
def entWords (l : List En) (ws : Int) : List Nat := if entErr (addrs l) ws = 0 then entWl l else []
theorem entWl_len (l : List En) : (entWl l).length = 2 * l.length := by
  induction l with
  | nil => rfl
  | cons e l ih => simp only [entWl, List.length_cons, ih]; omega
theorem entWl_snoc (l : List En) (e : En) : entWl (l ++ [e]) = entWl l ++ [e.a.toNat, e.v] := by
  induction l with
  | nil => rfl
  | cons x l ih => simp [entWl, ih]
def EwRes (l : List En) (ws : Int) (e : Ending) (w' : World) : Prop := ∃ A c, e = .returned (.tuple #[.slice A (entWords l ws).length c, .int .i64 (entErr (addrs l) ws)]) ∧ RdW w' w'.heap.size A (entWords l ws) ∧ (entWords l ws).length ≤ c
theorem infoWord : (Try.prog.info? 35).map (fun i => (i.zero, i.size, i.bytes)) = some (some (.int .u64 0), 1, 8) := by kernel_rfl
theorem ewRes_of_own {H n : Nat} {l : List En} {ws : Int} {v : Value} {w' : World} (h0 : entErr (addrs l) ws = 0) (hn : n = 2 * l.length) (h : w'.ownsRow H 35 1 v n ((entWl l).flatMap wordCells)) : EwRes l ws (.returned (.tuple #[v, .int .i64 0])) w' := by
  have hw : entWords l ws = entWl l := by simp [entWords, h0]
  have hl : (entWords l ws).length = n := by rw [hw, entWl_len, hn]
  have hc : ∃ A c, v = .slice A n c ∧ n ≤ c := by
    rcases h.2 with ⟨rfl, hnil⟩ | ⟨g, cap, cur, rfl, _, _, hle, _⟩
    · exact ⟨none, 0, by rw [hnil], by omega⟩
    · exact ⟨_, _, rfl, hle⟩
  obtain ⟨A, c, rfl, hle⟩ := hc
  refine ⟨A, c, by rw [hl, h0], ?_, by rw [hl]; exact hle⟩
  rw [hw]
  exact Rd.of_own h
theorem ewRes_no {l : List En} {ws r : Int} {w' : World} (hr : entErr (addrs l) ws = r) (h0 : r ≠ 0) : EwRes l ws (.returned (.tuple #[.slice none 0 0, .int .i64 r])) w' := by
  subst hr
  have : entWords l ws = [] := by simp [entWords, h0]
  exact ⟨none, 0, by rw [this]; rfl, by rw [this]; exact Rd.nil_, by rw [this]; simp⟩

theorem news_new' (w : World) (cs : List Value) (t : TypeId) {H : Nat} (h : w.heap.size = H) : ∀ j u, cs[j]? = some u → (w.alloc (.cells cs.toArray t)).cell? ((⟨H, 0, none⟩ : Addr).add j) = some u := by
  subst h; exact news_new w cs t

set_option maxRecDepth 100000 in
set_option maxHeartbeats 1600000 in
theorem entWords_c (A : Option Addr) (l : List En) (c n : Nat) (ws : Int) (w : World) (hn : l.length = n) (hm : n ≤ 9223372036854775807) (hr : RdE w w.heap.size A l) (ho : ∀ e ∈ l, e.ok) :
    Calls Try.prog 46 #[.slice A n c, .int .i64 ws] w fun e w' => EwRes l ws e w' ∧ Below w.heap.size w w' := by
  subst hn
  have HR := Lib.hid hr
  have HO := Lib.hid ho
  clear hr ho
  obtain ⟨i0, hi, hz0, hz1, hz2⟩ := info_parts infoWord
  have HI := Lib.hid hi
  have HZ0 := Lib.hid hz0
  have HZ1 := Lib.hid hz1
  have HZ2 := Lib.hid hz2
  clear hi hz0 hz1 hz2
  go_enter Try.func46, Try.ntmps46
  go_wp2_with fail
  refine (entCheck_c A l c l.length ws w rfl hm HR.out HO.out).mono ?_
  rintro e w0 ⟨rfl, hB0⟩
  have hz0 := hB0.size
  by_cases h0 : entErr (addrs l) ws = 0
  · obtain ⟨hs, h32, hpre⟩ := entErr_zero h0
    rw [addrs_len] at h32
    have HE := Lib.hid h0
    have HP := Lib.hid hpre
    have hw2 := ((sizeOk_iff ws).1 hs).2.1
    rw [h0]
    clear h0 hpre hs
    go_wp2_with fail
    go_loopw [7, 18] (fun v i wr => ∃ k : Nat, k ≤ l.length ∧ i = .int .i64 k ∧ wr.ownsRow w0.heap.size 35 1 v (2 * k) ((entWl (l.take k)).flatMap wordCells) ∧ Below w0.heap.size w0 wr) (fun _ i _ => l.length - (intOf i).toNat)
    case atStart => exact ⟨0, Nat.zero_le _, rfl, World.ownsRow_nil _ _ _ _, Below.refl _ _⟩
    case round =>
      obtain ⟨k, hk, rfl, hown, hB⟩ := hrel
      have hz := hB.size
      by_cases hlt : k < l.length
      · obtain ⟨b, off, rfl, hb, h0, h1⟩ := HR.out.at_ hlt
        have hbb := hB0.trans (hB.mono hz0)
        replace h0 := (hbb.cell (p := ⟨b, off + k * 2, none⟩) hb).trans h0
        replace h1 := (hbb.cell (p := ⟨b, off + k * 2 + 1, none⟩) hb).trans h1
        have hmay := (mayB_iff _ _).1 (entPre_at HP.out (show k < (addrs l).length by rw [addrs_len]; exact hlt)).1
        rw [addrs_get l k hlt] at hmay
        have hvb := (HO.out l[k] (List.getElem_mem hlt)).2.2
        have HN : Hid (∀ x v, l[k].a = x → l[k].v = v → 0 ≤ x → (entWl (l.take (k + 1))).flatMap wordCells = (entWl (l.take k)).flatMap wordCells ++ [.int .u64 x, .int .u64 (v : Int)]) := Lib.hid fun x v h1 h2 h3 => by
          rw [List.take_succ_eq_append_getElem hlt, entWl_snoc, List.flatMap_append, h1, h2]
          simp only [List.flatMap_cons, List.flatMap_nil, wordCells, List.append_nil, List.cons_append, List.nil_append]
          rw [Int.toNat_of_nonneg h3]
        obtain ⟨x, hx⟩ : ∃ x, l[k].a = x := ⟨_, rfl⟩
        obtain ⟨v, hv⟩ : ∃ v, l[k].v = v := ⟨_, rfl⟩
        have HN2 := HN.out x v hx hv
        rw [hx] at h0 hmay
        rw [hv] at h1 hvb
        obtain ⟨m1, m2, -⟩ := hmay
        have hx0 : 0 ≤ x := by omega
        have hx1 : x ≤ 2048 := by omega
        have HN3 := Lib.hid (HN2 hx0)
        have hv0 : (0 : Int) ≤ (v : Int) := by omega
        have ik1 : (0 : Int) ≤ (k : Int) := by omega
        have ik2 : (k : Int) < (l.length : Int) := by omega
        clear HN HN2 hx hv m1 m2 hvb
        go_wp2_with (at_builtin; refine wpList_append_own _ rfl _ _ 80 rfl w0.heap.size 35 i0 _ 1 8 Try.underlying80 HI.out HZ0.out HZ1.out HZ2.out rfl (by decide) _ _ _ rfl ((hown.alloc _).alloc _) ⟨_, 0, none⟩ 2 2 [.int .u64 x, .int .u64 (v : Int)] rfl rfl (news_new' _ _ _ (World.size_alloc _ _)) (by simp [Value.oneCell']) (by unfold maxLen; omega) (by omega) (by simp; omega) ?_; intro v1 w1 hown1 hg1 _)
        have hB1 := below_append (hB.alloc hz (.cells #[.int .i64 x, .int .u64 (v : Int)] 37)) (by simp; omega) (hown.alloc _) hg1
        go_roundw
        case rel => exact ⟨k + 1, by omega, by go_num, by rw [HN3.out, show 2 * (k + 1) = 2 * k + 2 by omega]; exact hown1, hB1⟩
        case measure => simp [intOf]; omega
      · obtain rfl : k = l.length := by omega
        rw [List.take_length] at hown
        go_wp2_with fail
        go_ret2
        exact ⟨ewRes_of_own HE.out rfl hown, hB0.trans (hB.mono hz0)⟩
  · have HX := Lib.hid h0
    obtain ⟨r, hr⟩ : ∃ r, entErr (addrs l) ws = r := ⟨_, rfl⟩
    have hn1 : (r == 0) = false := by rw [← hr, beq_eq_false_iff_ne]; exact h0
    have hn2 : (r != 0) = true := by rw [← hr, bne_iff_ne]; exact h0
    have HRR := Lib.hid hr
    rw [hr]
    clear h0 hr
    go_wp2_with fail
    go_ret2
    exact ⟨ewRes_no HRR.out (by rw [← HRR.out]; exact HX.out), hB0⟩

/-- The lines of the first n addresses, as an array of 256 bools. -/
def LinesOk (cs : Array Value) (ad : List Int) (n : Nat) : Prop := cs.size = 256 ∧ ∀ i, i < 256 → cs[i]? = some (.bool (lineSeen ad (8 * (i : Int)) n))
theorem lines_set {cs : Array Value} {ad : List Int} {k : Nat} {x : Nat} (h : LinesOk cs ad k) (hx : ad[k]?.getD 0 = (x : Int)) : LinesOk (cs.setIfInBounds (x / 8) (.bool true)) ad (k + 1) := by
  refine ⟨by rw [Array.size_setIfInBounds]; exact h.1, fun i hi => ?_⟩
  rw [Array.getElem?_setIfInBounds]
  simp only [lineSeen, hx]
  by_cases e : x / 8 = i
  · subst e
    rw [if_pos rfl, if_pos (by rw [h.1]; exact hi)]
    have : ((x : Int) / 8 == 8 * ((x / 8 : Nat) : Int) / 8) = true := by rw [beq_iff_eq]; omega
    rw [this, Bool.or_true]
  · have : ((x : Int) / 8 == 8 * (i : Int) / 8) = false := by rw [beq_eq_false_iff_ne]; omega
    rw [if_neg e, h.2 i hi, this, Bool.or_false]
def arr256e : Array Value := Array.replicate 256 (.bool false)
theorem zero256e (w : World) : (zeroValue 67).run Try.prog w = .ok (.agg arr256e) w := by kernel_rfl
theorem lines0 (ad : List Int) : LinesOk arr256e ad 0 := ⟨by simp [arr256e], fun i hi => by simp [arr256e, hi, lineSeen]⟩
def LnRes (ad : List Int) (n : Nat) (e : Ending) : Prop := ∃ cs, e = .returned (.agg cs) ∧ LinesOk cs ad n

set_option maxRecDepth 100000 in
set_option maxHeartbeats 1600000 in
theorem lines_c (A : Option Addr) (l : List En) (c n : Nat) (w : World) (hn : l.length = n) (hm : n ≤ 9223372036854775807) (hr : RdE w w.heap.size A l) (ho : ∀ k, k < l.length → 0 ≤ (addrs l)[k]?.getD 0 ∧ (addrs l)[k]?.getD 0 < 2048) :
    Calls Try.prog 51 #[.slice A n c] w fun e w' => LnRes (addrs l) n e ∧ Below w.heap.size w w' := by
  subst hn
  have HR := Lib.hid hr
  have HO := Lib.hid ho
  clear hr ho
  have hzv := zero256e
  go_enter Try.func51, Try.ntmps51
  go_wp2_with fail
  go_loopw [7] (fun i wr => ∃ (k : Nat) (cs : Array Value), k ≤ l.length ∧ i = .int .i64 k ∧ LinesOk cs (addrs l) k ∧ Bx wr w.heap.size 67 cs ∧ Below w.heap.size w wr) (fun i _ => l.length - (intOf i).toNat)
  case atStart => exact ⟨0, _, Nat.zero_le _, rfl, lines0 _, Bx.new w _ _, (Below.refl _ _).alloc (Nat.le_refl _) _⟩
  case round =>
    obtain ⟨k, cs, hk, rfl, hln, bx, hB⟩ := hrel
    have hz := hB.size
    by_cases hlt : k < l.length
    · obtain ⟨b, off, rfl, hb, h0, h1⟩ := HR.out.at_ hlt
      replace h0 := (hB.cell (p := ⟨b, off + k * 2, none⟩) hb).trans h0
      replace h1 := (hB.cell (p := ⟨b, off + k * 2 + 1, none⟩) hb).trans h1
      obtain ⟨o1, o2⟩ := HO.out k hlt
      rw [← addrs_get l k hlt] at h0
      obtain ⟨x, hx⟩ := Int.eq_ofNat_of_zero_le o1
      rw [hx] at h0 o1 o2
      have HX := Lib.hid hx
      have hx8 : x / 8 < 256 := by omega
      have hcell := bx.cell (x / 8)
      rw [hln.2 _ hx8] at hcell
      have hfr := bx.frozen (x / 8)
      have hlt2 := bx.lt
      have HLN := Lib.hid hln
      have HBX := Lib.hid bx
      have ik1 : (0 : Int) ≤ (k : Int) := by omega
      have ik2 : (k : Int) < (l.length : Int) := by omega
      clear hx hln bx
      go_wp2_with fail
      refine ⟨⟨k + 1, _, by omega, by go_num, lines_set HLN.out HX.out, (HBX.out.set_ (x / 8) (.bool true)).alloc _, (hB.setCell (p := ⟨w.heap.size, x / 8, none⟩) (Nat.le_refl _) _).alloc (by simp; omega) _⟩, ?_⟩
      simp [intOf]; omega
    · obtain rfl : k = l.length := by omega
      have hi : (Try.prog.info? 67).map (·.size) = some cs.size := by rw [hln.1]; kernel_rfl
      have h1c : cs.all (·.oneCell') = true := by
        rw [Array.all_eq_true]
        intro i hi
        have h := hln.2 i (by have := hln.1; omega)
        rw [Array.getElem?_eq_getElem hi] at h
        injection h with h
        rw [h]; rfl
      have hself := Lib.hid (setCells_self bx)
      have hth := there_bx bx
      have HLN := Lib.hid hln
      have HBX := Lib.hid bx
      clear hln bx
      go_wp2_with (first
        | (refine wpList_load_row rfl _ _ rfl w.heap.size (by rfl) 67 cs (0, 0) _ HBX.out Try.underlying67 (by rfl) hi ?_)
        | (refine wpList_store_mid rfl _ _ _ rfl w.heap.size 0 cs (by rfl) (by rfl) hth hi h1c ?_; rw [hself.out]))
      refine bodyPost_ret (v := .agg cs) (results_cell_row rfl _ _ w.heap.size _ cs (0, 0) _ (by rfl) HBX.out Try.underlying67 (by rfl) hi) rfl ⟨⟨cs, rfl, HLN.out⟩, hB⟩
end Go.Proofs.Ytiaddipbjigaiaa
