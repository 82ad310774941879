/- Rows of blocks: starts, and what Places gives (the parts that stand without the reference of rows). -/
import Derived.Test.YtpifagclhhaniaaBrkC
import Derived.Test.YtpifagclhhaniaaBrkI
import Derived.Test.YtpifagclhhaniaaBrkX
namespace Go.Proofs.Ytpifagclhhaniaa
open Go.RowKit Go.Shelf
attribute [local go_sem] Oper.semAt_some

theorem infoInt : (Try.prog.info? 3).map (fun i => (i.zero, i.size, i.bytes)) = some (some (.int .i64 0), 1, 8) := by kernel_rfl
def Bk.arr (b : Bk) : Array Value := #[.int .i64 b.at_, .int .i64 b.size, .int .i64 b.kind, .int .i64 b.typ, .bool b.mark, .int .u64 (b.next : Int)]
theorem bx_own {β : Type} (B : Nat) (t : TypeId) (f : β → Array Value) : Own (fun s W => Bx W B t (f s)) := fun s X Y row hs hg hrow =>
  Bx.grown hs hg (fun e' => by obtain ⟨o, ho, hc⟩ := hrow B e'.symm; rw [show X.heap[B]? = _ from hs] at ho; cases ho; cases hc)

/-- The sizes of some blocks of a row, together. -/
def szSum (l : List Bk) : List (Idx l) → Int
  | [] => 0
  | x :: p => szSum l p + (gk l x.1).size
theorem szSum_snoc (l : List Bk) (p : List (Idx l)) (x : Idx l) : szSum l (p ++ [x]) = szSum l p + (gk l x.1).size := by
  induction p with
  | nil => simp [szSum]
  | cons y p ih => simp only [List.cons_append, szSum, ih]; omega
theorem szSum_bd {l : List Bk} (h : rowErr l = 0) (p : List (Idx l)) : 0 ≤ szSum l p ∧ szSum l p ≤ 2048 * p.length := by
  induction p with
  | nil => simp [szSum]
  | cons y p ih =>
    have := (bkOk_iff _).1 (rowPre_at (rowErr_zero h).2 y.2).1
    simp only [szSum, List.length_cons]; omega
theorem szSum_lp {l : List Bk} {k : Nat} (hk : k ≤ l.length) (s : Int) : s + szSum l (lp l k) = endOf (l.take k) s := by
  induction k with
  | zero => simp [lp, szSum, endOf]
  | succ k ih =>
    have := ih (by omega)
    rw [endOf_take (by omega), ← gk_get l k (by omega)]
    cases hb : liveB (gk l k)
    · rw [lp_no hb, this]; simp
    · rw [lp_yes (by omega) hb, szSum_snoc]; simp; omega
theorem size_bd {l : List Bk} (h : rowErr l = 0) (x : Idx l) : 2 ≤ (gk l x.1).size ∧ (gk l x.1).size ≤ 2048 := by
  have := (bkOk_iff _).1 (rowPre_at (rowErr_zero h).2 x.2).1
  omega

set_option maxRecDepth 100000 in
set_option maxHeartbeats 800000 in
theorem started_c (A : Option Addr) (l : List Bk) (c n : Nat) (s : Int) (w : World) (hn : l.length = n) (hm : n ≤ 9223372036854775807) (hr : RdB w w.heap.size A l) (hs : -9223372036854775808 ≤ s ∧ s ≤ 9223372036854775807) :
    Calls Try.prog 91 #[.slice A n c, .int .i64 s] w fun e w' => e = .returned (.int .i64 (stErr l s)) ∧ Below w.heap.size w w' := by
  subst hn
  have HR := Lib.hid hr
  clear hr
  have HS8 : Hid (rowErr l ≠ 0 → stErr l s = rowErr l) := fun h => stErr_8 h
  have HS2 : Hid (rowErr l = 0 → s < 128 ∨ most l < s ∨ s % 2 ≠ 0 → stErr l s = 2) := fun h h2 => stErr_2 h h2
  have HS0 : Hid (rowErr l = 0 → 128 ≤ s ∧ s ≤ most l ∧ s % 2 = 0 → stErr l s = 0) := fun h h2 => stErr_0 h h2
  obtain ⟨sb1, sb2⟩ := hs
  have hev : Hid (s % 2 = 0) ∧ (s % 2 != 0) = false ∨ Hid (s % 2 ≠ 0) ∧ (s % 2 != 0) = true := by
    by_cases h : s % 2 = 0
    · exact .inl ⟨h, by rw [bne_eq_false_iff_eq]; exact h⟩
    · exact .inr ⟨h, by rw [bne_iff_ne]; exact h⟩
  have hmo : Hid (most l = 2048) ∧ l.length = 0 ∨ 0 < l.length := by
    by_cases h : l.length = 0
    · exact .inl ⟨by simp [Hid, most, h], h⟩
    · exact .inr (by omega)
  rcases hev with ⟨HEV, hbv⟩ | ⟨HEV, hbv⟩
  all_goals
    go_enter Try.func91, Try.ntmps91
    go_wp2_with fail
    refine (check_c A l c l.length _ rfl hm HR.out).mono ?_
    rintro e w1 ⟨rfl, hB1⟩
    by_cases hr0 : rowErr l = 0
    · have HR0 := Lib.hid hr0
      rw [hr0]
      clear hr0
      rcases hmo with ⟨HM, hl0⟩ | hl
      · have hl : ¬ 0 < l.length := by omega
        clear hl0
        go_wp2_with fail
        all_goals
          go_ret
          first
            | exact ⟨by rw [HS2.out HR0.out (by rw [HM.out]; have := HEV.out; omega)]; rfl, hB1⟩
            | exact ⟨by rw [HS0.out HR0.out (by rw [HM.out]; have := HEV.out; omega)]; rfl, hB1⟩
      · obtain ⟨b, off, rfl, hb, h0, -⟩ := HR.out.at_ hl
        replace h0 := (hB1.cell (p := ⟨b, off + 0 * 6, none⟩) hb).trans h0
        have hmost := Lib.hid (show most l = l[0].at_ by simp only [most, show l.length ≠ 0 from by omega, if_false]; rw [gk_get l 0 hl])
        simp only [Nat.zero_mul, Nat.add_zero] at h0
        obtain ⟨mo, hmo⟩ : ∃ x, l[0].at_ = x := ⟨_, rfl⟩
        rw [hmo] at h0
        have HM := Lib.hid (show most l = mo by rw [hmost.out, hmo])
        have hdd : (0 : Int) < (l.length : Int) := by omega
        clear hmo hmost
        go_wp2_with fail
        all_goals
          go_ret
          first
            | exact ⟨by rw [HS2.out HR0.out (by rw [HM.out]; have := HEV.out; omega)]; rfl, hB1⟩
            | exact ⟨by rw [HS0.out HR0.out (by rw [HM.out]; have := HEV.out; omega)]; rfl, hB1⟩
    · have h8 := Lib.hid (HS8.out hr0)
      have hn1 : (rowErr l == 0) = false := by rw [beq_eq_false_iff_ne]; exact hr0
      have hn2 : (rowErr l != 0) = true := by rw [bne_iff_ne]; exact hr0
      clear hr0
      go_wp2_with fail
      go_ret
      exact ⟨by rw [h8.out]; rfl, hB1⟩
/-- What Places gives, as a list. -/
def plOut (l : List Bk) (s : Int) : List Int := if stErr l s = 0 then placesOf l s else []
/-- What Places gives: a slice that reads as that list, in memory of the call's own, and the error. -/
def PlRes (l : List Bk) (s : Int) (e : Ending) (w' : World) : Prop := ∃ A c, e = .returned (.tuple #[.slice A (plOut l s).length c, .int .i64 (stErr l s)]) ∧ RdI w' w'.heap.size A (plOut l s) ∧ (plOut l s).length ≤ c
theorem stErr_bd {l : List Bk} {s : Int} (h : stErr l s = 0) {k : Nat} (hk : k ≤ l.length) : 0 ≤ endOf (l.take k) s ∧ endOf (l.take k) s ≤ 1000000 := by
  obtain ⟨h1, h2, h3, _⟩ := stErr_zero h
  have := endOf_bd h1 hk h2 h3
  omega
theorem plRes_of_own {H n : Nat} {l : List Bk} {s : Int} {v : Value} {w' : World} (h0 : stErr l s = 0) (hn : l.length = n) (h : w'.ownsRow H 3 1 v n ((placesOf l s).flatMap intCells)) : PlRes l s (.returned (.tuple #[v, .int .i64 0])) w' := by
  subst hn
  have hl : (plOut l s).length = l.length := by simp [plOut, h0, placesOf_len]
  have hc : ∃ A c, v = .slice A l.length c ∧ l.length ≤ c := by
    rcases h.2 with ⟨rfl, hnil⟩ | ⟨g, cap, cur, rfl, _, _, hle, _⟩
    · exact ⟨none, 0, by rw [hnil], by omega⟩
    · exact ⟨_, _, rfl, hle⟩
  obtain ⟨A, c, rfl, hle⟩ := hc
  refine ⟨A, c, by rw [hl, h0], ?_, by rw [hl]; exact hle⟩
  have := Rd.of_own h
  simpa [RdI, plOut, h0] using this
theorem plRes_no {l : List Bk} {s r : Int} {w' : World} (hr : stErr l s = r) (h0 : r ≠ 0) : PlRes l s (.returned (.tuple #[.slice none 0 0, .int .i64 r])) w' := by
  subst hr
  have : plOut l s = [] := by simp [plOut, h0]
  exact ⟨none, 0, by rw [this]; rfl, by rw [this]; exact Rd.nil_, by rw [this]; simp⟩

end Go.Proofs.Ytpifagclhhaniaa
