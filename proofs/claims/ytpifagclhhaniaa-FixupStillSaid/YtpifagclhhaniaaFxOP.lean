/- Fixing an object: what stands in its references after it (plain). -/
import Derived.Test.YtpifagclhhaniaaFxSP
namespace Go.Proofs.Ytpifagclhhaniaa

theorem rfTo_pair (F : List Nat) (a : Int) (j : Nat) : (rfTo F a j).Pairwise (· < ·) := by
  induction j with
  | zero => exact List.Pairwise.nil
  | succ j ih =>
    rw [rfTo_succ, List.pairwise_append]
    refine ⟨ih, by split <;> simp, fun x hx y hy => ?_⟩
    obtain ⟨i, i1, -, i3⟩ := rfTo_mem.1 hx
    split at hy
    · simp only [List.mem_singleton] at hy
      omega
    · cases hy
/-- How a reference stands when it is fixed. -/
def okFx (ws x : List Nat) (M : List (Int × Int)) (r : Nat) : Prop := (wd ws r = 0 ∧ wd x r = 0) ∨ (0 < wd ws r ∧ ∃ t m : Nat, mvTo M (wd ws r : Int) = some (t : Int) ∧ wd x r = t ∧ t < 2048 ∧ wd ws r = m ∧ m < ws.length)
theorem obFix_inv {ws : List Nat} {M : List (Int × Int)} {l : List Int} {f : Nat → Nat} (hM : ∀ a t, mvTo M a = some t → ∃ n : Nat, t = (n : Int) ∧ n < 2048 ∧ ∃ m : Nat, a = (m : Int) ∧ m < ws.length)
    (hl : ∀ i (hi : i < l.length), l[i] = (f i : Int)) (hf : ∀ i, i < l.length → f i < ws.length) (hi : ∀ i j, i < j → j < l.length → f i < f j) : ∀ k, k ≤ l.length → ∀ o, obFix ws M (l.take k) = some o →
    (∀ e ∈ o, ∃ i, i < k ∧ e.a = (f i : Int) ∧ wd ws (f i) ≠ e.v ∧ e.v < 2048) ∧ o.Pairwise (fun a b => a.a < b.a) ∧ (∀ i, i < k → okFx ws (putE ws o) M (f i)) := by
  intro k
  induction k with
  | zero =>
    intro _ o h
    simp only [List.take_zero, obFix, Option.some.injEq] at h
    subst h
    exact ⟨fun e he => (by cases he), List.Pairwise.nil, fun i h => absurd h (by omega)⟩
  | succ k ih =>
    intro hk o h
    have hkl : k < l.length := by omega
    cases hx : obFix ws M (l.take k) with
    | none =>
      rw [List.take_succ_eq_append_getElem hkl, obFix_append, hx] at h
      cases h
    | some o1 =>
    rw [obFix_take hkl hx, hl k hkl, Int.toNat_natCast] at h
    obtain ⟨i1, i2, i3⟩ := ih (by omega) o1 hx
    have hold : wd (putE ws o1) (f k) = wd ws (f k) := putE_wd o1 ws _ fun e he => by
      obtain ⟨i, h1, h2, -⟩ := i1 e he
      have := hi i k h1 hkl
      rw [h2]; omega
    have hnil : okFx ws (putE ws o1) M (f k) → (∀ e ∈ o1, ∃ i, i < k + 1 ∧ e.a = (f i : Int) ∧ wd ws (f i) ≠ e.v ∧ e.v < 2048) ∧ o1.Pairwise (fun a b => a.a < b.a) ∧ (∀ i, i < k + 1 → okFx ws (putE ws o1) M (f i)) := by
      intro h3
      refine ⟨fun e he => ?_, i2, fun i hi => ?_⟩
      · obtain ⟨i, j1, j2, j3, j4⟩ := i1 e he
        exact ⟨i, by omega, j2, j3, j4⟩
      · rcases Nat.lt_or_ge i k with h5 | h5
        · exact i3 i h5
        · have : i = k := by omega
          subst this
          exact h3
    unfold obStep at h
    by_cases h0 : wd ws (f k) = 0
    · rw [if_pos h0] at h
      simp only [Option.map_some, Option.some.injEq, List.append_nil] at h
      subst h
      exact hnil (.inl ⟨h0, by rw [hold, h0]⟩)
    · rw [if_neg h0] at h
      cases hq : fixOf M (wd ws (f k)) with
      | none => rw [hq] at h; cases h
      | some t =>
        rw [hq] at h
        have hm : mvTo M (wd ws (f k) : Int) = some t := by
          unfold fixOf at hq
          split at hq
          · cases hq
          · exact hq
        obtain ⟨n, rfl, hn, m, em, hm2⟩ := hM _ _ hm
        dsimp only at h
        by_cases he : (wd ws (f k) : Int) = (n : Int)
        · rw [if_pos he] at h
          simp only [Option.map_some, Option.some.injEq, List.append_nil] at h
          subst h
          exact hnil (.inr ⟨by omega, n, m, hm, by rw [hold]; omega, hn, by omega, hm2⟩)
        · rw [if_neg he] at h
          simp only [Option.map_some, Option.some.injEq] at h
          subst h
          rw [Int.toNat_natCast]
          have hkk : f k < (putE ws o1).length := by rw [putE_len]; exact hf k hkl
          refine ⟨fun e he2 => ?_, ?_, fun i hi2 => ?_⟩
          · rcases List.mem_append.1 he2 with h5 | h5
            · obtain ⟨i, j1, j2, j3, j4⟩ := i1 e h5
              exact ⟨i, by omega, j2, j3, j4⟩
            · simp only [List.mem_singleton] at h5
              subst h5
              exact ⟨k, by omega, rfl, by dsimp only; omega, hn⟩
          · rw [List.pairwise_append]
            refine ⟨i2, by simp, fun a ha b hb => ?_⟩
            simp only [List.mem_singleton] at hb
            subst hb
            obtain ⟨i, j1, j2, -⟩ := i1 a ha
            have := hi i k j1 hkl
            rw [j2]
            dsimp only
            omega
          · unfold okFx
            rw [putE_append, wd_setE hkk]
            rcases Nat.lt_or_ge i k with h5 | h5
            · have := hi i k h5 hkl
              rw [if_neg (by omega)]
              exact i3 i h5
            · have : i = k := by omega
              subst this
              rw [if_pos rfl]
              exact .inr ⟨by omega, n, m, hm, rfl, hn, by omega, hm2⟩
theorem ob_plain {ws : List Nat} {a : Int} (h : obErr ws a = 0) : ∃ f : Nat → Nat, (256 ≤ ws.length ∧ ws.length ≤ 2048) ∧ rdErr ws 128 128 = 0 ∧ rsErr ws a = 0 ∧ (rsOut ws a).length ≤ 8 ∧ (obOut ws a).length ≤ 8 ∧
    (∀ i (hi : i < (rsOut ws a).length), (rsOut ws a)[i] = (f i : Int) ∧ a ≤ (f i : Int) ∧ f i < ws.length ∧ okFx ws (putE ws (obOut ws a)) (rdMv ws 128 128) (f i)) ∧
    (∀ j, (∀ i, i < (rsOut ws a).length → f i ≠ j) → wd (putE ws (obOut ws a)) j = wd ws j) ∧
    (∀ e ∈ obOut ws a, ∃ r : Nat, e.a = (r : Int) ∧ r < ws.length ∧ wd ws r ≠ e.v ∧ e.v < 2048) ∧ (obOut ws a).Pairwise (fun a b => a.a < b.a) := by
  have h0 : fxErr ws = 0 := by
    by_cases h1 : fxErr ws = 0
    · exact h1
    · rw [(ob_err rfl h1).1] at h; exact absurd h h1
  obtain ⟨g1, g2, g3⟩ := fxErr_zero h0
  cases hb : objF (frOut ws 128) a with
  | none => rw [(ob_none h0 hb).1] at h; cases h
  | some b =>
    cases hmk : b.mark with
    | false => rw [(ob_unmk h0 hb hmk).1] at h; cases h
    | true =>
      cases ho : obFix ws (fxMv ws) (rfsB ws b) with
      | none => rw [(ob_bad h0 hb hmk ho).1] at h; cases h
      | some o =>
        have eo := (ob_ok h0 hb hmk ho).2
        have er : rsOut ws a = rfsB ws b := by simp [rsOut, g1, hb]
        have ee : rsErr ws a = 0 := by simp [rsErr, g1, obj6Err, hb]
        obtain ⟨m, t, xs, xk, xm, xn, ea, eb, ht8, hobj, hmlt, hR8, hRin⟩ := obj_parts g1 hb
        have hbd := fr_bd ws (hpErr_zero g1).1
        have hp : (rfsB ws b).Pairwise (· < ·) := rfTo_pair _ _ _
        have hpi := List.pairwise_iff_getElem.1 hp
        have hlf : ∀ i (hi : i < (rfsB ws b).length), (rfsB ws b)[i] = ((((rfsB ws b)[i]?.getD 0).toNat : Nat) : Int) := fun i hi => by
          obtain ⟨r, e1, -, -⟩ := hRin i hi
          rw [List.getElem?_eq_getElem hi, Option.getD_some, e1, Int.toNat_natCast]
        have hlo := obFix_len ho
        have hto := fun x y (hy : mvTo (fxMv ws) x = some y) => fx_to h0 hy
        have hM : ∀ x y, mvTo (fxMv ws) x = some y → ∃ n : Nat, y = (n : Int) ∧ n < 2048 ∧ ∃ m : Nat, x = (m : Int) ∧ m < ws.length := fun x y hy => by
          obtain ⟨n, q1, -, -, q4, m, q5, -, q7⟩ := hto x y hy
          exact ⟨n, q1, q4, m, q5, q7⟩
        have hfb : ∀ i, i < (rfsB ws b).length → ((rfsB ws b)[i]?.getD 0).toNat < ws.length := fun i hi => by
          obtain ⟨r, e1, -, e3⟩ := hRin i hi
          rw [List.getElem?_eq_getElem hi, Option.getD_some, e1, Int.toNat_natCast]; exact e3
        have hinc : ∀ i j, i < j → j < (rfsB ws b).length → ((rfsB ws b)[i]?.getD 0).toNat < ((rfsB ws b)[j]?.getD 0).toNat := fun i j hij hj => by
          have h1 := hpi i j (by omega) hj hij
          have h2 := hlf i (by omega)
          have h3 := hlf j hj
          omega
        obtain ⟨j1, j2, j3⟩ := obFix_inv hM hlf hfb hinc _ (Nat.le_refl _) o (by rw [List.take_length]; exact ho)
        rw [eo, er]
        rw [← g3]
        refine ⟨fun i => ((rfsB ws b)[i]?.getD 0).toNat, by omega, g2, ee, hR8, by omega, fun i hi => ⟨hlf i hi, ?_, hfb i hi, j3 i hi⟩, fun j hj => ?_, fun e he => ?_, j2⟩
        · obtain ⟨r, e1, e2, -⟩ := hRin i hi
          have := hlf i hi
          rw [ea]
          show (m : Int) ≤ ((((rfsB ws b)[i]?.getD 0).toNat : Nat) : Int)
          omega
        · refine putE_wd o ws j fun e he => ?_
          obtain ⟨i, k1, k2, -⟩ := j1 e he
          have := hj i k1
          dsimp only at this
          rw [k2]; omega
        · obtain ⟨i, k1, k2, k3, k4⟩ := j1 e he
          exact ⟨_, k2, hfb i k1, k3, k4⟩
end Go.Proofs.Ytpifagclhhaniaa
