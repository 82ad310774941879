/- Fixing the slots: what stands there after it (plain). -/
import Derived.Test.YtpifagclhhaniaaFix4
namespace Go.Proofs.Ytpifagclhhaniaa

theorem slRaw_wd {g a : Nat} (hg : g < 2147483648) (ha : a < 4294967296) : slRaw (slWd ⟨(g : Int), true, (a : Int)⟩) = ⟨(g : Int), true, (a : Int)⟩ := by
  unfold slWd slRaw
  dsimp only
  rw [Int.toNat_natCast, Int.toNat_natCast, if_pos rfl]
  have h1 : (a + g * 4294967296 + 9223372036854775808) / 4294967296 % 2147483648 = g := by omega
  have h2 : (a + g * 4294967296 + 9223372036854775808) / 9223372036854775808 = 1 := by omega
  have h3 : (a + g * 4294967296 + 9223372036854775808) % 4294967296 = a := by omega
  rw [h1, h2, h3]
  rfl
def nwS (ws : List Nat) (M : List (Int × Int)) (i : Nat) : Sl := if (slAt ws i).used = true then ⟨(slAt ws i).gen, true, (mvTo M (slAt ws i).at_).getD 0⟩ else slAt ws i
theorem wd_setE {ws : List Nat} {j v : Nat} (h : j < ws.length) (i : Nat) : wd (putE ws [⟨(j : Int), v⟩]) i = if i = j then v else wd ws i := by
  simp only [putE]
  rw [if_pos (by omega), Int.toNat_natCast]
  unfold wd
  rw [List.getElem?_set]
  by_cases e : j = i
  · subst e; simp [h]
  · rw [if_neg e, if_neg (fun h => e h.symm)]
theorem slFix_inv {ws : List Nat} {M : List (Int × Int)} (hw : 256 ≤ ws.length) (hM : ∀ a t, mvTo M a = some t → ∃ n : Nat, t = (n : Int) ∧ n < 2048) : ∀ k, k ≤ 16 → ∀ o, slFix ws M k = some o →
    (∀ e ∈ o, ∃ i, i < k ∧ e.a = ((112 + i : Nat) : Int) ∧ e.v < 18446744073709551616) ∧ o.Pairwise (fun a b => a.a < b.a) ∧ (∀ i, i < k → slAt (putE ws o) i = nwS ws M i) ∧ (∀ i, i < k → (slAt ws i).used = true → (mvTo M (slAt ws i).at_).isSome = true) := by
  intro k
  induction k with
  | zero =>
    intro _ o h
    simp only [slFix, Option.some.injEq] at h
    subst h
    exact ⟨fun e he => (by cases he), List.Pairwise.nil, fun i h => absurd h (by omega), fun i h => absurd h (by omega)⟩
  | succ k ih =>
    intro hk o h
    simp only [slFix] at h
    cases hf : slFix ws M k with
    | none => rw [hf] at h; cases h
    | some o1 =>
    rw [hf] at h
    obtain ⟨i1, i2, i3, i4⟩ := ih (by omega) o1 hf
    have hold : wd (putE ws o1) (112 + k) = wd ws (112 + k) := putE_wd o1 ws _ fun e he => by
      obtain ⟨i, h1, h2, -⟩ := i1 e he
      rw [h2]; omega
    have hnil : ∀ (h3 : slAt ws k = nwS ws M k) (h4 : (slAt ws k).used = true → (mvTo M (slAt ws k).at_).isSome = true), (∀ e ∈ o1, ∃ i, i < k + 1 ∧ e.a = ((112 + i : Nat) : Int) ∧ e.v < 18446744073709551616) ∧ o1.Pairwise (fun a b => a.a < b.a) ∧ (∀ i, i < k + 1 → slAt (putE ws o1) i = nwS ws M i) ∧ (∀ i, i < k + 1 → (slAt ws i).used = true → (mvTo M (slAt ws i).at_).isSome = true) := by
      intro h3 h4
      refine ⟨fun e he => ?_, i2, fun i hi => ?_, fun i hi => ?_⟩
      · obtain ⟨i, j1, j2, j3⟩ := i1 e he
        exact ⟨i, by omega, j2, j3⟩
      · rcases Nat.lt_or_ge i k with h5 | h5
        · exact i3 i h5
        · have : i = k := by omega
          subst this
          rw [← h3]
          unfold slAt
          rw [hold]
      · rcases Nat.lt_or_ge i k with h5 | h5
        · exact i4 i h5
        · have : i = k := by omega
          subst this; exact h4
    cases hs : slStep ws M k with
    | none => rw [hs] at h; cases h
    | some y =>
      rw [hs] at h
      simp only [Option.map_some, Option.some.injEq] at h
      subst h
      unfold slStep at hs
      split at hs
      · rename_i hu
        obtain ⟨r1, r2, r3, r4⟩ := slRaw_bd (wd ws (112 + k))
        change 0 ≤ (slAt ws k).gen at r1
        change (slAt ws k).gen ≤ _ at r2
        change 0 ≤ (slAt ws k).at_ at r3
        obtain ⟨g, hg⟩ := Int.eq_ofNat_of_zero_le r1
        cases hx : fixOf M (slAt ws k).at_.toNat with
        | none => rw [hx] at hs; cases hs
        | some t =>
          rw [hx] at hs
          have hm : mvTo M (slAt ws k).at_ = some t := by
            unfold fixOf at hx
            split at hx
            · cases hx
            · rw [Int.toNat_of_nonneg r3] at hx; exact hx
          obtain ⟨n, rfl, hn⟩ := hM _ _ hm
          have hnw : nwS ws M k = ⟨(g : Int), true, (n : Int)⟩ := by
            unfold nwS
            rw [if_pos hu, hm, hg]; rfl
          have hrt := slRaw_wd (g := g) (a := n) (by omega) (by omega)
          have hlt := slWd_lt (g := g) (a := n) (by omega) (by omega) true
          have hso : (slAt ws k).used = true → (mvTo M (slAt ws k).at_).isSome = true := fun _ => by rw [hm]; rfl
          dsimp only at hs
          rw [hg] at hs
          by_cases he : wd ws (112 + k) = slWd ⟨(g : Int), true, (n : Int)⟩
          · rw [if_pos he] at hs
            injection hs with hs
            subst hs
            rw [List.append_nil]
            exact hnil (by rw [hnw, ← hrt, ← he]; rfl) hso
          · rw [if_neg he] at hs
            injection hs with hs
            subst hs
            refine ⟨fun e he => ?_, ?_, fun i hi => ?_, fun i hi => ?_⟩
            · rcases List.mem_append.1 he with h5 | h5
              · obtain ⟨i, j1, j2, j3⟩ := i1 e h5
                exact ⟨i, by omega, j2, j3⟩
              · simp only [List.mem_singleton] at h5
                subst h5
                exact ⟨k, by omega, rfl, hlt⟩
            · rw [List.pairwise_append]
              refine ⟨i2, by simp, fun a ha b hb => ?_⟩
              simp only [List.mem_singleton] at hb
              subst hb
              obtain ⟨i, j1, j2, -⟩ := i1 a ha
              rw [j2]
              dsimp only
              omega
            · have hkk : 112 + k < (putE ws o1).length := by rw [putE_len]; omega
              unfold slAt
              rw [putE_append, wd_setE hkk]
              split
              · rename_i h6
                have : i = k := by omega
                subst this
                rw [hrt, hnw]
              · exact i3 i (by omega)
            · rcases Nat.lt_or_ge i k with h5 | h5
              · exact i4 i h5
              · have : i = k := by omega
                subst this; exact hso
      · rename_i hu
        injection hs with hs
        subst hs
        rw [List.append_nil]
        exact hnil (by unfold nwS; rw [if_neg hu]) (fun h => absurd h hu)
theorem fs_plain {ws : List Nat} (h : fsErr ws = 0) : 256 ≤ ws.length ∧ hpErr ws = 0 ∧ rdErr ws 128 128 = 0 ∧ hdlErr ws = 0 ∧ hdlOut ws = slL ws ∧ hdlErr (putE ws (fsOut ws)) = 0 ∧ hdlOut (putE ws (fsOut ws)) = slL (putE ws (fsOut ws)) ∧
    (∀ e ∈ fsOut ws, (112 ≤ e.a ∧ e.a < 128) ∧ e.v < 18446744073709551616) ∧ (fsOut ws).Pairwise (fun a b => a.a < b.a) ∧ (fsOut ws).length ≤ 16 ∧
    (∀ i, i < 16 → slAt (putE ws (fsOut ws)) i = nwS ws (rdMv ws 128 128) i) ∧ (∀ i, i < 16 → (slAt ws i).used = true → (mvTo (rdMv ws 128 128) (slAt ws i).at_).isSome = true) := by
  have h0 : fxErr ws = 0 := by
    by_cases h1 : fxErr ws = 0
    · exact h1
    · unfold fsErr at h; rw [if_neg h1] at h; exact absurd h h1
  have h2 : slsOk ws = true := by
    cases hq : slsOk ws with
    | true => rfl
    | false => rw [fs_sl h0 hq] at h; cases h
  obtain ⟨o, ho⟩ : ∃ o, slFix ws (fxMv ws) 16 = some o := by
    cases hq : slFix ws (fxMv ws) 16 with
    | some o => exact ⟨o, rfl⟩
    | none => rw [fs_bad h0 h2 hq] at h; cases h
  obtain ⟨e1, e2⟩ := fs_ok h0 h2 ho
  obtain ⟨g1, g2, g3⟩ := fxErr_zero h0
  have hs := (hpErr_zero g1).1
  have hbd := fr_bd ws hs
  have hto := fun a t (ht : mvTo (fxMv ws) a = some t) => fx_to h0 ht
  have hlen := slFix_len ho
  obtain ⟨j1, j2, j3, j4⟩ := slFix_inv (by omega) (fun a t ht => by obtain ⟨n, q1, -, -, q4, -⟩ := hto a t ht; exact ⟨n, q1, q4⟩) 16 (Nat.le_refl _) o ho
  rw [g3] at j3 j4 hto
  rw [e2]
  obtain ⟨k1, k2⟩ := hdlErr_ok hs h2
  have hok : slsOk (putE ws o) = true := (slsOk_iff _).2 fun i hi => by
    rw [j3 i hi]
    have hi2 := (slsOk_iff ws).1 h2 i hi
    unfold nwS
    split
    · rename_i hu
      obtain ⟨t, ht⟩ := Option.isSome_iff_exists.1 (j4 i hi hu)
      obtain ⟨n, rfl, n1, -, n2, -⟩ := hto _ _ ht
      obtain ⟨u1, -, -⟩ := sl_used hi2 hu
      rw [ht]
      unfold slOk
      rw [if_pos rfl]
      simp only [Bool.and_eq_true, decide_eq_true_eq, Option.getD_some]
      omega
    · exact hi2
  obtain ⟨k3, k4⟩ := hdlErr_ok (ws := putE ws o) (by rw [putE_len]; exact hs) hok
  refine ⟨by omega, g1, g2, k1, k2, k3, k4, fun e he => ?_, j2, hlen, j3, j4⟩
  obtain ⟨i, i1, i2, i3⟩ := j1 e he
  exact ⟨by rw [i2]; omega, i3⟩
end Go.Proofs.Ytpifagclhhaniaa
