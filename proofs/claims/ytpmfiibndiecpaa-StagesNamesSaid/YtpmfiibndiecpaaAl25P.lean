/- What is reached on images that a law builds. -/
import Derived.Test.YtpmfiibndiecpaaMkPP
import Derived.Test.YtpmfiibndiecpaaKImage
import Derived.Test.YtpmfiibndiecpaaFrsh
namespace Go.Proofs.Ytpmfiibndiecpaa
open Go.RowKit

theorem rc_of {ws : List Nat} (T : List Nat) (h0 : hpErr ws = 0) (hs : slsOk ws = true) (ht : ∀ a ∈ T, tb ws a ≠ 0) (h1 : ∀ i, i < 16 → (slAt ws i).used = true → (slAt ws i).at_.toNat ∈ T)
    (h2 : ∀ a ∈ T, ∀ i, i < 8 → (flds ws a)[i]? = some 3 → wd ws (a + 2 + i) ≠ 0 → min (wd ws (a + 2 + i)) 2048 ∈ T) (h3 : ∀ a ∈ T, Rch ws a) (h4 : T.Pairwise (· < ·)) : rcErr ws = 0 ∧ rcOut ws = T.map (fun a : Nat => (a : Int)) := by
  have hall : ∀ a, Rch ws a → a ∈ T := by
    intro a ha
    induction ha with
    | slot i hi hu => exact h1 i hi hu
    | ref a i ha ht hf hv ih =>
      have := (List.getElem?_eq_some_iff.1 hf).1
      exact h2 a ih i (by have := flds_le ws a; omega) hf hv
  have he : rcErr ws = 0 := rc_ok h0 hs (fun a ha => ht a (hall a ha))
  refine ⟨he, inc_ext (rcOut_inc he) ?_ fun x => ?_⟩
  · rw [List.pairwise_map]
    exact List.Pairwise.imp (fun {a b} hab => by omega) h4
  · rw [rcOut_mem he, List.mem_map]
    constructor
    · rintro ⟨a, rfl, -, hr⟩
      exact ⟨a, hall a hr, rfl⟩
    · rintro ⟨a, ha, rfl⟩
      exact ⟨a, rfl, tb_lt (ht a ha), h3 a ha⟩
theorem wtOut_none {ws : List Nat} (h : rcErr ws = 0) (hk : ∀ b ∈ hpOut ws, b.kind ≠ 1) : wtOut ws = [] := by
  rw [List.eq_nil_iff_forall_not_mem]
  intro e he
  obtain ⟨a, hm, -, -, -, -, g2, -⟩ := wtOut_mem h he
  exact hk _ hm g2
theorem fresh_hp : hpErr freshL = 0 := by decide +kernel
theorem fresh_sl : slsOk freshL = true := by decide +kernel
theorem fresh_us : ∀ i, i < 16 → (slAt freshL i).used = true → (slAt freshL i).at_.toNat ∈ ([] : List Nat) := by decide +kernel
theorem fresh_kd : ∀ b ∈ hpOut freshL, b.kind ≠ 1 := by decide +kernel
theorem fresh_rc : rcErr freshL = 0 ∧ rcOut freshL = [] := rc_of [] fresh_hp fresh_sl (fun a h => absurd h (by simp)) fresh_us (fun a h => absurd h (by simp)) (fun a h => absurd h (by simp)) List.Pairwise.nil
theorem fresh_wt : wtOut freshL = [] := wtOut_none fresh_rc.1 fresh_kd
theorem pairL_lt : ∀ x ∈ pairL, x < 18446744073709551616 := by decide +kernel
theorem pair_hp : hpErr pairL = 0 := by decide +kernel
theorem pair_sl : slsOk pairL = true := by decide +kernel
theorem pair_tb : ∀ a ∈ [132], tb pairL a ≠ 0 := by decide +kernel
theorem pair_us : ∀ i, i < 16 → (slAt pairL i).used = true → (slAt pairL i).at_.toNat ∈ [132] := by decide +kernel
theorem pair_rf : ∀ a ∈ [132], ∀ i, i < 8 → (flds pairL a)[i]? = some 3 → wd pairL (a + 2 + i) ≠ 0 → min (wd pairL (a + 2 + i)) 2048 ∈ [132] := by decide +kernel
theorem pair_s0 : (slAt pairL 0).used = true ∧ (slAt pairL 0).at_.toNat = 132 := by decide +kernel
theorem pair_rc : rcErr pairL = 0 ∧ rcOut pairL = [132] := rc_of [132] pair_hp pair_sl pair_tb pair_us pair_rf (fun a h => by
  rw [List.mem_singleton] at h
  subst h
  have := Rch.slot (ws := pairL) 0 (by omega) pair_s0.1
  rw [pair_s0.2] at this
  exact this) (List.pairwise_singleton _ _)
def noneL : List Nat := pairL.set 112 0
theorem noneL_len : noneL.length = 256 := by unfold noneL; rw [List.length_set, pairL_len]
theorem noneL_lt : ∀ x ∈ noneL, x < 18446744073709551616 := by decide +kernel
theorem none_hp : hpErr noneL = 0 := by decide +kernel
theorem none_sl : slsOk noneL = true := by decide +kernel
theorem none_us : ∀ i, i < 16 → (slAt noneL i).used = true → (slAt noneL i).at_.toNat ∈ ([] : List Nat) := by decide +kernel
theorem none_rc : rcErr noneL = 0 ∧ rcOut noneL = [] := rc_of [] none_hp none_sl (fun a h => absurd h (by simp)) none_us (fun a h => absurd h (by simp)) (fun a h => absurd h (by simp)) List.Pairwise.nil
end Go.Proofs.Ytpmfiibndiecpaa
