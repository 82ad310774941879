/- The entries for headers that differ from those that are wanted. -/
import Derived.Test.YtpifagclhhaniaaDelW
import Derived.Test.YtpifagclhhaniaaKMove
namespace Go.Proofs.Ytpifagclhhaniaa
open Go.RowKit

def wntE (ws : List Nat) (S : List Bool) (b : Bk) : En := ⟨b.at_, mkVal (wd ws b.at_.toNat) (S[b.at_.toNat]?.getD false)⟩
noncomputable def wtOut (ws : List Nat) : List En := if rcErr ws = 0 then (wntL (seenL ws) (hpOut ws)).map (wntE ws (seenL ws)) else []
def WtRes (ws : List Nat) (e : Ending) (w' : World) : Prop := ∃ A c, e = .returned (.tuple #[.slice A (wtOut ws).length c, .int .i64 (rcErr ws)]) ∧ RdE w' w'.heap.size A (wtOut ws) ∧ (wtOut ws).length ≤ c
theorem wtRes_no {ws : List Nat} {r : Int} {w' : World} (h1 : rcErr ws = r) (h0 : r ≠ 0) : WtRes ws (.returned (.tuple #[.slice none 0 0, .int .i64 r])) w' := by
  have h2 : wtOut ws = [] := by unfold wtOut; rw [if_neg (by rw [h1]; exact h0)]
  exact ⟨none, 0, by rw [h1, h2]; rfl, by rw [h2]; exact Rd.nil_, by rw [h2]; exact Nat.le_refl _⟩
theorem wntL_len (S : List Bool) (l : List Bk) : (wntL S l).length ≤ l.length := List.length_filter_le _ _
theorem wntL_mem {S : List Bool} {l : List Bk} {b : Bk} (h : b ∈ wntL S l) : b ∈ l := (List.mem_filter.1 h).1
theorem wntE_take (ws : List Nat) (S : List Bool) (l : List Bk) {k : Nat} (hk : k < l.length) : (l.take (k + 1)).map (wntE ws S) = (l.take k).map (wntE ws S) ++ [wntE ws S l[k]] := by
  rw [List.take_succ_eq_append_getElem hk, List.map_append]
  rfl
end Go.Proofs.Ytpifagclhhaniaa
