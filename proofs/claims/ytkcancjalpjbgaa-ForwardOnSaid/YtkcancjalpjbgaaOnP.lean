/- The moves in front of a block: plain laws for the law ForwardOn. -/
import Derived.Test.YtkcancjalpjbgaaFwbQ
namespace Go.Proofs.Ytkcancjalpjbgaa

theorem at_lt {l : List Bk} (h : rowErr l = 0) {m k : Nat} (hk : k < l.length) (hm : m < k) : (l[m]'(by omega)).at_ < l[k].at_ := by
  have := chain_mono h hk hm
  rwa [gk_get l m (by omega), gk_get l k hk] at this
theorem moves_cnt_lt {l : List Bk} {s : Int} {j k : Nat} (h : (moves (l.take j) s).length < (moves (l.take k) s).length) : j < k := by
  rcases Nat.lt_or_ge j k with h1 | h1
  · exact h1
  · have := moves_len_mono (l := l) s h1
    omega
/-- What the moves in front of a block are. -/
theorem on_cnt {l : List Bk} (hre : rowErr l = 0) (s : Int) {k : Nat} (hk : k < l.length) {cnt : Nat} (hc : (moves (l.take k) s).length = cnt) :
    cnt ≤ (moves l s).length ∧ (∀ i (_ : i < cnt) (h : i < (moves l s).length), ((moves l s)[i]).1 < l[k].at_) ∧ (∀ h : cnt < (moves l s).length, ¬ ((moves l s)[cnt]).1 < l[k].at_) ∧ (cnt = 0 → endOf (l.take k) s = s) ∧
    (0 < cnt → ∃ j, ∃ hj : j < k, (moves l s)[cnt - 1]? = some ((l[j]'(by omega)).at_, endOf (l.take j) s) ∧ (∀ i (hi : i < k), (l[i]'(by omega)).at_ = (l[j]'(by omega)).at_ → i = j) ∧ endOf (l.take k) s = endOf (l.take j) s + (l[j]'(by omega)).size) := by
  have hle : cnt ≤ (moves l s).length := by
    have h1 := moves_len_mono (l := l) s (show k ≤ l.length by omega)
    rw [List.take_length] at h1; omega
  refine ⟨hle, fun i hi h => ?_, fun h => ?_, fun h0 => ?_, fun h0 => ?_⟩
  · obtain ⟨j, hj, a1, a2, a3⟩ := moves_get h
    rw [List.getElem?_eq_getElem h] at a2
    rw [Option.some.inj a2]
    exact at_lt hre hk (moves_cnt_lt (l := l) (s := s) (j := j) (k := k) (by omega))
  · obtain ⟨j, hj, a1, a2, a3⟩ := moves_get h
    rw [List.getElem?_eq_getElem h] at a2
    rw [Option.some.inj a2]
    rcases Nat.lt_or_ge j k with h1 | h1
    · have h2 := moves_len_mono (l := l) s (show j + 1 ≤ k by omega)
      rw [moves_take hj, if_pos a1, List.length_append] at h2
      simp at h2; omega
    · show ¬ l[j].at_ < l[k].at_
      rcases Nat.lt_or_ge k j with h2 | h2
      · have := at_lt hre hj h2; omega
      · have : j = k := by omega
        subst this; omega
  · subst h0
    exact moves_none (List.eq_nil_of_length_eq_zero hc)
  · obtain ⟨j, hj, a1, a2, a3⟩ := moves_get (show cnt - 1 < (moves l s).length by omega)
    have hjk : j < k := moves_cnt_lt (l := l) (s := s) (j := j) (k := k) (by omega)
    refine ⟨j, hjk, a2, fun i hi he => ?_, ?_⟩
    · rcases Nat.lt_or_ge i j with h1 | h1
      · have := at_lt hre hj h1; omega
      · rcases Nat.lt_or_ge j i with h2 | h2
        · have := at_lt hre (show i < l.length by omega) h2; omega
        · omega
    · have e1 : l.take k = l.take (j + 1) ++ (l.take k).drop (j + 1) := by
        conv => lhs; rw [← List.take_append_drop (j + 1) (l.take k), List.take_take, Nat.min_eq_left (by omega)]
      have e2 : (moves (l.take (j + 1)) s).length = cnt := by
        rw [moves_take hj, if_pos a1, List.length_append, a3]; simp; omega
      have e3 : moves ((l.take k).drop (j + 1)) (endOf (l.take (j + 1)) s) = [] := by
        rw [e1, moves_append, List.length_append, e2] at hc
        exact List.eq_nil_of_length_eq_zero (by omega)
      rw [e1, endOf_append, moves_none e3, endOf_take hj, if_pos a1]
end Go.Proofs.Ytkcancjalpjbgaa
