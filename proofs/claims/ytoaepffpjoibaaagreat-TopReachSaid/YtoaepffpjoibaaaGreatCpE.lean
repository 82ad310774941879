/- Compacting a right image: its first change, and the view behind all of it. Plain. -/
import Derived.Test.YtoaepffpjoibaaaGreatLyQ
namespace Go.Proofs.YtoaepffpjoibaaaGreat
open Go.RowKit

/-- The view behind the first change. -/
def x1st (ws : List Nat) : List Nat := putE ws [⟨16, 1⟩]
noncomputable def cpZ (ws : List Nat) : List Nat := vE (x1st ws)
noncomputable def cpT (ws : List Nat) : Nat := (endOf (cpL ws) 128).toNat
theorem x1_len (ws : List Nat) : (x1st ws).length = ws.length := putE_len _ _
theorem x1_wd {ws : List Nat} {i : Nat} (h : i ≠ 16) : wd (x1st ws) i = wd ws i := putE_wd _ _ _ fun e he => by
  rw [List.mem_singleton] at he
  subst he
  dsimp only
  omega
theorem x1_lt {ws : List Nat} (ho : ∀ v ∈ ws, v < 18446744073709551616) : ∀ v ∈ x1st ws, v < 18446744073709551616 := putE_lt _ _ ho fun e he => by
  rw [List.mem_singleton] at he
  subst he
  dsimp only
  omega
theorem x1_nx (ws : List Nat) : NxL ws (x1st ws) := nxl_put fun e he => by
  rw [List.mem_singleton] at he
  subst he
  exact .inl (by dsimp only; omega)
theorem x1_hp {ws : List Nat} (h0 : hpErr ws = 0) : hpErr (x1st ws) = 0 ∧ hpOut (x1st ws) = hpOut ws := by
  obtain ⟨z1, z2⟩ := ((x1_nx ws).ev h0).heap h0
  refine ⟨z1, ?_⟩
  rw [z2, List.map_congr_left (g := id) (fun b hb => ?_), List.map_id]
  obtain ⟨a, rfl, a1, -⟩ := (hp_row h0).1 b hb
  show nxB (x1st ws) (bkAt ws a) = bkAt ws a
  unfold nxB
  refine bk_same ?_
  rw [bkAt_at, Int.toNat_natCast, x1_wd (by omega)]
  rfl
theorem x1_seen {ws : List Nat} (h0 : hpErr ws = 0) : seenL (x1st ws) = seenL ws := by
  unfold seenL
  rw [x1_len]
  refine List.map_congr_left fun a _ => ?_
  exact decide_eq_decide.2 ((x1_nx ws).rch h0 a)
theorem x1_cp {ws : List Nat} (h0 : hpErr ws = 0) : cpL (x1st ws) = cpL ws ∧ cpM (x1st ws) = cpM ws := by
  have e : cpL (x1st ws) = cpL ws := by
    unfold cpL
    rw [(x1_hp h0).2]
    refine List.map_congr_left fun b _ => ?_
    unfold mkS seenAt
    rw [x1_seen h0]
  exact ⟨e, by unfold cpM; rw [e]⟩
/-- The first change of a right image goes on. -/
theorem Lay.first {ws : List Nat} {t : Nat} (h : Lay ws t) : wd (x1st ws) 16 = 1 ∧ ckErr (x1st ws) = 0 ∧ rcErr (x1st ws) = 0 ∧ rcOut (x1st ws) = rcOut ws := by
  have hb := (sizeOk_iff _).1 h.size
  have h16 : wd (x1st ws) 16 = 1 := wd_head (j := 16) (l := []) (by omega) (fun e he => by cases he)
  obtain ⟨g1, g2, g3⟩ := (x1_nx ws).same h.hp
  have hz := h.z16
  have hpr : prErr (x1st ws) = 0 := by
    refine pr_ok (by rw [x1_len]; exact h.size) ?_ ?_
    · rw [lineW_iff, x1_len, h16, x1_wd (by omega), x1_wd (by omega), x1_wd (by omega), x1_wd (by omega), x1_wd (by omega), x1_wd (by omega), x1_wd (by omega), hz 17 (by omega) (by omega), hz 18 (by omega) (by omega), hz 19 (by omega) (by omega), hz 20 (by omega) (by omega), hz 21 (by omega) (by omega), hz 22 (by omega) (by omega), hz 23 (by omega) (by omega)]
      omega
    · rw [h16, x1_wd (by omega), x1_wd (by omega), hz 17 (by omega) (by omega), hz 18 (by omega) (by omega)]
      rfl
  exact ⟨h16, ck_of hpr (by omega) (by omega) g1, by rw [g2]; exact h.rc, g3⟩
section
variable {ws : List Nat} {t : Nat}
theorem Lay.run (h : Lay ws t) (ho : ∀ v ∈ ws, v < 18446744073709551616) : CpF (x1st ws) := by
  obtain ⟨a, b, c, -⟩ := h.first
  exact cpF (x1_lt ho) a b c
theorem Lay.desc (h : Lay ws t) (ho : ∀ v ∈ ws, v < 18446744073709551616) : CpD ws (cpZ ws) (cpM ws) (cpT ws) ∧ endOf (cpL ws) 128 = (cpT ws : Int) := by
  have h0 := h.hp
  obtain ⟨p16, -, hrc, -⟩ := h.first
  obtain ⟨D, E⟩ := (h.run ho).desc hrc
  obtain ⟨e1, e2⟩ := x1_cp h0
  rw [e1, e2] at D
  rw [e1] at E
  change CpD (x1st ws) (cpZ ws) (cpM ws) (cpT ws) at D
  refine ⟨?_, E⟩
  have hx : ∀ {i : Nat}, 17 ≤ i → wd (x1st ws) i = wd ws i := fun h => x1_wd (by omega)
  have hr := (x1_nx ws).rch h0
  have hsl : ∀ i, i < 16 → slAt (x1st ws) i = slAt ws i := fun i hi => by unfold slAt; rw [hx (by omega)]
  have hsz : ∀ {m : Nat}, 128 ≤ m → szAt (x1st ws) m = szAt ws m := fun hm => by unfold szAt; rw [hx (by omega)]
  have hfl : ∀ {m : Nat}, 128 ≤ m → flds (x1st ws) m = flds ws m := fun hm => by unfold flds; rw [hx (by omega), hx (by omega), hx (by omega)]
  refine ⟨D.len.trans (x1_len ws), fun i hi => (D.low i hi).trans (x1_wd (by omega)), D.line, fun i hi => ?_, fun p hp => ?_, by rw [← x1_len ws]; exact D.to, fun hlt => ?_, fun i hi hb hm => ?_⟩
  · rw [D.sl i hi]
    unfold nwS
    rw [hsl i hi]
  · obtain ⟨m, tt, e, q1, q2, q3, q4, q5, q6, q7, q8⟩ := D.obj p hp
    have hm := (hr m).1 q1
    have h128 := (h.rch hm).1
    rw [hsz h128] at q3 q4 q8
    rw [hx (by omega)] at q5
    rw [hfl h128] at q7 q8
    refine ⟨m, tt, e, hm, q2, q3, q4, q5, q6, fun i hi => ?_, fun i h1 h2 => ?_⟩
    · have := q7 i hi
      rwa [hx (by omega)] at this
    · have := q8 i h1 h2
      rwa [hx (by omega)] at this
  · have := D.free (by rw [x1_len]; exact hlt)
    rwa [x1_len] at this
  · rw [D.rest i hi (by rw [(x1_hp h0).2]; exact hb) (fun m hm3 => ?_), hx (by have := D.to.1; omega)]
    have hm2 := (hr m).1 hm3
    rw [hsz (h.rch hm2).1]
    exact hm m hm2
end
end Go.Proofs.YtoaepffpjoibaaaGreat
