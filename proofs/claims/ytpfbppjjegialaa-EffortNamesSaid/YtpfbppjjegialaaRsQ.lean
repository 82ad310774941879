/- Going on ends: how much each change leaves. -/
import Derived.Test.YtpfbppjjegialaaRsP
namespace Go.Proofs.Ytpfbppjjegialaa
open Go.RowKit

/-- What a step of PhFix does to the phase line. -/
theorem fix_cur {x : List Nat} (hck : ckErr x = 0) (p3 : wd x 16 = 3) (h : (sgFix x).1 = 0) :
    (wd (putE x (sgFix x).2) 16 = 3 ∧ wd (putE x (sgFix x).2) 17 ≤ x.length ∧ (wd x 17 = 0 → wd (putE x (sgFix x).2) 17 = 128) ∧ (wd x 17 ≠ 0 → wd x 17 + 2 ≤ wd (putE x (sgFix x).2) 17)) ∨ (wd (putE x (sgFix x).2) 16 = 4 ∧ wd (putE x (sgFix x).2) 17 = 128 ∧ wd x 17 ≠ 0) := by
  obtain ⟨-, hs, hl, hph⟩ := ck_parts hck
  have hb := (sizeOk_iff _).1 hs
  obtain ⟨⟨l1, l2, l3⟩, -⟩ := (lineW_iff x).1 hl
  by_cases z : wd x 17 = 0
  · have hfs : fsErr x = 0 := by
      by_cases h0 : fsErr x = 0
      · exact h0
      · unfold sgFix at h; rw [if_pos z, if_neg h0] at h; exact absurd h h0
    have e2 : sgFix x = (0, ⟨17, 128⟩ :: fsOut x) := by unfold sgFix; rw [if_pos z, if_pos hfs]
    obtain ⟨-, -, -, -, -, -, -, q1, q2, q3, -⟩ := fs_plain hfs
    obtain ⟨g1, g2, g3, g4, g5, g6⟩ := cur_props (f := 128) (l := fsOut x) hck p3 (by decide) (by omega) (by omega) (by omega) q2 (fun e he => by have := (q1 e he).1; omega) (fun e he => (q1 e he).2)
    rw [e2]
    exact .inl ⟨g4, by rw [g5]; omega, fun _ => g5, fun h1 => absurd z h1⟩
  · have e2 : sgFix x = fixE x (wd x 17) := by unfold sgFix; rw [if_neg z]
    have h' : (fixE x (wd x 17)).1 = 0 := by rw [← e2]; exact h
    rcases fixE_cases x.length (wd x 17) (by omega) l2 h' with h1 | ⟨m, m1, m2, m3, m4, m5, m6, m7, m8⟩
    · rw [e2, h1]
      obtain ⟨g1, g2, g3, g4, g5, g6⟩ := slides_props hck p3
      exact .inr ⟨g4, g5, z⟩
    · obtain ⟨f, -, -, -, -, q5, -, -, -, q9⟩ := ob_plain m7
      have q6 := ob_ge m7
      obtain ⟨g1, g2, g3, g4, g5, g6⟩ := cur_props (f := m + szAt x m) (l := obOut x (m : Int)) hck p3 ((inHp_iff _).2 (by omega)) m6 (by omega) (by omega) q9 (fun e he => by have := q6 e he; omega) (fun e he => by have := q6 e he; omega)
      rw [e2, m8]
      exact .inl ⟨g4, by rw [g5]; exact m6, fun h1 => absurd h1 z, fun _ => by rw [g5]; omega⟩
/-- What a step of PhSlide does to the phase line. -/
theorem sld_cur {x : List Nat} (ho : ∀ v ∈ x, v < 18446744073709551616) (hck : ckErr x = 0) (p4 : wd x 16 = 4) (h : (sgSld x).1 = 0) :
    wd (putE x (sgSld x).2) 16 = 4 ∧ wd (putE x (sgSld x).2) 17 ≤ x.length ∧ wd x 17 + 2 ≤ wd (putE x (sgSld x).2) 17 := by
  obtain ⟨-, hs, hl, hph⟩ := ck_parts hck
  have hb := (sizeOk_iff _).1 hs
  obtain ⟨⟨l1, l2, l3⟩, -⟩ := (lineW_iff x).1 hl
  have hnx : nxtErr x ((wd x 17 : Nat) : Int) = 0 := by
    by_cases h0 : nxtErr x ((wd x 17 : Nat) : Int) = 0
    · exact h0
    · unfold sgSld at h; rw [if_neg h0] at h; exact absurd h (by decide)
  obtain ⟨-, a1, a2, m, em, m1, m2, m3, m4, m5, m6, m7, m8, -⟩ := nxt_at hnx
  have hmv : mvErr x (m : Int) ((wd x 18 : Nat) : Int) = 0 := by
    by_cases h0 : mvErr x (m : Int) ((wd x 18 : Nat) : Int) = 0
    · exact h0
    · unfold sgSld at h; rw [if_pos hnx, em, bkAt_at, if_neg h0] at h; exact absurd h h0
  have e2 : sgSld x = (0, ⟨17, m + szAt x m⟩ :: ⟨18, wd x 18 + szAt x m⟩ :: mvEn x m (wd x 18)) := by
    unfold sgSld
    rw [if_pos hnx, em, bkAt_at, if_pos hmv, bkAt_size, show ((m : Int) + ((szAt x m : Nat) : Int)).toNat = m + szAt x m by omega, show (((wd x 18 : Nat) : Int) + ((szAt x m : Nat) : Int)).toNat = wd x 18 + szAt x m by omega]
    unfold mvOut
    rw [if_pos hmv, Int.toNat_natCast, Int.toNat_natCast]
  obtain ⟨a, u, n, ea, eu, en, n2, n10, hu, hua, han, hst, hlv, -, -, hun⟩ := slide_plain hmv
  have ea : a = m := by omega
  have eu : u = wd x 18 := by omega
  subst ea eu
  subst en
  have hfp := (phOk_iff _ _ _).1 hph
  have hin : inHp (wd x 17) = true ∧ inHp (wd x 18) = true ∧ wd x 18 ≤ wd x 17 := by
    rcases hfp with h1 | h1 | h1
    · exact h1.2
    · omega
    · omega
  have i1 := (inHp_iff _).1 hin.1
  have i2 := (inHp_iff _).1 hin.2.1
  rw [e2]
  obtain ⟨g1, g2, g3, g4, g5, g6⟩ := sld_props (f := a + szAt x a) (t := wd x 18 + szAt x a) (l := mvEn x a (wd x 18)) hck p4 ((inHp_iff _).2 (by omega)) ((inHp_iff _).2 (by omega)) (by omega) (by omega) (by omega) (by omega) (by rw [mvEn_len]; omega) (by
      rw [List.pairwise_iff_getElem]
      intro i j hi hj hij
      rw [mvEn_at, mvEn_at]; omega) (fun e he => by
      obtain ⟨k, hk, rfl⟩ := List.getElem_of_mem he
      rw [mvEn_at]
      rw [mvEn_len] at hk
      omega) (mvEn_lt ho hun)
  exact ⟨g4, by rw [g5]; omega, by rw [g5]; omega⟩

/-- How many changes are left at most. -/
noncomputable def rzM (x : List Nat) : Nat :=
  if wd x 16 = 1 then (wtOut x).length / 2 + 1 + ((x.length - 128) / 2 / 2 + 1) + ((x.length - 128) / 2 + 2) + ((x.length - 128) / 2 + 1)
  else if wd x 16 = 2 then (wnOut x).length / 2 + 1 + ((x.length - 128) / 2 + 2) + ((x.length - 128) / 2 + 1)
  else if wd x 16 = 3 then (if wd x 17 = 0 then (x.length - 128) / 2 + 2 else (x.length - wd x 17) / 2 + 1) + ((x.length - 128) / 2 + 1)
  else if wd x 16 = 4 then (x.length - wd x 17) / 2 + 1 else 0
theorem wn_half (x : List Nat) (hs : 128 ≤ x.length) : (wnOut x).length ≤ (x.length - 128) / 2 := by
  by_cases h : hpErr x = 0
  · rw [wn_eq h]
    have h1 := wantE_len (hpOut x) 128
    have h2 := hp_half x h
    omega
  · unfold wnOut; rw [if_neg h]; simp
theorem wt_half (x : List Nat) (hs : 128 ≤ x.length) : (wtOut x).length ≤ (x.length - 128) / 2 := by
  by_cases h : rcErr x = 0
  · rw [wtOut_eq h, List.length_map]
    have h1 := wntL_len (seenL x) (hpOut x)
    have h2 := hp_half x (rcErr_zero h).1
    omega
  · unfold wtOut; rw [if_neg h]; simp
/-- A change of a phase leaves less. -/
theorem rz_stage {x : List Nat} (ho : ∀ v ∈ x, v < 18446744073709551616) (h : (sgOne x).1 = 0) : rzM (putE x (sgOne x).2) < rzM x := by
  obtain ⟨hck, -, -, -, -, k6, -, -⟩ := sg_ok ho h
  obtain ⟨-, hs, hl, hph⟩ := ck_parts hck
  have hb := (sizeOk_iff _).1 hs
  obtain ⟨⟨l1, l2, l3⟩, -⟩ := (lineW_iff x).1 hl
  have hfp := (phOk_iff _ _ _).1 hph
  have hlen : (putE x (sgOne x).2).length = x.length := putE_len _ _
  have hwn := wn_half (putE x (sgOne x).2) (by omega)
  rw [hlen] at hwn
  unfold rzM
  rw [hlen]
  by_cases p1 : wd x 16 = 1
  · have hrc : rcErr x = 0 := by
      by_cases h0 : rcErr x = 0
      · exact h0
      · unfold sgOne at h; rw [if_pos hck, if_pos p1, if_neg h0] at h; exact absurd h h0
    have e : sgOne x = (0, batE (wtOut x) 2) := by unfold sgOne; rw [if_pos hck, if_pos p1, if_pos hrc]
    obtain ⟨r1, r2⟩ := wt_rows hrc
    obtain ⟨g1, g2, g3, g4, g5, g6⟩ := bat_props hck p1 (.inl rfl) (wtOut_inc hrc) (fun y hy => by
      obtain ⟨i, hi⟩ := List.mem_iff_getElem?.1 hy
      exact r1 i y hi) (wtOut_v hrc)
    simp only [Nat.reduceAdd] at g4
    rw [e] at hwn ⊢
    dsimp only at hwn ⊢
    rw [if_pos p1, g4]
    by_cases h32 : 32 ≤ (wtOut x).length
    · have hd := mark_dec2 hrc h32
      rw [if_pos h32, if_pos rfl, batE_great h32]
      omega
    · rw [if_neg h32, if_neg (by decide), if_pos rfl]
      omega
  · by_cases p2 : wd x 16 = 2
    · have hhp : hpErr x = 0 := by
        by_cases h0 : hpErr x = 0
        · exact h0
        · unfold sgOne at h; rw [if_pos hck, if_neg p1, if_pos p2, if_neg h0] at h; exact absurd h h0
      have e : sgOne x = (0, batE (wnOut x) 3) := by unfold sgOne; rw [if_pos hck, if_neg p1, if_pos p2, if_pos hhp]
      obtain ⟨r1, r2, r3⟩ := fw_ent hhp
      obtain ⟨g1, g2, g3, g4, g5, g6⟩ := bat_props hck p2 (.inr rfl) r1 r2 r3
      simp only [Nat.reduceAdd] at g4 g5
      rw [e] at hwn ⊢
      dsimp only at hwn ⊢
      rw [if_neg p1, if_pos p2, g4, g5]
      by_cases h32 : 32 ≤ (wnOut x).length
      · have hd := fwd_dec2 hhp h32
        rw [if_pos h32, if_neg (by decide), if_pos rfl, batE_great h32]
        omega
      · rw [if_neg h32, if_neg (by decide), if_neg (by decide), if_pos rfl, if_pos rfl]
        omega
    · by_cases p3 : wd x 16 = 3
      · have e : sgOne x = sgFix x := by unfold sgOne; rw [if_pos hck, if_neg p1, if_neg p2, if_pos p3]
        rw [e] at h ⊢
        have hF : wd x 17 = 0 ∨ 128 ≤ wd x 17 := by
          rcases hfp with h1 | ⟨-, -, h1⟩ | h1
          · omega
          · rcases h1 with h1 | h1
            · exact .inl h1
            · exact .inr ((inHp_iff _).1 h1).1
          · omega
        rcases fix_cur hck p3 h with ⟨g4, g5, g6, g7⟩ | ⟨g4, g5, g6⟩
        · rw [g4, if_neg (by decide), if_neg (by decide), if_pos rfl, if_neg p1, if_neg p2, if_pos p3]
          by_cases z : wd x 17 = 0
          · rw [if_pos z, g6 z, if_neg (by decide)]
            omega
          · have := g7 z
            rw [if_neg z, if_neg (by omega)]
            omega
        · rw [g4, g5, if_neg (by decide), if_neg (by decide), if_neg (by decide), if_pos rfl, if_neg p1, if_neg p2, if_pos p3, if_neg g6]
          omega
      · have p4 : wd x 16 = 4 := by omega
        have e : sgOne x = sgSld x := by unfold sgOne; rw [if_pos hck, if_neg p1, if_neg p2, if_neg p3, if_pos p4]
        rw [e] at h ⊢
        obtain ⟨g4, g5, g6⟩ := sld_cur ho hck p4 h
        rw [g4, if_neg (by decide), if_neg (by decide), if_neg (by decide), if_pos rfl, if_neg p1, if_neg p2, if_neg p3, if_pos p4]
        omega
theorem rzM_le {x : List Nat} (hs : sizeOk (x.length : Int) = true) : rzM x ≤ (x.length - 128) / 2 * 3 + 5 := by
  have hb := (sizeOk_iff _).1 hs
  have h1 := wt_half x (by omega)
  have h2 := wn_half x (by omega)
  unfold rzM
  by_cases p1 : wd x 16 = 1
  · rw [if_pos p1]; omega
  · rw [if_neg p1]
    by_cases p2 : wd x 16 = 2
    · rw [if_pos p2]; omega
    · rw [if_neg p2]
      by_cases p3 : wd x 16 = 3
      · rw [if_pos p3]
        split
        · omega
        · have : (x.length - wd x 17) / 2 ≤ x.length / 2 := by omega
          omega
      · rw [if_neg p3]
        split <;> omega
end Go.Proofs.Ytpfbppjjegialaa
