/- What each change of a phase is like: plain facts. -/
import Derived.Test.YtpfbppjjegialaaStgD
namespace Go.Proofs.Ytpfbppjjegialaa
open Go.RowKit

/-- How much a phase leaves. -/
noncomputable def stM (ws : List Nat) : Nat := if wd ws 16 = 1 then (wtOut ws).length + 1 else if wd ws 16 = 2 then (wnOut ws).length + 1 else ws.length + 1 - wd ws 17
theorem fixE_cases {ws : List Nat} : ∀ k a, ws.length - a ≤ k → a ≤ ws.length → (fixE ws a).1 = 0 → fixE ws a = (0, slidesE) ∨ ∃ m : Nat, 128 ≤ m ∧ a ≤ m ∧ m % 2 = 0 ∧ 2 ≤ szAt ws m ∧ szAt ws m % 2 = 0 ∧ m + szAt ws m ≤ ws.length ∧ obErr ws (m : Int) = 0 ∧ fixE ws a = (0, ⟨17, m + szAt ws m⟩ :: obOut ws (m : Int)) := by
  intro k
  induction k with
  | zero =>
    intro a hk ha h
    by_cases h0 : nxtErr ws (a : Int) = 0
    · obtain ⟨hs, a1, a2, m, e, m1, m2, m3, m4, m5, -⟩ := nxt_at h0
      omega
    · exact .inl (fixE_no h0)
  | succ k ih =>
    intro a hk ha h
    by_cases h0 : nxtErr ws (a : Int) = 0
    · obtain ⟨hs, a1, a2, m, e, m1, m2, m3, m4, m5, -⟩ := nxt_at h0
      by_cases hr : rsOut ws (m : Int) = []
      · have e2 := fixE_skip h0 e hr
        rw [e2] at h ⊢
        rcases ih (m + szAt ws m) (by omega) (by omega) h with h1 | ⟨q, q1, q2, q3, q4, q5, q6, q7, q8⟩
        · exact .inl h1
        · exact .inr ⟨q, q1, by omega, q3, q4, q5, q6, q7, q8⟩
      · by_cases ho : obErr ws (m : Int) = 0
        · exact .inr ⟨m, by omega, m1, m2, m3, m4, m5, ho, fixE_ok h0 e hr ho⟩
        · rw [fixE_bad h0 e hr ho] at h
          exact absurd h ho
    · exact .inl (fixE_no h0)
theorem wn_eq {x : List Nat} (h : hpErr x = 0) : wnOut x = wantE (hpOut x) 128 := by unfold wnOut; rw [if_pos h]
theorem fw_ent {ws : List Nat} (h : hpErr ws = 0) : (wnOut ws).Pairwise (fun a b => a.a < b.a) ∧ (∀ e ∈ wnOut ws, 128 ≤ e.a ∧ e.a < (ws.length : Int)) ∧ (∀ e ∈ wnOut ws, e.v < 18446744073709551616) := by
  have hw : wnOut ws = wantE (hpOut ws) 128 := by unfold wnOut; rw [if_pos h]
  obtain ⟨_, l, g2, -, g4⟩ := hpErr_zero h
  refine ⟨?_, fun e he => ?_, (wnOut_bd h).2⟩
  · rw [hw, g4]; exact wantE_inc _ _ g2 128
  · rw [hw, g4] at he
    have := wantE_at _ _ g2 128 e he
    omega
theorem fwd_dec {ws : List Nat} (h : hpErr ws = 0) (h32 : 32 ≤ (wnOut ws).length) : hpErr (putE ws ((wnOut ws).take 31)) = 0 ∧ (wnOut (putE ws ((wnOut ws).take 31))).length < (wnOut ws).length := by
  obtain ⟨i1, i2, i3⟩ := fw_ent h
  have hw : wnOut ws = wantE (hpOut ws) 128 := by unfold wnOut; rw [if_pos h]
  have hrow := hp_row h
  have hsub : ((wnOut ws).take 31).Sublist (wnOut ws) := List.take_sublist _ _
  have hinc : ((wnOut ws).take 31).Pairwise (fun a b => a.a < b.a) := i1.sublist hsub
  have hodd : ∀ e ∈ wnOut ws, ∃ a : Nat, e.a = ((a + 1 : Nat) : Int) ∧ a % 2 = 0 ∧ 128 ≤ a := by
    intro e he
    rw [hw] at he
    obtain ⟨b, hb, -, e2⟩ := wantE_memD he
    obtain ⟨a, rfl, a1, a2, -⟩ := hrow.1 b hb
    exact ⟨a, by rw [e2, bkAt_at]; rfl, a2, a1⟩
  have hev : Ev ws (putE ws ((wnOut ws).take 31)) := by
    refine ⟨putE_len _ _, fun i hi => putE_wd _ _ _ fun e he h2 => ?_⟩
    obtain ⟨a, e1, a1, a2⟩ := hodd e (hsub.subset he)
    omega
  obtain ⟨g1, g2⟩ := hev.heap h
  refine ⟨g1, ?_⟩
  have hw2 : wnOut (putE ws ((wnOut ws).take 31)) = wantE ((hpOut ws).map (nxB (putE ws ((wnOut ws).take 31)))) 128 := by rw [wn_eq g1, g2]
  rw [hw2]
  have key := wantE_nx (xs := putE ws ((wnOut ws).take 31)) (l := hpOut ws) (s := 128) hrow.2 (fun b hb => by obtain ⟨a, rfl, -⟩ := hrow.1 b hb; rw [bkAt_at]; omega) (fun b hb hk => by
    obtain ⟨a, rfl, a1, a2, a3, a4⟩ := hrow.1 b hb
    have hsz := stands_sz a4
    rw [bkAt_at, Int.toNat_natCast]
    by_cases hx : ∃ e ∈ (wnOut ws).take 31, e.a = ((a + 1 : Nat) : Int)
    · obtain ⟨e, he, e1⟩ := hx
      refine .inr ⟨e, by rw [← hw]; exact hsub.subset he, by rw [e1]; omega, ?_⟩
      have := putE_hit _ ws hinc e he (by omega) (by omega)
      rw [e1, Int.toNat_natCast] at this
      exact this
    · exact .inl (by rw [putE_wd _ _ _ (fun e he h2 => hx ⟨e, he, h2⟩)]; rfl))
  rw [← hw] at key
  refine key.2 ?_
  have hpos : 0 < ((wnOut ws).take 31).length := by rw [List.length_take]; omega
  have he := List.getElem_mem hpos
  have hin := i2 _ (hsub.subset he)
  exact ⟨_, hsub.subset he, putE_hit _ ws hinc _ he (by omega) (by omega)⟩
/-- Every change is small, goes on, and leaves less. -/
theorem sg_ok {ws : List Nat} (ho : ∀ x ∈ ws, x < 18446744073709551616) (h : (sgOne ws).1 = 0) : ckErr ws = 0 ∧ Small ws.length (sgOne ws).2 ∧ prErr (putE ws (sgOne ws).2) = 0 ∧ onW ws (putE ws (sgOne ws).2) ∧ (wd (putE ws (sgOne ws).2) 16 = wd ws 16 → stM (putE ws (sgOne ws).2) < stM ws) ∧ (1 ≤ wd ws 16 ∧ wd ws 16 ≤ 4) ∧ wd (putE ws (sgOne ws).2) 16 ≤ wd ws 16 + 1 ∧ (wd ws 16 = 4 → wd (putE ws (sgOne ws).2) 16 = 4) := by
  have hck : ckErr ws = 0 := by
    by_cases h0 : ckErr ws = 0
    · exact h0
    · unfold sgOne at h; rw [if_neg h0] at h; exact absurd h h0
  obtain ⟨-, hs, hl, hph⟩ := ck_parts hck
  have hb := (sizeOk_iff _).1 hs
  obtain ⟨⟨l1, l2, l3⟩, -⟩ := (lineW_iff ws).1 hl
  by_cases p1 : wd ws 16 = 1
  · have hrc : rcErr ws = 0 := by
      by_cases h0 : rcErr ws = 0
      · exact h0
      · unfold sgOne at h; rw [if_pos hck, if_pos p1, if_neg h0] at h; exact absurd h h0
    have e : sgOne ws = (0, batE (wtOut ws) 2) := by unfold sgOne; rw [if_pos hck, if_pos p1, if_pos hrc]
    rw [e]
    dsimp only
    obtain ⟨r1, r2⟩ := wt_rows hrc
    obtain ⟨g1, g2, g3, g4, g5, g6⟩ := bat_props hck p1 (.inl rfl) (wtOut_inc hrc) (fun x hx => by
      obtain ⟨i, hi⟩ := List.mem_iff_getElem?.1 hx
      exact r1 i x hi) (wtOut_v hrc)
    simp only [Nat.reduceAdd] at g1 g2 g3 g4 g5 g6
    refine ⟨hck, g1, g2, g3, fun h5 => ?_, by omega, by rw [g4]; split <;> omega, fun h5 => by omega⟩
    have h32 : 32 ≤ (wtOut ws).length := by
      rw [g4] at h5
      split at h5
      · assumption
      · omega
    have hd := (mark_dec hrc h32).2
    rw [p1] at h5
    unfold stM
    rw [if_pos h5, if_pos p1, batE_great h32]
    omega
  · by_cases p2 : wd ws 16 = 2
    · have hhp : hpErr ws = 0 := by
        by_cases h0 : hpErr ws = 0
        · exact h0
        · unfold sgOne at h; rw [if_pos hck, if_neg p1, if_pos p2, if_neg h0] at h; exact absurd h h0
      have e : sgOne ws = (0, batE (wnOut ws) 3) := by unfold sgOne; rw [if_pos hck, if_neg p1, if_pos p2, if_pos hhp]
      rw [e]
      dsimp only
      obtain ⟨r1, r2, r3⟩ := fw_ent hhp
      obtain ⟨g1, g2, g3, g4, g5, g6⟩ := bat_props hck p2 (.inr rfl) r1 r2 r3
      simp only [Nat.reduceAdd] at g1 g2 g3 g4 g5 g6
      refine ⟨hck, g1, g2, g3, fun h5 => ?_, by omega, by rw [g4]; split <;> omega, fun h5 => by omega⟩
      have h32 : 32 ≤ (wnOut ws).length := by
        rw [g4] at h5
        split at h5
        · assumption
        · omega
      have hd := (fwd_dec hhp h32).2
      rw [p2] at h5
      unfold stM
      rw [if_neg (by omega), if_pos h5, if_neg p1, if_pos p2, batE_great h32]
      omega
    · by_cases p3 : wd ws 16 = 3
      · have e : sgOne ws = sgFix ws := by unfold sgOne; rw [if_pos hck, if_neg p1, if_neg p2, if_pos p3]
        rw [e] at h ⊢
        have fin : ∀ (f : Nat) (l : List En), sgFix ws = (0, ⟨17, f⟩ :: l) → inHp f = true → f ≤ ws.length → wd ws 17 < f → l.length ≤ 31 → l.Pairwise (fun a b => a.a < b.a) → (∀ e ∈ l, 112 ≤ e.a ∧ e.a < (ws.length : Int)) → (∀ e ∈ l, e.v < 18446744073709551616) →
            ckErr ws = 0 ∧ Small ws.length (sgFix ws).2 ∧ prErr (putE ws (sgFix ws).2) = 0 ∧ onW ws (putE ws (sgFix ws).2) ∧ (wd (putE ws (sgFix ws).2) 16 = wd ws 16 → stM (putE ws (sgFix ws).2) < stM ws) ∧ (1 ≤ wd ws 16 ∧ wd ws 16 ≤ 4) ∧ wd (putE ws (sgFix ws).2) 16 ≤ wd ws 16 + 1 ∧ (wd ws 16 = 4 → wd (putE ws (sgFix ws).2) 16 = 4) := by
          intro f l e2 f1 f2 f3 f4 f5 f6 f7
          rw [e2]
          dsimp only
          obtain ⟨g1, g2, g3, g4, g5, g6⟩ := cur_props hck p3 f1 f2 (by omega) f4 f5 f6 f7
          refine ⟨hck, g1, g2, g3, fun h5 => ?_, by omega, by rw [g4]; omega, fun h5 => by omega⟩
          unfold stM
          rw [g4, if_neg (by decide), if_neg (by decide), if_neg p1, if_neg p2, putE_len, g5]
          omega
        by_cases z : wd ws 17 = 0
        · have hfs : fsErr ws = 0 := by
            by_cases h0 : fsErr ws = 0
            · exact h0
            · unfold sgFix at h; rw [if_pos z, if_neg h0] at h; exact absurd h h0
          have e2 : sgFix ws = (0, ⟨17, 128⟩ :: fsOut ws) := by unfold sgFix; rw [if_pos z, if_pos hfs]
          obtain ⟨-, -, -, -, -, -, -, q1, q2, q3, -⟩ := fs_plain hfs
          exact fin 128 (fsOut ws) e2 (by decide) (by omega) (by omega) (by omega) q2 (fun e he => by have := (q1 e he).1; omega) (fun e he => (q1 e he).2)
        · have e2 : sgFix ws = fixE ws (wd ws 17) := by unfold sgFix; rw [if_neg z]
          have h' : (fixE ws (wd ws 17)).1 = 0 := by rw [← e2]; exact h
          rcases fixE_cases ws.length (wd ws 17) (by omega) l2 h' with h1 | ⟨m, m1, m2, m3, m4, m5, m6, m7, m8⟩
          · rw [e2, h1]
            dsimp only
            obtain ⟨g1, g2, g3, g4, g5, g6⟩ := slides_props hck p3
            exact ⟨hck, g1, g2, g3, fun h5 => by rw [g4] at h5; omega, by omega, by rw [g4]; omega, fun h5 => by omega⟩
          · obtain ⟨f, -, -, -, -, q5, -, -, -, q9⟩ := ob_plain m7
            have q6 := ob_ge m7
            exact fin (m + szAt ws m) (obOut ws (m : Int)) (by rw [e2, m8]) ((inHp_iff _).2 (by omega)) m6 (by omega) (by omega) q9 (fun e he => by have := q6 e he; omega) (fun e he => by have := q6 e he; omega)
      · by_cases p4 : wd ws 16 = 4
        · have e : sgOne ws = sgSld ws := by unfold sgOne; rw [if_pos hck, if_neg p1, if_neg p2, if_neg p3, if_pos p4]
          rw [e] at h ⊢
          have hnx : nxtErr ws ((wd ws 17 : Nat) : Int) = 0 := by
            by_cases h0 : nxtErr ws ((wd ws 17 : Nat) : Int) = 0
            · exact h0
            · unfold sgSld at h; rw [if_neg h0] at h; exact absurd h (by decide)
          obtain ⟨-, a1, a2, m, em, m1, m2, m3, m4, m5, m6, m7, m8, -⟩ := nxt_at hnx
          have hmv : mvErr ws (m : Int) ((wd ws 18 : Nat) : Int) = 0 := by
            by_cases h0 : mvErr ws (m : Int) ((wd ws 18 : Nat) : Int) = 0
            · exact h0
            · unfold sgSld at h; rw [if_pos hnx, em, bkAt_at, if_neg h0] at h; exact absurd h h0
          have e2 : sgSld ws = (0, ⟨17, m + szAt ws m⟩ :: ⟨18, wd ws 18 + szAt ws m⟩ :: mvEn ws m (wd ws 18)) := by
            unfold sgSld
            rw [if_pos hnx, em, bkAt_at, if_pos hmv, bkAt_size, show ((m : Int) + ((szAt ws m : Nat) : Int)).toNat = m + szAt ws m by omega, show (((wd ws 18 : Nat) : Int) + ((szAt ws m : Nat) : Int)).toNat = wd ws 18 + szAt ws m by omega]
            unfold mvOut
            rw [if_pos hmv, Int.toNat_natCast, Int.toNat_natCast]
          obtain ⟨a, u, n, ea, eu, en, n2, n10, hu, hua, han, hst, hlv, -, -, hun⟩ := slide_plain hmv
          have ea : a = m := by omega
          have eu : u = wd ws 18 := by omega
          subst ea eu
          subst en
          have hfp := (phOk_iff _ _ _).1 hph
          have hin : inHp (wd ws 17) = true ∧ inHp (wd ws 18) = true ∧ wd ws 18 ≤ wd ws 17 := by
            rcases hfp with h1 | h1 | h1
            · exact h1.2
            · omega
            · omega
          have i1 := (inHp_iff _).1 hin.1
          have i2 := (inHp_iff _).1 hin.2.1
          rw [e2]
          dsimp only
          obtain ⟨g1, g2, g3, g4, g5, g6⟩ := sld_props (f := a + szAt ws a) (t := wd ws 18 + szAt ws a) (l := mvEn ws a (wd ws 18)) hck p4 ((inHp_iff _).2 (by omega)) ((inHp_iff _).2 (by omega)) (by omega) (by omega) (by omega) (by omega) (by rw [mvEn_len]; omega) (by
              rw [List.pairwise_iff_getElem]
              intro i j hi hj hij
              rw [mvEn_at, mvEn_at]; omega) (fun e he => by
              obtain ⟨k, hk, rfl⟩ := List.getElem_of_mem he
              rw [mvEn_at]
              rw [mvEn_len] at hk
              omega) (mvEn_lt ho hun)
          refine ⟨hck, g1, g2, g3, fun h5 => ?_, by omega, by rw [g4]; omega, fun h5 => g4⟩
          unfold stM
          rw [g4, if_neg (by decide), if_neg (by decide), if_neg p1, if_neg p2, putE_len, g5]
          omega
        · have e : sgOne ws = (6, []) := by unfold sgOne; rw [if_pos hck, if_neg p1, if_neg p2, if_neg p3, if_neg p4]
          rw [e] at h
          exact absurd h (by decide)

/-! All changes of a phase -/
noncomputable def allG (p : Nat) : Nat → List Nat → Int × List (List En) × List Nat
  | 0, x => (0, [], x)
  | f + 1, x => if wd x 16 = p then (if (sgOne x).1 = 6 then (0, [], x) else if (sgOne x).1 = 0 then
      (if (allG p f (putE x (sgOne x).2)).1 = 0 then (0, (sgOne x).2 :: (allG p f (putE x (sgOne x).2)).2.1, (allG p f (putE x (sgOne x).2)).2.2) else ((allG p f (putE x (sgOne x).2)).1, [], []))
      else ((sgOne x).1, [], [])) else (0, [], x)
noncomputable def mzS (p : Nat) (x : List Nat) : Nat := if wd x 16 = p then stM x + 1 else 0
theorem putS_lt {ws : List Nat} (ho : ∀ x ∈ ws, x < 18446744073709551616) (h : (sgOne ws).1 = 0) : ∀ x ∈ putE ws (sgOne ws).2, x < 18446744073709551616 := putE_lt _ _ ho (sg_ok ho h).2.1.val
theorem mzS_dec {p : Nat} {x : List Nat} (ho : ∀ v ∈ x, v < 18446744073709551616) (hp : wd x 16 = p) (h : (sgOne x).1 = 0) : mzS p (putE x (sgOne x).2) < mzS p x := by
  unfold mzS
  rw [if_pos hp]
  split
  · rename_i h1
    have := (sg_ok ho h).2.2.2.2.1 (by rw [h1, hp])
    omega
  · omega
theorem allG_more {p : Nat} : ∀ {f g : Nat} {x : List Nat}, (∀ v ∈ x, v < 18446744073709551616) → mzS p x ≤ f → mzS p x ≤ g → allG p f x = allG p g x := by
  have key : ∀ n, ∀ f g x, (∀ v ∈ x, v < 18446744073709551616) → mzS p x ≤ n → mzS p x ≤ f → mzS p x ≤ g → allG p f x = allG p g x := by
    intro n
    induction n with
    | zero =>
      intro f g x ho h0 hf hg
      have hp : ¬ wd x 16 = p := fun hp => by unfold mzS at h0; rw [if_pos hp] at h0; omega
      cases f with
      | zero =>
        cases g with
        | zero => rfl
        | succ g => simp only [allG]; rw [if_neg hp]
      | succ f =>
        cases g with
        | zero => simp only [allG]; rw [if_neg hp]
        | succ g => simp only [allG]; rw [if_neg hp, if_neg hp]
    | succ n ih =>
      intro f g x ho h0 hf hg
      by_cases hp : wd x 16 = p
      · have h1 : 0 < mzS p x := by unfold mzS; rw [if_pos hp]; omega
        obtain ⟨f, rfl⟩ : ∃ f', f = f' + 1 := ⟨f - 1, by omega⟩
        obtain ⟨g, rfl⟩ : ∃ g', g = g' + 1 := ⟨g - 1, by omega⟩
        simp only [allG]
        by_cases h2 : (sgOne x).1 = 0
        · have hd := mzS_dec ho hp h2
          rw [ih f g (putE x (sgOne x).2) (putS_lt ho h2) (by omega) (by omega) (by omega)]
        · simp only [h2, if_false]
      · cases f with
        | zero =>
          cases g with
          | zero => rfl
          | succ g => simp only [allG]; rw [if_neg hp]
        | succ f =>
          cases g with
          | zero => simp only [allG]; rw [if_neg hp]
          | succ g => simp only [allG]; rw [if_neg hp, if_neg hp]
  intro f g x ho hf hg
  exact key _ f g x ho (Nat.le_refl _) hf hg
noncomputable def allE (p : Nat) (x : List Nat) : Int × List (List En) × List Nat := allG p (mzS p x) x
theorem allE_other {p : Nat} {x : List Nat} (h : wd x 16 ≠ p) : allE p x = (0, [], x) := by
  unfold allE mzS
  rw [if_neg h]; rfl
theorem allE_none {p : Nat} {x : List Nat} (hp : wd x 16 = p) (h : (sgOne x).1 = 6) : allE p x = (0, [], x) := by
  unfold allE mzS
  rw [if_pos hp]
  simp only [allG]
  rw [if_pos hp, if_pos h]
theorem allE_err {p : Nat} {x : List Nat} (hp : wd x 16 = p) (h : (sgOne x).1 ≠ 6) (h2 : (sgOne x).1 ≠ 0) : allE p x = ((sgOne x).1, [], []) := by
  unfold allE mzS
  rw [if_pos hp]
  simp only [allG]
  rw [if_pos hp, if_neg h, if_neg h2]
theorem allE_step {p : Nat} {x : List Nat} (ho : ∀ v ∈ x, v < 18446744073709551616) (hp : wd x 16 = p) (h : (sgOne x).1 = 0) : allE p x = (if (allE p (putE x (sgOne x).2)).1 = 0 then (0, (sgOne x).2 :: (allE p (putE x (sgOne x).2)).2.1, (allE p (putE x (sgOne x).2)).2.2) else ((allE p (putE x (sgOne x).2)).1, [], [])) := by
  have hd := mzS_dec ho hp h
  have hm : mzS p x = stM x + 1 := by unfold mzS; rw [if_pos hp]
  have e : allG p (stM x) (putE x (sgOne x).2) = allE p (putE x (sgOne x).2) := allG_more (putS_lt ho h) (by omega) (Nat.le_refl _)
  conv => lhs; unfold allE
  rw [hm]
  simp only [allG]
  rw [if_pos hp, if_neg (by rw [h]; decide), if_pos h, e]
/-- All changes of a view. -/
noncomputable def sgAll (ws : List Nat) : Int × List (List En) × List Nat := if ckErr ws = 0 then allE (wd ws 16) ws else (ckErr ws, [], [])
end Go.Proofs.Ytpfbppjjegialaa
