/- The plain half of the law TopReach. -/
import Derived.Test.YtoaepffpjoibaaaGreatLyQ
import Derived.Test.YtoaepffpjoibaaaGreatCpG
namespace Go.Proofs.YtoaepffpjoibaaaGreat
open Go.RowKit

theorem wd_ext {a b : List Nat} (hl : a.length = b.length) (h : ∀ i, i < a.length → wd a i = wd b i) : a = b := by
  apply List.ext_getElem hl
  intro i h1 h2
  rw [← wd_get h1, ← wd_get h2]
  exact h i h1
/-- Where blocks go is where their places are. -/
theorem mvTo_none : ∀ {M : List (Int × Int)} {a : Int}, (∀ p ∈ M, p.1 ≠ a) → mvTo M a = none := by
  intro M
  induction M with
  | nil => intro a _; rfl
  | cons p M ih =>
    intro a h
    simp only [mvTo]
    rw [if_neg (h p (by simp))]
    exact ih fun q hq => h q (List.mem_cons_of_mem _ hq)
theorem mvTo_place : ∀ {l : List Bk} {s : Int}, l.Pairwise (fun a b => a.at_ < b.at_) → ∀ k (h : k < l.length), mvTo (moves l s) l[k].at_ = if liveB l[k] = true then (placesOf l s)[k]? else none := by
  intro l
  induction l with
  | nil => intro s _ k h; simp at h
  | cons b l ih =>
    intro s hp k h
    rw [List.pairwise_cons] at hp
    simp only [moves, placesOf]
    cases k with
    | zero =>
      simp only [List.getElem_cons_zero]
      by_cases hb : liveB b = true
      · rw [if_pos hb, if_pos hb, if_pos hb]
        simp [mvTo]
      · rw [if_neg hb, if_neg hb]
        refine mvTo_none fun p hm => ?_
        obtain ⟨c, hc, -, e⟩ := moves_mem hm
        have := hp.1 c hc
        omega
    | succ k =>
      have hk : k < l.length := by simpa using h
      have hlt := hp.1 _ (List.getElem_mem hk)
      simp only [List.getElem_cons_succ]
      by_cases hb : liveB b = true
      · rw [if_pos hb, if_pos hb]
        simp only [mvTo]
        rw [if_neg (by omega), ih hp.2 k hk]
        simp
      · rw [if_neg hb, if_neg hb, ih hp.2 k hk]
        simp
/-- What marking and forwarding, each put at once, leave. -/
structure Tr (w x : List Nat) : Prop where
  len : x.length = w.length
  size : sizeOk (x.length : Int) = true
  lt : ∀ v ∈ x, v < 18446744073709551616
  low : ∀ i, i < 128 → wd x i = wd w i
  hp : hpErr x = 0
  rd : rdErr x 128 128 = 0
  mv : rdMv x 128 128 = moves (hpOut x) 128
  mkd : mkdL (hpOut x) = rcOut w
  st : stErr (hpOut x) 128 = 0
  fs : fsErr x = 0
  ob : ∀ m : Nat, Mk x m → obErr x (m : Int) = 0
theorem tr_of {w : List Nat} (hrc : rcErr w = 0) (ho : ∀ v ∈ w, v < 18446744073709551616) : hpErr (putE w (wtOut w)) = 0 ∧ Tr w (putE (putE w (wtOut w)) (wnOut (putE w (wtOut w)))) := by
  obtain ⟨x1, x2, M, e1, e2, s1, s2, s3, s4, s5, -⟩ := still_plain hrc ho
  rw [← e1, ← e2]
  obtain ⟨p1, p2, p3, p4, -⟩ := puts_plain hrc
  rw [← e1] at p1 p2 p3 p4
  have hw : wnOut x1 = wantE (hpOut x1) 128 := wn_eq s1
  have hnx : NxL x1 x2 := by
    rw [e2]
    refine nxl_put fun e he => ?_
    rw [hw] at he
    obtain ⟨b, hb, -, h3⟩ := wantE_memD he
    exact .inr ⟨b, hb, h3⟩
  have hl1 : x1.length = w.length := by rw [e1, putE_len]
  have hl2 : x2.length = w.length := by rw [e2, putE_len, hl1]
  have hs := (hpErr_zero (rcErr_zero hrc).1).1
  have h2 := ((hnx.ev s1).heap s1).1
  have hbl := (hp_fr h2).2.2.2
  have hbd := (sizeOk_iff _).1 hs
  have hlt1 : ∀ v ∈ x1, v < 18446744073709551616 := by rw [e1]; exact putE_lt _ _ ho (wtOut_v hrc)
  have hst := blocks_st (i := 128) (by omega) hbl (by omega) (by omega) (by omega) (s := 128) (by omega) (by omega) (by omega)
  refine ⟨s1, hl2, by rw [hl2]; exact hs, ?_, fun i hi => ?_, h2, s2, ?_, by rw [(hnx.mkd s1).1, p4], hst, s4, fun m hm => ?_⟩
  · rw [e2]; exact putE_lt _ _ hlt1 (fw_ent s1).2.2
  · rw [e2, putE_wd _ _ _ fun e he => by have := (fw_ent s1).2.1 e he; omega, e1, putE_wd _ _ _ fun e he => ?_]
    obtain ⟨i', hi'⟩ := List.mem_iff_getElem?.1 he
    have := ((wt_rows hrc).1 i' e hi').1
    omega
  · obtain ⟨-, -, l, r3, -, r5⟩ := rdErr_zero s2
    rw [show ((128 : Int)).toNat = 128 from rfl, hbl] at r3
    obtain rfl := Option.some.inj r3
    exact r5
  · have hmk := mkdL_moves (blocks_mk hbl (by omega)) 128
    have hin : (m : Int) ∈ mkdL (hpOut x2) := by
      unfold mkdL
      exact List.mem_map.2 ⟨bkAt x2 m, List.mem_filter.2 ⟨hm.1, hm.2⟩, bkAt_at x2 m⟩
    rw [hmk] at hin
    obtain ⟨q, hq, hqe⟩ := List.mem_map.1 hin
    rw [← hqe]
    obtain ⟨-, -, l, r3, -, r5⟩ := rdErr_zero s2
    rw [show ((128 : Int)).toNat = 128 from rfl, hbl] at r3
    obtain rfl := Option.some.inj r3
    exact s5 q (by rw [← s3, r5]; exact hq)
/-! Fixing, object by object -/
theorem ob_at {ws : List Nat} {m : Nat} (hob : obErr ws (m : Int) = 0) {e : En} (he : e ∈ obOut ws (m : Int)) : ∃ r ∈ rsOut ws (m : Int), e.a = r ∧ e.v < 2048 := by
  obtain ⟨g, -, -, -, -, q5, q6, q7, q10, q9⟩ := ob_plain hob
  obtain ⟨r, r1, r2, r3, r4⟩ := q10 e he
  by_cases hx : ∃ i, i < (rsOut ws (m : Int)).length ∧ g i = r
  · obtain ⟨i, hi, e1⟩ := hx
    exact ⟨_, List.getElem_mem hi, by rw [r1, (q6 i hi).1, e1], r4⟩
  · exfalso
    have h6 := q7 r fun i hi h => hx ⟨i, hi, h⟩
    have hit := putE_hit _ ws q9 e he (by omega) (by omega)
    rw [r1, Int.toNat_natCast, h6] at hit
    exact r3 hit
/-- Words of which the slots are fixed, and the references of some marked objects. -/
structure FxP (ws xs : List Nat) (P : Nat → Prop) : Prop where
  len : xs.length = ws.length
  low : ∀ i, i < 112 → wd xs i = wd ws i
  lt : ∀ v ∈ xs, v < 18446744073709551616
  blk : ∀ b ∈ hpOut ws, wd xs b.at_.toNat = wd ws b.at_.toNat ∧ wd xs (b.at_.toNat + 1) = wd ws (b.at_.toNat + 1)
  sl : ∀ i, i < 16 → slAt xs i = nwS ws (rdMv ws 128 128) i
  done : ∀ m : Nat, Mk ws m → P m → ∀ r ∈ rsOut ws (m : Int), okFx ws xs (rdMv ws 128 128) r.toNat
  todo : ∀ m : Nat, Mk ws m → ¬ P m → ∀ r ∈ rsOut ws (m : Int), wd xs r.toNat = wd ws r.toNat
theorem fxp_start {w x : List Nat} (T : Tr w x) : FxP x (putE x (fsOut x)) (fun _ => False) := by
  obtain ⟨-, hp, -, -, -, -, -, q1, q2, q3, q4, -⟩ := fs_plain T.fs
  have hoff : ∀ i : Nat, i < 112 ∨ 128 ≤ i → wd (putE x (fsOut x)) i = wd x i := fun i hi => putE_wd _ _ _ fun e he h => by have := (q1 e he).1; omega
  refine ⟨putE_len _ _, fun i hi => hoff i (.inl hi), putE_lt _ _ T.lt fun e he => (q1 e he).2, fun b hb => ?_, q4, fun m _ h => h.elim, fun m hm _ r hr => ?_⟩
  · obtain ⟨a, rfl, a1, -⟩ := (hp_row hp).1 b hb
    rw [bkAt_at, Int.toNat_natCast]
    exact ⟨hoff _ (by omega), hoff _ (by omega)⟩
  · obtain ⟨i, rfl, -, -, i3⟩ := rs_in hp hr
    rw [Int.toNat_natCast]
    exact hoff _ (by have := i3.1; omega)
theorem fxp_step {w x y : List Nat} {P : Nat → Prop} (T : Tr w x) (h : FxP x y P) {m : Nat} (hm : Mk x m) (hP : ¬ P m) : FxP x (putE y (obOut x (m : Int))) (fun m' => P m' ∨ m' = m) := by
  have hob := T.ob m hm
  have hp := T.hp
  have hat := fun e he => ob_at hob (e := e) he
  have hoff : ∀ j : Nat, (∀ r ∈ rsOut x (m : Int), r ≠ (j : Int)) → wd (putE y (obOut x (m : Int))) j = wd y j := fun j hj => putE_wd _ _ _ fun e he h5 => by
    obtain ⟨r, r1, r2, -⟩ := hat e he
    exact hj r r1 (by rw [← r2, h5])
  have hlo : ∀ j, j < 130 → wd (putE y (obOut x (m : Int))) j = wd y j := fun j hj => hoff j fun r hr hri => by
    obtain ⟨i', e1, -, -, i3⟩ := rs_in hp hr
    have := i3.1
    omega
  refine ⟨by rw [putE_len]; exact h.len, fun i hi => (hlo i (by omega)).trans (h.low i hi), putE_lt _ _ h.lt fun e he => ?_, fun b hb => ?_, fun i hi => ?_, fun m' hm' hp' r hr => ?_, fun m' hm' hp' r hr => ?_⟩
  · obtain ⟨-, -, -, r3⟩ := hat e he
    omega
  · obtain ⟨b1, b2⟩ := h.blk b hb
    have hb0 := hb
    obtain ⟨a, rfl, a1, a2, -⟩ := (hp_row hp).1 b hb
    have hbat : (bkAt x a).at_ = (a : Int) := bkAt_at x a
    rw [hbat, Int.toNat_natCast] at b1 b2 ⊢
    refine ⟨(hoff _ fun r hr hri => ?_).trans b1, (hoff _ fun r hr hri => ?_).trans b2⟩
    · obtain ⟨i', e1, i1, i2, i3⟩ := rs_in hp hr
      have := blk_apart hp i3 hb0
      rw [hbat] at this
      omega
    · obtain ⟨i', e1, i1, i2, i3⟩ := rs_in hp hr
      have := blk_apart hp i3 hb0
      rw [hbat] at this
      omega
  · rw [← h.sl i hi]
    unfold slAt
    rw [hlo _ (by omega)]
  · by_cases hq : m' = m
    · subst hq
      have hsame := h.todo m' hm' hP r hr
      obtain ⟨g, -, -, -, -, q5, q6, -⟩ := ob_plain hob
      obtain ⟨j, hj, ej⟩ := List.getElem_of_mem hr
      obtain ⟨e1, -, -, e4⟩ := q6 j hj
      rw [e1] at ej
      have ej2 : g j = r.toNat := by omega
      rw [ej2] at e4
      unfold okFx at e4 ⊢
      rw [putE_agree h.len hsame]
      exact e4
    · have hold := h.done m' hm' (hp'.resolve_right hq) r hr
      obtain ⟨i, rfl, -, -, i3⟩ := rs_in hp hr
      rw [Int.toNat_natCast] at hold ⊢
      unfold okFx at hold ⊢
      rw [hoff _ fun r2 hr2 hri => ?_]
      · exact hold
      · subst hri
        exact hq (rs_apart hp hm' hm hr hr2)
  · have hq : m' ≠ m := fun h => hp' (.inr h)
    have hold := h.todo m' hm' (fun h => hp' (.inl h)) r hr
    obtain ⟨i, rfl, -, -, i3⟩ := rs_in hp hr
    rw [Int.toNat_natCast] at hold ⊢
    rw [hoff _ fun r2 hr2 hri => ?_]
    · exact hold
    · subst hri
      exact hq (rs_apart hp hm' hm hr hr2)
/-- The words behind fixing the slots and the first objects. -/
def trY (x : List Nat) (M : List (Int × Int)) (j : Nat) : List Nat := (M.take j).foldl (fun y p => putE y (obOut x p.1)) (putE x (fsOut x))
theorem trY_zero (x : List Nat) (M : List (Int × Int)) : trY x M 0 = putE x (fsOut x) := rfl
theorem trY_succ {x : List Nat} {M : List (Int × Int)} {j : Nat} (h : j < M.length) : trY x M (j + 1) = putE (trY x M j) (obOut x M[j].1) := by
  unfold trY
  rw [List.take_succ_eq_append_getElem h, List.foldl_append]
  rfl
theorem tr_mv {w x : List Nat} (T : Tr w x) : (moves (hpOut x) 128).map Prod.fst = mkdL (hpOut x) := (mkdL_moves (blocks_mk (hp_fr T.hp).2.2.2 (by omega)) 128).symm
/-- The moved objects are the marked ones. -/
theorem tr_mk {w x : List Nat} (T : Tr w x) {j : Nat} (h : j < (moves (hpOut x) 128).length) : ∃ m t : Nat, (moves (hpOut x) 128)[j] = ((m : Int), (t : Int)) ∧ Mk x m := by
  have h1 : ((moves (hpOut x) 128)[j]).1 ∈ mkdL (hpOut x) := by
    rw [← tr_mv T]
    exact List.mem_map.2 ⟨_, List.getElem_mem h, rfl⟩
  unfold mkdL at h1
  obtain ⟨b, hb, e⟩ := List.mem_map.1 h1
  obtain ⟨hb1, hb2⟩ := List.mem_filter.1 hb
  obtain ⟨a, rfl, -⟩ := (hp_row T.hp).1 b hb1
  rw [bkAt_at] at e
  have h2 := (moves_snd (l := hpOut x) (s := 128) (fun b hb => ((blk_seq _ _ (hp_fr T.hp).2.2.2).1 b hb).2)).1 _ (List.getElem_mem h)
  obtain ⟨t, ht⟩ := Int.eq_ofNat_of_zero_le (show 0 ≤ ((moves (hpOut x) 128)[j]).2 by omega)
  exact ⟨a, t, by rw [e, ← ht], hb1, hb2⟩
theorem fxp_run {w x : List Nat} (T : Tr w x) : ∀ j, j ≤ (moves (hpOut x) 128).length → FxP x (trY x (moves (hpOut x) 128) j) (fun m => ∃ q : Nat, ∃ h : q < (moves (hpOut x) 128).length, q < j ∧ ((moves (hpOut x) 128)[q]).1 = (m : Int)) := by
  intro j
  induction j with
  | zero =>
    intro _
    rw [trY_zero]
    have h := fxp_start T
    refine ⟨h.len, h.low, h.lt, h.blk, h.sl, fun m _ hq => ?_, fun m hm _ => h.todo m hm (fun h => h)⟩
    obtain ⟨q, -, hq, -⟩ := hq
    omega
  | succ j ih =>
    intro hj
    have hjl : j < (moves (hpOut x) 128).length := by omega
    obtain ⟨m, t, e, hm⟩ := tr_mk T hjl
    have hinc : (mkdL (hpOut x)).Pairwise (· < ·) := mkdL_sub (hp_row T.hp).2
    rw [← tr_mv T, List.pairwise_map, List.pairwise_iff_getElem] at hinc
    have hno : ¬ ∃ q : Nat, ∃ h : q < (moves (hpOut x) 128).length, q < j ∧ ((moves (hpOut x) 128)[q]).1 = (m : Int) := by
      rintro ⟨q, hq, h1, h2⟩
      have := hinc q j hq hjl h1
      rw [e] at this
      dsimp only at this
      omega
    have h := fxp_step T (ih (by omega)) hm hno
    rw [trY_succ hjl, e]
    refine ⟨h.len, h.low, h.lt, h.blk, h.sl, fun m' hm' hq => h.done m' hm' ?_, fun m' hm' hq => h.todo m' hm' fun h2 => hq ?_⟩
    · obtain ⟨q, hq1, hq2, hq3⟩ := hq
      rcases Nat.lt_or_ge q j with h3 | h3
      · exact .inl ⟨q, hq1, h3, hq3⟩
      · have : q = j := by omega
        subst this
        rw [e] at hq3
        right
        dsimp only at hq3
        omega
    · rcases h2 with ⟨q, hq1, hq2, hq3⟩ | rfl
      · exact ⟨q, hq1, by omega, hq3⟩
      · exact ⟨j, hjl, by omega, by rw [e]⟩
/-! Sliding, object by object -/
/-- The view with a phase line put into it. -/
theorem line_at {y : List Nat} {p f t : Nat} (h : 256 ≤ y.length) : (putE y (phE p f t)).length = y.length ∧ wd (putE y (phE p f t)) 16 = p ∧ wd (putE y (phE p f t)) 17 = f ∧ wd (putE y (phE p f t)) 18 = t ∧ ∀ j, j ≠ 16 → j ≠ 17 → j ≠ 18 → wd (putE y (phE p f t)) j = wd y j := by
  unfold phE
  refine ⟨putE_len _ _, ?_, ?_, ?_, fun j h1 h2 h3 => putE_wd _ _ _ fun e he h => ?_⟩
  · exact wd_head (j := 16) (by omega) fun e he => by
      simp only [List.mem_cons, List.not_mem_nil, or_false] at he
      rcases he with rfl | rfl <;> (dsimp only; omega)
  · rw [put_skip (by omega)]
    exact wd_head (j := 17) (by omega) fun e he => by
      simp only [List.mem_cons, List.not_mem_nil, or_false] at he
      rcases he with rfl; dsimp only; omega
  · rw [put_skip (by omega), put_skip (by omega)]
    exact wd_head (j := 18) (l := []) (by omega) fun e he => by cases he
  · simp only [List.mem_cons, List.not_mem_nil, or_false] at he
    rcases he with rfl | rfl | rfl <;> (dsimp only at h; omega)
theorem line_swap {y : List Nat} {c : List En} {f t f' t' : Nat} (h : 256 ≤ y.length) (hc : ∀ e ∈ c, 19 ≤ e.a) : putE (putE y c) (phE 4 f' t') = putE (putE y (phE 4 f t)) (⟨17, f'⟩ :: ⟨18, t'⟩ :: c) := by
  have hl : 256 ≤ (putE y c).length := by rw [putE_len]; exact h
  obtain ⟨a0, a1, a2, a3, a4⟩ := line_at (y := putE y c) (p := 4) (f := f') (t := t') hl
  obtain ⟨b0, b1, b2, b3, b4⟩ := line_at (y := y) (p := 4) (f := f) (t := t) h
  refine wd_ext (by simp only [putE_len]) fun i _ => ?_
  by_cases h17 : i = 17
  · subst h17
    rw [a2]
    refine (wd_head (j := 17) (by rw [b0]; omega) fun e he => ?_).symm
    rcases List.mem_cons.1 he with rfl | he
    · dsimp only; omega
    · have := hc e he; omega
  · rw [put_skip (i := i) (a := 17) (by omega)]
    by_cases h18 : i = 18
    · subst h18
      rw [a3]
      exact (wd_head (j := 18) (by rw [b0]; omega) fun e he => by have := hc e he; omega).symm
    · rw [put_skip (i := i) (a := 18) (by omega)]
      by_cases h16 : i = 16
      · subst h16
        rw [a1, putE_wd _ _ _ fun e he => by have := hc e he; omega, b1]
      · rw [a4 i h16 h17 h18]
        exact (putE_agree b0 (b4 i h16 h17 h18)).symm
/-- What holds while objects are moved one by one. -/
structure Sv (z0 z : List Nat) (i : Nat) : Prop where
  ck : ckErr z = 0
  p4 : wd z 16 = 4
  lt : ∀ v ∈ z, v < 18446744073709551616
  sl : ∃ k, SlT z0 z k (wd z 17) (wd z 18) ∧ (moves ((hpOut z0).take k) 128).length = i
theorem Sv.parts {z0 z : List Nat} {i : Nat} (h : Sv z0 z i) : 128 ≤ wd z 18 ∧ wd z 18 ≤ wd z 17 ∧ wd z 17 ≤ z.length ∧ wd z 17 % 2 = 0 ∧ 256 ≤ z.length ∧ z.length ≤ 2048 ∧ z.length = z0.length := by
  obtain ⟨-, hs, hl, hph⟩ := ck_parts h.ck
  have hb := (sizeOk_iff _).1 hs
  obtain ⟨⟨l1, l2, l3⟩, -⟩ := (lineW_iff z).1 hl
  have p4 := h.p4
  have hpp : inHp (wd z 17) = true ∧ inHp (wd z 18) = true ∧ wd z 18 ≤ wd z 17 := by
    rcases (phOk_iff _ _ _).1 hph with h1 | h1 | h1
    · exact h1.2
    · omega
    · omega
  have i1 := (inHp_iff _).1 hpp.1
  have i2 := (inHp_iff _).1 hpp.2.1
  obtain ⟨k, hk, -⟩ := h.sl
  exact ⟨i2.1, hpp.2.2, l2, i1.2.2, by omega, by omega, hk.len⟩
/-- How many objects are left. -/
theorem Sv.left {z0 z : List Nat} {i : Nat} (h0 : hpErr z0 = 0) (h : Sv z0 z i) : i + lfN z = (moves (hpOut z0) 128).length ∧ ∃ k, SlT z0 z k (wd z 17) (wd z 18) ∧ (moves ((hpOut z0).take k) 128).length = i ∧ lfN z = (mkdL ((hpOut z0).drop k)).length ∧ blocks z (wd z 17) = some ((hpOut z0).drop k) := by
  obtain ⟨q1, q2, q3, q4, q5, q6, q7⟩ := h.parts
  have p4 := h.p4
  obtain ⟨k, hk, hki⟩ := h.sl
  obtain ⟨hs, -, a, e, h1, h2, h3, l, h4, h5⟩ := left_start h.ck (by omega)
  have ea : a = wd z 17 := by
    unfold lfFrom at e
    rw [if_neg (by omega)] at e
    omega
  subst ea
  have hbl : blocks z (wd z 17) = some ((hpOut z0).drop k) := by
    rw [blocks_agree hk.len _ fun j hj => hk.up j (by omega) (by omega)]
    exact hk.bl
  rw [hbl] at h4
  obtain rfl := Option.some.inj h4
  have hmm := mkdL_moves (l := (hpOut z0).drop k) (fun b hb hm => blocks_mk (hp_fr h0).2.2.2 (by omega) b (List.mem_of_mem_drop hb) hm) ((wd z 18 : Nat) : Int)
  have hlen := congrArg List.length hmm
  rw [List.length_map] at hlen
  have hM : (moves (hpOut z0) 128).length = (moves ((hpOut z0).take k) 128).length + (moves ((hpOut z0).drop k) ((wd z 18 : Nat) : Int)).length := by
    conv => lhs; rw [← List.take_append_drop k (hpOut z0)]
    rw [moves_append, hk.to, List.length_append]
  exact ⟨by omega, k, hk, hki, h5, hbl⟩
theorem Sv.step {z0 z : List Nat} {i : Nat} (h0 : hpErr z0 = 0) (h : Sv z0 z i) (hi : i < (moves (hpOut z0) 128).length) : ∃ m : Nat, nxtErr z ((wd z 17 : Nat) : Int) = 0 ∧ nxtB z ((wd z 17 : Nat) : Int) = bkAt z m ∧ (moves (hpOut z0) 128)[i] = ((m : Int), ((wd z 18 : Nat) : Int)) ∧ mvErr z (m : Int) ((wd z 18 : Nat) : Int) = 0 ∧ mvOut z (m : Int) ((wd z 18 : Nat) : Int) = mvEn z m (wd z 18) ∧ m + szAt z m ≤ z.length ∧ wd z 17 ≤ m ∧ 2 ≤ szAt z m ∧ Sv z0 (putE z (⟨17, m + szAt z m⟩ :: ⟨18, wd z 18 + szAt z m⟩ :: mvEn z m (wd z 18))) (i + 1) := by
  obtain ⟨q1, q2, q3, q4, q5, q6, q7⟩ := h.parts
  obtain ⟨hl, k, hk, hki, h5, hbl⟩ := h.left h0
  obtain ⟨-, hs, -, -⟩ := ck_parts h.ck
  obtain ⟨m0, z1, l', hnx, -⟩ := left_step hs (by omega) q3 q4 hbl (by omega)
  obtain ⟨-, -, -, m, em, m1, -, m3, -, m5, -⟩ := nxt_at hnx
  obtain ⟨hz, g4, gck⟩ := sld_step h.lt h.ck h.p4 hnx
  obtain ⟨e, hmv⟩ := sld_form h.ck h.p4 hnx hz em
  obtain ⟨k', hx', hFm, hms⟩ := slt_step hk q1 q2 hnx em
  have hget : (moves (hpOut z0) 128)[i] = ((m : Int), ((wd z 18 : Nat) : Int)) := by
    have hM : moves (hpOut z0) 128 = moves ((hpOut z0).take k) 128 ++ [((m : Int), ((wd z 18 : Nat) : Int))] ++ moves ((hpOut z0).drop k') (endOf ((hpOut z0).take k') 128) := by
      conv => lhs; rw [← List.take_append_drop k' (hpOut z0)]
      rw [moves_append, hms]
    have : (moves (hpOut z0) 128)[i]? = some ((m : Int), ((wd z 18 : Nat) : Int)) := by
      rw [hM, List.append_assoc, List.getElem?_append_right (by omega), hki, Nat.sub_self]
      rfl
    rw [List.getElem?_eq_getElem hi] at this
    exact Option.some.inj this
  have hlt2 := putS_lt h.lt hz
  rw [e] at g4 gck hlt2
  have h17 : wd (putE z (⟨17, m + szAt z m⟩ :: ⟨18, wd z 18 + szAt z m⟩ :: mvEn z m (wd z 18))) 17 = m + szAt z m := wd_head (j := 17) (by omega) fun e he => by
    rcases List.mem_cons.1 he with rfl | he
    · dsimp only; omega
    · obtain ⟨q, hq, rfl⟩ := List.getElem_of_mem he
      rw [mvEn_at]; omega
  have h18 : wd (putE z (⟨17, m + szAt z m⟩ :: ⟨18, wd z 18 + szAt z m⟩ :: mvEn z m (wd z 18))) 18 = wd z 18 + szAt z m := by
    rw [put_skip (by omega)]
    exact wd_head (j := 18) (by omega) fun e he => by
      obtain ⟨q, hq, rfl⟩ := List.getElem_of_mem he
      rw [mvEn_at]; omega
  refine ⟨m, hnx, em, hget, hmv, ?_, m5, m1, m3, gck, g4, hlt2, k', ?_, ?_⟩
  · unfold mvOut
    rw [if_pos hmv, Int.toNat_natCast, Int.toNat_natCast]
  · rw [h17, h18]; exact hx'
  · rw [hms, List.length_append, hki]
    rfl
theorem Sv.end_ {z0 z : List Nat} (h0 : hpErr z0 = 0) (h : Sv z0 z (moves (hpOut z0) 128).length) : lfN z = 0 ∧ endOf (hpOut z0) 128 = ((wd z 18 : Nat) : Int) := by
  obtain ⟨hl, k, hk, hki, h5, -⟩ := h.left h0
  have hz : lfN z = 0 := by omega
  refine ⟨hz, ?_⟩
  have hno : noMark ((hpOut z0).drop k) ((hpOut z0).drop k).length := by
    intro j hj
    unfold gk
    rw [List.getElem?_eq_getElem hj, Option.getD_some]
    cases hm : (((hpOut z0).drop k)[j]).mark with
    | false => rfl
    | true =>
      have : (((hpOut z0).drop k)[j]).at_ ∈ mkdL ((hpOut z0).drop k) := by
        unfold mkdL
        exact List.mem_map.2 ⟨_, List.mem_filter.2 ⟨List.getElem_mem hj, hm⟩, rfl⟩
      have := List.length_pos_of_mem this
      omega
  conv => lhs; rw [← List.take_append_drop k (hpOut z0)]
  rw [endOf_append, hk.to, (end_unmk hno).1]
/-- Where moving begins. -/
theorem sv_start {w x : List Nat} {t : Nat} (L : Lay w t) (T : Tr w x) {y : List Nat} {P : Nat → Prop} (h : FxP x y P) : Sv (putE y (phE 4 128 128)) (putE y (phE 4 128 128)) 0 ∧ hpErr (putE y (phE 4 128 128)) = 0 ∧ hpOut (putE y (phE 4 128 128)) = hpOut x := by
  have hs := T.size
  have hb := (sizeOk_iff _).1 hs
  obtain ⟨a0, a1, a2, a3, a4⟩ := line_at (y := y) (p := 4) (f := 128) (t := 128) (by rw [h.len]; omega)
  obtain ⟨z, hz⟩ : ∃ z, putE y (phE 4 128 128) = z := ⟨_, rfl⟩
  rw [hz] at a0 a1 a2 a3 a4 ⊢
  have hd : Hd x z := by
    refine ⟨a0.trans h.len, fun i h1 h2 => (a4 i (by omega) (by omega) (by omega)).trans (h.low i (by omega)), fun b hb2 => ?_⟩
    obtain ⟨b1, b2⟩ := h.blk b hb2
    obtain ⟨a, rfl, q1, -⟩ := (hp_row T.hp).1 b hb2
    rw [bkAt_at, Int.toNat_natCast] at b1 b2 ⊢
    exact ⟨(a4 _ (by omega) (by omega) (by omega)).trans b1, (a4 _ (by omega) (by omega) (by omega)).trans b2⟩
  obtain ⟨h1, h2⟩ := hd.heap T.hp
  have hlow : ∀ i, 19 ≤ i → i < 24 → wd z i = 0 := fun i h1 h2 => by
    rw [a4 i (by omega) (by omega) (by omega), h.low i (by omega), T.low i (by omega), L.z16 i (by omega) (by omega)]
  have hlz : z.length = x.length := a0.trans h.len
  have hpr : prErr z = 0 := by
    refine pr_ok (by rw [hlz]; exact hs) ?_ ?_
    · rw [lineW_iff, a1, a2, a3, hlow 19 (by omega) (by omega), hlow 20 (by omega) (by omega), hlow 21 (by omega) (by omega), hlow 22 (by omega) (by omega), hlow 23 (by omega) (by omega)]
      omega
    · rw [a1, a2, a3]; rfl
  refine ⟨⟨?_, a1, ?_, 0, ?_, rfl⟩, h1, h2⟩
  · unfold ckErr
    rw [if_pos (ln_of hpr (by omega)), if_pos a1, a3, a2, if_pos (mvd_start _ _)]
    exact (hd.rd T.hp T.rd).1
  · rw [← hz]
    refine putE_lt _ _ h.lt fun e he => ?_
    unfold phE at he
    simp only [List.mem_cons, List.not_mem_nil, or_false] at he
    rcases he with rfl | rfl | rfl <;> (dsimp only; omega)
  · rw [a2, a3]; exact slt_start h1
end Go.Proofs.YtoaepffpjoibaaaGreat
