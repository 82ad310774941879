/- Going on is linear in the heap: what the changes that are left take at most. Plain. -/
import Derived.Test.YtpfbppjjegialaaRsE
import Derived.Test.YtpfbppjjegialaaSumP
namespace Go.Proofs.Ytpfbppjjegialaa
open Go.RowKit

theorem filter_cnt {α : Type} {p q : α → Bool} : ∀ {l : List α}, (∀ b ∈ l, q b = true → p b = true) → (l.filter q).length + (l.filter (fun b => p b && !q b)).length ≤ (l.filter p).length := by
  intro l
  induction l with
  | nil => intro _; exact Nat.le_refl _
  | cons c l ih =>
    intro h
    have i1 := ih fun x hx => h x (List.mem_cons_of_mem _ hx)
    have hc := h c (by simp)
    rw [List.filter_cons, List.filter_cons, List.filter_cons]
    cases hq : q c with
    | true => rw [hc hq]; simp only [if_true, if_false, Bool.not_true, Bool.and_false, Bool.false_eq_true, List.length_cons]; omega
    | false => cases hp : p c <;> simp only [if_true, if_false, Bool.not_false, Bool.and_true, Bool.false_eq_true, List.length_cons] <;> omega
/-- The wanted marks that are left behind a change of 31: 31 fewer. -/
theorem mark_dec31 {ws : List Nat} (h : rcErr ws = 0) (h32 : 32 ≤ (wtOut ws).length) : (wtOut (putE ws ((wtOut ws).take 31))).length + 31 ≤ (wtOut ws).length := by
  have hsub : ((wtOut ws).take 31).Sublist (wtOut ws) := List.take_sublist _ _
  have hinc : ((wtOut ws).take 31).Pairwise (fun a b => a.a < b.a) := (wtOut_inc h).sublist hsub
  obtain ⟨g1, g2, g3, g4, g5⟩ := (puts_rm_sub h hsub).same h
  have hlen : (wtOut ws).length = ((hpOut ws).filter fun b => !keepB (seenL ws) b).length := by rw [wtOut_eq h, List.length_map]; rfl
  have hT : ∀ b ∈ ((hpOut ws).filter fun b => !keepB (seenL ws) b).take 31, wntE ws (seenL ws) b ∈ (wtOut ws).take 31 := by
    intro b hb
    rw [wtOut_eq h, ← List.map_take]
    exact List.mem_map_of_mem hb
  have hlen32 := h32
  rw [hlen] at hlen32 ⊢
  rw [wtOut_eq g1, g3, g5, List.length_map]
  obtain ⟨x, hx⟩ : ∃ x, putE ws ((wtOut ws).take 31) = x := ⟨_, rfl⟩
  rw [hx]
  unfold wntL
  rw [List.filter_map, List.length_map]
  have hrow := hp_row (rcErr_zero h).1
  have hmk : ∀ b ∈ hpOut ws, (∀ e ∈ (wtOut ws).take 31, e.a ≠ b.at_) → (mkB x b).mark = b.mark := by
    intro b hb hno
    obtain ⟨a, rfl, a1, a2, a3, a4⟩ := hrow.1 b hb
    show mkAt x (bkAt ws a).at_.toNat = _
    rw [bkAt_at, Int.toNat_natCast]
    unfold mkAt
    rw [← hx, putE_wd _ _ _ (fun e he => by have := hno e he; rwa [bkAt_at] at this)]
    rfl
  have hone : ∀ e ∈ (wtOut ws).take 31, ∃ b ∈ hpOut ws, b.at_ = e.a ∧ (!keepB (seenL ws) b) = true ∧ (!(keepB (seenL ws) (mkB x b))) = false := by
    intro e he
    obtain ⟨a, hm, b1, b2, b3, g1', g2', e1, hk'⟩ := wtOut_mem h (hsub.subset he)
    refine ⟨bkAt ws a, hm, by rw [e1, bkAt_at], by rw [hk']; rfl, ?_⟩
    have hit := putE_hit _ ws hinc _ he (by rw [e1]; dsimp only; omega) (by rw [e1]; dsimp only; omega)
    rw [e1] at hit
    dsimp only at hit
    rw [Int.toNat_natCast, hx] at hit
    unfold keepB
    show (!((mkB x (bkAt ws a)).mark == ((seenL ws)[(bkAt ws a).at_.toNat]?.getD false))) = false
    have hm2 : (mkB x (bkAt ws a)).mark = seenAt ws (bkAt ws a) := by
      show mkAt x (bkAt ws a).at_.toNat = _
      rw [bkAt_at, Int.toNat_natCast]
      unfold mkAt
      rw [hit, (mk_word g1' g2' _).2.1]
    rw [hm2]
    unfold seenAt
    simp
  have key := filter_cnt (l := hpOut ws) (p := fun b => !keepB (seenL ws) b) (q := (fun b => !keepB (seenL ws) b) ∘ mkB x) (fun b hb hq => by
    dsimp only [Function.comp_apply] at hq ⊢
    cases hk : keepB (seenL ws) b with
    | false => rfl
    | true =>
      exfalso
      have hm := hmk b hb (fun e he h2 => by
        obtain ⟨a, hm, b1, b2, b3, g1', g2', rfl, hk'⟩ := wtOut_mem h (hsub.subset he)
        dsimp only at h2
        have : bkAt ws a = b := inc_uniqR hrow.2 hm hb (by rw [bkAt_at]; exact h2)
        rw [this, hk] at hk'; cases hk')
      unfold keepB at hk hq
      rw [hm] at hq
      change (!(b.mark == ((seenL ws)[b.at_.toNat]?.getD false))) = true at hq
      rw [hk] at hq
      exact absurd hq (by decide))
  have hsubT : (((hpOut ws).filter fun b => !keepB (seenL ws) b).take 31).Sublist (hpOut ws) := (List.take_sublist _ _).trans List.filter_sublist
  have hall : (((hpOut ws).filter fun b => !keepB (seenL ws) b).take 31).filter (fun b => (!keepB (seenL ws) b) && !(((fun b => !keepB (seenL ws) b) ∘ mkB x) b)) = ((hpOut ws).filter fun b => !keepB (seenL ws) b).take 31 := by
    rw [List.filter_eq_self]
    intro b hb
    have hm := hT b hb
    obtain ⟨b2, m2, e2, p2, q2⟩ := hone _ hm
    have hb2 : b2 = b := inc_uniqR hrow.2 m2 (hsubT.subset hb) e2
    subst hb2
    dsimp only [Function.comp_apply]
    rw [p2, q2]
    rfl
  have h2 := (hsubT.filter (fun b => (!keepB (seenL ws) b) && !(((fun b => !keepB (seenL ws) b) ∘ mkB x) b))).length_le
  rw [hall, List.length_take] at h2
  omega
theorem fwd_dec31 {ws : List Nat} (h : hpErr ws = 0) (h32 : 32 ≤ (wnOut ws).length) : (wnOut (putE ws ((wnOut ws).take 31))).length + 31 ≤ (wnOut ws).length := by
  obtain ⟨i1, i2, i3⟩ := fw_ent h
  have hw : wnOut ws = wantE (hpOut ws) 128 := wn_eq h
  have hrow := hp_row h
  have hsub : ((wnOut ws).take 31).Sublist (wnOut ws) := List.take_sublist _ _
  have hinc : ((wnOut ws).take 31).Pairwise (fun a b => a.a < b.a) := i1.sublist hsub
  have hodd : ∀ e ∈ wnOut ws, ∃ a : Nat, e.a = ((a + 1 : Nat) : Int) ∧ a % 2 = 0 ∧ 128 ≤ a := by
    intro e he
    rw [hw] at he
    obtain ⟨b, hb, -, e2⟩ := wantE_memD he
    obtain ⟨a, rfl, a1, a2, -⟩ := hrow.1 b hb
    exact ⟨a, by rw [e2, bkAt_at]; rfl, a2, a1⟩
  have hev : Ev ws (putE ws ((wnOut ws).take 31)) := by
    refine ⟨putE_len _ _, fun i hi => putE_wd _ _ _ fun e he h2 => ?_⟩
    obtain ⟨a, e1, a1, a2⟩ := hodd e (hsub.subset he)
    omega
  obtain ⟨g1, g2⟩ := hev.heap h
  have hw2 : wnOut (putE ws ((wnOut ws).take 31)) = wantE ((hpOut ws).map (nxB (putE ws ((wnOut ws).take 31)))) 128 := by rw [wn_eq g1, g2]
  rw [hw2]
  have hit : ∀ e ∈ (wnOut ws).take 31, wd (putE ws ((wnOut ws).take 31)) e.a.toNat = e.v := fun e he => by
    have hin := i2 _ (hsub.subset he)
    exact putE_hit _ ws hinc _ he (by omega) (by omega)
  have key := wantE_cnt (xs := putE ws ((wnOut ws).take 31)) (l := hpOut ws) (s := 128) hrow.2 (fun b hb => by obtain ⟨a, rfl, -⟩ := hrow.1 b hb; rw [bkAt_at]; omega) (fun b hb hk => by
    obtain ⟨a, rfl, a1, a2, a3, a4⟩ := hrow.1 b hb
    have hsz := stands_sz a4
    rw [bkAt_at, Int.toNat_natCast]
    by_cases hx : ∃ e ∈ (wnOut ws).take 31, e.a = ((a + 1 : Nat) : Int)
    · obtain ⟨e, he, e1⟩ := hx
      refine .inr ⟨e, by rw [← hw]; exact hsub.subset he, by rw [e1]; omega, ?_⟩
      have := hit e he
      rw [e1, Int.toNat_natCast] at this
      exact this
    · exact .inl (by rw [putE_wd _ _ _ (fun e he h2 => hx ⟨e, he, h2⟩)]; rfl))
  rw [← hw] at key
  have hfl : 31 ≤ ((wnOut ws).filter (fun e => wd (putE ws ((wnOut ws).take 31)) e.a.toNat == e.v)).length := by
    have h1 : (wnOut ws).take 31 = ((wnOut ws).take 31).filter (fun e => wd (putE ws ((wnOut ws).take 31)) e.a.toNat == e.v) := by
      symm
      rw [List.filter_eq_self]
      intro e he
      rw [beq_iff_eq]
      exact hit e he
    have h2 := (hsub.filter (fun e => wd (putE ws ((wnOut ws).take 31)) e.a.toNat == e.v)).length_le
    rw [← h1, List.length_take] at h2
    omega
  omega
/-- An object that has a field has four words at least. -/
theorem ob_few {ws : List Nat} {m : Nat} (h : obErr ws (m : Int) = 0) : 3 * (obOut ws (m : Int)).length + 5 ≤ 8 * szAt ws m := by
  have h0 : fxErr ws = 0 := by
    by_cases h1 : fxErr ws = 0
    · exact h1
    · rw [(ob_err rfl h1).1] at h; exact absurd h h1
  obtain ⟨g1, g2, g3⟩ := fxErr_zero h0
  cases hb : objF (frOut ws 128) (m : Int) with
  | none => rw [(ob_none h0 hb).1] at h; cases h
  | some b =>
    cases hmk : b.mark with
    | false => rw [(ob_unmk h0 hb hmk).1] at h; cases h
    | true =>
      cases ho : obFix ws (fxMv ws) (rfsB ws b) with
      | none => rw [(ob_bad h0 hb hmk ho).1] at h; cases h
      | some o =>
        rw [(ob_ok h0 hb hmk ho).2]
        obtain ⟨m2, e1, e2, e3⟩ := obj_in g1 hb
        have em : m2 = m := by omega
        subst em
        have hlo := obFix_len ho
        have h1 := rfTo_len (fldB ws b) b.at_ (fldB ws b).length
        have hR : (rfsB ws b).length ≤ (flds ws m2).length := by
          have hf : fldB ws b = flds ws m2 := by rw [e2]; rfl
          unfold rfsB
          rw [hf] at h1 ⊢
          exact h1
        have hfit := e3.2.2.2.2.2.1
        have hk1 := e3.2.2.2.2.1
        have hsz := stands_sz e3.2.2.2.1
        unfold fitB at hfit
        have hkb : (bkAt ws m2).kind = 1 := hk1
        rw [hkb] at hfit
        simp only [bne_self_eq_false, Bool.false_or] at hfit
        unfold typedB at hfit
        rw [Bool.and_eq_true, beq_iff_eq, bkAt_size] at hfit
        obtain ⟨t1, t2⟩ := hfit
        have hfl : (flds ws m2).length = wd ws (tyA (bkAt ws m2)) % 256 := krOut_len t1
        unfold objSz at t2
        have h8 := flds_le ws m2
        omega

/-- What a change takes at most. -/
def cst (E : List En) : Nat := 3 * E.length + 2
/-- What going on takes at most. -/
noncomputable def pot (x : List Nat) : Nat :=
  if wd x 16 = 1 then 4 * (wtOut x).length + 5 + (2 * (x.length - 128) + 5) + (8 * (x.length - 128) + 64) + (7 * (x.length - 128) + 17)
  else if wd x 16 = 2 then 4 * (wnOut x).length + 5 + (8 * (x.length - 128) + 64) + (7 * (x.length - 128) + 17)
  else if wd x 16 = 3 then (if wd x 17 = 0 then 8 * (x.length - 128) + 64 else 8 * (x.length - wd x 17) + 11) + (7 * (x.length - 128) + 17)
  else if wd x 16 = 4 then 7 * (x.length - wd x 17) + 17 else 0
theorem fix_pot {x : List Nat} (hck : ckErr x = 0) (p3 : wd x 16 = 3) (h : (sgFix x).1 = 0) : pot (putE x (sgFix x).2) + cst (sgFix x).2 ≤ pot x := by
  obtain ⟨-, hs, hl, hph⟩ := ck_parts hck
  have hb := (sizeOk_iff _).1 hs
  obtain ⟨⟨l1, l2, l3⟩, -⟩ := (lineW_iff x).1 hl
  have hlen : (putE x (sgFix x).2).length = x.length := putE_len _ _
  have hpx : pot x = (if wd x 17 = 0 then 8 * (x.length - 128) + 64 else 8 * (x.length - wd x 17) + 11) + (7 * (x.length - 128) + 17) := by
    unfold pot; rw [if_neg (by omega), if_neg (by omega), if_pos p3]
  by_cases z : wd x 17 = 0
  · have hfs : fsErr x = 0 := by
      by_cases h0 : fsErr x = 0
      · exact h0
      · unfold sgFix at h; rw [if_pos z, if_neg h0] at h; exact absurd h h0
    have e2 : sgFix x = (0, ⟨17, 128⟩ :: fsOut x) := by unfold sgFix; rw [if_pos z, if_pos hfs]
    obtain ⟨-, -, -, -, -, -, -, q1, q2, q3, -⟩ := fs_plain hfs
    obtain ⟨g1, g2, g3, g4, g5, g6⟩ := cur_props (f := 128) (l := fsOut x) hck p3 (by decide) (by omega) (by omega) (by omega) q2 (fun e he => by have := (q1 e he).1; omega) (fun e he => (q1 e he).2)
    rw [hpx, if_pos z]
    rw [e2] at hlen ⊢
    dsimp only at hlen ⊢
    unfold pot cst
    rw [hlen, g4, g5, if_neg (by decide), if_neg (by decide), if_pos rfl, if_neg (by decide), List.length_cons]
    omega
  · have e2 : sgFix x = fixE x (wd x 17) := by unfold sgFix; rw [if_neg z]
    have h' : (fixE x (wd x 17)).1 = 0 := by rw [← e2]; exact h
    rw [hpx, if_neg z]
    have hF : 128 ≤ wd x 17 := by
      rcases (phOk_iff _ _ _).1 hph with h1 | ⟨-, -, h1⟩ | h1
      · omega
      · rcases h1 with h1 | h1
        · exact absurd h1 z
        · exact ((inHp_iff _).1 h1).1
      · omega
    rcases fixE_cases x.length (wd x 17) (by omega) l2 h' with h1 | ⟨m, m1, m2, m3, m4, m5, m6, m7, m8⟩
    · rw [e2] at hlen ⊢
      rw [h1] at hlen ⊢
      obtain ⟨g1, g2, g3, g4, g5, g6⟩ := slides_props hck p3
      dsimp only at hlen ⊢
      have hc3 : cst slidesE = 11 := rfl
      unfold pot
      rw [hlen, g4, g5, hc3, if_neg (by decide), if_neg (by decide), if_neg (by decide), if_pos rfl]
      omega
    · obtain ⟨f, -, -, -, -, q5, -, -, -, q9⟩ := ob_plain m7
      have q6 := ob_ge m7
      have q7 := ob_few m7
      obtain ⟨g1, g2, g3, g4, g5, g6⟩ := cur_props (f := m + szAt x m) (l := obOut x (m : Int)) hck p3 ((inHp_iff _).2 (by omega)) m6 (by omega) (by omega) q9 (fun e he => by have := q6 e he; omega) (fun e he => by have := q6 e he; omega)
      rw [e2] at hlen ⊢
      rw [m8] at hlen ⊢
      dsimp only at hlen ⊢
      unfold pot cst
      rw [hlen, g4, g5, if_neg (by decide), if_neg (by decide), if_pos rfl, if_neg (by omega), List.length_cons]
      omega
theorem sld_pot {x : List Nat} (ho : ∀ v ∈ x, v < 18446744073709551616) (hck : ckErr x = 0) (p4 : wd x 16 = 4) (h : (sgSld x).1 = 0) : pot (putE x (sgSld x).2) + cst (sgSld x).2 ≤ pot x := by
  obtain ⟨-, hs, hl, hph⟩ := ck_parts hck
  have hb := (sizeOk_iff _).1 hs
  have hlen : (putE x (sgSld x).2).length = x.length := putE_len _ _
  have hpx : pot x = 7 * (x.length - wd x 17) + 17 := by
    unfold pot; rw [if_neg (by omega), if_neg (by omega), if_neg (by omega), if_pos p4]
  obtain ⟨g4, g5, g6⟩ := sld_cur ho hck p4 h
  have hnx : nxtErr x ((wd x 17 : Nat) : Int) = 0 := by
    by_cases h0 : nxtErr x ((wd x 17 : Nat) : Int) = 0
    · exact h0
    · unfold sgSld at h; rw [if_neg h0] at h; exact absurd h (by decide)
  obtain ⟨-, a1, a2, m, em, m1, m2, m3, m4, m5, m6, m7, m8, -⟩ := nxt_at hnx
  have hmv : mvErr x (m : Int) ((wd x 18 : Nat) : Int) = 0 := by
    by_cases h0 : mvErr x (m : Int) ((wd x 18 : Nat) : Int) = 0
    · exact h0
    · unfold sgSld at h; rw [if_pos hnx, em, bkAt_at, if_neg h0] at h; exact absurd h h0
  have e2 : sgSld x = (0, ⟨17, m + szAt x m⟩ :: ⟨18, wd x 18 + szAt x m⟩ :: mvEn x m (wd x 18)) := by
    unfold sgSld
    rw [if_pos hnx, em, bkAt_at, if_pos hmv, bkAt_size, show ((m : Int) + ((szAt x m : Nat) : Int)).toNat = m + szAt x m by omega, show (((wd x 18 : Nat) : Int) + ((szAt x m : Nat) : Int)).toNat = wd x 18 + szAt x m by omega]
    unfold mvOut
    rw [if_pos hmv, Int.toNat_natCast, Int.toNat_natCast]
  obtain ⟨a, u, n, ea, eu, en, n2, n10, hu, hua, han, hst, hlv, -, -, hun⟩ := slide_plain hmv
  have ea : a = m := by omega
  have eu : u = wd x 18 := by omega
  subst ea eu
  subst en
  have hin : inHp (wd x 17) = true ∧ inHp (wd x 18) = true ∧ wd x 18 ≤ wd x 17 := by
    rcases (phOk_iff _ _ _).1 hph with h1 | h1 | h1
    · exact h1.2
    · omega
    · omega
  have i1 := (inHp_iff _).1 hin.1
  have i2 := (inHp_iff _).1 hin.2.1
  obtain ⟨k1, k2, k3, k4, k5, k6⟩ := sld_props (f := a + szAt x a) (t := wd x 18 + szAt x a) (l := mvEn x a (wd x 18)) hck p4 ((inHp_iff _).2 (by omega)) ((inHp_iff _).2 (by omega)) (by omega) (by omega) (by omega) (by omega) (by rw [mvEn_len]; omega) (by
      rw [List.pairwise_iff_getElem]
      intro i j hi hj hij
      rw [mvEn_at, mvEn_at]; omega) (fun e he => by
      obtain ⟨k, hk, rfl⟩ := List.getElem_of_mem he
      rw [mvEn_at]
      rw [mvEn_len] at hk
      omega) (mvEn_lt ho hun)
  have h5 : wd (putE x (sgSld x).2) 17 = a + szAt x a := by rw [e2]; exact k5
  have hcl : cst (sgSld x).2 = 3 * szAt x a + 8 := by rw [e2]; unfold cst; rw [List.length_cons, List.length_cons, mvEn_len]; omega
  rw [hpx, hcl]
  unfold pot
  rw [hlen, g4, h5, if_neg (by decide), if_neg (by decide), if_neg (by decide), if_pos rfl]
  omega
/-- A change takes no more than what it leaves less. -/
theorem pot_step {x : List Nat} (ho : ∀ v ∈ x, v < 18446744073709551616) (h : (rsNx x).1 = 0) (hd : (rsNx x).2.1 = false) : pot (putE x (rsNx x).2.2) + cst (rsNx x).2.2 ≤ pot x := by
  by_cases h6 : (sgOne x).1 = 6
  · by_cases h0 : wd x 16 = 0
    · unfold rsNx at hd
      rw [if_pos h6, if_pos h0] at hd
      cases hd
    · have e : rsNx x = (enErr x, false, chOut x) := by unfold rsNx; rw [if_pos h6, if_neg h0]
      rw [e] at h ⊢
      dsimp only at h ⊢
      obtain ⟨g1, g2⟩ := ch_small h
      have h4 : wd x 16 = 4 := (en_facts h).2.2.2.1
      have hc : (chOut x).length ≤ 5 := by
        unfold chOut
        rw [if_pos h]
        have hph : phE 0 0 0 = [⟨16, 0⟩, ⟨17, 0⟩, ⟨18, 0⟩] := rfl
        rw [hph, List.length_append]
        split <;> simp
      unfold pot cst
      rw [g2, if_neg (by decide), if_neg (by decide), if_neg (by decide), if_neg (by decide), h4, if_neg (by decide), if_neg (by decide), if_neg (by decide), if_pos rfl]
      omega
  · have e : rsNx x = ((sgOne x).1, false, (sgOne x).2) := by unfold rsNx; rw [if_neg h6]
    rw [e] at h ⊢
    dsimp only at h ⊢
    obtain ⟨hck, -, -, -, -, k6, -, -⟩ := sg_ok ho h
    obtain ⟨-, hs, hl, hph⟩ := ck_parts hck
    have hb := (sizeOk_iff _).1 hs
    obtain ⟨⟨l1, l2, l3⟩, -⟩ := (lineW_iff x).1 hl
    have hlen : (putE x (sgOne x).2).length = x.length := putE_len _ _
    have hwn := wn_half (putE x (sgOne x).2) (by omega)
    rw [hlen] at hwn
    by_cases p1 : wd x 16 = 1
    · have hrc : rcErr x = 0 := by
        by_cases h0 : rcErr x = 0
        · exact h0
        · unfold sgOne at h; rw [if_pos hck, if_pos p1, if_neg h0] at h; exact absurd h h0
      have e : sgOne x = (0, batE (wtOut x) 2) := by unfold sgOne; rw [if_pos hck, if_pos p1, if_pos hrc]
      obtain ⟨r1, r2⟩ := wt_rows hrc
      obtain ⟨g1, g2, g3, g4, g5, g6⟩ := bat_props hck p1 (.inl rfl) (wtOut_inc hrc) (fun y hy => by
        obtain ⟨i, hi⟩ := List.mem_iff_getElem?.1 hy
        exact r1 i y hi) (wtOut_v hrc)
      simp only [Nat.reduceAdd] at g4
      rw [e] at hwn hlen ⊢
      dsimp only at hwn hlen ⊢
      unfold pot cst
      rw [hlen, if_pos p1, g4]
      by_cases h32 : 32 ≤ (wtOut x).length
      · have hd := mark_dec31 hrc h32
        rw [if_pos h32, if_pos rfl, batE_great h32, List.length_take]
        omega
      · rw [if_neg h32, if_neg (by decide), if_pos rfl, batE_few h32, List.length_cons]
        rw [batE_few h32] at hwn
        omega
    · by_cases p2 : wd x 16 = 2
      · have hhp : hpErr x = 0 := by
          by_cases h0 : hpErr x = 0
          · exact h0
          · unfold sgOne at h; rw [if_pos hck, if_neg p1, if_pos p2, if_neg h0] at h; exact absurd h h0
        have e : sgOne x = (0, batE (wnOut x) 3) := by unfold sgOne; rw [if_pos hck, if_neg p1, if_pos p2, if_pos hhp]
        obtain ⟨r1, r2, r3⟩ := fw_ent hhp
        obtain ⟨g1, g2, g3, g4, g5, g6⟩ := bat_props hck p2 (.inr rfl) r1 r2 r3
        simp only [Nat.reduceAdd] at g4 g5
        rw [e] at hwn hlen ⊢
        dsimp only at hwn hlen ⊢
        unfold pot cst
        rw [hlen, if_neg p1, if_pos p2, g4, g5]
        by_cases h32 : 32 ≤ (wnOut x).length
        · have hd := fwd_dec31 hhp h32
          rw [if_pos h32, if_neg (by decide), if_pos rfl, batE_great h32, List.length_take]
          omega
        · rw [if_neg h32, if_neg (by decide), if_neg (by decide), if_pos rfl, if_pos rfl, batE_few h32, List.length_cons]
          omega
      · by_cases p3 : wd x 16 = 3
        · have e : sgOne x = sgFix x := by unfold sgOne; rw [if_pos hck, if_neg p1, if_neg p2, if_pos p3]
          rw [e] at h ⊢
          exact fix_pot hck p3 h
        · have p4 : wd x 16 = 4 := by
            rcases (phOk_iff _ _ _).1 hph with h1 | ⟨-, -, h1⟩ | h1 <;> omega
          have e : sgOne x = sgSld x := by unfold sgOne; rw [if_pos hck, if_neg p1, if_neg p2, if_neg p3, if_pos p4]
          rw [e] at h ⊢
          exact sld_pot ho hck p4 h
theorem pot_le {x : List Nat} (hck : ckErr x = 0) : pot x ≤ 19 * (x.length - 128) + 91 := by
  obtain ⟨-, hs, hl, hph⟩ := ck_parts hck
  have hb := (sizeOk_iff _).1 hs
  have h1 := wt_half x (by omega)
  have h2 := wn_half x (by omega)
  have hfp := (phOk_iff _ _ _).1 hph
  unfold pot
  by_cases p1 : wd x 16 = 1
  · rw [if_pos p1]; omega
  · rw [if_neg p1]
    by_cases p2 : wd x 16 = 2
    · rw [if_pos p2]; omega
    · rw [if_neg p2]
      by_cases p3 : wd x 16 = 3
      · rw [if_pos p3]
        have hF : wd x 17 = 0 ∨ 128 ≤ wd x 17 := by
          rcases hfp with h1 | ⟨-, -, h1⟩ | h1
          · omega
          · rcases h1 with h1 | h1
            · exact .inl h1
            · exact .inr ((inHp_iff _).1 h1).1
          · omega
        split <;> omega
      · rw [if_neg p3]
        by_cases p4 : wd x 16 = 4
        · have hF : 128 ≤ wd x 17 := by
            rcases hfp with h1 | h1 | h1
            · exact ((inHp_iff _).1 h1.2.1).1
            · omega
            · omega
          rw [if_pos p4]; omega
        · rw [if_neg p4]; omega
theorem okPre_inc {ad : List Int} (h1 : ad.Pairwise (· < ·)) (h2 : ∀ a ∈ ad, 0 ≤ a ∧ a < 2048) : ∀ k, k ≤ ad.length → okPre ad k = true := by
  have hseen : ∀ k, k < ad.length → ∀ i, i ≤ k → addrSeen ad (ad[k]?.getD 0) i = false := by
    intro k hk i
    induction i with
    | zero => intro _; rfl
    | succ i ih =>
      intro hi
      have hp := List.pairwise_iff_getElem.1 h1 i k (by omega) hk (by omega)
      simp only [addrSeen, ih (by omega), Bool.false_or, beq_eq_false_iff_ne]
      rw [List.getElem?_eq_getElem (by omega), List.getElem?_eq_getElem hk, Option.getD_some, Option.getD_some]
      omega
  intro k
  induction k with
  | zero => intro _; rfl
  | succ k ih =>
    intro hk
    have hm := h2 _ (List.getElem_mem (show k < ad.length by omega))
    refine okPre_step (ih (by omega)) ?_ ?_ (hseen k (by omega) k (Nat.le_refl _))
    · rw [List.getElem?_eq_getElem (by omega), Option.getD_some]; exact hm.1
    · rw [List.getElem?_eq_getElem (by omega), Option.getD_some]; exact hm.2
theorem small_eff {n : Nat} {E : List En} (h : Small n E) (hn : n ≤ 2048) : ofErr (addrs E) = 0 ∧ ofS (addrs E) ≤ (cst E : Nat) ∧ ofF (addrs E) ≤ (cst E : Nat) ∧ ofN (addrs E) ≤ (cst E : Nat) := by
  have hl := addrs_len E
  have h0 : ofErr (addrs E) = 0 := by
    refine ofErr_ok (by rw [hl]; exact h.le) (okPre_inc ?_ (fun a ha => ?_) _ (Nat.le_refl _))
    · unfold addrs
      rw [List.pairwise_map]
      exact h.inc
    · obtain ⟨e, he, rfl⟩ := List.mem_map.1 ha
      have := h.ins e he
      omega
  have hp := h.pos
  have hnl := nLines_le (addrs E) E.length
  refine ⟨h0, ?_, ?_, ?_⟩
  · unfold ofS eStores cst; rw [if_pos h0, hl]; split <;> omega
  · unfold ofF eFlushes cst; rw [if_pos h0, hl]; split <;> omega
  · unfold ofN eFences cst; rw [if_pos h0, hl]; split <;> omega
theorem rs_pot : ∀ {outs : List (List En)} {x y : List Nat}, (∀ v ∈ x, v < 18446744073709551616) → x.length ≤ 2048 → rsE x = (0, outs, y) →
    sumErr (outs.map addrs) = 0 ∧ tot ofS (outs.map addrs) ≤ (pot x : Nat) ∧ tot ofF (outs.map addrs) ≤ (pot x : Nat) ∧ tot ofN (outs.map addrs) ≤ (pot x : Nat) := by
  intro outs
  induction outs with
  | nil => intro x y _ _ _; refine ⟨rfl, ?_, ?_, ?_⟩ <;> (simp only [List.map_nil, tot]; omega)
  | cons E outs ih =>
    intro x y ho hx h
    obtain ⟨h2, h3⟩ := rs_cons ho h
    have hok := rs_ok ho (by rw [h2]) (by rw [h2])
    have hp := pot_step ho (by rw [h2]) (by rw [h2])
    rw [h2] at hok hp
    dsimp only at hok hp
    obtain ⟨i1, i2, i3, i4⟩ := ih hok.2.1 (by rw [putE_len]; exact hx) h3
    obtain ⟨s1, s2, s3, s4⟩ := small_eff hok.1 hx
    simp only [List.map_cons, sumErr, tot]
    refine ⟨by rw [if_pos s1]; exact i1, ?_, ?_, ?_⟩ <;> omega
theorem eff_plain {ws y : List Nat} {outs : List (List En)} (ho : ∀ v ∈ ws, v < 18446744073709551616) (h : rsAll ws = (0, outs, y)) :
    sizeOk (ws.length : Int) = true ∧ sumErr (outs.map addrs) = 0 ∧ tot ofS (outs.map addrs) ≤ 20 * ((ws.length : Int) - 128) + 200 ∧ tot ofF (outs.map addrs) ≤ 20 * ((ws.length : Int) - 128) + 200 ∧ tot ofN (outs.map addrs) ≤ 20 * ((ws.length : Int) - 128) + 200 := by
  obtain ⟨hck, he, -⟩ := rsAll_on ho h
  obtain ⟨-, hs, -⟩ := ck_parts hck
  have hb := (sizeOk_iff _).1 hs
  obtain ⟨i1, i2, i3, i4⟩ := rs_pot ho (by omega) he
  have hp := pot_le hck
  exact ⟨hs, i1, by omega, by omega, by omega⟩
end Go.Proofs.Ytpfbppjjegialaa
