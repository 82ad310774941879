/- The plain half of the law FixupStill. -/
import Derived.Test.YtpmfiibndiecpaaMkJP
import Derived.Test.YtpmfiibndiecpaaKFix
namespace Go.Proofs.Ytpmfiibndiecpaa
open Go.RowKit

theorem slFix_all {ws : List Nat} {m : List (Int × Int)} : ∀ k, (∀ i, i < k → ∃ o, slStep ws m i = some o) → ∃ o, slFix ws m k = some o ∧ ((∀ i, i < k → slStep ws m i = some []) → o = []) := by
  intro k
  induction k with
  | zero => intro _; exact ⟨[], rfl, fun _ => rfl⟩
  | succ k ih =>
    intro h
    obtain ⟨o, ho, hn⟩ := ih (fun i hi => h i (by omega))
    obtain ⟨x, hx⟩ := h k (by omega)
    refine ⟨o ++ x, by simp only [slFix, ho, hx, Option.map_some], fun h2 => ?_⟩
    have h3 := h2 k (by omega)
    rw [hx] at h3
    injection h3 with h3
    rw [h3, hn (fun i hi => h2 i (by omega)), List.append_nil]
theorem obFix_all {ws : List Nat} {m : List (Int × Int)} : ∀ R : List Int, (∀ r ∈ R, ∃ o, obStep ws m r.toNat = some o) → ∃ o, obFix ws m R = some o ∧ ((∀ r ∈ R, obStep ws m r.toNat = some []) → o = []) := by
  intro R
  induction R with
  | nil => intro _; exact ⟨[], rfl, fun _ => rfl⟩
  | cons r R ih =>
    intro h
    obtain ⟨o, ho, hn⟩ := ih (fun i hi => h i (by simp [hi]))
    obtain ⟨x, hx⟩ := h r (by simp)
    refine ⟨x ++ o, by simp only [obFix, ho, hx, Option.map_some], fun h2 => ?_⟩
    have h3 := h2 r (by simp)
    rw [hx] at h3
    injection h3 with h3
    rw [h3, hn (fun i hi => h2 i (by simp [hi])), List.append_nil]
theorem mvTo_live : ∀ {l : List Bk} {s : Int} {b : Bk}, b ∈ l → liveB b = true → ∃ t, mvTo (moves l s) b.at_ = some t := by
  intro l
  induction l with
  | nil => intro s b h; simp at h
  | cons x l ih =>
    intro s b h hb
    simp only [moves]
    by_cases hx : liveB x = true
    · rw [if_pos hx]
      simp only [mvTo]
      by_cases e : x.at_ = b.at_
      · exact ⟨s, by rw [if_pos e]⟩
      · rw [if_neg e]
        rcases List.mem_cons.1 h with rfl | h
        · exact absurd rfl e
        · exact ih h hb
    · rw [if_neg hx]
      rcases List.mem_cons.1 h with rfl | h
      · exact absurd hb hx
      · exact ih h hb
theorem moves_mem : ∀ {l : List Bk} {s : Int} {m : Int × Int}, m ∈ moves l s → ∃ b ∈ l, liveB b = true ∧ b.at_ = m.1 := by
  intro l
  induction l with
  | nil => intro s m h; simp [moves] at h
  | cons x l ih =>
    intro s m h
    simp only [moves] at h
    split at h
    · rename_i hx
      rcases List.mem_cons.1 h with rfl | h
      · exact ⟨x, by simp, hx, rfl⟩
      · obtain ⟨b, h1, h2⟩ := ih h
        exact ⟨b, by simp [h1], h2⟩
    · obtain ⟨b, h1, h2⟩ := ih h
      exact ⟨b, by simp [h1], h2⟩
theorem wantE_mem : ∀ {l : List Bk} {s : Int} {e : En}, e ∈ wantE l s → ∃ b ∈ l, b.kind = 1 ∧ e.a = b.at_ + 1 := by
  intro l
  induction l with
  | nil => intro s e h; simp [wantE] at h
  | cons x l ih =>
    intro s e h
    simp only [wantE, List.mem_append] at h
    rcases h with h | h
    · split at h
      · rename_i hx
        rw [List.mem_singleton] at h
        subst h
        exact ⟨x, by simp, hx.1, rfl⟩
      · simp at h
    · obtain ⟨b, h1, h2⟩ := ih h
      exact ⟨b, by simp [h1], h2⟩
theorem fwB_mem : ∀ {l : List Bk} {s : Int} {b : Bk}, b ∈ fwB l s → ∃ b0 ∈ l, b.at_ = b0.at_ ∧ b.kind = b0.kind ∧ b.mark = b0.mark ∧ b.typ = b0.typ := by
  intro l
  induction l with
  | nil => intro s b h; simp [fwB] at h
  | cons x l ih =>
    intro s b h
    simp only [fwB] at h
    rcases List.mem_cons.1 h with rfl | h
    · refine ⟨x, by simp, ?_⟩
      split <;> exact ⟨rfl, rfl, rfl, rfl⟩
    · obtain ⟨b0, h1, h2⟩ := ih h
      exact ⟨b0, by simp [h1], h2⟩
theorem fwB_has : ∀ {l : List Bk} {s : Int} {b : Bk}, b ∈ l → ∃ b2 ∈ fwB l s, b2.at_ = b.at_ ∧ b2.kind = b.kind := by
  intro l
  induction l with
  | nil => intro s b h; simp at h
  | cons x l ih =>
    intro s b h
    simp only [fwB]
    rcases List.mem_cons.1 h with rfl | h
    · refine ⟨_, List.mem_cons_self .., ?_⟩
      split <;> exact ⟨rfl, rfl⟩
    · obtain ⟨b2, h1, h2⟩ := ih (s := nextS x s) h
      exact ⟨b2, List.mem_cons_of_mem _ h1, h2⟩
theorem objF_isSome {l : List Bk} {a : Int} {b : Bk} (h : b ∈ l) (h1 : b.at_ = a) (h2 : b.kind = 1) : ∃ b2, objF l a = some b2 := by
  cases hq : objF l a with
  | some b2 => exact ⟨b2, rfl⟩
  | none =>
    unfold objF at hq
    rw [List.find?_eq_none] at hq
    exact absurd (by simp [h1, h2]) (hq b h)
theorem inc_uniq {l : List Bk} (h : l.Pairwise (fun a b => a.at_ < b.at_)) {a b : Bk} (ha : a ∈ l) (hb : b ∈ l) (e : a.at_ = b.at_) : a = b := by
  obtain ⟨i, hi, rfl⟩ := List.getElem_of_mem ha
  obtain ⟨j, hj, rfl⟩ := List.getElem_of_mem hb
  rw [List.pairwise_iff_getElem] at h
  rcases Nat.lt_trichotomy i j with h1 | h1 | h1
  · have := h i j hi hj h1; omega
  · subst h1; rfl
  · have := h j i hj hi h1; omega
theorem slWd_raw {w : Nat} (h : w < 18446744073709551616) : slWd (slRaw w) = w := by
  unfold slWd slRaw
  dsimp only
  rw [Int.toNat_natCast, Int.toNat_natCast]
  by_cases hu : w / 9223372036854775808 = 1
  · rw [show (w / 9223372036854775808 == 1) = true by rw [beq_iff_eq]; exact hu, if_pos rfl]; omega
  · rw [show (w / 9223372036854775808 == 1) = false by rw [beq_eq_false_iff_ne]; exact hu, if_neg (by decide)]; omega
/-- Other blocks' second words are no fields of an object. -/
theorem fld_apart {ws : List Nat} (h : hpErr ws = 0) {a : Nat} (ho : isObj ws a) {i : Nat} (hi : i < (flds ws a).length) {b : Bk} (hb : b ∈ hpOut ws) : b.at_ + 1 ≠ ((a + 2 + i : Nat) : Int) := by
  obtain ⟨o1, o2, o3, o4, o5, o6, k, hk, e, hbk⟩ := ho
  have hfo := fit_obj (ws := ws) (b := bkAt ws a) o5
  rw [o6] at hfo
  have hfo := hfo.symm
  simp only [Bool.and_eq_true, beq_iff_eq] at hfo
  have h7 := hfo.2
  rw [bkAt_size] at h7
  have h8 : (flds ws a).length = (krOut (wd ws (tyA (bkAt ws a))) (wd ws (tyA (bkAt ws a) + 1))).length := rfl
  unfold objSz at h7
  obtain ⟨j, hj, rfl⟩ := List.getElem_of_mem hb
  rcases Nat.lt_or_ge k j with h1 | h1
  · rw [blocks_step o3 o4] at hbk
    cases hq : blocks ws (a + szAt ws a) with
    | none => rw [hq] at hbk; cases hbk
    | some l' =>
      rw [hq] at hbk
      simp only [Option.map_some, Option.some.injEq] at hbk
      have hd : l' = (hpOut ws).drop (k + 1) := by
        have := congrArg (List.drop 1) hbk
        rw [List.drop_drop] at this
        simpa using this
      have hm : (hpOut ws)[j] ∈ l' := by
        rw [hd]
        refine List.mem_iff_getElem.2 ⟨j - (k + 1), by rw [List.length_drop]; omega, ?_⟩
        rw [List.getElem_drop]
        congr 1
        omega
      have := (blocks_inc _ _ hq).1 _ hm
      omega
  · have hp := (hp_row h).2
    rw [List.pairwise_iff_getElem] at hp
    have ha : (hpOut ws)[k].at_ = (a : Int) := by rw [e, bkAt_at]
    rcases Nat.lt_or_ge j k with h2 | h2
    · have := hp j k hj hk h2
      omega
    · have : j = k := by omega
      subst this
      omega
/-- FixupStill. -/
theorem still_plain {ws : List Nat} (h : rcErr ws = 0) (ho : ∀ x ∈ ws, x < 18446744073709551616) : ∃ (x1 x2 : List Nat) (M : List (Int × Int)), x1 = putE ws (wtOut ws) ∧ x2 = putE x1 (wnOut x1) ∧ hpErr x1 = 0 ∧ rdErr x2 128 128 = 0 ∧ rdMv x2 128 128 = M ∧ fsErr x2 = 0 ∧ (∀ m ∈ M, obErr x2 m.1 = 0) ∧
    ((∀ m ∈ M, m.1 = m.2) → fsOut x2 = [] ∧ ∀ m ∈ M, obOut x2 m.1 = []) := by
  obtain ⟨h1, h2, h3⟩ := rcErr_zero h
  have hrm := puts_rm h
  obtain ⟨g1, g2, g3, g4, g5⟩ := hrm.same h
  obtain ⟨x1, hx1⟩ : ∃ x1, x1 = putE ws (wtOut ws) := ⟨_, rfl⟩
  rw [← hx1] at hrm g1 g2 g3 g4 g5
  obtain ⟨l, k1, k2, k3, k4, k5, k6, k7, -, -⟩ := back_plain g4
  have hwn : wnOut x1 = wantE l 128 := by unfold wnOut; rw [if_pos g4, k2]
  obtain ⟨x2, hx2⟩ : ∃ x2, x2 = putE x1 (wantE l 128) := ⟨_, rfl⟩
  rw [← hx2] at k4 k5 k6 k7
  have hll : l = (hpOut ws).map (mkB x1) := by rw [← k2, g5]
  have hinc : l.Pairwise (fun a b => a.at_ < b.at_) := by rw [hll]; exact map_inc (hp_row h1).2
  have hbd := fr_bd ws (hpErr_zero h1).1
  have hlen1 : x1.length = ws.length := hrm.len
  have hlen2 : x2.length = ws.length := by rw [hx2, putE_len, hlen1]
  -- words of x2
  have hlow : ∀ p, p < 128 → wd x2 p = wd ws p := by
    intro p hp
    rw [hx2, putE_wd _ _ _ (fun e he => ?_), hrm.low hp]
    have := wantE_at _ _ k1 128 e he
    omega
  have hfl : ∀ {a i : Nat}, Rch ws a → (flds ws a)[i]? = some 3 → wd x2 (a + 2 + i) = wd ws (a + 2 + i) := by
    intro a i ha hi
    obtain ⟨hob, -⟩ := tb_obj h1 (h3 a ha)
    rw [hx2, putE_wd _ _ _ (fun e he => ?_), hrm.ref h3 h1 ha (h3 a ha) hi]
    obtain ⟨b, hb, -, e2⟩ := wantE_mem he
    rw [e2]
    rw [hll] at hb
    obtain ⟨b0, hb0, rfl⟩ := List.mem_map.1 hb
    have hap := fld_apart h1 hob (List.getElem?_eq_some_iff.1 hi).1 (b := b0) hb0
    exact hap
  -- each reached object is moved
  have hlive : ∀ {a : Nat}, Rch ws a → ∃ t, mvTo (moves l 128) (a : Int) = some t := by
    intro a ha
    obtain ⟨b, hb, e, hk, -⟩ := rch_mem h ha
    have hb2 : mkB x1 b ∈ l := by rw [hll]; exact List.mem_map_of_mem hb
    have hm : (mkB x1 b).mark = true := by
      rw [hx1, puts_mark h hb, e]
      have hal := tb_lt (h3 a ha)
      exact (seenAt_iff hal).2 ha
    obtain ⟨t, ht⟩ := mvTo_live (s := 128) hb2 (by unfold liveB; rw [hm, show (mkB x1 b).kind = 1 from hk]; rfl)
    refine ⟨t, ?_⟩
    rw [show (mkB x1 b).at_ = (a : Int) by show b.at_ = _; rw [e, bkAt_at]] at ht
    exact ht
  have hfix : ∀ {a : Nat}, Rch ws a → ∃ t, fixOf (moves l 128) a = some t ∧ mvTo (moves l 128) (a : Int) = some t := by
    intro a ha
    obtain ⟨t, ht⟩ := hlive ha
    have hal := tb_lt (h3 a ha)
    exact ⟨t, by unfold fixOf; rw [if_neg (by omega)]; exact ht, ht⟩
  have hfx : fxErr x2 = 0 := by unfold fxErr; rw [if_pos k6, k4]
  have hmv : fxMv x2 = moves l 128 := by rw [(fxErr_zero hfx).2.2, k5]
  have hsl : ∀ i, i < 16 → slAt x2 i = slAt ws i := fun i hi => by unfold slAt; rw [hlow _ (by omega)]
  have hso : slsOk x2 = true := by
    rw [slsOk_iff]
    intro i hi
    rw [hsl i hi]
    exact (slsOk_iff ws).1 h2 i hi
  -- the slots
  have hst : ∀ i, i < 16 → ∃ o, slStep x2 (moves l 128) i = some o ∧ ((∀ m ∈ moves l 128, m.1 = m.2) → o = []) := by
    intro i hi
    unfold slStep
    by_cases hu : (slAt x2 i).used = true
    · rw [if_pos hu]
      have hu2 := hu
      rw [hsl i hi] at hu2 ⊢
      obtain ⟨t, t1, t2⟩ := hfix (Rch.slot i hi hu2)
      rw [t1]
      dsimp only
      have hat : (((slAt ws i).at_.toNat : Nat) : Int) = (slAt ws i).at_ := Int.toNat_of_nonneg (slRaw_bd (wd ws (112 + i))).2.2.1
      by_cases he : wd x2 (112 + i) = slWd ⟨(slAt ws i).gen, true, t⟩
      · rw [if_pos he]; exact ⟨[], rfl, fun _ => rfl⟩
      · rw [if_neg he]
        refine ⟨_, rfl, fun hstill => absurd ?_ he⟩
        have hte := hstill _ (mvTo_mem t2)
        dsimp only at hte
        have h5 : slWd (slAt ws i) = wd ws (112 + i) := slWd_raw (wd_lt ho _)
        rw [hlow _ (by omega), ← h5]
        congr 1
        rw [← hte, hat]
        obtain ⟨y, hy⟩ : ∃ y, slAt ws i = y := ⟨_, rfl⟩
        rw [hy] at hu2 ⊢
        obtain ⟨yg, yu, ya⟩ := y
        dsimp only at hu2 ⊢
        rw [hu2]
    · rw [if_neg hu]; exact ⟨[], rfl, fun _ => rfl⟩
  obtain ⟨o, ho1, ho2⟩ := slFix_all (ws := x2) (m := moves l 128) 16 (fun i hi => by obtain ⟨o, h4, -⟩ := hst i hi; exact ⟨o, h4⟩)
  have hfs := fs_ok hfx hso (o := o) (by rw [hmv]; exact ho1)
  -- the objects
  have hob : ∀ m ∈ moves l 128, obErr x2 m.1 = 0 ∧ ((∀ m ∈ moves l 128, m.1 = m.2) → obOut x2 m.1 = []) := by
    intro m hm
    obtain ⟨b, hb, hlv, hat⟩ := moves_mem hm
    unfold liveB at hlv
    simp only [Bool.and_eq_true, beq_iff_eq] at hlv
    have hfr : frOut x2 128 = fwB l 128 := by rw [(hp_fr k6).2.1, k7]
    obtain ⟨b2, hb2, e1, e2⟩ := fwB_has (s := 128) hb
    obtain ⟨b3, hb3⟩ := objF_isSome (a := m.1) hb2 (by rw [e1, hat]) (by rw [e2, hlv.1])
    obtain ⟨f1, f2, f3⟩ := objF_some hb3
    obtain ⟨b0, hb0, r1, r2, r3, r4⟩ := fwB_mem f1
    have hbe : b0 = b := inc_uniq hinc hb0 hb (by rw [← r1, f2, hat])
    subst hbe
    rw [hll] at hb0
    obtain ⟨bw, hbw, hbe⟩ := List.mem_map.1 hb0
    obtain ⟨a, ha, -, -, ha3, -⟩ := (hp_row h1).1 bw hbw
    have hra : Rch ws a := by
      have := puts_mark h hbw
      rw [← hx1, hbe, hlv.2, ha] at this
      exact (seenAt_iff ha3).1 this.symm
    have hat3 : b3.at_ = (a : Int) := by rw [r1, ← hbe, ha]; exact bkAt_at ws a
    have hty : b3.typ = (rawBk (wd ws a)).typ := by rw [r4, ← hbe, ha]; rfl
    obtain ⟨hob, -⟩ := tb_obj h1 (h3 a hra)
    have hty8 := obj_typ hob
    have hfb : fldB x2 b3 = flds ws a := by
      unfold fldB flds tyA
      rw [hty, hlow _ (by omega), hlow _ (by omega)]
    have hrs : ∀ r ∈ rfsB x2 b3, ∃ o, obStep x2 (moves l 128) r.toNat = some o ∧ ((∀ m ∈ moves l 128, m.1 = m.2) → o = []) := by
      intro r hr
      unfold rfsB at hr
      obtain ⟨i, -, hi, rfl⟩ := rfTo_mem.1 hr
      rw [hfb] at hi
      have hn : (b3.at_ + 2 + (i : Int)).toNat = a + 2 + i := by rw [hat3]; omega
      rw [hn]
      unfold obStep
      rw [hfl hra hi]
      by_cases hv : wd ws (a + 2 + i) = 0
      · rw [if_pos hv]; exact ⟨[], rfl, fun _ => rfl⟩
      · rw [if_neg hv]
        have hr := (rch_val h hra (r := ((a + 2 + i : Nat) : Int)) (refsL_mem.2 ⟨i, rfl, hi⟩)).2.2
        rw [Int.toNat_natCast] at hr
        obtain ⟨t, t1, t2⟩ := hfix (hr hv)
        rw [t1]
        dsimp only
        by_cases he : ((wd ws (a + 2 + i) : Nat) : Int) = t
        · rw [if_pos he]; exact ⟨[], rfl, fun _ => rfl⟩
        · rw [if_neg he]
          refine ⟨_, rfl, fun hstill => absurd ?_ he⟩
          exact hstill _ (mvTo_mem t2)
    obtain ⟨q, hq1, hq2⟩ := obFix_all (ws := x2) (m := moves l 128) (rfsB x2 b3) (fun r hr => by obtain ⟨o, h4, -⟩ := hrs r hr; exact ⟨o, h4⟩)
    have hok := ob_ok hfx (a := m.1) (b := b3) (by rw [hfr]; exact hb3) (by rw [r3]; exact hlv.2) (o := q) (by rw [hmv]; exact hq1)
    refine ⟨hok.1, fun hstill => ?_⟩
    rw [hok.2]
    refine hq2 fun r hr => ?_
    obtain ⟨o, h4, h5⟩ := hrs r hr
    rw [h4, h5 hstill]
  refine ⟨x1, x2, moves l 128, hx1, by rw [hwn]; exact hx2, g4, k4, k5, hfs.1, fun m hm => (hob m hm).1, fun hstill => ⟨?_, fun m hm => (hob m hm).2 hstill⟩⟩
  rw [hfs.2]
  refine ho2 fun i hi => ?_
  obtain ⟨o', h4, h5⟩ := hst i hi
  rw [h4, h5 hstill]
end Go.Proofs.Ytpmfiibndiecpaa
