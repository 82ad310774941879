/- Texts laid together: CpP CpQ CpR CpS CpT CpU CpV CpW CpX CpY CpZ CpD. -/
import Derived.Test.YtoaepffpjoibaaaGreatKStg3
import Derived.Test.YtoaepffpjoibaaaGreatKRs
namespace Go.Proofs.YtoaepffpjoibaaaGreat
open Go.RowKit

/-- Where the error of a view's line is none and it is not in PhFix, the line is right. -/
theorem ln_of {x : List Nat} (h : prErr x = 0) (h3 : wd x 16 ≠ 3) : lnErr x = 0 := by
  unfold lnErr
  rw [if_pos h, if_neg (fun h => h3 h.1)]
theorem ck_of {x : List Nat} (h : prErr x = 0) (h3 : wd x 16 ≠ 3) (h4 : wd x 16 ≠ 4) (hh : hpErr x = 0) : ckErr x = 0 := by
  unfold ckErr
  rw [if_pos (ln_of h h3), if_neg h4, if_neg h3]
  exact hh
/-- Marking goes through where all that is reached is right. -/
theorem mark_run : ∀ n x, (∀ v ∈ x, v < 18446744073709551616) → mzS 1 x ≤ n → wd x 16 = 1 → ckErr x = 0 → rcErr x = 0 → (allE 1 x).1 = 0 ∧ wd (allE 1 x).2.2 16 = 2 ∧ prErr (allE 1 x).2.2 = 0 ∧ 1 ≤ (allE 1 x).2.1.length := by
  intro n
  induction n with
  | zero => intro x _ h p1; exfalso; unfold mzS at h; rw [if_pos p1] at h; omega
  | succ n ih =>
    intro x ho h p1 hck hrc
    have e : sgOne x = (0, batE (wtOut x) 2) := by unfold sgOne; rw [if_pos hck, if_pos p1, if_pos hrc]
    have h0 : (sgOne x).1 = 0 := by rw [e]
    have hd := mzS_dec ho p1 h0
    obtain ⟨-, -, k3, -, -, -, -, -⟩ := sg_ok ho h0
    obtain ⟨r1, r2⟩ := wt_rows hrc
    obtain ⟨g1, g2, g3, g4, g5, g6⟩ := bat_props hck p1 (.inl rfl) (wtOut_inc hrc) (fun y hy => by
      obtain ⟨i, hi⟩ := List.mem_iff_getElem?.1 hy
      exact r1 i y hi) (wtOut_v hrc)
    simp only [Nat.reduceAdd] at g4
    rw [allE_step ho p1 h0]
    by_cases h32 : 32 ≤ (wtOut x).length
    · rw [if_pos h32] at g4
      have hrc2 : rcErr (putE x (sgOne x).2) = 0 := by
        rw [e, batE_great h32]
        exact (mark_dec hrc h32).1
      have p1' : wd (putE x (sgOne x).2) 16 = 1 := by rw [e]; exact g4
      have hck2 : ckErr (putE x (sgOne x).2) = 0 := ck_of k3 (by omega) (by omega) (rcErr_zero hrc2).1
      obtain ⟨i1, i2, i3, i4⟩ := ih _ (putS_lt ho h0) (by omega) p1' hck2 hrc2
      rw [if_pos i1]
      exact ⟨rfl, i2, i3, by simp⟩
    · rw [if_neg h32] at g4
      have p2' : wd (putE x (sgOne x).2) 16 = 2 := by rw [e]; exact g4
      rw [allE_other (by omega), if_pos rfl]
      exact ⟨rfl, p2', k3, by simp⟩
/-- The last change of the phase of next-words leaves them right. -/
theorem fwd_last {x : List Nat} (hhp : hpErr x = 0) (hf : ¬ 32 ≤ (wnOut x).length) : rdErr (putE x (batE (wnOut x) 3)) 128 128 = 0 ∧ rdMv (putE x (batE (wnOut x) 3)) 128 128 = moves (hpOut x) 128 ∧ hpErr (putE x (batE (wnOut x) 3)) = 0 ∧ hpOut (putE x (batE (wnOut x) 3)) = fwB (hpOut x) 128 := by
  have hz := nxl_put (x := x) (E := [⟨16, 3⟩]) (fun e he => by
    rw [List.mem_singleton] at he
    subst he
    exact .inl (by dsimp only; omega))
  obtain ⟨z1, z2⟩ := (hz.ev hhp).heap hhp
  have hrow := hp_row hhp
  have hid : (hpOut x).map (nxB (putE x [⟨16, 3⟩])) = hpOut x := by
    rw [List.map_congr_left (g := id) (fun b hb => ?_), List.map_id]
    obtain ⟨a, rfl, a1, a2, -⟩ := hrow.1 b hb
    show nxB (putE x [⟨16, 3⟩]) (bkAt x a) = bkAt x a
    unfold nxB
    refine bk_same ?_
    rw [bkAt_at, show ((a : Int)).toNat = a from Int.toNat_natCast a, putE_wd _ _ _ (fun e he => by
      rw [List.mem_singleton] at he
      subst he
      dsimp only
      omega)]
    rfl
  rw [hid] at z2
  have hb := back_plain z1
  obtain ⟨l, -, b2, -, b4, b5, b6, b7, -⟩ := hb
  rw [z2] at b2
  subst b2
  have e : putE x (batE (wnOut x) 3) = putE (putE x [⟨16, 3⟩]) (wantE (hpOut x) 128) := by
    rw [batE_few hf, ← putE_append, wn_eq hhp]
    rfl
  rw [e]
  exact ⟨b4, b5, b6, b7⟩
/-- The phase of next-words goes through. -/
theorem fwd_runs : ∀ n x, (∀ v ∈ x, v < 18446744073709551616) → mzS 2 x ≤ n → wd x 16 = 2 → ckErr x = 0 → (allE 2 x).1 = 0 ∧ wd (allE 2 x).2.2 16 = 3 ∧ wd (allE 2 x).2.2 17 = 0 ∧ prErr (allE 2 x).2.2 = 0 ∧ 1 ≤ (allE 2 x).2.1.length ∧ rdErr (allE 2 x).2.2 128 128 = 0 ∧ hpErr (allE 2 x).2.2 = 0 := by
  intro n
  induction n with
  | zero => intro x _ h p2; exfalso; unfold mzS at h; rw [if_pos p2] at h; omega
  | succ n ih =>
    intro x ho h p2 hck
    have hhp : hpErr x = 0 := by
      have := hck
      unfold ckErr at this
      rw [if_pos (ck_ln hck), if_neg (by omega), if_neg (by omega)] at this
      exact this
    have e : sgOne x = (0, batE (wnOut x) 3) := by unfold sgOne; rw [if_pos hck, if_neg (by omega), if_pos p2, if_pos hhp]
    have h0 : (sgOne x).1 = 0 := by rw [e]
    have hd := mzS_dec ho p2 h0
    obtain ⟨-, -, k3, -, -, -, -, -⟩ := sg_ok ho h0
    obtain ⟨r1, r2, r3⟩ := fw_ent hhp
    obtain ⟨g1, g2, g3, g4, g5, g6⟩ := bat_props hck p2 (.inr rfl) r1 r2 r3
    simp only [Nat.reduceAdd] at g4 g5
    rw [allE_step ho p2 h0]
    by_cases h32 : 32 ≤ (wnOut x).length
    · rw [if_pos h32] at g4
      have p2' : wd (putE x (sgOne x).2) 16 = 2 := by rw [e]; exact g4
      have hck2 : ckErr (putE x (sgOne x).2) = 0 := ck_of k3 (by omega) (by omega) (fwd_keep p2 h0).1
      obtain ⟨i1, i2, i3, i4, i5, i6, i7⟩ := ih _ (putS_lt ho h0) (by omega) p2' hck2
      rw [if_pos i1]
      exact ⟨rfl, i2, i3, i4, by simp, i6, i7⟩
    · rw [if_neg h32] at g4
      have p3' : wd (putE x (sgOne x).2) 16 = 3 := by rw [e]; exact g4
      obtain ⟨f1, -, f3, -⟩ := fwd_last hhp h32
      rw [allE_other (by omega), if_pos rfl]
      refine ⟨rfl, p3', by rw [e]; exact g5, k3, by simp, ?_, ?_⟩
      · rw [e]; exact f1
      · rw [e]; exact f3
end Go.Proofs.YtoaepffpjoibaaaGreat

namespace Go.Proofs.YtoaepffpjoibaaaGreat
open Go.RowKit

/-- Words that agree in the types, and in both words of each block. -/
structure Hd (ws xs : List Nat) : Prop where
  len : xs.length = ws.length
  low : ∀ i : Nat, 96 ≤ i → i < 112 → wd xs i = wd ws i
  blk : ∀ b ∈ hpOut ws, wd xs b.at_.toNat = wd ws b.at_.toNat ∧ wd xs (b.at_.toNat + 1) = wd ws (b.at_.toNat + 1)
section
variable {ws xs : List Nat}
theorem Hd.blocks (h : Hd ws xs) : ∀ i l, blocks ws i = some l → (∀ b ∈ l, b ∈ hpOut ws) → Proofs.YtoaepffpjoibaaaGreat.blocks xs i = some l := by
  refine blocks_ind (fun i l => (∀ b ∈ l, b ∈ hpOut ws) → Proofs.YtoaepffpjoibaaaGreat.blocks xs i = some l) (fun i hi _ => ?_) (fun i l hi hs hb ih h2 => ?_)
  · exact blocks_end (by rw [h.len]; exact hi)
  · have ih := ih (fun b hb => h2 b (List.mem_cons_of_mem _ hb))
    obtain ⟨b1, b2⟩ := h.blk _ (h2 (bkAt ws i) (by simp))
    rw [bkAt_at, Int.toNat_natCast] at b1 b2
    have hz : szAt xs i = szAt ws i := by unfold szAt; rw [b1]
    have hst : stands xs i = true := by unfold Proofs.YtoaepffpjoibaaaGreat.stands at hs ⊢; rw [b1, h.len]; exact hs
    have hbk : bkAt xs i = bkAt ws i := by unfold bkAt; rw [b1, b2]
    rw [blocks_step (by rw [h.len]; exact hi) hst, hz, ih, hbk]
    rfl
theorem Hd.ty (h : Hd ws xs) (h0 : hpErr ws = 0) {b : Bk} (hb : b ∈ hpOut ws) (hk : b.kind = 1) : wd xs (tyA b) = wd ws (tyA b) ∧ wd xs (tyA b + 1) = wd ws (tyA b + 1) := by
  obtain ⟨k, hk2, rfl⟩ := List.getElem_of_mem hb
  have ht := blocks_typ (hp_fr h0).2.2.2 (by omega) hk2 hk
  unfold tyA
  exact ⟨h.low _ (by omega) (by omega), h.low _ (by omega) (by omega)⟩
theorem Hd.fit (h : Hd ws xs) (h0 : hpErr ws = 0) {b : Bk} (hb : b ∈ hpOut ws) : fitB xs b = fitB ws b := by
  unfold fitB
  by_cases hk : b.kind = 1
  · obtain ⟨t1, t2⟩ := h.ty h0 hb hk
    unfold typedB
    rw [t1, t2]
  · have : (b.kind != 1) = true := by rw [bne_iff_ne]; exact hk
    rw [this, Bool.true_or, Bool.true_or]
theorem Hd.heap (h : Hd ws xs) (h0 : hpErr ws = 0) : hpErr xs = 0 ∧ hpOut xs = hpOut ws := by
  obtain ⟨h1, l, h2, h3, h4⟩ := hpErr_zero h0
  have hb := h.blocks 128 l h2 (fun b hb => by rw [h4]; exact hb)
  rw [h4]
  refine hpErr_ok (by rw [h.len]; exact h1) hb ?_
  rw [List.all_eq_true] at h3 ⊢
  intro b hb2
  rw [h.fit h0 (by rw [h4]; exact hb2)]
  exact h3 b hb2
theorem Hd.mv (h : Hd ws xs) (h0 : hpErr ws = 0) : ∀ (l : List Bk) (s : Int), (∀ b ∈ l, b ∈ hpOut ws) → allMv xs l s = allMv ws l s := by
  intro l
  induction l with
  | nil => intro s _; rfl
  | cons b l ih =>
    intro s hl
    simp only [allMv]
    rw [h.fit h0 (hl b (by simp)), ih _ (fun c hc => hl c (List.mem_cons_of_mem _ hc)), ih _ (fun c hc => hl c (List.mem_cons_of_mem _ hc))]
theorem Hd.rd (h : Hd ws xs) (h0 : hpErr ws = 0) (hr : rdErr ws 128 128 = 0) : rdErr xs 128 128 = 0 ∧ rdMv xs 128 128 = rdMv ws 128 128 := by
  obtain ⟨r1, r2, l, r3, r4, r5⟩ := rdErr_zero hr
  have hl : l = hpOut ws := by
    have := (hp_fr h0).2.2.2
    rw [show ((128 : Int)).toNat = 128 from rfl] at r3
    rw [r3] at this
    exact Option.some.inj this
  have hb := h.blocks 128 l r3 (fun b hb => by rw [← hl]; exact hb)
  have hx : rdErr xs 128 128 = 0 := by
    rw [rdErr_of (by rw [h.len]; exact r1) (by rw [h.len]; exact r2) (l := l) hb, h.mv h0 l _ (fun b hb => by rw [← hl]; exact hb), if_pos r4]
  obtain ⟨-, -, l2, q3, -, q5⟩ := rdErr_zero hx
  rw [show ((128 : Int)).toNat = 128 from rfl] at q3
  rw [hb] at q3
  obtain rfl := Option.some.inj q3
  exact ⟨hx, by rw [q5, r5]⟩
theorem Hd.fx (h : Hd ws xs) (h0 : fxErr ws = 0) : fxErr xs = 0 ∧ fxMv xs = fxMv ws ∧ frOut xs 128 = frOut ws 128 := by
  obtain ⟨f1, f2, f3⟩ := fxErr_zero h0
  obtain ⟨g1, g2⟩ := h.heap f1
  obtain ⟨g3, g4⟩ := h.rd f1 f2
  have hx : fxErr xs = 0 := by unfold fxErr; rw [if_pos g1]; exact g3
  obtain ⟨-, -, q3⟩ := fxErr_zero hx
  exact ⟨hx, by rw [q3, f3, g4], by rw [(hp_fr g1).2.1, (hp_fr f1).2.1, g2]⟩
theorem obFix_same {M : List (Int × Int)} : ∀ {R : List Int}, (∀ r ∈ R, wd xs r.toNat = wd ws r.toNat) → obFix xs M R = obFix ws M R := by
  intro R
  induction R with
  | nil => intro _; rfl
  | cons r R ih =>
    intro h
    simp only [obFix]
    rw [ih (fun x hx => h x (List.mem_cons_of_mem _ hx))]
    have : obStep xs M r.toNat = obStep ws M r.toNat := by unfold obStep; rw [h r (by simp)]
    rw [this]
/-- An object whose references agree is fixed alike. -/
theorem Hd.ob (h : Hd ws xs) {a : Int} (h0 : obErr ws a = 0) (hr : ∀ r ∈ rsOut ws a, wd xs r.toNat = wd ws r.toNat) : obErr xs a = 0 ∧ obOut xs a = obOut ws a ∧ rsOut xs a = rsOut ws a := by
  have hf : fxErr ws = 0 := by
    by_cases h1 : fxErr ws = 0
    · exact h1
    · rw [(ob_err rfl h1).1] at h0; exact absurd h0 h1
  obtain ⟨g1, g2, g3⟩ := h.fx hf
  obtain ⟨f1, f2, f3⟩ := fxErr_zero hf
  have hhp := h.heap f1
  cases hb : objF (frOut ws 128) a with
  | none => rw [(ob_none hf hb).1] at h0; cases h0
  | some b =>
    have hbx : objF (frOut xs 128) a = some b := by rw [g3]; exact hb
    obtain ⟨b1, b2, b3⟩ := objF_some hb
    rw [(hp_fr f1).2.1] at b1
    have hfl : fldB xs b = fldB ws b := by
      obtain ⟨t1, t2⟩ := h.ty f1 b1 b3
      unfold fldB
      rw [t1, t2]
    have hR : rfsB xs b = rfsB ws b := by unfold rfsB; rw [hfl]
    have er : rsOut ws a = rfsB ws b := by simp [rsOut, f1, hb]
    have erx : rsOut xs a = rfsB xs b := by simp [rsOut, hhp.1, hbx]
    rw [er] at hr
    cases hmk : b.mark with
    | false => rw [(ob_unmk hf hb hmk).1] at h0; cases h0
    | true =>
      cases ho : obFix ws (fxMv ws) (rfsB ws b) with
      | none => rw [(ob_bad hf hb hmk ho).1] at h0; cases h0
      | some o =>
        have hox : obFix xs (fxMv xs) (rfsB xs b) = some o := by rw [hR, g2, obFix_same hr]; exact ho
        obtain ⟨o1, o2⟩ := ob_ok hf hb hmk ho
        obtain ⟨p1, p2⟩ := ob_ok g1 hbx hmk hox
        exact ⟨p1, by rw [p2, o2], by rw [erx, er, hR]⟩
end
end Go.Proofs.YtoaepffpjoibaaaGreat

namespace Go.Proofs.YtoaepffpjoibaaaGreat
open Go.RowKit

/-- A place where a block of the heap begins, or the heap's end. -/
def Bd (ws : List Nat) (a : Nat) : Prop := 128 ≤ a ∧ ∃ k, k ≤ (hpOut ws).length ∧ blocks ws a = some ((hpOut ws).drop k)
theorem bd_start {ws : List Nat} (h : hpErr ws = 0) : Bd ws 128 := ⟨Nat.le_refl _, 0, Nat.zero_le _, (hp_fr h).2.2.2⟩
theorem bd_next {ws : List Nat} {a m : Nat} (h : Bd ws a) (hn : nxtErr ws (a : Int) = 0) (e : nxtB ws (a : Int) = bkAt ws m) : a ≤ m ∧ 2 ≤ szAt ws m ∧ m + szAt ws m ≤ ws.length ∧ Bd ws (m + szAt ws m) ∧ bkAt ws m ∈ hpOut ws ∧ (bkAt ws m).mark = true ∧ (bkAt ws m).kind = 1 := by
  obtain ⟨h1, k, hk, hb⟩ := h
  obtain ⟨-, -, -, m2, e2, p1, p2, p3, p4, p5, p6, p7, p8, l, q1, -, -, k2, q2, -, q3⟩ := nxt_at hn
  have em : m2 = m := by
    have := e2.symm.trans e
    have h3 := congrArg Bk.at_ this
    rw [bkAt_at, bkAt_at] at h3
    omega
  subst em
  rw [q1] at hb
  obtain rfl := Option.some.inj hb
  have hmw : m2 < ws.length := by omega
  obtain ⟨f1, f2, f3, f4⟩ := blocks_first q3 hmw
  rw [List.drop_drop, List.drop_drop] at f4
  refine ⟨p1, p3, p5, ⟨by omega, k + k2 + 1, ?_, ?_⟩, ?_, p7, p8⟩
  · rw [List.length_drop] at q2; omega
  · rw [f4, Nat.add_assoc]
  · rw [← f2]
    have hm : gk ((List.drop k (hpOut ws)).drop k2) 0 ∈ (List.drop k (hpOut ws)).drop k2 := by
      unfold gk
      rw [List.getElem?_eq_getElem f1, Option.getD_some]
      exact List.getElem_mem f1
    exact List.mem_of_mem_drop (List.mem_of_mem_drop hm)
theorem bd_of {ws : List Nat} (h : hpErr ws = 0) {f : Nat} (hb : bdAt ws f = true) : Bd ws f := by
  obtain ⟨-, -, -, h4⟩ := hp_fr h
  obtain ⟨h1, -⟩ := hpErr_zero h
  have hbd := (sizeOk_iff _).1 h1
  unfold bdAt at hb
  rw [h4] at hb
  dsimp only at hb
  rw [Bool.or_eq_true, List.any_eq_true] at hb
  rcases hb with ⟨b, hm, hq⟩ | hq
  · rw [beq_iff_eq] at hq
    obtain ⟨k, hk, rfl⟩ := List.getElem_of_mem hm
    obtain ⟨a, e, a1, a2, a3, a4, a5⟩ := blocks_at 128 _ h4 (by omega) k hk
    rw [e, bkAt_at] at hq
    obtain rfl : a = f := by omega
    exact ⟨a2, k, by omega, a5⟩
  · rw [beq_iff_eq] at hq
    subst hq
    exact ⟨by omega, _, Nat.le_refl _, by rw [List.drop_length]; exact blocks_end (Nat.le_refl _)⟩
theorem bd_is {ws : List Nat} (h : hpErr ws = 0) {f : Nat} (hb : Bd ws f) (hf : f ≤ ws.length) : bdAt ws f = true := by
  obtain ⟨-, -, -, h4⟩ := hp_fr h
  obtain ⟨h1, k, hk, h2⟩ := hb
  unfold bdAt
  rw [h4]
  dsimp only
  rw [Bool.or_eq_true, List.any_eq_true]
  by_cases he : f = ws.length
  · right; rw [beq_iff_eq]; exact he
  · left
    obtain ⟨f1, f2, f3, f4⟩ := blocks_first h2 (by omega)
    refine ⟨bkAt ws f, ?_, by rw [beq_iff_eq, bkAt_at]⟩
    rw [← f2]
    unfold gk
    rw [List.getElem?_eq_getElem f1, Option.getD_some]
    exact List.mem_of_mem_drop (List.getElem_mem f1)
/-- Every marked object from a place on can be fixed. -/
def FxFrom (ws : List Nat) (a : Nat) : Prop := ∀ m : Nat, bkAt ws m ∈ hpOut ws → (bkAt ws m).mark = true → a ≤ m → obErr ws (m : Int) = 0
theorem fixE_good {ws : List Nat} : ∀ k a, ws.length - a ≤ k → Bd ws a → FxFrom ws a → (fixE ws a).1 = 0 ∧ (fixE ws a = (0, slidesE) ∨ ∃ m : Nat, a ≤ m ∧ 2 ≤ szAt ws m ∧ m + szAt ws m ≤ ws.length ∧ Bd ws (m + szAt ws m) ∧ bkAt ws m ∈ hpOut ws ∧ (bkAt ws m).mark = true ∧ fixE ws a = (0, ⟨17, m + szAt ws m⟩ :: obOut ws (m : Int))) := by
  intro k
  induction k with
  | zero =>
    intro a hk hb hf
    by_cases hn : nxtErr ws (a : Int) = 0
    · obtain ⟨-, -, -, m, e, -⟩ := nxt_at hn
      obtain ⟨n1, n2, n3, -⟩ := bd_next hb hn e
      omega
    · rw [fixE_no hn]; exact ⟨rfl, .inl rfl⟩
  | succ k ih =>
    intro a hk hb hf
    by_cases hn : nxtErr ws (a : Int) = 0
    · obtain ⟨-, -, -, m, e, -⟩ := nxt_at hn
      obtain ⟨n1, n2, n3, n4, n5, n6, n7⟩ := bd_next hb hn e
      by_cases hr : rsOut ws (m : Int) = []
      · rw [fixE_skip hn e hr]
        obtain ⟨i1, i2⟩ := ih (m + szAt ws m) (by omega) n4 (fun m' h1 h2 h3 => hf m' h1 h2 (by omega))
        refine ⟨i1, ?_⟩
        rcases i2 with i2 | ⟨m', j1, j2, j3, j4, j5, j6, j7⟩
        · exact .inl i2
        · exact .inr ⟨m', by omega, j2, j3, j4, j5, j6, j7⟩
      · have ho := hf m n5 n6 n1
        rw [fixE_ok hn e hr ho]
        exact ⟨rfl, .inr ⟨m, n1, n2, n3, n4, n5, n6, rfl⟩⟩
    · rw [fixE_no hn]; exact ⟨rfl, .inl rfl⟩
/-- Where the references of an object lie. -/
theorem rs_in {ws : List Nat} (h : hpErr ws = 0) {m : Nat} {r : Int} (hr : r ∈ rsOut ws (m : Int)) : ∃ i : Nat, r = ((m + 2 + i : Nat) : Int) ∧ i < (flds ws m).length ∧ m + 2 + i < m + szAt ws m ∧ isObj ws m := by
  unfold rsOut at hr
  rw [if_pos h] at hr
  cases hb : objF (frOut ws 128) (m : Int) with
  | none => rw [hb] at hr; cases hr
  | some b =>
    rw [hb] at hr
    dsimp only at hr
    obtain ⟨m2, e1, e2, e3⟩ := obj_in h hb
    obtain rfl : m2 = m := by omega
    have hf : fldB ws b = flds ws m2 := by rw [e2]; rfl
    have hat : b.at_ = (m2 : Int) := by rw [e2, bkAt_at]
    unfold rfsB at hr
    obtain ⟨i, i1, -, i3⟩ := rfTo_mem.1 hr
    rw [hf] at i1
    have hfo := e3.2.2.2.2.2.1
    rw [fit_obj (ws := ws) (b := bkAt ws m2) e3.2.2.2.2.1] at hfo
    simp only [Bool.and_eq_true, beq_iff_eq] at hfo
    have h7 := hfo.2
    rw [bkAt_size] at h7
    have h8 : (flds ws m2).length = (krOut (wd ws (tyA (bkAt ws m2))) (wd ws (tyA (bkAt ws m2) + 1))).length := rfl
    unfold objSz at h7
    exact ⟨i, by rw [i3, hat]; omega, i1, by omega, e3⟩
/-- No block begins inside of an object. -/
theorem blk_apart {ws : List Nat} (h : hpErr ws = 0) {a : Nat} (ho : isObj ws a) {b : Bk} (hb : b ∈ hpOut ws) : b.at_ ≤ (a : Int) ∧ (b.at_ = (a : Int) ∨ b.at_ + 2 ≤ (a : Int)) ∨ ((a + szAt ws a : Nat) : Int) ≤ b.at_ := by
  obtain ⟨o1, o2, o3, o4, o5, o6, k, hk, e, hbk⟩ := ho
  obtain ⟨j, hj, rfl⟩ := List.getElem_of_mem hb
  rcases Nat.lt_or_ge k j with h1 | h1
  · rw [blocks_step o3 o4] at hbk
    cases hq : blocks ws (a + szAt ws a) with
    | none => rw [hq] at hbk; cases hbk
    | some l' =>
      rw [hq] at hbk
      simp only [Option.map_some, Option.some.injEq] at hbk
      have hd : l' = (hpOut ws).drop (k + 1) := by
        have := congrArg (List.drop 1) hbk
        rw [List.drop_drop] at this
        simpa using this
      have hm : (hpOut ws)[j] ∈ l' := by
        rw [hd]
        refine List.mem_iff_getElem.2 ⟨j - (k + 1), by rw [List.length_drop]; omega, ?_⟩
        rw [List.getElem_drop]
        congr 1
        omega
      have := (blocks_inc _ _ hq).1 _ hm
      exact .inr this
  · have hp := (hp_row h).2
    rw [List.pairwise_iff_getElem] at hp
    have ha : (hpOut ws)[k].at_ = (a : Int) := by rw [e, bkAt_at]
    obtain ⟨c, ec, c1, c2, -⟩ := (hp_row h).1 _ (List.getElem_mem hj)
    have hc : (hpOut ws)[j].at_ = (c : Int) := by rw [ec, bkAt_at]
    left
    rcases Nat.lt_or_ge j k with h2 | h2
    · have := hp j k hj hk h2
      omega
    · have : j = k := by omega
      subst this
      omega
end Go.Proofs.YtoaepffpjoibaaaGreat

namespace Go.Proofs.YtoaepffpjoibaaaGreat
open Go.RowKit

/-- What holds in the phase of fixing. -/
structure I3 (x : List Nat) : Prop where
  ck : ckErr x = 0
  p3 : wd x 16 = 3
  hp : hpErr x = 0
  sl : wd x 17 = 0 → fsErr x = 0
  fx : FxFrom x (wd x 17)
theorem I3.rd {x : List Nat} (h : I3 x) : rdErr x 128 128 = 0 := by
  have := h.ck
  unfold ckErr at this
  rw [if_pos (ck_ln h.ck), if_neg (by rw [h.p3]; decide), if_pos h.p3] at this
  exact this
theorem hd_put {x : List Nat} {E : List En} (h : hpErr x = 0) (hE : ∀ e ∈ E, e.a < 19 ∨ 112 ≤ e.a ∧ ∀ b ∈ hpOut x, e.a ≠ b.at_ ∧ e.a ≠ b.at_ + 1) : Hd x (putE x E) := by
  refine ⟨putE_len _ _, fun i h1 h2 => putE_wd _ _ _ fun e he h3 => ?_, fun b hb => ?_⟩
  · rcases hE e he with h4 | h4 <;> omega
  · obtain ⟨a, rfl, a1, -⟩ := (hp_row h).1 b hb
    have hat : (bkAt x a).at_ = (a : Int) := bkAt_at x a
    rw [hat, Int.toNat_natCast]
    refine ⟨putE_wd _ _ _ fun e he h3 => ?_, putE_wd _ _ _ fun e he h3 => ?_⟩
    · rcases hE e he with h4 | ⟨-, h4⟩
      · omega
      · exact (h4 _ hb).1 (by rw [hat]; exact h3)
    · rcases hE e he with h4 | ⟨-, h4⟩
      · omega
      · exact (h4 _ hb).2 (by rw [hat, h3]; rfl)
theorem hd_low {x : List Nat} {E : List En} (h : hpErr x = 0) (hE : ∀ e ∈ E, e.a < 19 ∨ 112 ≤ e.a ∧ e.a < 128) : Hd x (putE x E) := hd_put h fun e he => by
  rcases hE e he with h1 | h1
  · exact .inl h1
  · refine .inr ⟨h1.1, fun b hb => ?_⟩
    obtain ⟨a, rfl, a1, -⟩ := (hp_row h).1 b hb
    have hat : (bkAt x a).at_ = (a : Int) := bkAt_at x a
    rw [hat]
    omega
theorem hd_blk {x xs : List Nat} (h : Hd x xs) (h0 : hpErr x = 0) {m : Nat} (hm : bkAt xs m ∈ hpOut xs) : bkAt x m ∈ hpOut x ∧ bkAt xs m = bkAt x m := by
  rw [(h.heap h0).2] at hm
  obtain ⟨a, e, -⟩ := (hp_row h0).1 _ hm
  have h3 := congrArg Bk.at_ e
  rw [bkAt_at, bkAt_at] at h3
  obtain rfl : m = a := by omega
  rw [e] at hm
  exact ⟨hm, e⟩
theorem hd_bd {x xs : List Nat} (h : Hd x xs) (h0 : hpErr x = 0) {a : Nat} (hb : Bd x a) : Bd xs a := by
  obtain ⟨h1, k, hk, h2⟩ := hb
  refine ⟨h1, k, by rw [(h.heap h0).2]; exact hk, ?_⟩
  rw [(h.heap h0).2]
  exact h.blocks a _ h2 fun b hb => List.mem_of_mem_drop hb
/-- A step of the phase of fixing never fails, and keeps what holds. -/
theorem fix_step {x : List Nat} (ho : ∀ v ∈ x, v < 18446744073709551616) (h : I3 x) : (sgOne x).1 = 0 ∧ (I3 (putE x (sgOne x).2) ∨ wd (putE x (sgOne x).2) 16 = 4 ∧ wd (putE x (sgOne x).2) 17 = 128 ∧ wd (putE x (sgOne x).2) 18 = 128 ∧ Hd x (putE x (sgOne x).2) ∧ prErr (putE x (sgOne x).2) = 0) := by
  have p3 := h.p3
  have e : sgOne x = sgFix x := by unfold sgOne; rw [if_pos h.ck, if_neg (by omega), if_neg (by omega), if_pos p3]
  obtain ⟨-, hs, hl, hph⟩ := ck_parts h.ck
  have hb := (sizeOk_iff _).1 hs
  obtain ⟨⟨l1, l2, l3⟩, -⟩ := (lineW_iff x).1 hl
  have hrd := h.rd
  by_cases z : wd x 17 = 0
  · have hfs := h.sl z
    have e2 : sgFix x = (0, ⟨17, 128⟩ :: fsOut x) := by unfold sgFix; rw [if_pos z, if_pos hfs]
    have h0 : (sgOne x).1 = 0 := by rw [e, e2]
    obtain ⟨-, -, k3, -⟩ := sg_ok ho h0
    refine ⟨h0, .inl ?_⟩
    obtain ⟨-, -, -, -, -, -, -, q1, q2, q3, -⟩ := fs_plain hfs
    obtain ⟨g1, g2, g3, g4, g5, g6⟩ := cur_props (f := 128) (l := fsOut x) h.ck p3 (by decide) (by omega) (by omega) (by omega) q2 (fun e he => by have := (q1 e he).1; omega) (fun e he => (q1 e he).2)
    have hd : Hd x (putE x (⟨17, 128⟩ :: fsOut x)) := hd_low h.hp fun e he => by
      rcases List.mem_cons.1 he with rfl | he
      · exact .inl (by dsimp only; omega)
      · exact .inr (q1 e he).1
    rw [e, e2] at k3 ⊢
    dsimp only at k3 ⊢
    have hhp := (hd.heap h.hp).1
    have hln : lnErr (putE x (⟨17, 128⟩ :: fsOut x)) = 0 := by
      unfold lnErr
      rw [if_pos k3, if_neg]
      rintro ⟨-, -, h3⟩
      rw [g5, bd_is hhp (bd_start hhp) (by rw [hd.len]; omega)] at h3
      cases h3
    refine ⟨?_, g4, hhp, fun h1 => ?_, fun m h1 h2 h3 => ?_⟩
    · unfold ckErr
      rw [if_pos hln, if_neg (by rw [g4]; decide), if_pos g4]
      exact (hd.rd h.hp hrd).1
    · rw [g5] at h1; cases h1
    · obtain ⟨m1, m2⟩ := hd_blk hd h.hp h1
      rw [m2] at h2
      have hob := h.fx m m1 h2 (by omega)
      refine (hd.ob hob fun r hr => ?_).1
      obtain ⟨i, rfl, i1, i2, i3⟩ := rs_in h.hp hr
      rw [Int.toNat_natCast]
      refine putE_wd _ _ _ fun e he h5 => ?_
      have := i3.1
      rcases List.mem_cons.1 he with rfl | he
      · dsimp only at h5; omega
      · have := (q1 e he).1; omega
  · have hF : 128 ≤ wd x 17 := by
      rcases (phOk_iff _ _ _).1 hph with h1 | ⟨-, -, h1⟩ | h1
      · omega
      · rcases h1 with h1 | h1
        · exact absurd h1 z
        · exact ((inHp_iff _).1 h1).1
      · omega
    have e2 : sgFix x = fixE x (wd x 17) := by unfold sgFix; rw [if_neg z]
    have hbd : Bd x (wd x 17) := by
      refine bd_of h.hp ?_
      have hln := ck_ln h.ck
      unfold lnErr at hln
      by_cases hb1 : bdAt x (wd x 17) = true
      · exact hb1
      · split at hln
        · rw [if_pos ⟨p3, z, by simpa using hb1⟩] at hln; cases hln
        · exact absurd hln (by assumption)
    obtain ⟨f1, f2⟩ := fixE_good _ (wd x 17) (Nat.le_refl _) hbd h.fx
    have h0 : (sgOne x).1 = 0 := by rw [e, e2]; exact f1
    obtain ⟨-, -, k3, -⟩ := sg_ok ho h0
    refine ⟨h0, ?_⟩
    rcases f2 with f2 | ⟨m, m1, m2, m3, m4, m5, m6, m7⟩
    · right
      rw [e, e2, f2] at k3 ⊢
      obtain ⟨g1, g2, g3, g4, g5, g6⟩ := slides_props h.ck p3
      refine ⟨g4, g5, g6, hd_low h.hp fun e he => ?_, k3⟩
      simp only [slidesE, List.mem_cons, List.not_mem_nil, or_false] at he
      rcases he with rfl | rfl | rfl <;> exact .inl (by dsimp only; omega)
    · left
      rw [e, e2, m7] at k3 ⊢
      dsimp only at k3 ⊢
      have hob := h.fx m m5 m6 m1
      obtain ⟨f, -, -, -, -, q5, q6, q7, q10, q9⟩ := ob_plain hob
      have q8 := ob_ge hob
      have hme : m % 2 = 0 ∧ szAt x m % 2 = 0 := by
        obtain ⟨a, ea, a1, a2, a3, a4⟩ := (hp_row h.hp).1 _ m5
        have h3 := congrArg Bk.at_ ea
        rw [bkAt_at, bkAt_at] at h3
        obtain rfl : m = a := by omega
        have := stands_sz a4
        omega
      obtain ⟨g1, g2, g3, g4, g5, g6⟩ := cur_props (f := m + szAt x m) (l := obOut x (m : Int)) h.ck p3 ((inHp_iff _).2 (by omega)) m3 (by omega) (by omega) q9 (fun e he => by have := q8 e he; omega) (fun e he => by have := q8 e he; omega)
      have hoff : ∀ j : Nat, j ≠ 17 → (∀ r ∈ rsOut x (m : Int), r ≠ (j : Int)) → wd (putE x (⟨17, m + szAt x m⟩ :: obOut x (m : Int))) j = wd x j := by
        intro j h17 hj
        refine putE_wd _ _ _ fun e he h5 => ?_
        rcases List.mem_cons.1 he with rfl | he
        · dsimp only at h5; omega
        · obtain ⟨r, r1, r2, r3, r4⟩ := q10 e he
          obtain rfl : r = j := by omega
          have h6 := q7 r (fun i hi hf => hj _ (List.getElem_mem hi) (by rw [(q6 i hi).1, hf]))
          have hit := putE_hit _ x q9 e he (by omega) (by omega)
          rw [r1, Int.toNat_natCast, h6] at hit
          exact r3 hit
      have hd : Hd x (putE x (⟨17, m + szAt x m⟩ :: obOut x (m : Int))) := by
        refine ⟨putE_len _ _, fun i h1 h2 => hoff i (by omega) fun r hr hri => ?_, fun b hb => ?_⟩
        · obtain ⟨i', e1, -, -, i3⟩ := rs_in h.hp hr
          have := i3.1
          omega
        · obtain ⟨a, rfl, a1, a2, -⟩ := (hp_row h.hp).1 b hb
          have hat : (bkAt x a).at_ = (a : Int) := bkAt_at x a
          rw [hat, Int.toNat_natCast]
          refine ⟨hoff _ (by omega) fun r hr hri => ?_, hoff _ (by omega) fun r hr hri => ?_⟩
          · obtain ⟨i', e1, i1, i2, i3⟩ := rs_in h.hp hr
            have := blk_apart h.hp i3 hb
            rw [hat] at this
            omega
          · obtain ⟨i', e1, i1, i2, i3⟩ := rs_in h.hp hr
            have := blk_apart h.hp i3 hb
            rw [hat] at this
            omega
      have hhp := (hd.heap h.hp).1
      have hln : lnErr (putE x (⟨17, m + szAt x m⟩ :: obOut x (m : Int))) = 0 := by
        unfold lnErr
        rw [if_pos k3, if_neg]
        rintro ⟨-, -, h3⟩
        rw [g5, bd_is hhp (hd_bd hd h.hp m4) (by rw [hd.len]; omega)] at h3
        cases h3
      refine ⟨?_, g4, hhp, fun h1 => ?_, fun m' h1 h2 h3 => ?_⟩
      · unfold ckErr
        rw [if_pos hln, if_neg (by rw [g4]; decide), if_pos g4]
        exact (hd.rd h.hp hrd).1
      · rw [g5] at h1; omega
      · obtain ⟨n1, n2⟩ := hd_blk hd h.hp h1
        rw [n2] at h2
        rw [g5] at h3
        have hob2 := h.fx m' n1 h2 (by omega)
        refine (hd.ob hob2 fun r hr => ?_).1
        obtain ⟨i, rfl, i1, i2, i3⟩ := rs_in h.hp hr
        rw [Int.toNat_natCast]
        refine hoff _ (by have := i3.1; omega) fun r2 hr2 hri => ?_
        obtain ⟨i', e1, j1, j2, j3⟩ := rs_in h.hp hr2
        omega
end Go.Proofs.YtoaepffpjoibaaaGreat

namespace Go.Proofs.YtoaepffpjoibaaaGreat
open Go.RowKit

theorem mvd_start (x : List Nat) (t : Nat) : mvd x t t = true := by
  unfold mvd
  cases t with
  | zero => unfold mvdL; simp
  | succ t => unfold mvdL; rw [if_neg (by omega)]; simp
/-- The phase of fixing goes through. -/
theorem fixs_run : ∀ n x, (∀ v ∈ x, v < 18446744073709551616) → mzS 3 x ≤ n → I3 x → (allE 3 x).1 = 0 ∧ wd (allE 3 x).2.2 16 = 4 ∧ wd (allE 3 x).2.2 17 = 128 ∧ wd (allE 3 x).2.2 18 = 128 ∧ ckErr (allE 3 x).2.2 = 0 ∧ hpErr (allE 3 x).2.2 = 0 ∧ 1 ≤ (allE 3 x).2.1.length := by
  intro n
  induction n with
  | zero => intro x _ h h3; exfalso; have := h3.p3; unfold mzS at h; rw [if_pos this] at h; omega
  | succ n ih =>
    intro x ho h h3
    obtain ⟨h0, hst⟩ := fix_step ho h3
    have hd := mzS_dec ho h3.p3 h0
    rw [allE_step ho h3.p3 h0]
    rcases hst with hst | ⟨g1, g2, g3, g4, g5⟩
    · obtain ⟨i1, i2, i3, i4, i5, i6, i7⟩ := ih _ (putS_lt ho h0) (by omega) hst
      rw [if_pos i1]
      exact ⟨rfl, i2, i3, i4, i5, i6, by simp⟩
    · rw [allE_other (by omega), if_pos rfl]
      refine ⟨rfl, g1, g2, g3, ?_, (g4.heap h3.hp).1, by simp⟩
      unfold ckErr
      rw [if_pos (ln_of g5 (by omega)), if_pos g1]
      dsimp only
      rw [g3, g2, if_pos (mvd_start _ _)]
      exact (g4.rd h3.hp h3.rd).1
/-- Where nothing is left to mark and to forward, fixing begins well. -/
theorem fix_start {x : List Nat} (ho : ∀ v ∈ x, v < 18446744073709551616) (hp : prErr x = 0) (p3 : wd x 16 = 3) (p17 : wd x 17 = 0) (hrc : rcErr x = 0) (hw : wtOut x = []) (hn : wnOut x = []) : I3 x := by
  obtain ⟨x1, x2, M, e1, e2, s1, s2, s3, s4, s5, -⟩ := still_plain hrc ho
  rw [hw] at e1
  have e1 : x1 = x := e1
  subst e1
  rw [hn] at e2
  have e2 : x2 = x1 := e2
  subst e2
  have hhp := (rcErr_zero hrc).1
  have hln : lnErr x2 = 0 := by
    unfold lnErr
    rw [if_pos hp, if_neg]
    rintro ⟨-, h, -⟩
    exact h p17
  refine ⟨?_, p3, hhp, fun _ => s4, fun m m1 m2 _ => ?_⟩
  · unfold ckErr
    rw [if_pos hln, if_neg (by omega), if_pos p3]
    exact s2
  · have hb := (hp_fr hhp).2.2.2
    obtain ⟨-, -, l, r3, -, r5⟩ := rdErr_zero s2
    rw [show ((128 : Int)).toNat = 128 from rfl, hb] at r3
    obtain rfl := Option.some.inj r3
    have hmk := mkdL_moves (blocks_mk hb (by omega)) 128
    have hm : (m : Int) ∈ mkdL (hpOut x2) := by
      unfold mkdL
      refine List.mem_map.2 ⟨bkAt x2 m, List.mem_filter.2 ⟨m1, m2⟩, bkAt_at x2 m⟩
    rw [hmk] at hm
    obtain ⟨q, hq, hqe⟩ := List.mem_map.1 hm
    rw [← hqe]
    exact s5 q (by rw [← s3, r5]; exact hq)
end Go.Proofs.YtoaepffpjoibaaaGreat

namespace Go.Proofs.YtoaepffpjoibaaaGreat
open Go.RowKit

section
variable {ws xs : List Nat}
theorem fit_agree (h : ∀ j, 96 ≤ j → wd xs j = wd ws j) (b : Bk) : fitB xs b = fitB ws b := by
  unfold fitB typedB
  rw [h (tyA b) (by unfold tyA; omega), h (tyA b + 1) (by unfold tyA; omega)]
theorem mv_agree (h : ∀ j, 96 ≤ j → wd xs j = wd ws j) : ∀ (l : List Bk) (s : Int), allMv xs l s = allMv ws l s := by
  intro l
  induction l with
  | nil => intro s; rfl
  | cons b l ih =>
    intro s
    simp only [allMv]
    rw [fit_agree h, ih, ih]
theorem rd_agree (hn : xs.length = ws.length) (h : ∀ j, 96 ≤ j → wd xs j = wd ws j) {f s : Int} (hf : 96 ≤ f.toNat) : rdErr xs f s = rdErr ws f s := by
  unfold rdErr heapErr
  rw [hn, blocks_agree hn f.toNat (fun j hj => h j (by omega))]
  cases blocks ws f.toNat with
  | none => rfl
  | some l => dsimp only; rw [mv_agree h]
/-- The row of moved objects grows by one. -/
theorem mvd_grow {t : Nat} (h : ∀ j, 96 ≤ j → j < t → wd xs j = wd ws j) (ht : mdOk xs t = true) (h128 : 128 ≤ t) : ∀ n i, t - i ≤ n → 128 ≤ i → mvd ws i t = true → mvd xs i (t + szAt xs t) = true := by
  have hsz := mdOk_sz ht
  have hlast : mvd xs t (t + szAt xs t) = true := by
    rw [mvd_step (by omega) ht, mvd_end (Nat.le_refl _)]
    simp
  intro n
  induction n with
  | zero =>
    intro i h1 h2 h3
    rw [mvd_end (by omega), beq_iff_eq] at h3
    subst h3
    exact hlast
  | succ n ih =>
    intro i h1 h2 h3
    by_cases hi : i < t
    · cases hm : mdOk ws i with
      | false => rw [mvd_bad hi hm] at h3; cases h3
      | true =>
        have hz := mdOk_sz hm
        rw [mvd_step hi hm] at h3
        have e1 : wd xs i = wd ws i := h i (by omega) hi
        have hmx : mdOk xs i = true := by
          unfold mdOk at hm ⊢
          rw [e1]
          simp only [Bool.and_eq_true, beq_iff_eq] at hm ⊢
          obtain ⟨m1, m2, m3, m4⟩ := hm
          refine ⟨m1, m2, m3, ?_⟩
          unfold splitOk at m1
          rw [Bool.and_eq_true] at m1
          have h7 := (hdOk_iff _).1 m1.1
          unfold typedB at m4 ⊢
          rw [h (tyA (rawBk (wd ws i))) (by unfold tyA; omega) (by unfold tyA; omega), h (tyA (rawBk (wd ws i)) + 1) (by unfold tyA; omega) (by unfold tyA; omega)]
          exact m4
        have es : szAt xs i = szAt ws i := by unfold szAt; rw [e1]
        rw [mvd_step (by omega) hmx, es]
        exact ih (i + szAt ws i) (by omega) (by omega) h3
    · rw [mvd_end (by omega), beq_iff_eq] at h3
      subst h3
      exact hlast
theorem mv_skip {ws : List Nat} : ∀ {k : Nat} {l : List Bk} {s : Int}, k ≤ l.length → noMark l k → allMv ws l s = true → allMv ws (l.drop k) s = true := by
  intro k
  induction k with
  | zero => intro l s _ _ h; exact h
  | succ k ih =>
    intro l s hk hn h
    cases l with
    | nil => simp at hk
    | cons b l =>
      have hb : b.mark = false := hn 0 (by omega)
      have hlv : liveB b = false := by unfold liveB; rw [hb]; simp
      simp only [allMv, hlv, Bool.and_eq_true] at h
      rw [List.drop_succ_cons]
      refine ih (by simpa using hk) (fun j hj => ?_) (by simpa using h.2)
      have := hn (j + 1) (by omega)
      exact this
/-- A step of the phase of sliding never fails, and its view may go on. -/
theorem sld_step {x : List Nat} (ho : ∀ v ∈ x, v < 18446744073709551616) (hck : ckErr x = 0) (p4 : wd x 16 = 4) (hnx : nxtErr x ((wd x 17 : Nat) : Int) = 0) : (sgOne x).1 = 0 ∧ wd (putE x (sgOne x).2) 16 = 4 ∧ ckErr (putE x (sgOne x).2) = 0 := by
  have e : sgOne x = sgSld x := by unfold sgOne; rw [if_pos hck, if_neg (by omega), if_neg (by omega), if_neg (by omega), if_pos p4]
  obtain ⟨-, hs, hl, hph⟩ := ck_parts hck
  have hb := (sizeOk_iff _).1 hs
  have hmd : mvd x 128 (wd x 18) = true ∧ rdErr x ((wd x 17 : Nat) : Int) ((wd x 18 : Nat) : Int) = 0 := by
    have := hck
    unfold ckErr at this
    rw [if_pos (ck_ln hck), if_pos p4] at this
    by_cases hm : mvd x 128 (wd x 18) = true
    · rw [if_pos hm] at this; exact ⟨hm, this⟩
    · rw [if_neg hm] at this; cases this
  obtain ⟨hm, hrd⟩ := hmd
  obtain ⟨-, a1, a2, m, em, m1, m2, m3, m4, m5, m6, m7, m8, l, q1, -, -, k, q2, q3, q4⟩ := nxt_at hnx
  obtain ⟨r1, r2, l2, r3, r4, -⟩ := rdErr_zero hrd
  rw [Int.toNat_natCast, q1] at r3
  obtain rfl := Option.some.inj r3
  obtain ⟨u1, u2, u3, u4, u5⟩ := rdArg_no r2
  have hrm : rdErr x (m : Int) ((wd x 18 : Nat) : Int) = 0 := by
    have hra : rdArg x.length (m : Int) ((wd x 18 : Nat) : Int) = false := by
      cases hq : rdArg x.length (m : Int) ((wd x 18 : Nat) : Int) with
      | false => rfl
      | true => exact absurd ⟨by omega, by omega, by omega, by omega, by omega⟩ ((rdArg_iff _ _ _).1 hq)
    rw [rdErr_of r1 hra (l := l.drop k) (by rw [Int.toNat_natCast]; exact q4), if_pos (mv_skip (by omega) q3 r4)]
  obtain ⟨f1, f2, f3, f4⟩ := blocks_first q4 (by omega)
  have hmv : mvErr x (m : Int) ((wd x 18 : Nat) : Int) = 0 := by
    unfold mvErr
    rw [if_pos hrm, Int.toNat_natCast, q4]
    cases hd : l.drop k with
    | nil => rw [hd] at f1; simp at f1
    | cons c t =>
      dsimp only
      rw [hd] at f2
      have hc : c = bkAt x m := by rw [← f2]; rfl
      rw [hc, m7]
      rfl
  have e2 : sgSld x = (0, ⟨17, m + szAt x m⟩ :: ⟨18, wd x 18 + szAt x m⟩ :: mvEn x m (wd x 18)) := by
    unfold sgSld
    rw [if_pos hnx, em, bkAt_at, if_pos hmv, bkAt_size, show ((m : Int) + ((szAt x m : Nat) : Int)).toNat = m + szAt x m by omega, show (((wd x 18 : Nat) : Int) + ((szAt x m : Nat) : Int)).toNat = wd x 18 + szAt x m by omega]
    unfold mvOut
    rw [if_pos hmv, Int.toNat_natCast, Int.toNat_natCast]
  have h0 : (sgOne x).1 = 0 := by rw [e, e2]
  obtain ⟨-, -, k3, -⟩ := sg_ok ho h0
  obtain ⟨a, u, n, ea, eu, en, n2, n10, hu, hua, han, hst, hlv, ⟨l3, -, -, -, s4, -⟩, hun, hhd⟩ := slide_plain hmv
  have ea : a = m := by omega
  have eu : u = wd x 18 := by omega
  subst ea
  subst en
  have eu' := eu
  have g4 := (sld_cur ho hck p4 (by rw [← e]; exact h0)).1
  have hmve := putE_mv (ws := x) (a := a) (u := u) (by omega)
  rw [← hmve] at s4 hun
  rw [← eu] at e2
  rw [← e] at g4
  have hin : (mvEn x a u).Pairwise (fun a b => a.a < b.a) := by
    rw [List.pairwise_iff_getElem]
    intro i j hi hj hij
    rw [mvEn_at, mvEn_at]; omega
  have hme : ∀ e ∈ mvEn x a u, (u : Int) ≤ e.a ∧ e.a < ((u + szAt x a : Nat) : Int) := fun e he => by
    obtain ⟨k, hk, rfl⟩ := List.getElem_of_mem he
    rw [mvEn_at]
    rw [mvEn_len] at hk
    omega
  have hx : ∀ j : Nat, 19 ≤ j → wd (putE x (sgOne x).2) j = wd (putE x (mvEn x a u)) j := by
    intro j hj
    rw [e, e2, show (⟨17, a + szAt x a⟩ :: ⟨18, u + szAt x a⟩ :: mvEn x a u : List En) = [⟨17, a + szAt x a⟩, ⟨18, u + szAt x a⟩] ++ mvEn x a u from rfl, putE_append]
    by_cases hj2 : ∃ e ∈ mvEn x a u, e.a = (j : Int)
    · obtain ⟨e', he, h5⟩ := hj2
      have hm2 := hme e' he
      have t1 := putE_hit (mvEn x a u) (putE x [⟨17, a + szAt x a⟩, ⟨18, u + szAt x a⟩]) hin e' he (by omega) (by rw [putE_len]; omega)
      have t2 := putE_hit (mvEn x a u) x hin e' he (by omega) (by omega)
      rw [show e'.a.toNat = j by omega] at t1 t2
      rw [t1, t2]
    · rw [putE_wd _ _ _ (fun e he h => hj2 ⟨e, he, h⟩), putE_wd _ _ _ (fun e he h => hj2 ⟨e, he, h⟩)]
      refine putE_wd _ _ _ fun e he h => ?_
      simp only [List.mem_cons, List.not_mem_nil, or_false] at he
      rcases he with rfl | rfl <;> (dsimp only at h; omega)
  have hfp := (phOk_iff _ _ _).1 hph
  obtain ⟨j1, j2, -, j4, j5, j6⟩ := sld_props (f := a + szAt x a) (t := u + szAt x a) (l := mvEn x a u) hck p4 ((inHp_iff _).2 (by omega)) ((inHp_iff _).2 (by omega)) (by omega) (by omega) (by omega) (by omega) (by rw [mvEn_len]; omega) hin (fun e he => by have := hme e he; omega) (mvEn_lt ho hhd)
  have hlen : (putE x (sgOne x).2).length = x.length := putE_len _ _
  have hlow : ∀ j : Nat, 96 ≤ j → j < u → wd (putE x (sgOne x).2) j = wd x j := fun j h1 h2 => by
    rw [hx j (by omega)]
    exact putE_wd _ _ _ fun e he h => by have := hme e he; omega
  have hwu : wd (putE x (sgOne x).2) u = headW { rawBk (wd x a) with mark := false } := by rw [hx u (by omega)]; exact hun
  have hraw : rawBk (wd (putE x (sgOne x).2) u) = { rawBk (wd x a) with mark := false } := by rw [hwu, raw_head hhd]; rfl
  have hsz : szAt (putE x (sgOne x).2) u = szAt x a := by
    have := congrArg Bk.size hraw
    have e1 : (rawBk (wd (putE x (sgOne x).2) u)).size = ((szAt (putE x (sgOne x).2) u : Nat) : Int) := rfl
    have e3 : ({ rawBk (wd x a) with mark := false } : Bk).size = ((szAt x a : Nat) : Int) := rfl
    rw [e1, e3] at this
    omega
  have hty : typedB x (bkAt x a) = true := by
    obtain ⟨-, -, l4, w3, w4, -⟩ := rdErr_zero hrm
    rw [Int.toNat_natCast, q4] at w3
    obtain rfl := Option.some.inj w3
    cases hd : l.drop k with
    | nil => rw [hd] at f1; simp at f1
    | cons c t =>
      rw [hd] at f2 w4
      have hc : c = bkAt x a := by rw [← f2]; rfl
      rw [hc] at w4
      simp only [allMv, Bool.and_eq_true] at w4
      have hf := w4.1
      unfold fitB at hf
      rw [m8] at hf
      simpa using hf
  have hmo : mdOk (putE x (sgOne x).2) u = true := by
    have h7 := (hdOk_iff _).1 hhd
    have hk1 : (rawBk (wd x a)).kind = 1 := m8
    unfold mdOk splitOk
    rw [hraw, hwu, hhd, hk1]
    simp only [beq_self_eq_true, Bool.true_and, Bool.not_false]
    unfold typedB at hty ⊢
    have et : tyA ({ rawBk (wd x a) with mark := false } : Bk) = tyA (bkAt x a) := rfl
    have htl : tyA (bkAt x a) + 1 < 112 := by
      have : (bkAt x a).typ = (rawBk (wd x a)).typ := rfl
      unfold tyA
      rw [this]
      dsimp only at h7
      omega
    rw [et, hlow _ (by unfold tyA; omega) (by omega), hlow _ (by unfold tyA; omega) (by omega)]
    exact hty
  have hg := mvd_grow hlow hmo hu (u - 128) 128 (by omega) (by omega) (by rw [eu']; exact hm)
  rw [hsz] at hg
  have g5 : wd (putE x (sgOne x).2) 17 = a + szAt x a := by rw [e, e2]; exact j5
  have g6 : wd (putE x (sgOne x).2) 18 = u + szAt x a := by rw [e, e2]; exact j6
  refine ⟨h0, g4, ?_⟩
  unfold ckErr
  rw [if_pos (ln_of k3 (by omega)), if_pos g4, g5, g6, if_pos hg, rd_agree (ws := putE x (mvEn x a u)) (by rw [putE_len, putE_len]) (fun j hj => hx j (by omega)) (by omega)]
  exact s4
end
end Go.Proofs.YtoaepffpjoibaaaGreat

namespace Go.Proofs.YtoaepffpjoibaaaGreat
open Go.RowKit

theorem end_ok {x : List Nat} (hck : ckErr x = 0) (p4 : wd x 16 = 4) (hnx : nxtErr x ((wd x 17 : Nat) : Int) ≠ 0) : enErr x = 0 := by
  obtain ⟨hs, -, a, e, h1, h2, h3, l, h4, h5⟩ := left_start hck (by omega)
  obtain ⟨-, -, -, hph⟩ := ck_parts hck
  have hF : 128 ≤ wd x 17 := by
    rcases (phOk_iff _ _ _).1 hph with h1 | h1 | h1
    · exact ((inHp_iff _).1 h1.2.1).1
    · omega
    · omega
  have ea : a = wd x 17 := by
    unfold lfFrom at e
    rw [if_neg (by omega)] at e
    omega
  subst ea
  have hl : lfN x = 0 := by
    rw [h5]
    by_cases hz : 0 < (mkdL l).length
    · obtain ⟨m, z, l', k1, -⟩ := left_step hs h1 h2 h3 h4 hz
      exact absurd k1 hnx
    · omega
  unfold enErr
  rw [if_pos hck, if_pos ⟨p4, hl⟩]
theorem sld_rs : ∀ n x, (∀ v ∈ x, v < 18446744073709551616) → rzM x ≤ n → ckErr x = 0 → wd x 16 = 4 → (rsE x).1 = 0 := by
  intro n
  induction n with
  | zero => intro x _ h _ p4; exfalso; unfold rzM at h; rw [if_neg (by omega), if_neg (by omega), if_neg (by omega), if_pos p4] at h; omega
  | succ n ih =>
    intro x ho h hck p4
    by_cases hnx : nxtErr x ((wd x 17 : Nat) : Int) = 0
    · obtain ⟨h0, q4, qck⟩ := sld_step ho hck p4 hnx
      have hr : rsNx x = (0, false, (sgOne x).2) := by unfold rsNx; rw [if_neg (by omega), h0]
      obtain ⟨-, g2, g3⟩ := rs_ok ho (by rw [hr]) (by rw [hr])
      rw [rsE_step ho (by rw [hr]) (by rw [hr])]
      rw [hr] at g2 g3 ⊢
      dsimp only at g2 g3 ⊢
      rw [if_pos (ih _ g2 (by omega) qck q4)]
    · have hen := end_ok hck p4 hnx
      have h6 : (sgOne x).1 = 6 := by
        unfold sgOne
        rw [if_pos hck, if_neg (by omega), if_neg (by omega), if_neg (by omega), if_pos p4]
        unfold sgSld
        rw [if_neg hnx]
      have hr : rsNx x = (0, false, chOut x) := by unfold rsNx; rw [if_pos h6, if_neg (by omega), hen]
      obtain ⟨os, -, -, -, f1, -, -, f2, -⟩ := fin_plain hen
      have f3 := (ch_small hen).2
      have fck : ckErr (putE x (chOut x)) = 0 := by
        unfold ckErr
        rw [if_pos f2, if_neg (by omega), if_neg (by omega)]
        exact f1
      have g6 : (sgOne (putE x (chOut x))).1 = 6 := by
        unfold sgOne
        rw [if_pos fck, if_neg (by omega), if_neg (by omega), if_neg (by omega), if_neg (by omega)]
      have hr2 : rsNx (putE x (chOut x)) = (0, true, []) := by unfold rsNx; rw [if_pos g6, if_pos f3]
      rw [rsE_step ho (by rw [hr]) (by rw [hr]), hr]
      dsimp only
      rw [rsE_done (by rw [hr2]) (by rw [hr2]), if_pos rfl]
end Go.Proofs.YtoaepffpjoibaaaGreat

namespace Go.Proofs.YtoaepffpjoibaaaGreat
open Go.RowKit

theorem mkVal_again {x : Nat} (h : splitOk x = true) (hk : (rawBk x).kind = 1) (m n : Bool) : mkVal (mkVal x m) n = mkVal x n := by
  obtain ⟨h1, h2, -, -⟩ := mk_word h hk m
  obtain ⟨y, hy⟩ : ∃ y, mkVal x m = y := ⟨_, rfl⟩
  rw [hy] at h1 h2 ⊢
  unfold mkVal
  rw [if_pos h1, if_pos h]
  unfold remark
  rw [h2]
theorem RmL.refl (ws : List Nat) : RmL ws ws := ⟨rfl, fun _ _ => .inl rfl⟩
theorem RmL.trans {ws xs ys : List Nat} (h : RmL ws xs) (g : RmL xs ys) : RmL ws ys := by
  refine ⟨g.len.trans h.len, fun i hi => ?_⟩
  rcases g.at_ i hi with g1 | ⟨g1, g2, g3, g4, m, g5⟩
  · rw [g1]; exact h.at_ i hi
  · rcases h.at_ i hi with h1 | ⟨h1, h2, h3, h4, m0, h5⟩
    · rw [h1] at g3 g4 g5
      exact .inr ⟨g1, g2, g3, g4, m, g5⟩
    · exact .inr ⟨g1, g2, h3, h4, m, by rw [g5, h5, mkVal_again h3 h4]⟩
theorem Rm.toL {ws xs : List Nat} (h : Rm ws xs) : RmL ws xs := ⟨h.len, fun i _ => h.at_ i⟩
theorem NxL.refl (ws : List Nat) : NxL ws ws := ⟨rfl, fun _ _ => .inl rfl⟩
theorem NxL.trans {ws xs ys : List Nat} (h0 : hpErr ws = 0) (h : NxL ws xs) (g : NxL xs ys) : NxL ws ys := by
  refine ⟨g.len.trans h.len, fun i hi => ?_⟩
  rcases g.at_ i hi with g1 | ⟨b, hb, g1⟩
  · rw [g1]; exact h.at_ i hi
  · rw [((h.ev h0).heap h0).2] at hb
    obtain ⟨b0, hb0, rfl⟩ := List.mem_map.1 hb
    exact .inr ⟨b0, hb0, g1⟩
theorem mkd_nx (xs : List Nat) (l : List Bk) : mkdL (l.map (nxB xs)) = mkdL l := by
  induction l with
  | nil => rfl
  | cons b l ih =>
    unfold mkdL at ih ⊢
    rw [List.map_cons]
    have e : (nxB xs b).mark = b.mark := rfl
    have e2 : (nxB xs b).at_ = b.at_ := rfl
    simp only [List.filter_cons, e]
    split
    · simp only [List.map_cons, e2, ih]
    · exact ih
theorem moves_nx (xs : List Nat) : ∀ (l : List Bk) (s : Int), moves (l.map (nxB xs)) s = moves l s := by
  intro l
  induction l with
  | nil => intro s; rfl
  | cons b l ih =>
    intro s
    have e : liveB (nxB xs b) = liveB b := rfl
    have e2 : (nxB xs b).at_ = b.at_ := rfl
    have e3 : (nxB xs b).size = b.size := rfl
    simp only [List.map_cons, moves, e, e2, e3, ih]
/-- The words that no change touches. -/
theorem small_low {n : Nat} {E : List En} (h : Small n E) {ws : List Nat} {i : Nat} (hi : i < 16 ∨ 19 ≤ i ∧ i < 112) : wd (putE ws E) i = wd ws i := putE_wd _ _ _ fun e he => by have := (h.ins e he).1; omega
theorem all_low {p : Nat} {i : Nat} (hi : i < 16 ∨ 19 ≤ i ∧ i < 112) : ∀ n x, (∀ v ∈ x, v < 18446744073709551616) → mzS p x ≤ n → (allE p x).1 = 0 → wd (allE p x).2.2 i = wd x i := by
  intro n
  induction n with
  | zero =>
    intro x ho h _
    have hp : wd x 16 ≠ p := fun hp => by unfold mzS at h; rw [if_pos hp] at h; omega
    rw [allE_other hp]
  | succ n ih =>
    intro x ho h hz
    by_cases hp : wd x 16 = p
    · by_cases h6 : (sgOne x).1 = 6
      · rw [allE_none hp h6]
      · by_cases h0 : (sgOne x).1 = 0
        · have hd := mzS_dec ho hp h0
          rw [allE_step ho hp h0] at hz ⊢
          by_cases h1 : (allE p (putE x (sgOne x).2)).1 = 0
          · rw [if_pos h1]
            have := ih (putE x (sgOne x).2) (putS_lt ho h0) (by omega) h1
            exact this.trans (small_low (sg_ok ho h0).2.1 hi)
          · rw [if_neg h1] at hz
            exact absurd hz h1
        · rw [allE_err hp h6 h0] at hz
          exact absurd hz h0
    · rw [allE_other hp]
/-- Words of which those from 19 on differ at the beginnings of blocks alone. -/
def HsL (ws xs : List Nat) : Prop := ∀ i : Nat, 19 ≤ i → wd xs i = wd ws i ∨ ∃ b ∈ hpOut ws, (i : Int) = b.at_
theorem hs_put {x : List Nat} {E : List En} (hE : ∀ e ∈ E, e.a < 19 ∨ ∃ b ∈ hpOut x, e.a = b.at_) : HsL x (putE x E) := fun i h19 => by
  by_cases hx : ∃ b ∈ hpOut x, (i : Int) = b.at_
  · exact .inr hx
  · refine .inl (putE_wd _ _ _ fun e he h2 => ?_)
    rcases hE e he with h3 | ⟨b, hb, h3⟩
    · omega
    · exact hx ⟨b, hb, by rw [← h3, h2]⟩
theorem wt_start {x : List Nat} (h : rcErr x = 0) : ∀ e ∈ wtOut x, ∃ b ∈ hpOut x, e.a = b.at_ := fun e he => by
  obtain ⟨a, hm, -, -, -, -, -, rfl, -⟩ := wtOut_mem h he
  exact ⟨_, hm, (bkAt_at x a).symm⟩
/-- What the phase of marking leaves. -/
theorem mark_all : ∀ n x, (∀ v ∈ x, v < 18446744073709551616) → mzS 1 x ≤ n → wd x 16 = 1 → ckErr x = 0 → rcErr x = 0 → RmL x (allE 1 x).2.2 ∧ HsL x (allE 1 x).2.2 ∧ rcErr (allE 1 x).2.2 = 0 ∧ rcOut (allE 1 x).2.2 = rcOut x ∧ mkdL (hpOut (allE 1 x).2.2) = rcOut x := by
  intro n
  induction n with
  | zero => intro x _ h p1; exfalso; unfold mzS at h; rw [if_pos p1] at h; omega
  | succ n ih =>
    intro x ho h p1 hck hrc
    have e : sgOne x = (0, batE (wtOut x) 2) := by unfold sgOne; rw [if_pos hck, if_pos p1, if_pos hrc]
    have h0 : (sgOne x).1 = 0 := by rw [e]
    have hd := mzS_dec ho p1 h0
    obtain ⟨-, -, k3, -, -, -, -, -⟩ := sg_ok ho h0
    obtain ⟨r1, r2⟩ := wt_rows hrc
    obtain ⟨g1, g2, g3, g4, g5, g6⟩ := bat_props hck p1 (.inl rfl) (wtOut_inc hrc) (fun y hy => by
      obtain ⟨i, hi⟩ := List.mem_iff_getElem?.1 hy
      exact r1 i y hi) (wtOut_v hrc)
    simp only [Nat.reduceAdd] at g4
    rw [allE_step ho p1 h0]
    by_cases h32 : 32 ≤ (wtOut x).length
    · rw [if_pos h32] at g4
      obtain ⟨hrc2, hro⟩ := mk_keep p1 h0 h32
      have hrm : RmL x (putE x (sgOne x).2) := by
        rw [e, batE_great h32]
        exact (puts_rm_sub hrc (List.take_sublist 31 _)).toL
      have hhs : HsL x (putE x (sgOne x).2) := by
        rw [e, batE_great h32]
        exact hs_put fun e he => .inr (wt_start hrc e (List.mem_of_mem_take he))
      have p1' : wd (putE x (sgOne x).2) 16 = 1 := by rw [e]; exact g4
      have hck2 : ckErr (putE x (sgOne x).2) = 0 := ck_of k3 (by omega) (by omega) (rcErr_zero hrc2).1
      obtain ⟨i1, -⟩ := mark_run _ _ (putS_lt ho h0) (Nat.le_refl _) p1' hck2 hrc2
      obtain ⟨j1, j5, j2, j3, j4⟩ := ih _ (putS_lt ho h0) (by omega) p1' hck2 hrc2
      rw [if_pos i1]
      refine ⟨hrm.trans j1, fun i hi => ?_, j2, j3.trans hro, j4.trans hro⟩
      rcases j5 i hi with h5 | ⟨b, hb, h5⟩
      · rw [h5]; exact hhs i hi
      · rw [(hrm.heap (rcErr_zero hrc).1).2] at hb
        obtain ⟨b0, hb0, rfl⟩ := List.mem_map.1 hb
        exact .inr ⟨b0, hb0, h5⟩
    · rw [if_neg h32] at g4
      have p2' : wd (putE x (sgOne x).2) 16 = 2 := by rw [e]; exact g4
      rw [allE_other (by omega), if_pos rfl]
      rw [e, batE_few h32]
      obtain ⟨l1, l2, l3, l4⟩ := last_mk hrc 2
      refine ⟨rml_last hrc 2, hs_put fun e he => ?_, l1, l2, l4⟩
      rcases List.mem_cons.1 he with rfl | he
      · exact .inl (by dsimp only; omega)
      · exact .inr (wt_start hrc e he)
theorem nxl_bat {x : List Nat} (hhp : hpErr x = 0) : NxL x (putE x (batE (wnOut x) 3)) := by
  have hw : ∀ e ∈ wnOut x, ∃ b ∈ hpOut x, e.a = b.at_ + 1 := by
    intro e he
    rw [wn_eq hhp] at he
    obtain ⟨b, hb, -, h3⟩ := wantE_memD he
    exact ⟨b, hb, h3⟩
  refine nxl_put fun e he => ?_
  by_cases h32 : 32 ≤ (wnOut x).length
  · rw [batE_great h32] at he
    exact .inr (hw e (List.mem_of_mem_take he))
  · rw [batE_few h32] at he
    rcases List.mem_cons.1 he with rfl | he
    · exact .inl (by dsimp only; omega)
    · exact .inr (hw e he)
theorem NxL.mkd {ws xs : List Nat} (h : NxL ws xs) (h0 : hpErr ws = 0) : mkdL (hpOut xs) = mkdL (hpOut ws) ∧ moves (hpOut xs) 128 = moves (hpOut ws) 128 := by
  rw [((h.ev h0).heap h0).2]
  exact ⟨mkd_nx _ _, moves_nx _ _ _⟩
/-- What the phase of forwarding leaves. -/
theorem fwd_all : ∀ n x, (∀ v ∈ x, v < 18446744073709551616) → mzS 2 x ≤ n → wd x 16 = 2 → ckErr x = 0 → NxL x (allE 2 x).2.2 ∧ wnOut (allE 2 x).2.2 = [] := by
  intro n
  induction n with
  | zero => intro x _ h p2; exfalso; unfold mzS at h; rw [if_pos p2] at h; omega
  | succ n ih =>
    intro x ho h p2 hck
    have hhp : hpErr x = 0 := by
      have := hck
      unfold ckErr at this
      rw [if_pos (ck_ln hck), if_neg (by omega), if_neg (by omega)] at this
      exact this
    have e : sgOne x = (0, batE (wnOut x) 3) := by unfold sgOne; rw [if_pos hck, if_neg (by omega), if_pos p2, if_pos hhp]
    have h0 : (sgOne x).1 = 0 := by rw [e]
    have hd := mzS_dec ho p2 h0
    obtain ⟨-, -, k3, -, -, -, -, -⟩ := sg_ok ho h0
    obtain ⟨r1, r2, r3⟩ := fw_ent hhp
    obtain ⟨g1, g2, g3, g4, g5, g6⟩ := bat_props hck p2 (.inr rfl) r1 r2 r3
    simp only [Nat.reduceAdd] at g4 g5
    have hnx : NxL x (putE x (sgOne x).2) := by rw [e]; exact nxl_bat hhp
    rw [allE_step ho p2 h0]
    by_cases h32 : 32 ≤ (wnOut x).length
    · rw [if_pos h32] at g4
      have p2' : wd (putE x (sgOne x).2) 16 = 2 := by rw [e]; exact g4
      have hck2 : ckErr (putE x (sgOne x).2) = 0 := ck_of k3 (by omega) (by omega) (fwd_keep p2 h0).1
      obtain ⟨i1, -⟩ := fwd_runs _ _ (putS_lt ho h0) (Nat.le_refl _) p2' hck2
      obtain ⟨j1, j2⟩ := ih _ (putS_lt ho h0) (by omega) p2' hck2
      rw [if_pos i1]
      exact ⟨hnx.trans hhp j1, j2⟩
    · rw [if_neg h32] at g4
      have p3' : wd (putE x (sgOne x).2) 16 = 3 := by rw [e]; exact g4
      obtain ⟨f1, -, f3, f4⟩ := fwd_last hhp h32
      rw [allE_other (by omega), if_pos rfl]
      refine ⟨hnx, ?_⟩
      rw [e, wn_eq f3, f4]
      exact wantE_again
/-- Where just what is reached is marked, no header is wanted. -/
theorem wt_none {x : List Nat} (h : rcErr x = 0) (hm : mkdL (hpOut x) = rcOut x) : wtOut x = [] := by
  obtain ⟨h1, -, -⟩ := rcErr_zero h
  rw [wtOut_eq h, show wntL (seenL x) (hpOut x) = [] from ?_]
  · rfl
  unfold wntL
  rw [List.filter_eq_nil_iff]
  intro b hb
  obtain ⟨a, rfl, a1, a2, a3, a4⟩ := (hp_row h1).1 b hb
  have key : (bkAt x a).mark = seenAt x (bkAt x a) := by
    rw [Bool.eq_iff_iff, seenAt_iff a3]
    constructor
    · intro hk
      have h5 : ((a : Nat) : Int) ∈ mkdL (hpOut x) := by
        unfold mkdL
        exact List.mem_map.2 ⟨bkAt x a, List.mem_filter.2 ⟨hb, hk⟩, bkAt_at x a⟩
      rw [hm, rcOut_mem h] at h5
      obtain ⟨a', e, -, hr⟩ := h5
      obtain rfl : a = a' := by omega
      exact hr
    · intro hr
      have h5 : ((a : Nat) : Int) ∈ rcOut x := (rcOut_mem h _).2 ⟨a, rfl, a3, hr⟩
      rw [← hm] at h5
      unfold mkdL at h5
      obtain ⟨c, hc, hce⟩ := List.mem_map.1 h5
      obtain ⟨hc1, hc2⟩ := List.mem_filter.1 hc
      have h6 := inc_uniq (hp_row h1).2 hc1 hb (by rw [hce, bkAt_at])
      rw [← h6]; exact hc2
  unfold seenAt at key
  unfold keepB
  rw [key]
  simp
end Go.Proofs.YtoaepffpjoibaaaGreat

namespace Go.Proofs.YtoaepffpjoibaaaGreat
open Go.RowKit

/-- An entry at another place. -/
theorem put_skip {x : List Nat} {l : List En} {a : Int} {v i : Nat} (h : (i : Int) ≠ a) : wd (putE x (⟨a, v⟩ :: l)) i = wd (putE x l) i := by
  simp only [putE]
  split
  · refine putE_agree (by rw [List.length_set]) ?_
    unfold wd
    rw [List.getElem?_set_ne (by omega)]
  · rfl
theorem Hd.refl (ws : List Nat) : Hd ws ws := ⟨rfl, fun _ _ _ => rfl, fun _ _ => ⟨rfl, rfl⟩⟩
theorem Hd.trans {ws xs ys : List Nat} (h0 : hpErr ws = 0) (h : Hd ws xs) (g : Hd xs ys) : Hd ws ys := by
  refine ⟨g.len.trans h.len, fun i h1 h2 => (g.low i h1 h2).trans (h.low i h1 h2), fun b hb => ?_⟩
  obtain ⟨a1, a2⟩ := h.blk b hb
  obtain ⟨b1, b2⟩ := g.blk b (by rw [(h.heap h0).2]; exact hb)
  exact ⟨b1.trans a1, b2.trans a2⟩
theorem Hd.rs {ws xs : List Nat} (h : Hd ws xs) (h0 : hpErr ws = 0) (a : Int) : rsOut xs a = rsOut ws a := by
  have hx := h.heap h0
  have hfr : frOut xs 128 = frOut ws 128 := by rw [(hp_fr hx.1).2.1, (hp_fr h0).2.1, hx.2]
  unfold rsOut
  rw [if_pos hx.1, if_pos h0, hfr]
  cases hb : objF (frOut ws 128) a with
  | none => rfl
  | some b =>
    obtain ⟨b1, b2, b3⟩ := objF_some hb
    rw [(hp_fr h0).2.1] at b1
    obtain ⟨t1, t2⟩ := h.ty h0 b1 b3
    dsimp only
    unfold rfsB fldB
    rw [t1, t2]
/-- A marked object. -/
def Mk (ws : List Nat) (m : Nat) : Prop := bkAt ws m ∈ hpOut ws ∧ (bkAt ws m).mark = true
theorem mk_obj {ws : List Nat} (h0 : hpErr ws = 0) {m : Nat} (h : Mk ws m) : isObj ws m ∧ (bkAt ws m).kind = 1 := by
  have hk : (bkAt ws m).kind = 1 := blocks_mk (hp_fr h0).2.2.2 (by omega) _ h.1 h.2
  obtain ⟨k, hk2, e⟩ := List.getElem_of_mem h.1
  obtain ⟨a, e1, e2⟩ := obj_of h0 hk2 (by rw [e]; exact hk)
  rw [e] at e1
  have h3 := congrArg Bk.at_ e1
  rw [bkAt_at, bkAt_at] at h3
  obtain rfl : m = a := by omega
  exact ⟨e2, hk⟩
theorem Hd.mks {ws xs : List Nat} (h : Hd ws xs) (h0 : hpErr ws = 0) {m : Nat} : Mk xs m ↔ Mk ws m := by
  constructor
  · rintro ⟨h1, h2⟩
    obtain ⟨k1, k2⟩ := hd_blk h h0 h1
    exact ⟨k1, by rw [← k2]; exact h2⟩
  · rintro ⟨h1, h2⟩
    obtain ⟨b1, b2⟩ := h.blk _ h1
    rw [bkAt_at, Int.toNat_natCast] at b1 b2
    have e : bkAt xs m = bkAt ws m := by unfold bkAt; rw [b1, b2]
    exact ⟨by rw [(h.heap h0).2, e]; exact h1, by rw [e]; exact h2⟩
theorem bd_idx {ws : List Nat} (h0 : hpErr ws = 0) {c k0 : Nat} (hk : k0 ≤ (hpOut ws).length) (hb : blocks ws c = some ((hpOut ws).drop k0)) {j : Nat} (hj : j < (hpOut ws).length) (hc : (c : Int) ≤ (hpOut ws)[j].at_) : k0 ≤ j := by
  rcases Nat.lt_or_ge j k0 with hlt | hge
  · exfalso
    obtain ⟨a, ea, a1, a2, a3, a4⟩ := (hp_row h0).1 _ (List.getElem_mem hj)
    rw [ea, bkAt_at] at hc
    have hcl : c < ws.length := by omega
    obtain ⟨f1, f2, -⟩ := blocks_first hb hcl
    rw [List.length_drop] at f1
    have hk2 : k0 < (hpOut ws).length := by omega
    have e : (hpOut ws)[k0] = bkAt ws c := by
      rw [← f2]
      unfold gk
      rw [List.getElem?_drop, List.getElem?_eq_getElem (by omega), Option.getD_some]
      rfl
    have hp := (hp_row h0).2
    rw [List.pairwise_iff_getElem] at hp
    have := hp j k0 hj hk2 hlt
    rw [e, ea, bkAt_at, bkAt_at] at this
    omega
  · exact hge
theorem bd_even {ws : List Nat} (h0 : hpErr ws = 0) {c : Nat} (hb : Bd ws c) (hc : c ≤ ws.length) : c % 2 = 0 := by
  obtain ⟨-, k0, hk0, h2⟩ := hb
  have hs := (sizeOk_iff _).1 (hpErr_zero h0).1
  by_cases he : c = ws.length
  · omega
  · obtain ⟨f1, f2, -⟩ := blocks_first h2 (by omega)
    rw [List.length_drop] at f1
    obtain ⟨a, ea, a1, a2, -⟩ := (hp_row h0).1 _ (List.getElem_mem (show k0 < (hpOut ws).length by omega))
    have e : (hpOut ws)[k0]'(by omega) = bkAt ws c := by
      rw [← f2]
      unfold gk
      rw [List.getElem?_drop, List.getElem?_eq_getElem (by omega), Option.getD_some]
      rfl
    rw [e] at ea
    have h3 := congrArg Bk.at_ ea
    rw [bkAt_at, bkAt_at] at h3
    omega
/-- Between a place and the next marked object there is none. -/
theorem bd_gap {ws : List Nat} (h0 : hpErr ws = 0) {c m : Nat} (hb : Bd ws c) (hn : nxtErr ws (c : Int) = 0) (e : nxtB ws (c : Int) = bkAt ws m) {m' : Nat} (hm : Mk ws m') (hc : c ≤ m') : m ≤ m' := by
  obtain ⟨k1, k2⟩ := hm
  obtain ⟨h1, k0, hk0, hb2⟩ := hb
  obtain ⟨-, -, -, m2, e2, p1, -, p3, -, p5, -, -, -, l, q1, -, -, k, q2, q3, q4⟩ := nxt_at hn
  have em : m2 = m := by
    have := e2.symm.trans e
    have h3 := congrArg Bk.at_ this
    rw [bkAt_at, bkAt_at] at h3
    omega
  subst em
  rw [q1] at hb2
  obtain rfl := Option.some.inj hb2
  obtain ⟨j, hj, ej⟩ := List.getElem_of_mem k1
  have hj0 := bd_idx h0 hk0 q1 hj (by rw [ej, bkAt_at]; omega)
  rw [List.length_drop] at q2
  rcases Nat.lt_or_ge (j - k0) k with hlt | hge
  · exfalso
    have := q3 (j - k0) hlt
    unfold gk at this
    rw [List.getElem?_drop, show k0 + (j - k0) = j by omega, List.getElem?_eq_getElem hj, Option.getD_some, ej, k2] at this
    cases this
  · obtain ⟨f1, f2, -⟩ := blocks_first q4 (by omega)
    unfold gk at f2
    rw [List.drop_drop, List.getElem?_drop, Nat.add_zero, List.getElem?_eq_getElem (by omega), Option.getD_some] at f2
    have hp := (hp_row h0).2
    rw [List.pairwise_iff_getElem] at hp
    by_cases hq : j = k0 + k
    · subst hq
      rw [f2] at ej
      have h3 := congrArg Bk.at_ ej
      rw [bkAt_at, bkAt_at] at h3
      omega
    · have := hp (k0 + k) j (by omega) hj (by omega)
      rw [f2, ej, bkAt_at, bkAt_at] at this
      omega
theorem bd_none {ws : List Nat} (h0 : hpErr ws = 0) {c : Nat} (hb : Bd ws c) (hcl : c ≤ ws.length) (hn : nxtErr ws (c : Int) ≠ 0) {m' : Nat} (hm : Mk ws m') : ¬ c ≤ m' := by
  intro hc
  have he := bd_even h0 hb hcl
  obtain ⟨k1, k2⟩ := hm
  obtain ⟨h1, k0, hk0, hb2⟩ := hb
  obtain ⟨j, hj, ej⟩ := List.getElem_of_mem k1
  have hj0 := bd_idx h0 hk0 hb2 hj (by rw [ej, bkAt_at]; omega)
  have hmem : bkAt ws m' ∈ (hpOut ws).drop k0 := by
    rw [← ej]
    refine List.mem_iff_getElem.2 ⟨j - k0, by rw [List.length_drop]; omega, ?_⟩
    rw [List.getElem_drop]
    congr 1
    omega
  have hpos : 0 < (mkdL ((hpOut ws).drop k0)).length := by
    have : ((m' : Nat) : Int) ∈ mkdL ((hpOut ws).drop k0) := by
      unfold mkdL
      exact List.mem_map.2 ⟨bkAt ws m', List.mem_filter.2 ⟨hmem, k2⟩, bkAt_at ws m'⟩
    exact List.length_pos_of_mem this
  obtain ⟨m, z, l', g1, -⟩ := left_step (hpErr_zero h0).1 h1 hcl he hb2 hpos
  exact hn g1
theorem mk_apart {ws : List Nat} (h0 : hpErr ws = 0) {m m' : Nat} (h : Mk ws m) (h' : Mk ws m') (hlt : m < m') : m + szAt ws m ≤ m' := by
  have := blk_apart h0 (mk_obj h0 h).1 h'.1
  rw [bkAt_at] at this
  omega
theorem rs_apart {ws : List Nat} (h0 : hpErr ws = 0) {m m' : Nat} (h : Mk ws m) (h' : Mk ws m') {r : Int} (hr : r ∈ rsOut ws (m : Int)) (hr' : r ∈ rsOut ws (m' : Int)) : m = m' := by
  obtain ⟨i, e1, -, e2, -⟩ := rs_in h0 hr
  obtain ⟨i', f1, -, f2, -⟩ := rs_in h0 hr'
  rcases Nat.lt_trichotomy m m' with h1 | h1 | h1
  · have := mk_apart h0 h h' h1; omega
  · exact h1
  · have := mk_apart h0 h' h h1; omega
theorem fixE_gap {ws : List Nat} (h0 : hpErr ws = 0) : ∀ k a, ws.length - a ≤ k → a ≤ ws.length → Bd ws a → FxFrom ws a → (fixE ws a = (0, slidesE) ∧ ∀ m : Nat, Mk ws m → a ≤ m → rsOut ws (m : Int) = []) ∨ ∃ m : Nat, a ≤ m ∧ m + szAt ws m ≤ ws.length ∧ 2 ≤ szAt ws m ∧ Mk ws m ∧ fixE ws a = (0, ⟨17, m + szAt ws m⟩ :: obOut ws (m : Int)) ∧ ∀ m' : Nat, Mk ws m' → a ≤ m' → m' < m → rsOut ws (m' : Int) = [] := by
  intro k
  induction k with
  | zero =>
    intro a hk hal hb hf
    by_cases hn : nxtErr ws (a : Int) = 0
    · obtain ⟨-, -, -, m, e, -⟩ := nxt_at hn
      obtain ⟨n1, n2, n3, -⟩ := bd_next hb hn e
      omega
    · exact .inl ⟨fixE_no hn, fun m hm ha => absurd ha (bd_none h0 hb hal hn hm)⟩
  | succ k ih =>
    intro a hk hal hb hf
    by_cases hn : nxtErr ws (a : Int) = 0
    · obtain ⟨-, -, -, m, e, -⟩ := nxt_at hn
      obtain ⟨n1, n2, n3, n4, n5, n6, n7⟩ := bd_next hb hn e
      have hgap := fun m' (hm' : Mk ws m') (ha : a ≤ m') => bd_gap h0 hb hn e hm' ha
      have hMm : Mk ws m := ⟨n5, n6⟩
      by_cases hr : rsOut ws (m : Int) = []
      · rw [fixE_skip hn e hr]
        rcases ih (m + szAt ws m) (by omega) n3 n4 (fun m' h1 h2 h3 => hf m' h1 h2 (by omega)) with ⟨i1, i2⟩ | ⟨m', j1, j2, j3, j4, j5, j6⟩
        · refine .inl ⟨i1, fun m' hm' ha => ?_⟩
          rcases Nat.lt_or_ge m m' with h1 | h1
          · exact i2 m' hm' (mk_apart h0 hMm hm' h1)
          · have := hgap m' hm' ha
            obtain rfl : m = m' := by omega
            exact hr
        · refine .inr ⟨m', by omega, j2, j3, j4, j5, fun m2 hm2 ha h2 => ?_⟩
          rcases Nat.lt_or_ge m m2 with h1 | h1
          · exact j6 m2 hm2 (mk_apart h0 hMm hm2 h1) h2
          · have := hgap m2 hm2 ha
            obtain rfl : m = m2 := by omega
            exact hr
      · have ho := hf m n5 n6 n1
        refine .inr ⟨m, n1, n3, n2, hMm, fixE_ok hn e hr ho, fun m' hm' ha h2 => ?_⟩
        have := hgap m' hm' ha
        omega
    · exact .inl ⟨fixE_no hn, fun m hm ha => absurd ha (bd_none h0 hb hal hn hm)⟩
/-- Fixing an object touches its references alone. -/
theorem ob_off {x : List Nat} {m f j : Nat} (hob : obErr x (m : Int) = 0) (h17 : j ≠ 17) (hj : ∀ r ∈ rsOut x (m : Int), r ≠ (j : Int)) : wd (putE x (⟨17, f⟩ :: obOut x (m : Int))) j = wd x j := by
  obtain ⟨g, -, -, -, -, q5, q6, q7, q10, q9⟩ := ob_plain hob
  refine putE_wd _ _ _ fun e he h5 => ?_
  rcases List.mem_cons.1 he with rfl | he
  · dsimp only at h5; omega
  · obtain ⟨r, r1, r2, r3, r4⟩ := q10 e he
    obtain rfl : r = j := by omega
    have h6 := q7 r (fun i hi hf => hj _ (List.getElem_mem hi) (by rw [(q6 i hi).1, hf]))
    have hit := putE_hit _ x q9 e he (by omega) (by omega)
    rw [r1, Int.toNat_natCast, h6] at hit
    exact r3 hit
theorem ob_hd {x : List Nat} (hp : hpErr x = 0) {m f : Nat} (hob : obErr x (m : Int) = 0) : Hd x (putE x (⟨17, f⟩ :: obOut x (m : Int))) := by
  refine ⟨putE_len _ _, fun i h1 h2 => ob_off hob (by omega) fun r hr hri => ?_, fun b hb => ?_⟩
  · obtain ⟨i', e1, -, -, i3⟩ := rs_in hp hr
    have := i3.1
    omega
  · obtain ⟨a, rfl, a1, a2, -⟩ := (hp_row hp).1 b hb
    have hat : (bkAt x a).at_ = (a : Int) := bkAt_at x a
    rw [hat, Int.toNat_natCast]
    refine ⟨ob_off hob (by omega) fun r hr hri => ?_, ob_off hob (by omega) fun r hr hri => ?_⟩
    · obtain ⟨i', e1, i1, i2, i3⟩ := rs_in hp hr
      have := blk_apart hp i3 hb
      rw [hat] at this
      omega
    · obtain ⟨i', e1, i1, i2, i3⟩ := rs_in hp hr
      have := blk_apart hp i3 hb
      rw [hat] at this
      omega
/-- Words whose slots are fixed, and the references of all marked objects up to a place. -/
structure FxT (ws xs : List Nat) (c : Nat) : Prop where
  hd : Hd ws xs
  sl : ∀ i, i < 16 → slAt xs i = nwS ws (rdMv ws 128 128) i
  done : ∀ m : Nat, Mk ws m → m < c → ∀ r ∈ rsOut ws (m : Int), okFx ws xs (rdMv ws 128 128) r.toNat
  todo : ∀ m : Nat, Mk ws m → c ≤ m → ∀ r ∈ rsOut ws (m : Int), wd xs r.toNat = wd ws r.toNat
  off : ∀ i : Nat, 128 ≤ i → (∀ m : Nat, Mk ws m → (i : Int) ∉ rsOut ws (m : Int)) → wd xs i = wd ws i
theorem fxt_start {x : List Nat} (hfs : fsErr x = 0) : FxT x (putE x (⟨17, 128⟩ :: fsOut x)) 128 := by
  obtain ⟨-, hp, -, -, -, -, -, q1, q2, q3, q4, -⟩ := fs_plain hfs
  have hlow : ∀ e ∈ (⟨17, 128⟩ :: fsOut x : List En), e.a < 19 ∨ 112 ≤ e.a ∧ e.a < 128 := fun e he => by
    rcases List.mem_cons.1 he with rfl | he
    · exact .inl (by dsimp only; omega)
    · exact .inr (q1 e he).1
  have hup : ∀ i : Nat, 128 ≤ i → wd (putE x (⟨17, 128⟩ :: fsOut x)) i = wd x i := fun i hi => putE_wd _ _ _ fun e he h => by
    rcases hlow e he with h1 | h1 <;> omega
  refine ⟨hd_low hp hlow, fun i hi => ?_, fun m hm h1 => ?_, fun m hm h1 r hr => ?_, fun i hi _ => hup i hi⟩
  · rw [← q4 i hi]
    unfold slAt
    rw [put_skip (by omega)]
  · have := (mk_obj hp hm).1.1
    omega
  · obtain ⟨i, rfl, -, -, i3⟩ := rs_in hp hr
    rw [Int.toNat_natCast]
    exact hup _ (by have := i3.1; omega)
theorem fxt_step {ws x : List Nat} {c m : Nat} (h0 : hpErr ws = 0) (hr0 : rdErr ws 128 128 = 0) (hx : FxT ws x c) (hm : Mk x m) (hcm : c ≤ m) (hob : obErr x (m : Int) = 0) (hno : ∀ m' : Nat, Mk x m' → c ≤ m' → m' < m → rsOut x (m' : Int) = []) : FxT ws (putE x (⟨17, m + szAt x m⟩ :: obOut x (m : Int))) (m + szAt x m) := by
  have hp := (hx.hd.heap h0).1
  have hmw : Mk ws m := (hx.hd.mks h0).1 hm
  have hrs := hx.hd.rs h0
  obtain ⟨hrx, hmv⟩ := hx.hd.rd h0 hr0
  have hsz := stands_sz (mk_obj hp hm).1.2.2.2.1
  refine ⟨hx.hd.trans h0 (ob_hd hp hob), fun i hi => ?_, fun m' hm' hlt r hr => ?_, fun m' hm' hle r hr => ?_, fun i hi hno2 => ?_⟩
  · rw [← hx.sl i hi]
    unfold slAt
    rw [ob_off hob (by omega) fun r hr hri => ?_]
    obtain ⟨i', e1, -, -, i3⟩ := rs_in hp hr
    have := i3.1
    omega
  · have hr2 : r ∈ rsOut x (m' : Int) := by rw [hrs]; exact hr
    have hmx' : Mk x m' := (hx.hd.mks h0).2 hm'
    rcases Nat.lt_trichotomy m' m with h1 | h1 | h1
    · rcases Nat.lt_or_ge m' c with h2 | h2
      · have hold := hx.done m' hm' h2 r hr
        obtain ⟨i, rfl, -, -, i3⟩ := rs_in h0 hr
        rw [Int.toNat_natCast] at hold ⊢
        have e : wd (putE x (⟨17, m + szAt x m⟩ :: obOut x (m : Int))) (m' + 2 + i) = wd x (m' + 2 + i) := ob_off hob (by have := i3.1; omega) fun r hr3 hri => by
          subst hri
          have := rs_apart hp hm hmx' hr3 hr2
          omega
        unfold okFx at hold ⊢
        rw [e]
        exact hold
      · rw [hno m' hmx' h2 h1] at hr2
        cases hr2
    · subst h1
      have hsame := hx.todo m' hm' hcm r hr
      obtain ⟨g, -, -, -, -, q5, q6, -⟩ := ob_plain hob
      obtain ⟨j, hj, ej⟩ := List.getElem_of_mem hr2
      obtain ⟨e1, -, -, e4⟩ := q6 j hj
      obtain ⟨i, rfl, -, -, i3⟩ := rs_in h0 hr
      rw [e1] at ej
      have ej : g j = m' + 2 + i := by omega
      rw [ej, hmv] at e4
      rw [Int.toNat_natCast] at hsame ⊢
      have e : wd (putE x (⟨17, m' + szAt x m'⟩ :: obOut x (m' : Int))) (m' + 2 + i) = wd (putE x (obOut x (m' : Int))) (m' + 2 + i) := put_skip (by have := i3.1; omega)
      unfold okFx at e4 ⊢
      rw [e, ← hsame]
      rw [hx.hd.len] at e4
      exact e4
    · have := mk_apart hp hm hmx' h1
      omega
  · have hmx' : Mk x m' := (hx.hd.mks h0).2 hm'
    have hr2 : r ∈ rsOut x (m' : Int) := by rw [hrs]; exact hr
    have hold := hx.todo m' hm' (by omega) r hr
    obtain ⟨i, rfl, -, -, i3⟩ := rs_in h0 hr
    rw [Int.toNat_natCast] at hold ⊢
    rw [ob_off hob (by have := i3.1; omega) fun r hr3 hri => ?_]
    · exact hold
    · subst hri
      have := rs_apart hp hm hmx' hr3 hr2
      omega
  · rw [ob_off hob (by omega) fun r hr hri => ?_]
    · exact hx.off i hi hno2
    · subst hri
      rw [hrs] at hr
      exact hno2 m hmw hr
theorem fxt_end {ws x : List Nat} {c : Nat} (h0 : hpErr ws = 0) (hx : FxT ws x c) (hno : ∀ m : Nat, Mk x m → c ≤ m → rsOut x (m : Int) = []) : FxT ws (putE x slidesE) ws.length := by
  have hp := (hx.hd.heap h0).1
  have hrs := hx.hd.rs h0
  have hup : ∀ i : Nat, 19 ≤ i → wd (putE x slidesE) i = wd x i := fun i hi => putE_wd _ _ _ fun e he h => by
    simp only [slidesE, List.mem_cons, List.not_mem_nil, or_false] at he
    rcases he with rfl | rfl | rfl <;> (dsimp only at h; omega)
  have hd : Hd x (putE x slidesE) := hd_low hp fun e he => by
    simp only [slidesE, List.mem_cons, List.not_mem_nil, or_false] at he
    rcases he with rfl | rfl | rfl <;> exact .inl (by dsimp only; omega)
  refine ⟨hx.hd.trans h0 hd, fun i hi => ?_, fun m hm hlt r hr => ?_, fun m hm hle => ?_, fun i hi hno2 => (hup i (by omega)).trans (hx.off i hi hno2)⟩
  · rw [← hx.sl i hi]
    unfold slAt
    rw [hup _ (by omega)]
  · rcases Nat.lt_or_ge m c with h1 | h1
    · have hold := hx.done m hm h1 r hr
      obtain ⟨i, rfl, -, -, i3⟩ := rs_in h0 hr
      rw [Int.toNat_natCast] at hold ⊢
      unfold okFx at hold ⊢
      rw [hup _ (by have := i3.1; omega)]
      exact hold
    · have := hno m ((hx.hd.mks h0).2 hm) h1
      rw [hrs] at this
      rw [this] at hr
      cases hr
  · have := (mk_obj h0 hm).1.2.2.1
    omega
/-- The phase of fixing, behind the slots. -/
theorem fix_more {ws : List Nat} (h0 : hpErr ws = 0) (hr0 : rdErr ws 128 128 = 0) : ∀ n x, (∀ v ∈ x, v < 18446744073709551616) → mzS 3 x ≤ n → I3 x → wd x 17 ≠ 0 → FxT ws x (wd x 17) → FxT ws (allE 3 x).2.2 ws.length := by
  intro n
  induction n with
  | zero => intro x _ h h3; exfalso; have := h3.p3; unfold mzS at h; rw [if_pos this] at h; omega
  | succ n ih =>
    intro x ho h h3 z hx
    obtain ⟨hz, hst⟩ := fix_step ho h3
    have hd := mzS_dec ho h3.p3 hz
    have p3 := h3.p3
    have e : sgOne x = fixE x (wd x 17) := by
      unfold sgOne
      rw [if_pos h3.ck, if_neg (by omega), if_neg (by omega), if_pos p3]
      unfold sgFix
      rw [if_neg z]
    obtain ⟨-, hs, hl, hph⟩ := ck_parts h3.ck
    have hb := (sizeOk_iff _).1 hs
    obtain ⟨⟨l1, l2, l3⟩, -⟩ := (lineW_iff x).1 hl
    have hbd : Bd x (wd x 17) := by
      refine bd_of h3.hp ?_
      have hln := ck_ln h3.ck
      unfold lnErr at hln
      by_cases hb1 : bdAt x (wd x 17) = true
      · exact hb1
      · split at hln
        · rw [if_pos ⟨p3, z, by simpa using hb1⟩] at hln; cases hln
        · exact absurd hln (by assumption)
    rw [allE_step ho p3 hz]
    rcases fixE_gap h3.hp _ (wd x 17) (Nat.le_refl _) l2 hbd h3.fx with ⟨f1, f2⟩ | ⟨m, m1, m2, m3, m4, m5, m6⟩
    · rw [f1] at e
      have h16 : wd (putE x (sgOne x).2) 16 = 4 := by rw [e]; exact (slides_props h3.ck p3).2.2.2.1
      rw [allE_other (by omega), if_pos rfl, e]
      exact fxt_end h0 hx f2
    · rw [m5] at e
      have hob : obErr x (m : Int) = 0 := h3.fx m m4.1 m4.2 m1
      have q8 := ob_ge hob
      have hm128 := (mk_obj h3.hp m4).1.1
      have e17 : wd (putE x (sgOne x).2) 17 = m + szAt x m := by
        rw [e]
        exact wd_head (j := 17) (by omega) fun e he => by have := (q8 e he).1; omega
      have h16 : wd (putE x (sgOne x).2) 16 = 3 := by
        rw [e, put_skip (by omega), putE_wd _ _ _ fun e he => by have := (q8 e he).1; omega]
        exact p3
      have hI : I3 (putE x (sgOne x).2) := by
        rcases hst with hst | ⟨g1, -⟩
        · exact hst
        · omega
      have hI1 := (fixs_run _ _ (putS_lt ho hz) (Nat.le_refl _) hI).1
      rw [if_pos hI1]
      refine ih _ (putS_lt ho hz) (by omega) hI (by omega) ?_
      rw [e17, e]
      exact fxt_step h0 hr0 hx m4 m1 hob m6
/-- The phase of fixing. -/
theorem fix_all {x : List Nat} (ho : ∀ v ∈ x, v < 18446744073709551616) (h3 : I3 x) (z : wd x 17 = 0) : FxT x (allE 3 x).2.2 x.length := by
  obtain ⟨hz, hst⟩ := fix_step ho h3
  have p3 := h3.p3
  have hfs := h3.sl z
  have hrd := h3.rd
  have e : sgOne x = (0, ⟨17, 128⟩ :: fsOut x) := by
    unfold sgOne
    rw [if_pos h3.ck, if_neg (by omega), if_neg (by omega), if_pos p3]
    unfold sgFix
    rw [if_pos z, if_pos hfs]
  obtain ⟨h256, -, -, -, -, -, -, q1, -⟩ := fs_plain hfs
  have e17 : wd (putE x (sgOne x).2) 17 = 128 := by
    rw [e]
    exact wd_head (j := 17) (by omega) fun e he => by have := (q1 e he).1; omega
  have h16 : wd (putE x (sgOne x).2) 16 = 3 := by
    rw [e, put_skip (by omega), putE_wd _ _ _ fun e he => by have := (q1 e he).1; omega]
    exact p3
  have hI : I3 (putE x (sgOne x).2) := by
    rcases hst with hst | ⟨g1, -⟩
    · exact hst
    · omega
  have hI1 := (fixs_run _ _ (putS_lt ho hz) (Nat.le_refl _) hI).1
  rw [allE_step ho p3 hz, if_pos hI1]
  refine fix_more h3.hp hrd _ _ (putS_lt ho hz) (Nat.le_refl _) hI (by omega) ?_
  rw [e17, e]
  exact fxt_start hfs
end Go.Proofs.YtoaepffpjoibaaaGreat

namespace Go.Proofs.YtoaepffpjoibaaaGreat
open Go.RowKit

/-- The words of a moved object. -/
def MvW (ws xs : List Nat) (m t : Nat) : Prop := wd xs t = headW { rawBk (wd ws m) with mark := false } ∧ wd xs (t + 1) = 0 ∧ ∀ j, 2 ≤ j → j < szAt ws m → wd xs (t + j) = wd ws (m + j)
/-- Words of which the marked objects among the first blocks are moved. -/
structure SlT (ws xs : List Nat) (k F T : Nat) : Prop where
  len : xs.length = ws.length
  low : ∀ i, 19 ≤ i → i < 128 → wd xs i = wd ws i
  up : ∀ i, T ≤ i → 128 ≤ i → wd xs i = wd ws i
  kle : k ≤ (hpOut ws).length
  bl : blocks ws F = some ((hpOut ws).drop k)
  to : endOf ((hpOut ws).take k) 128 = (T : Int)
  mv : ∀ p ∈ moves ((hpOut ws).take k) 128, ∃ m t : Nat, p = ((m : Int), (t : Int)) ∧ MvW ws xs m t ∧ 128 ≤ t ∧ t + szAt ws m ≤ T ∧ 2 ≤ szAt ws m
theorem unlive {b : Bk} (h : b.mark = false) : liveB b = false := by unfold liveB; rw [h]; simp
theorem end_unmk : ∀ {l : List Bk} {s : Int}, noMark l l.length → endOf l s = s ∧ moves l s = [] := by
  intro l
  induction l with
  | nil => intro s _; exact ⟨rfl, rfl⟩
  | cons b l ih =>
    intro s h
    have h0 : b.mark = false := h 0 (by simp)
    obtain ⟨i1, i2⟩ := ih (s := s) fun j hj => by have := h (j + 1) (by simpa using hj); rwa [gk_cons] at this
    simp only [endOf, moves, unlive h0]
    exact ⟨i1, i2⟩
theorem noMark_take {l : List Bk} {k : Nat} (hk : k ≤ l.length) (h : noMark l k) : noMark (l.take k) (l.take k).length := by
  intro j hj
  rw [List.length_take] at hj
  have := h j (by omega)
  unfold gk at this ⊢
  rw [List.getElem?_take, if_pos (by omega)]
  exact this
theorem sld_form {x : List Nat} (hck : ckErr x = 0) (p4 : wd x 16 = 4) (hnx : nxtErr x ((wd x 17 : Nat) : Int) = 0) (h0 : (sgOne x).1 = 0) {m : Nat} (em : nxtB x ((wd x 17 : Nat) : Int) = bkAt x m) : sgOne x = (0, ⟨17, m + szAt x m⟩ :: ⟨18, wd x 18 + szAt x m⟩ :: mvEn x m (wd x 18)) ∧ mvErr x (m : Int) ((wd x 18 : Nat) : Int) = 0 := by
  have e : sgOne x = sgSld x := by unfold sgOne; rw [if_pos hck, if_neg (by omega), if_neg (by omega), if_neg (by omega), if_pos p4]
  rw [e] at h0 ⊢
  have hmv : mvErr x (m : Int) ((wd x 18 : Nat) : Int) = 0 := by
    by_cases h1 : mvErr x (m : Int) ((wd x 18 : Nat) : Int) = 0
    · exact h1
    · unfold sgSld at h0; rw [if_pos hnx, em, bkAt_at, if_neg h1] at h0; exact absurd h0 h1
  refine ⟨?_, hmv⟩
  unfold sgSld
  rw [if_pos hnx, em, bkAt_at, if_pos hmv, bkAt_size, show ((m : Int) + ((szAt x m : Nat) : Int)).toNat = m + szAt x m by omega, show (((wd x 18 : Nat) : Int) + ((szAt x m : Nat) : Int)).toNat = wd x 18 + szAt x m by omega]
  unfold mvOut
  rw [if_pos hmv, Int.toNat_natCast, Int.toNat_natCast]
/-- The words behind one move. -/
theorem mv_words {x : List Nat} {a f u i : Nat} (hin : u + szAt x a ≤ x.length) (h19 : 19 ≤ i) : wd (putE x (⟨17, f⟩ :: ⟨18, u + szAt x a⟩ :: mvEn x a u)) i = if u ≤ i ∧ i < u + szAt x a then (if i = u then headW { rawBk (wd x a) with mark := false } else if i = u + 1 then 0 else wd x (a + (i - u))) else wd x i := by
  rw [put_skip (by omega), put_skip (by omega), putE_mv hin, putSeq_wd _ _ _ _ (by rw [mvWords_len]; exact hin), mvWords_len]
  by_cases h : u ≤ i ∧ i < u + szAt x a
  · rw [if_pos h, if_pos h, mvWords_get _ _ _ (by omega), Option.getD_some]
    by_cases h1 : i = u
    · rw [if_pos (by omega), if_pos h1]
    · rw [if_neg (by omega), if_neg h1]
      by_cases h2 : i = u + 1
      · rw [if_pos (by omega), if_pos h2]
      · rw [if_neg (by omega), if_neg h2]
  · rw [if_neg h, if_neg h]
/-- One step. -/
theorem slt_step {ws x : List Nat} {k F T m : Nat} (hx : SlT ws x k F T) (h128 : 128 ≤ T) (hTF : T ≤ F) (hn : nxtErr x (F : Int) = 0) (e : nxtB x (F : Int) = bkAt x m) : ∃ k', SlT ws (putE x (⟨17, m + szAt x m⟩ :: ⟨18, T + szAt x m⟩ :: mvEn x m T)) k' (m + szAt x m) (T + szAt x m) ∧ F ≤ m ∧ moves ((hpOut ws).take k') 128 = moves ((hpOut ws).take k) 128 ++ [((m : Int), (T : Int))] := by
  obtain ⟨-, -, -, m2, e2, p1, p2, p3, p4, p5, p6, p7, p8, l, q1, -, -, k2, q2, q3, q4⟩ := nxt_at hn
  have em : m2 = m := by
    have := e2.symm.trans e
    have h3 := congrArg Bk.at_ this
    rw [bkAt_at, bkAt_at] at h3
    omega
  subst em
  have hag : ∀ i, F ≤ i → wd x i = wd ws i := fun i hi => hx.up i (by omega) (by omega)
  have hbl : blocks ws F = blocks x F := (blocks_agree hx.len F fun j hj => hag j hj).symm
  rw [hx.bl, q1] at hbl
  obtain rfl := Option.some.inj hbl
  rw [List.length_drop] at q2
  have hkm : k + k2 < (hpOut ws).length := by omega
  have q4w : blocks ws m2 = some (((hpOut ws).drop k).drop k2) := by
    rw [← q4]
    exact (blocks_agree hx.len m2 fun j hj => hag j (by omega)).symm
  have hsz : szAt x m2 = szAt ws m2 := by unfold szAt; rw [hag m2 p1]
  have hbk : bkAt x m2 = bkAt ws m2 := by unfold bkAt; rw [hag m2 p1, hag (m2 + 1) (by omega)]
  obtain ⟨f1, f2, f3, f4⟩ := blocks_first q4w (by rw [← hx.len]; omega)
  rw [List.drop_drop, List.drop_drop] at f4
  have hget : (hpOut ws)[k + k2] = bkAt ws m2 := by
    rw [← f2]
    unfold gk
    rw [List.drop_drop, List.getElem?_drop, Nat.add_zero, List.getElem?_eq_getElem hkm, Option.getD_some]
  have htk : (hpOut ws).take (k + k2 + 1) = (hpOut ws).take k ++ (((hpOut ws).drop k).take k2 ++ [bkAt ws m2]) := by
    rw [List.take_succ_eq_append_getElem hkm, hget, List.take_add, List.append_assoc]
  have hno := noMark_take (l := (hpOut ws).drop k) (k := k2) (by rw [List.length_drop]; omega) q3
  obtain ⟨n1, n2⟩ := end_unmk (s := (T : Int)) hno
  have hlv : liveB (bkAt ws m2) = true := by
    rw [hbk] at p7 p8
    unfold liveB
    rw [p7, p8]; rfl
  have hend : endOf ((hpOut ws).take (k + k2 + 1)) 128 = ((T + szAt x m2 : Nat) : Int) := by
    rw [htk, endOf_append, endOf_append, hx.to, n1]
    simp only [endOf, hlv, if_true]
    rw [bkAt_size, hsz]
    omega
  have hmvs : moves ((hpOut ws).take (k + k2 + 1)) 128 = moves ((hpOut ws).take k) 128 ++ [((m2 : Int), (T : Int))] := by
    rw [htk, moves_append, moves_append, hx.to, n1, n2]
    simp only [moves, hlv, if_true, List.nil_append]
    rw [bkAt_at]
  have hin : T + szAt x m2 ≤ x.length := by omega
  have hw := fun i (hi : 19 ≤ i) => mv_words (x := x) (a := m2) (f := m2 + szAt x m2) (u := T) (i := i) hin hi
  refine ⟨k + k2 + 1, ⟨?_, fun i h1 h2 => ?_, fun i h1 h2 => ?_, by omega, ?_, hend, fun p hp => ?_⟩, p1, hmvs⟩
  · rw [putE_len]; exact hx.len
  · rw [hw i h1, if_neg (by omega)]; exact hx.low i h1 h2
  · rw [hw i (by omega), if_neg (by omega)]; exact hx.up i (by omega) h2
  · rw [hsz, f4, Nat.add_assoc]
  · rw [hmvs] at hp
    rcases List.mem_append.1 hp with hp | hp
    · obtain ⟨a, t, rfl, ⟨w1, w2, w3⟩, t1, t2, t3⟩ := hx.mv p hp
      refine ⟨a, t, rfl, ⟨?_, ?_, fun j j1 j2 => ?_⟩, t1, by omega, t3⟩
      · rw [hw _ (by omega), if_neg (by omega)]; exact w1
      · rw [hw _ (by omega), if_neg (by omega)]; exact w2
      · rw [hw _ (by omega), if_neg (by omega)]; exact w3 j j1 j2
    · rw [List.mem_singleton] at hp
      subst hp
      refine ⟨m2, T, rfl, ⟨?_, ?_, fun j j1 j2 => ?_⟩, h128, by omega, by omega⟩
      · rw [hw _ (by omega), if_pos (by omega), if_pos rfl, hag m2 p1]
      · rw [hw _ (by omega), if_pos (by omega), if_neg (by omega), if_pos rfl]
      · rw [hw _ (by omega), if_pos (by omega), if_neg (by omega), if_neg (by omega), show T + j - T = j by omega]
        exact hag _ (by omega)
/-- Words of which all marked objects are moved. -/
structure SlE (ws xs : List Nat) (T : Nat) : Prop where
  len : xs.length = ws.length
  low : ∀ i, 19 ≤ i → i < 128 → wd xs i = wd ws i
  up : ∀ i, T ≤ i → 128 ≤ i → wd xs i = wd ws i
  to : endOf (hpOut ws) 128 = (T : Int)
  mv : ∀ p ∈ moves (hpOut ws) 128, ∃ m t : Nat, p = ((m : Int), (t : Int)) ∧ MvW ws xs m t ∧ 128 ≤ t ∧ t + szAt ws m ≤ T ∧ 2 ≤ szAt ws m
theorem slt_end {ws x : List Nat} {k F T : Nat} (h0 : hpErr ws = 0) (hx : SlT ws x k F T) (h128 : 128 ≤ T) (hTF : T ≤ F) (hFl : F ≤ ws.length) (hF2 : F % 2 = 0) (hn : nxtErr x (F : Int) ≠ 0) : SlE ws x T := by
  have hag : ∀ i, F ≤ i → wd x i = wd ws i := fun i hi => hx.up i (by omega) (by omega)
  have hbl : blocks x F = some ((hpOut ws).drop k) := by
    rw [blocks_agree hx.len F fun j hj => hag j hj]
    exact hx.bl
  have hz : (mkdL ((hpOut ws).drop k)).length = 0 := by
    rcases Nat.eq_zero_or_pos (mkdL ((hpOut ws).drop k)).length with h1 | h1
    · exact h1
    · obtain ⟨m, z, l', g1, -⟩ := left_step (by rw [hx.len]; exact (hpErr_zero h0).1) (by omega) (by rw [hx.len]; exact hFl) hF2 hbl h1
      exact absurd g1 hn
  have hno : noMark ((hpOut ws).drop k) ((hpOut ws).drop k).length := by
    intro j hj
    unfold gk
    rw [List.getElem?_eq_getElem hj, Option.getD_some]
    cases hm : (((hpOut ws).drop k)[j]).mark with
    | false => rfl
    | true =>
      have : (((hpOut ws).drop k)[j]).at_ ∈ mkdL ((hpOut ws).drop k) := by
        unfold mkdL
        exact List.mem_map.2 ⟨_, List.mem_filter.2 ⟨List.getElem_mem hj, hm⟩, rfl⟩
      have := List.length_pos_of_mem this
      omega
  obtain ⟨n1, n2⟩ := end_unmk (s := (T : Int)) hno
  refine ⟨hx.len, hx.low, hx.up, ?_, fun p hp => hx.mv p ?_⟩
  · conv => lhs; rw [← List.take_append_drop k (hpOut ws)]
    rw [endOf_append, hx.to, n1]
  · rw [← List.take_append_drop k (hpOut ws), moves_append, hx.to, n2, List.append_nil] at hp
    exact hp
/-- The phase of sliding. -/
theorem sld_all {ws : List Nat} (h0 : hpErr ws = 0) : ∀ n x k, (∀ v ∈ x, v < 18446744073709551616) → mzS 4 x ≤ n → ckErr x = 0 → wd x 16 = 4 → SlT ws x k (wd x 17) (wd x 18) → (allE 4 x).1 = 0 ∧ wd (allE 4 x).2.2 16 = 4 ∧ ckErr (allE 4 x).2.2 = 0 ∧ nxtErr (allE 4 x).2.2 ((wd (allE 4 x).2.2 17 : Nat) : Int) ≠ 0 ∧ SlE ws (allE 4 x).2.2 (wd (allE 4 x).2.2 18) := by
  intro n
  induction n with
  | zero => intro x k _ h _ p4; exfalso; unfold mzS at h; rw [if_pos p4] at h; omega
  | succ n ih =>
    intro x k ho h hck p4 hx
    obtain ⟨-, hs, hl, hph⟩ := ck_parts hck
    obtain ⟨⟨l1, l2, l3⟩, -⟩ := (lineW_iff x).1 hl
    have hpp : inHp (wd x 17) = true ∧ inHp (wd x 18) = true ∧ wd x 18 ≤ wd x 17 := by
      rcases (phOk_iff _ _ _).1 hph with h1 | h1 | h1
      · exact h1.2
      · omega
      · omega
    have i1 := (inHp_iff _).1 hpp.1
    have i2 := (inHp_iff _).1 hpp.2.1
    by_cases hnx : nxtErr x ((wd x 17 : Nat) : Int) = 0
    · obtain ⟨hz, q4, qck⟩ := sld_step ho hck p4 hnx
      obtain ⟨-, -, -, m, em, m1, -⟩ := nxt_at hnx
      obtain ⟨e, hmv⟩ := sld_form hck p4 hnx hz em
      obtain ⟨k', hx', hFm, -⟩ := slt_step hx i2.1 hpp.2.2 hnx em
      have hd := mzS_dec ho p4 hz
      have e17 : wd (putE x (sgOne x).2) 17 = m + szAt x m := by
        rw [e]
        have hb := (sizeOk_iff _).1 hs
        refine wd_head (j := 17) (by omega) fun e he => ?_
        rcases List.mem_cons.1 he with rfl | he
        · dsimp only; omega
        · obtain ⟨q, hq, rfl⟩ := List.getElem_of_mem he
          rw [mvEn_at]; omega
      have e18 : wd (putE x (sgOne x).2) 18 = wd x 18 + szAt x m := by
        rw [e, put_skip (by omega)]
        have hb := (sizeOk_iff _).1 hs
        refine wd_head (j := 18) (by omega) fun e he => ?_
        obtain ⟨q, hq, rfl⟩ := List.getElem_of_mem he
        rw [mvEn_at]; omega
      have hx2 : SlT ws (putE x (sgOne x).2) k' (wd (putE x (sgOne x).2) 17) (wd (putE x (sgOne x).2) 18) := by
        rw [e17, e18, e]; exact hx'
      obtain ⟨j1, j2⟩ := ih _ k' (putS_lt ho hz) (by omega) qck q4 hx2
      rw [allE_step ho p4 hz, if_pos j1]
      exact ⟨rfl, j2⟩
    · have h6 : (sgOne x).1 = 6 := by
        unfold sgOne
        rw [if_pos hck, if_neg (by omega), if_neg (by omega), if_neg (by omega), if_pos p4]
        unfold sgSld
        rw [if_neg hnx]
      rw [allE_none p4 h6]
      exact ⟨rfl, p4, hck, hnx, slt_end h0 hx i2.1 hpp.2.2 (by rw [← hx.len]; omega) i1.2.2 hnx⟩
/-- Where sliding begins. -/
theorem slt_start {x : List Nat} (h0 : hpErr x = 0) : SlT x x 0 128 128 := ⟨rfl, fun _ _ _ => rfl, fun _ _ _ => rfl, Nat.zero_le _, (hp_fr h0).2.2.2, rfl, fun p hp => by simp [moves] at hp⟩
end Go.Proofs.YtoaepffpjoibaaaGreat

namespace Go.Proofs.YtoaepffpjoibaaaGreat
open Go.RowKit

noncomputable def v1 (x : List Nat) : List Nat := (allE 1 x).2.2
noncomputable def v2 (x : List Nat) : List Nat := (allE 2 (v1 x)).2.2
noncomputable def v3 (x : List Nat) : List Nat := (allE 3 (v2 x)).2.2
noncomputable def v4 (x : List Nat) : List Nat := (allE 4 (v3 x)).2.2
noncomputable def vE (x : List Nat) : List Nat := putE (v4 x) (chOut (v4 x))
theorem end_rs {x : List Nat} (ho : ∀ v ∈ x, v < 18446744073709551616) (hck : ckErr x = 0) (p4 : wd x 16 = 4) (hnx : nxtErr x ((wd x 17 : Nat) : Int) ≠ 0) : rsE x = (0, [chOut x], putE x (chOut x)) := by
  have hen := end_ok hck p4 hnx
  have h6 : (sgOne x).1 = 6 := by
    unfold sgOne
    rw [if_pos hck, if_neg (by omega), if_neg (by omega), if_neg (by omega), if_pos p4]
    unfold sgSld
    rw [if_neg hnx]
  have hr : rsNx x = (0, false, chOut x) := by unfold rsNx; rw [if_pos h6, if_neg (by omega), hen]
  obtain ⟨os, -, -, -, f1, -, -, f2, -⟩ := fin_plain hen
  have f3 := (ch_small hen).2
  have fck : ckErr (putE x (chOut x)) = 0 := by
    unfold ckErr
    rw [if_pos f2, if_neg (by omega), if_neg (by omega)]
    exact f1
  have g6 : (sgOne (putE x (chOut x))).1 = 6 := by
    unfold sgOne
    rw [if_pos fck, if_neg (by omega), if_neg (by omega), if_neg (by omega), if_neg (by omega)]
  have hr2 : rsNx (putE x (chOut x)) = (0, true, []) := by unfold rsNx; rw [if_pos g6, if_pos f3]
  rw [rsE_step ho (by rw [hr]) (by rw [hr]), hr]
  dsimp only
  rw [rsE_done (by rw [hr2]) (by rw [hr2]), if_pos rfl]
/-- What is known of the views behind the phases. -/
structure CpF (x : List Nat) : Prop where
  e1 : (allE 1 x).1 = 0
  e2 : (allE 2 (v1 x)).1 = 0
  e3 : (allE 3 (v2 x)).1 = 0
  e4 : (allE 4 (v3 x)).1 = 0
  o1 : ∀ v ∈ v1 x, v < 18446744073709551616
  o2 : ∀ v ∈ v2 x, v < 18446744073709551616
  o3 : ∀ v ∈ v3 x, v < 18446744073709551616
  o4 : ∀ v ∈ v4 x, v < 18446744073709551616
  c1 : ckErr (v1 x) = 0
  c2 : ckErr (v2 x) = 0
  c3 : ckErr (v3 x) = 0
  c4 : ckErr (v4 x) = 0
  p1 : wd (v1 x) 16 = 2
  p2 : wd (v2 x) 16 = 3
  p3 : wd (v3 x) 16 = 4
  p4 : wd (v4 x) 16 = 4
  n1 : 1 ≤ (allE 1 x).2.1.length
  n2 : 1 ≤ (allE 2 (v1 x)).2.1.length
  n3 : 1 ≤ (allE 3 (v2 x)).2.1.length
  h1 : hpErr (v1 x) = 0
  h2 : hpErr (v2 x) = 0
  h3 : hpErr (v3 x) = 0
  r1 : RmL x (v1 x)
  s1 : HsL x (v1 x)
  m1 : mkdL (hpOut (v1 x)) = rcOut x
  k1 : rcErr (v1 x) = 0
  r2 : NxL (v1 x) (v2 x)
  d2 : rdErr (v2 x) 128 128 = 0
  z2 : wd (v2 x) 17 = 0
  r3 : FxT (v2 x) (v3 x) (v2 x).length
  r4 : SlE (v3 x) (v4 x) (wd (v4 x) 18)
  l4 : ∀ i, i < 16 ∨ 19 ≤ i ∧ i < 112 → wd (v4 x) i = wd x i
  nx : nxtErr (v4 x) ((wd (v4 x) 17 : Nat) : Int) ≠ 0
  en : enErr (v4 x) = 0
  all : rsE x = (0, (allE 1 x).2.1 ++ ((allE 2 (v1 x)).2.1 ++ ((allE 3 (v2 x)).2.1 ++ ((allE 4 (v3 x)).2.1 ++ [chOut (v4 x)]))), vE x)
theorem cont_join {p : Nat} {x : List Nat} (ho : ∀ v ∈ x, v < 18446744073709551616) (e : (allE p x).1 = 0) {L : List (List En)} {y : List Nat} (h : rsE (allE p x).2.2 = (0, L, y)) : rsE x = (0, (allE p x).2.1 ++ L, y) := by
  have := (rs_stages (p := p) _ x ho (Nat.le_refl _)).2 e
  unfold contR at this
  rw [this, h, if_pos rfl]
theorem cpF {x : List Nat} (ho : ∀ v ∈ x, v < 18446744073709551616) (p1 : wd x 16 = 1) (hck : ckErr x = 0) (hrc : rcErr x = 0) : CpF x := by
  obtain ⟨a1, a2, a3, a4⟩ := mark_run _ x ho (Nat.le_refl _) p1 hck hrc
  obtain ⟨b1, b2, b3, b4, b5⟩ := mark_all _ x ho (Nat.le_refl _) p1 hck hrc
  have o1 := (all_keeps (p := 1) _ x ho (Nat.le_refl _) a1).1
  have w1 := fun i hi => all_low (p := 1) (i := i) hi _ x ho (Nat.le_refl _) a1
  change ∀ v ∈ v1 x, _ at o1
  change wd (v1 x) 16 = 2 at a2
  change prErr (v1 x) = 0 at a3
  change RmL x (v1 x) at b1
  change HsL x (v1 x) at b2
  change rcErr (v1 x) = 0 at b3
  change rcOut (v1 x) = _ at b4
  change mkdL (hpOut (v1 x)) = _ at b5
  change ∀ i, _ → wd (v1 x) i = _ at w1
  have h1 := (rcErr_zero b3).1
  have c1 : ckErr (v1 x) = 0 := ck_of a3 (by omega) (by omega) h1
  obtain ⟨f1, f2, f3, f4, f5, f6, f7⟩ := fwd_runs _ (v1 x) o1 (Nat.le_refl _) a2 c1
  obtain ⟨g1, g2⟩ := fwd_all _ (v1 x) o1 (Nat.le_refl _) a2 c1
  have o2 := (all_keeps (p := 2) _ (v1 x) o1 (Nat.le_refl _) f1).1
  have w2 := fun i hi => all_low (p := 2) (i := i) hi _ (v1 x) o1 (Nat.le_refl _) f1
  change ∀ v ∈ v2 x, _ at o2
  change wd (v2 x) 16 = 3 at f2
  change wd (v2 x) 17 = 0 at f3
  change prErr (v2 x) = 0 at f4
  change rdErr (v2 x) 128 128 = 0 at f6
  change hpErr (v2 x) = 0 at f7
  change NxL (v1 x) (v2 x) at g1
  change wnOut (v2 x) = [] at g2
  change ∀ i, _ → wd (v2 x) i = _ at w2
  obtain ⟨-, s2, s3⟩ := g1.same h1
  rw [b3] at s2
  rw [b4] at s3
  have hw2 : wtOut (v2 x) = [] := wt_none s2 (by rw [(g1.mkd h1).1, b5, s3])
  have hI := fix_start o2 f4 f2 f3 s2 hw2 g2
  obtain ⟨i1, i2, i3, i4, i5, i6, i7⟩ := fixs_run _ (v2 x) o2 (Nat.le_refl _) hI
  have j1 := fix_all o2 hI f3
  have o3 := (all_keeps (p := 3) _ (v2 x) o2 (Nat.le_refl _) i1).1
  have w3 := fun i hi => all_low (p := 3) (i := i) hi _ (v2 x) o2 (Nat.le_refl _) i1
  change ∀ v ∈ v3 x, _ at o3
  change wd (v3 x) 16 = 4 at i2
  change wd (v3 x) 17 = 128 at i3
  change wd (v3 x) 18 = 128 at i4
  change ckErr (v3 x) = 0 at i5
  change hpErr (v3 x) = 0 at i6
  change FxT (v2 x) (v3 x) _ at j1
  change ∀ i, _ → wd (v3 x) i = _ at w3
  obtain ⟨k1, k2, k3, k4, k5⟩ := sld_all i6 _ (v3 x) 0 o3 (Nat.le_refl _) i5 i2 (by rw [i3, i4]; exact slt_start i6)
  have o4 := (all_keeps (p := 4) _ (v3 x) o3 (Nat.le_refl _) k1).1
  have w4 := fun i hi => all_low (p := 4) (i := i) hi _ (v3 x) o3 (Nat.le_refl _) k1
  have hfin := end_rs o4 k3 k2 k4
  have q4 := cont_join o3 k1 hfin
  have q3 := cont_join o2 i1 q4
  have q2 := cont_join o1 f1 q3
  have q1 := cont_join ho a1 q2
  exact ⟨a1, f1, i1, k1, o1, o2, o3, o4, c1, hI.ck, i5, k3, a2, f2, i2, k2, a4, f5, i7, h1, f7, i6, b1, b2, b5, b3, g1, f6, f3, j1, k5, fun i hi => (w4 i hi).trans ((w3 i hi).trans ((w2 i hi).trans (w1 i hi))), k4, end_ok k3 k2 k4, q1⟩
end Go.Proofs.YtoaepffpjoibaaaGreat

namespace Go.Proofs.YtoaepffpjoibaaaGreat
open Go.RowKit

noncomputable def mkS (x : List Nat) (b : Bk) : Bk := { b with mark := seenAt x b }
noncomputable def cpL (x : List Nat) : List Bk := (hpOut x).map (mkS x)
noncomputable def cpM (x : List Nat) : List (Int × Int) := moves (cpL x) 128
/-- A reference, and what it is behind a compaction. -/
def FxV (M : List (Int × Int)) (v u : Nat) : Prop := (v = 0 ∧ u = 0) ∨ (0 < v ∧ mvTo M (v : Int) = some (u : Int))
theorem mk_mkd {x : List Nat} (h0 : hpErr x = 0) {m : Nat} : Mk x m ↔ (m : Int) ∈ mkdL (hpOut x) := by
  unfold mkdL
  rw [List.mem_map]
  constructor
  · rintro ⟨h1, h2⟩
    exact ⟨bkAt x m, List.mem_filter.2 ⟨h1, h2⟩, bkAt_at x m⟩
  · rintro ⟨c, hc, e⟩
    obtain ⟨c1, c2⟩ := List.mem_filter.1 hc
    obtain ⟨a, rfl, -⟩ := (hp_row h0).1 c c1
    rw [bkAt_at] at e
    obtain rfl : a = m := by omega
    exact ⟨c1, c2⟩
/-- Where just what is reached is marked, each block's mark is whether it is reached. -/
theorem seen_mark {x : List Nat} (h : rcErr x = 0) (hm : mkdL (hpOut x) = rcOut x) {b : Bk} (hb : b ∈ hpOut x) : b.mark = seenAt x b := by
  obtain ⟨h1, -, -⟩ := rcErr_zero h
  obtain ⟨a, rfl, a1, a2, a3, a4⟩ := (hp_row h1).1 b hb
  rw [Bool.eq_iff_iff, seenAt_iff a3]
  constructor
  · intro hk
    have h5 : (a : Int) ∈ mkdL (hpOut x) := (mk_mkd h1).1 ⟨hb, hk⟩
    rw [hm, rcOut_mem h] at h5
    obtain ⟨a', e, -, hr⟩ := h5
    obtain rfl : a = a' := by omega
    exact hr
  · intro hr
    have h5 : (a : Int) ∈ rcOut x := (rcOut_mem h _).2 ⟨a, rfl, a3, hr⟩
    rw [← hm, ← mk_mkd h1] at h5
    exact h5.2
theorem end_nx (xs : List Nat) : ∀ (l : List Bk) (s : Int), endOf (l.map (nxB xs)) s = endOf l s := by
  intro l
  induction l with
  | nil => intro s; rfl
  | cons b l ih =>
    intro s
    have e : liveB (nxB xs b) = liveB b := rfl
    have e3 : (nxB xs b).size = b.size := rfl
    simp only [List.map_cons, endOf, e, e3, ih]
theorem rs_iff {ws : List Nat} (h0 : hpErr ws = 0) {m : Nat} (ho : isObj ws m) (r : Int) : r ∈ rsOut ws (m : Int) ↔ ∃ i : Nat, r = ((m + 2 + i : Nat) : Int) ∧ (flds ws m)[i]? = some 3 := by
  obtain ⟨k, hk, e, -⟩ := ho.2.2.2.2.2.2
  have hmem : bkAt ws m ∈ hpOut ws := by rw [← e]; exact List.getElem_mem hk
  have hfr : frOut ws 128 = hpOut ws := (hp_fr h0).2.1
  obtain ⟨b2, hb2⟩ := objF_isSome (l := hpOut ws) (a := (m : Int)) hmem (bkAt_at ws m) ho.2.2.2.2.1
  obtain ⟨f1, f2, f3⟩ := objF_some hb2
  obtain rfl := inc_uniq (hp_row h0).2 f1 hmem (by rw [f2, bkAt_at])
  have er : rsOut ws (m : Int) = rfsB ws (bkAt ws m) := by
    unfold rsOut
    rw [if_pos h0, hfr, hb2]
  have hf : fldB ws (bkAt ws m) = flds ws m := rfl
  rw [er]
  unfold rfsB
  rw [rfTo_mem, hf, bkAt_at]
  constructor
  · rintro ⟨i, -, i2, i3⟩
    exact ⟨i, by omega, i2⟩
  · rintro ⟨i, i1, i2⟩
    exact ⟨i, (List.getElem?_eq_some_iff.1 i2).1, i2, by omega⟩
/-- The inside of an object holds no words of blocks. -/
theorem in_obj {ws : List Nat} (h0 : hpErr ws = 0) {m j : Nat} (ho : isObj ws m) (h1 : 2 ≤ j) (h2 : j < szAt ws m) {b : Bk} (hb : b ∈ hpOut ws) : b.at_ ≠ ((m + j : Nat) : Int) ∧ b.at_ + 1 ≠ ((m + j : Nat) : Int) := by
  have := blk_apart h0 ho hb
  omega
section
variable {x : List Nat}
theorem CpF.bl1 (F : CpF x) (hrc : rcErr x = 0) : hpOut (v1 x) = cpL x := by
  obtain ⟨g1, g2, g3, g4, g5⟩ := F.r1.same hrc
  rw [g5]
  unfold cpL
  refine List.map_congr_left fun b hb => ?_
  have hb2 : mkB (v1 x) b ∈ hpOut (v1 x) := by rw [g5]; exact List.mem_map_of_mem hb
  have := seen_mark g1 (by rw [F.m1, g2]) hb2
  have e : seenAt (v1 x) (mkB (v1 x) b) = seenAt x b := by unfold seenAt; rw [g3]; rfl
  rw [e] at this
  unfold mkB mkS at *
  dsimp only at this
  rw [this]
theorem CpF.bl2 (F : CpF x) : hpOut (v2 x) = (hpOut (v1 x)).map (nxB (v2 x)) := ((F.r2.ev F.h1).heap F.h1).2
theorem CpF.bl3 (F : CpF x) : hpOut (v3 x) = hpOut (v2 x) := (F.r3.hd.heap F.h2).2
theorem CpF.mvs (F : CpF x) (hrc : rcErr x = 0) : moves (hpOut (v2 x)) 128 = cpM x ∧ endOf (hpOut (v2 x)) 128 = endOf (cpL x) 128 ∧ rdMv (v2 x) 128 128 = cpM x := by
  have e1 : moves (hpOut (v2 x)) 128 = cpM x := by rw [F.bl2, moves_nx, F.bl1 hrc]; rfl
  refine ⟨e1, by rw [F.bl2, end_nx, F.bl1 hrc], ?_⟩
  obtain ⟨-, -, l, r3, -, r5⟩ := rdErr_zero F.d2
  rw [show ((128 : Int)).toNat = 128 from rfl, (hp_fr F.h2).2.2.2] at r3
  obtain rfl := Option.some.inj r3
  rw [r5, e1]
theorem CpF.mk2 (F : CpF x) (hrc : rcErr x = 0) {m : Nat} : Mk (v2 x) m ↔ Rch x m := by
  rw [mk_mkd F.h2, (F.r2.mkd F.h1).1, F.m1, rcOut_mem hrc]
  constructor
  · rintro ⟨a, e, -, h⟩
    obtain rfl : m = a := by omega
    exact h
  · intro h
    exact ⟨m, rfl, tb_lt ((rcErr_zero hrc).2.2 m h), h⟩
theorem cp_fst (hrc : rcErr x = 0) (F : CpF x) : (cpM x).map Prod.fst = rcOut x := by
  have h := mkdL_moves (blocks_mk (hp_fr F.h1).2.2.2 (by omega)) 128
  rw [F.m1, F.bl1 hrc] at h
  exact h.symm
theorem mvTo_fst : ∀ {M : List (Int × Int)} {a : Int}, a ∈ M.map Prod.fst → ∃ t, mvTo M a = some t := by
  intro M
  induction M with
  | nil => intro a h; simp at h
  | cons p M ih =>
    intro a h
    simp only [mvTo]
    by_cases e : p.1 = a
    · exact ⟨p.2, by rw [if_pos e]⟩
    · rw [if_neg e]
      rw [List.map_cons, List.mem_cons] at h
      exact ih (h.resolve_left fun h => e h.symm)
/-- Where a reached object goes. -/
theorem cp_to (hrc : rcErr x = 0) (F : CpF x) {m : Nat} (h : Rch x m) : ∃ t, mvTo (cpM x) (m : Int) = some t :=
  mvTo_fst (by rw [cp_fst hrc F, rcOut_mem hrc]; exact ⟨m, rfl, tb_lt ((rcErr_zero hrc).2.2 m h), h⟩)
theorem rch_obj (hrc : rcErr x = 0) {m : Nat} (h : Rch x m) : isObj x m := by
  obtain ⟨b, -, -, -, h4⟩ := rch_mem hrc h
  exact h4
theorem CpF.sz (F : CpF x) (hrc : rcErr x = 0) {m : Nat} (h : Rch x m) : szAt (v3 x) m = szAt x m ∧ isObj (v2 x) m ∧ flds (v2 x) m = flds x m ∧ (wd (v3 x) m = wd (v1 x) m) := by
  have hm := (F.mk2 hrc).2 h
  have ho := rch_obj hrc h
  have h0 := (rcErr_zero hrc).1
  have ht := (rcErr_zero hrc).2.2 m h
  have e3 := (F.r3.hd.blk _ hm.1).1
  rw [bkAt_at, Int.toNat_natCast] at e3
  have e2 : wd (v2 x) m = wd (v1 x) m := F.r2.even F.h1 (by have := ho.1; omega) ho.2.1
  refine ⟨?_, (mk_obj F.h2 hm).1, ?_, e3.trans e2⟩
  · rw [← F.r1.szAt m (by have := ho.1; omega)]
    unfold szAt
    rw [e3, e2]
  · rw [F.r2.flds F.h1 (by rw [F.r1.tb h0]; exact ht), F.r1.flds h0 ht]
theorem CpF.in_ (F : CpF x) (hrc : rcErr x = 0) {m j : Nat} (h : Rch x m) (h1 : 2 ≤ j) (h2 : j < szAt x m) : wd (v2 x) (m + j) = wd x (m + j) := by
  have ho := rch_obj hrc h
  have h0 := (rcErr_zero hrc).1
  have hin := fun b hb => in_obj (b := b) h0 ho h1 h2 hb
  have h128 := ho.1
  have e1 : wd (v2 x) (m + j) = wd (v1 x) (m + j) := by
    rcases F.r2.at_ (m + j) (by omega) with h3 | ⟨b, hb, h3⟩
    · exact h3
    · rw [(F.r1.heap h0).2] at hb
      obtain ⟨b0, hb0, rfl⟩ := List.mem_map.1 hb
      exact absurd h3.symm (hin b0 hb0).2
  rw [e1]
  rcases F.s1 (m + j) (by omega) with h3 | ⟨b, hb, h3⟩
  · exact h3
  · exact absurd h3.symm (hin b hb).1
/-- The view behind a compaction. -/
structure CpD (w z : List Nat) (M : List (Int × Int)) (T : Nat) : Prop where
  len : z.length = w.length
  low : ∀ i, i < 16 ∨ 19 ≤ i ∧ i < 112 → wd z i = wd w i
  line : wd z 16 = 0 ∧ wd z 17 = 0 ∧ wd z 18 = 0
  sl : ∀ i, i < 16 → slAt z i = nwS w M i
  obj : ∀ p ∈ M, ∃ m t : Nat, p = ((m : Int), (t : Int)) ∧ Rch w m ∧ 128 ≤ t ∧ t + szAt w m ≤ T ∧ 2 ≤ szAt w m ∧ wd z t = headW { rawBk (wd w m) with mark := false } ∧ wd z (t + 1) = 0 ∧ (∀ i, (flds w m)[i]? = some 3 → FxV M (wd w (m + 2 + i)) (wd z (t + 2 + i))) ∧ ∀ i, 2 + i < szAt w m → (flds w m)[i]? ≠ some 3 → wd z (t + 2 + i) = wd w (m + 2 + i)
  to : 128 ≤ T ∧ T ≤ w.length ∧ T % 2 = 0
  free : T < w.length → wd z T = headW (freeBk (w.length - T)) ∧ wd z (T + 1) = 0
  rest : ∀ i, T + 2 ≤ i → (∀ b ∈ hpOut w, (i : Int) ≠ b.at_ ∧ (i : Int) ≠ b.at_ + 1) → (∀ m, Rch w m → ¬ (m ≤ i ∧ i < m + szAt w m)) → wd z i = wd w i
theorem okFx_v {ws y : List Nat} {M : List (Int × Int)} {r : Nat} (h : okFx ws y M r) : FxV M (wd ws r) (wd y r) := by
  rcases h with h | ⟨h1, t, m, h2, h3, -⟩
  · exact .inl h
  · exact .inr ⟨h1, by rw [h3]; exact h2⟩
theorem CpF.desc (F : CpF x) (hrc : rcErr x = 0) : CpD x (vE x) (cpM x) (endOf (cpL x) 128).toNat ∧ endOf (cpL x) 128 = ((endOf (cpL x) 128).toNat : Int) := by
  have h0 := (rcErr_zero hrc).1
  obtain ⟨m1, m2, m3⟩ := F.mvs hrc
  obtain ⟨hs, -, -, -, i5, i6, -, i8⟩ := en_facts F.en
  have hi := (inHp_iff _).1 i5
  have hTe : endOf (cpL x) 128 = ((wd (v4 x) 18 : Nat) : Int) := by
    rw [← m2, ← F.bl3]
    exact F.r4.to
  have hT : (endOf (cpL x) 128).toNat = wd (v4 x) 18 := by omega
  rw [hT]
  obtain ⟨T, hTT⟩ : ∃ T, wd (v4 x) 18 = T := ⟨_, rfl⟩
  have hlen : (v4 x).length = x.length := by
    rw [F.r4.len, F.r3.hd.len, F.r2.len, F.r1.len]
  have hput := put_ch F.en
  rw [i8, hTT, hlen] at hput
  change ∀ j, wd (vE x) j = _ at hput
  have r4 := F.r4
  rw [hTT] at i6 hi r4 ⊢
  rw [hlen] at i6
  have hzi : ∀ i, 19 ≤ i → i < T → wd (vE x) i = wd (v4 x) i := fun i h1 h2 => by
    rw [hput, if_neg (by omega), if_neg (by omega), if_neg (by omega)]
  refine ⟨⟨?_, fun i hi2 => ?_, ⟨by rw [hput, if_pos (by omega)], by rw [hput, if_pos (by omega)], by rw [hput, if_pos (by omega)]⟩, fun i hi2 => ?_, fun p hp => ?_, ⟨hi.1, i6, hi.2.2⟩, fun hlt => ⟨?_, ?_⟩, fun i hi2 hb hm => ?_⟩, by omega⟩
  · unfold vE
    rw [putE_len, hlen]
  · rw [hput, if_neg (by omega), if_neg (by omega), if_neg (by omega)]
    exact F.l4 i hi2
  · have e1 : slAt (vE x) i = slAt (v3 x) i := by
      unfold slAt
      rw [hzi _ (by omega) (by omega), r4.low _ (by omega) (by omega)]
    have e2 : slAt (v2 x) i = slAt x i := by
      rw [F.r2.slAt F.h1 hi2, F.r1.slAt hi2]
    rw [e1, F.r3.sl i hi2, m3]
    unfold nwS
    rw [e2]
  · have hp3 : p ∈ moves (hpOut (v3 x)) 128 := by rw [F.bl3, m1]; exact hp
    obtain ⟨m, t, rfl, ⟨w1, w2, w3⟩, t1, t2, t3⟩ := r4.mv p hp3
    have hrm : Rch x m := by
      have : (m : Int) ∈ (cpM x).map Prod.fst := List.mem_map.2 ⟨_, hp, rfl⟩
      rw [cp_fst hrc F, rcOut_mem hrc] at this
      obtain ⟨a, e, -, h⟩ := this
      obtain rfl : m = a := by omega
      exact h
    obtain ⟨s1, s2, s3, s4⟩ := F.sz hrc hrm
    have ho := rch_obj hrc hrm
    have h128 := ho.1
    rw [s1] at w3 t2 t3
    refine ⟨m, t, rfl, hrm, t1, t2, t3, ?_, ?_, fun i hf => ?_, fun i h1 hf => ?_⟩
    · rw [hzi _ (by omega) (by omega), w1, s4, F.r1.raw m (by omega)]
    · rw [hzi _ (by omega) (by omega), w2]
    · have hr : ((m + 2 + i : Nat) : Int) ∈ rsOut (v2 x) (m : Int) := (rs_iff F.h2 s2 _).2 ⟨i, rfl, by rw [s3]; exact hf⟩
      obtain ⟨i', e1, -, e2, -⟩ := rs_in F.h2 hr
      have hsz : szAt (v2 x) m = szAt x m := by
        have e2 : wd (v2 x) m = wd (v1 x) m := F.r2.even F.h1 (by omega) ho.2.1
        rw [← F.r1.szAt m (by omega)]
        unfold szAt
        rw [e2]
      have hlt : 2 + i < szAt x m := by omega
      have hd := F.r3.done m ((F.mk2 hrc).2 hrm) (by have := s2.2.2.1; omega) _ hr
      rw [Int.toNat_natCast, m3] at hd
      have := okFx_v hd
      rw [show m + 2 + i = m + (2 + i) by omega, F.in_ hrc hrm (by omega) hlt] at this
      rw [show m + 2 + i = m + (2 + i) by omega, show t + 2 + i = t + (2 + i) by omega, hzi _ (by omega) (by omega), w3 _ (by omega) hlt]
      exact this
    · rw [show m + 2 + i = m + (2 + i) by omega, show t + 2 + i = t + (2 + i) by omega, hzi _ (by omega) (by omega), w3 _ (by omega) (by omega), F.r3.off _ (by omega) fun m' hm' hr => ?_, F.in_ hrc hrm (by omega) h1]
      have hmm := (F.mk2 hrc).2 hrm
      obtain ⟨i', e1, -, e2, -⟩ := rs_in F.h2 hr
      have hsz : szAt (v2 x) m = szAt x m := by
        have e2 : wd (v2 x) m = wd (v1 x) m := F.r2.even F.h1 (by omega) ho.2.1
        rw [← F.r1.szAt m (by omega)]
        unfold szAt
        rw [e2]
      have hq : m = m' := by
        rcases Nat.lt_trichotomy m m' with h5 | h5 | h5
        · have := mk_apart F.h2 hmm hm' h5; omega
        · exact h5
        · have := mk_apart F.h2 hm' hmm h5; omega
      subst hq
      obtain ⟨i2, e3, e4⟩ := (rs_iff F.h2 s2 _).1 hr
      obtain rfl : i = i2 := by omega
      rw [s3] at e4
      exact hf e4
  · rw [hput, if_neg (by omega), if_pos ⟨hlt, rfl⟩]
  · rw [hput, if_neg (by omega), if_neg (by omega), if_pos ⟨hlt, rfl⟩]
  · have e4 : wd (vE x) i = wd (v4 x) i := by rw [hput, if_neg (by omega), if_neg (by omega), if_neg (by omega)]
    rw [e4, r4.up i (by omega) (by omega), F.r3.off i (by omega) fun m' hm' hr => ?_]
    · have e2 : wd (v2 x) i = wd (v1 x) i := by
        rcases F.r2.at_ i (by omega) with h3 | ⟨b, hb2, h3⟩
        · exact h3
        · rw [(F.r1.heap h0).2] at hb2
          obtain ⟨b0, hb0, rfl⟩ := List.mem_map.1 hb2
          exact absurd h3 (hb b0 hb0).2
      rw [e2]
      rcases F.s1 i (by omega) with h3 | ⟨b, hb2, h3⟩
      · exact h3
      · exact absurd h3 (hb b hb2).1
    · obtain ⟨i', e1, -, e2, e3⟩ := rs_in F.h2 hr
      have hrm := (F.mk2 hrc).1 hm'
      have ho := rch_obj hrc hrm
      have h128 := ho.1
      have hsz : szAt (v2 x) m' = szAt x m' := by
        have e2 : wd (v2 x) m' = wd (v1 x) m' := F.r2.even F.h1 (by omega) ho.2.1
        rw [← F.r1.szAt m' (by omega)]
        unfold szAt
        rw [e2]
      exact hm m' hrm ⟨by omega, by omega⟩
end
end Go.Proofs.YtoaepffpjoibaaaGreat
