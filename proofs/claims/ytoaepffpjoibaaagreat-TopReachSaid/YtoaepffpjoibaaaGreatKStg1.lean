/- Texts laid together: SldM SldU CurP StgP RmkP MkPP SlP WnB StgQ StgD StgS. -/
import Derived.Test.YtoaepffpjoibaaaGreatKMove
import Derived.WalkSpells
import Derived.Test.YtoaepffpjoibaaaGreatKCursor
import Derived.Test.YtoaepffpjoibaaaGreatKWnt
import Derived.Test.YtoaepffpjoibaaaGreatKFix
import Derived.Test.YtoaepffpjoibaaaGreatKHeap
namespace Go.Proofs.YtoaepffpjoibaaaGreat
open Go.RowKit

/-- The entries of a move, the first i of them laid. -/
def mvPre (ws : List Nat) (a u n i : Nat) : List En := (List.range n).map fun j => if j < i then ⟨((u + j : Nat) : Int), wd ws (a + j)⟩ else ⟨0, 0⟩
/-- The entries of a move. -/
def mvEn (ws : List Nat) (a u : Nat) : List En := (List.range (szAt ws a)).map fun j => ⟨((u + j : Nat) : Int), if j = 0 then headW { rawBk (wd ws a) with mark := false } else if j = 1 then 0 else wd ws (a + j)⟩
def mvOut (ws : List Nat) (f t : Int) : List En := if mvErr ws f t = 0 then mvEn ws f.toNat t.toNat else []
def MvRes (ws : List Nat) (f t : Int) (e : Ending) (w' : World) : Prop := ∃ A c, e = .returned (.tuple #[.slice A (mvOut ws f t).length c, .int .i64 (mvErr ws f t)]) ∧ RdE w' w'.heap.size A (mvOut ws f t) ∧ (mvOut ws f t).length ≤ c
theorem mvOut_no {ws : List Nat} {f t r : Int} (hr : mvErr ws f t = r) (h0 : r ≠ 0) : mvOut ws f t = [] := by subst hr; simp [mvOut, h0]
theorem mvRes_no {ws : List Nat} {f t r : Int} {w' : World} (hr : mvErr ws f t = r) (h0 : r ≠ 0) : MvRes ws f t (.returned (.tuple #[.slice none 0 0, .int .i64 r])) w' := by
  subst hr
  have : mvOut ws f t = [] := by simp [mvOut, h0]
  exact ⟨none, 0, by rw [this]; rfl, by rw [this]; exact Rd.nil_, by rw [this]; simp⟩
theorem mvPre_len (ws : List Nat) (a u n i : Nat) : (mvPre ws a u n i).length = n := by simp [mvPre]
theorem mvPre_get (ws : List Nat) (a u n i j : Nat) (hj : j < n) : (mvPre ws a u n i)[j]? = some (if j < i then ⟨((u + j : Nat) : Int), wd ws (a + j)⟩ else ⟨0, 0⟩) := by simp [mvPre, hj]
theorem mvPre_step (ws : List Nat) (a u n i : Nat) (hi : i < n) : mvPre ws a u n (i + 1) = (mvPre ws a u n i).set i ⟨((u + i : Nat) : Int), wd ws (a + i)⟩ := by
  apply List.ext_getElem?
  intro j
  rw [List.getElem?_set]
  by_cases hj : j < n
  · rw [mvPre_get _ _ _ _ _ _ hj, mvPre_get _ _ _ _ _ _ hj]
    by_cases e : i = j
    · subst e; rw [if_pos (show i < i + 1 by omega), if_pos rfl, if_pos (show i < (mvPre ws a u n i).length by rw [mvPre_len]; exact hi)]
    · rw [if_neg e]
      by_cases h : j < i
      · rw [if_pos h, if_pos (by omega)]
      · rw [if_neg h, if_neg (by omega)]
  · rw [List.getElem?_eq_none (by rw [mvPre_len]; omega), if_neg (by omega), List.getElem?_eq_none (by rw [mvPre_len]; omega)]
/-- A cell of a row of entries that is another one. -/
theorem en_set (l : List En) (k : Nat) (x : En) : (l.set k x).flatMap En.cells = ((l.flatMap En.cells).set (k * 2) (.int .i64 x.a)).set (k * 2 + 1) (.int .u64 (x.v : Int)) := by
  have h1 := flat_set En.cells 2 En.len l k 0 (by omega) ⟨x.a, (l[k]?.getD default).v⟩ (.int .i64 x.a) (fun y hy => by rw [hy]; rfl)
  have h2 := flat_set En.cells 2 En.len (l.set k ⟨x.a, (l[k]?.getD default).v⟩) k 1 (by omega) x (.int .u64 (x.v : Int)) (fun y hy => by
    rw [List.getElem?_set] at hy
    simp only [if_true] at hy
    split at hy
    · cases hy; rfl
    · cases hy)
  rw [List.set_set] at h2
  rw [h2, h1]; rfl
theorem en_setv (l : List En) (k : Nat) (x : En) (v : Nat) (hk : l[k]? = some x) : (l.set k ⟨x.a, v⟩).flatMap En.cells = (l.flatMap En.cells).set (k * 2 + 1) (.int .u64 (v : Int)) :=
  flat_set En.cells 2 En.len l k 1 (by omega) ⟨x.a, v⟩ (.int .u64 (v : Int)) (fun y hy => by rw [hk] at hy; cases hy; rfl)
theorem mvEn_of {ws : List Nat} {a u n : Nat} (hn : szAt ws a = n) (h2 : 2 ≤ n) : mvEn ws a u = ((mvPre ws a u n n).set 0 ⟨(u : Int), headW { rawBk (wd ws a) with mark := false }⟩).set 1 ⟨((u + 1 : Nat) : Int), 0⟩ := by
  apply List.ext_getElem?
  intro j
  rw [List.getElem?_set, List.getElem?_set]
  unfold mvEn
  rw [hn]
  by_cases hj : j < n
  · rw [mvPre_get _ _ _ _ _ _ hj, if_pos hj]
    simp only [List.getElem?_map, List.getElem?_range hj, Option.map_some, List.length_set, mvPre_len]
    by_cases h0 : j = 0
    · subst h0; simp [hj]
    · by_cases h1 : j = 1
      · subst h1; simp [hj]
      · rw [if_neg h0, if_neg h1, if_neg (fun h => h1 h.symm), if_neg (fun h => h0 h.symm)]
  · rw [if_neg (by omega), if_neg (by omega), List.getElem?_eq_none (by simp; omega), List.getElem?_eq_none (by rw [mvPre_len]; omega)]
theorem zero_en (n : Nat) : (madeCells #[Value.int .i64 0, .int .u64 0] (n * 2)).toList = (List.replicate n (⟨0, 0⟩ : En)).flatMap En.cells := by
  apply List.ext_getElem?
  intro j
  by_cases hj : j < n * 2
  · have hk : j / 2 < (List.replicate n (⟨0, 0⟩ : En)).length := by rw [List.length_replicate]; omega
    have h1 := flat_get En.cells 2 En.len (List.replicate n ⟨0, 0⟩) (j / 2) (j % 2) hk (by omega)
    rw [show j / 2 * 2 + j % 2 = j by omega, List.getElem_replicate] at h1
    rw [h1]
    have h2 : (madeCells #[Value.int .i64 0, .int .u64 0] (n * 2)).toList[j]? = some (#[Value.int .i64 0, .int .u64 0][j % 2]!) := by simp [madeCells, hj]
    rw [h2]
    rcases (show j % 2 = 0 ∨ j % 2 = 1 by omega) with h | h <;> rw [h] <;> rfl
  · rw [List.getElem?_eq_none (by rw [Array.length_toList, size_madeCells]; omega), List.getElem?_eq_none (by rw [flat_len En.cells 2 En.len, List.length_replicate]; omega)]
theorem mvPre_zero (ws : List Nat) (a u n : Nat) : mvPre ws a u n 0 = List.replicate n ⟨0, 0⟩ := by
  apply List.ext_getElem?
  intro j
  by_cases hj : j < n
  · rw [mvPre_get _ _ _ _ _ _ hj]; simp [hj]
  · rw [List.getElem?_eq_none (by rw [mvPre_len]; omega), List.getElem?_eq_none (by simp; omega)]
theorem mvErr_six {ws : List Nat} {f t : Int} (h : rdErr ws f t = 0) {l : List Bk} (hl : blocks ws f.toNat = some l) (h2 : l = [] ∨ (gk l 0).mark = false) : mvErr ws f t = 6 := by
  unfold mvErr
  rw [if_pos h, hl]
  cases l with
  | nil => rfl
  | cons b l =>
    rcases h2 with h2 | h2
    · cases h2
    · rw [gk_zero] at h2; simp [h2]
theorem mvErr_live {ws : List Nat} {f t : Int} (h : rdErr ws f t = 0) {l : List Bk} (hl : blocks ws f.toNat = some l) (h0 : 0 < l.length) (h2 : (gk l 0).mark = true) : mvErr ws f t = 0 := by
  unfold mvErr
  rw [if_pos h, hl]
  cases l with
  | nil => simp at h0
  | cons b l => rw [gk_zero] at h2; simp [h2]

set_option maxRecDepth 100000 in
set_option maxHeartbeats 8000000 in
theorem sMoveF_c (A : Option Addr) (ws : List Nat) (c n : Nat) (f t : Int) (w : World) (hn : ws.length = n) (hm : n ≤ 9223372036854775807) (hf : -9223372036854775808 ≤ f ∧ f ≤ 9223372036854775807) (ht : -9223372036854775808 ≤ t ∧ t ≤ 9223372036854775807) (hr : RdW w w.heap.size A ws) (ho : ∀ x ∈ ws, x < 18446744073709551616) :
    Calls Tryz.prog 39 #[.slice A n c, .int .i64 f, .int .i64 t] w fun e w' => EnRes w.heap.size (mvErr ws f t) (mvOut ws f t) e w' ∧ Below w.heap.size w w' := by
  subst hn
  have HR := Lib.hid hr
  have HO := Lib.hid ho
  have HC := Lib.hid (fwRead_c A ws c ws.length f t w rfl hm hf ht hr ho)
  unfold RdRes at HC
  have HFR := Lib.hid (fun W (h : RdW W W.heap.size A ws) => from_c A ws c ws.length f W rfl hm h ho)
  unfold FrRes at HFR
  clear hr ho
  by_cases h0 : rdErr ws f t = 0
  · obtain ⟨g1, g2, l, g3, g4, g5⟩ := rdErr_zero h0
    rw [isImg_size] at g1
    obtain ⟨f1, f2⟩ := frErr_some g1 (frArg_rd g2) g3
    rw [h0] at HC
    rw [f1, f2] at HFR
    obtain ⟨q, hq⟩ : ∃ q, (rdMv ws f t).length = q := ⟨_, rfl⟩
    rw [hq] at HC
    by_cases hl0 : l.length = 0
    · have HE := Lib.hid (mvErr_six h0 g3 (.inl (List.eq_nil_of_length_eq_zero hl0)))
      rw [hl0] at HFR
      clear g1 g2 g3 g4 g5 f1 f2 h0 hq hl0
      go_enter Tryz.func39, Tryz.ntmps39
      go_wp2_with fail
      refine HC.out.mono ?_
      rintro e w1 ⟨⟨A1, c1, rfl, -, -⟩, hB1⟩
      go_wp2_with fail
      refine (HFR.out _ (HR.out.up hB1 hB1.size)).mono ?_
      rintro e w2 ⟨⟨A2, c2, rfl, -, -⟩, hB2⟩
      go_wp2_with fail
      go_ret2
      exact ⟨enRes_no HE.out (mvOut_no HE.out (by omega)), hB1.trans (hB2.mono hB1.size)⟩
    · have hl1 : 0 < l.length := by omega
      have hne : ((l.length : Int) == 0) = false := by rw [beq_eq_false_iff_ne]; omega
      have hnen : (l.length == 0) = false := by rw [beq_eq_false_iff_ne]; exact hl0
      have hl1i : (0 : Int) < (l.length : Int) := by omega
      cases hmk : (gk l 0).mark
      · have HE := Lib.hid (mvErr_six h0 g3 (.inr hmk))
        rw [gk_get l 0 hl1] at hmk
        clear g1 g2 g3 g4 g5 f1 f2 h0 hq hl0
        go_enter Tryz.func39, Tryz.ntmps39
        go_wp2_with fail
        refine HC.out.mono ?_
        rintro e w1 ⟨⟨A1, c1, rfl, -, -⟩, hB1⟩
        go_wp2_with fail
        refine (HFR.out _ (HR.out.up hB1 hB1.size)).mono ?_
        rintro e w2 ⟨⟨A2, c2, rfl, hr2, -⟩, hB2⟩
        obtain ⟨b, off, rfl, hb, q0, q1, q2, q3, q4, q5⟩ := RdB.at_ hr2 hl1
        rw [hmk] at q4
        simp only [Nat.zero_mul, Nat.add_zero] at q4
        clear q0 q1 q2 q3 q5 hr2 hmk
        go_wp2_with fail
        go_ret2
        exact ⟨enRes_no HE.out (mvOut_no HE.out (by omega)), hB1.trans (hB2.mono hB1.size)⟩
      · have h00 := mvErr_live h0 g3 hl1 hmk
        obtain ⟨a, u, n, rfl, rfl, hnn, n2, n10, hu, hua, han, hst, hlv, -, -, hun⟩ := slide_plain h00
        rw [Int.toNat_natCast] at g3
        have hfst := (blocks_first g3 (by omega)).2.1
        have hbk : l[0] = bkAt ws a := by rw [← gk_get l 0 hl1, hfst]
        have hsz : l[0].size = ((n : Nat) : Int) := by rw [hbk, bkAt_size, hnn]
        rw [gk_get l 0 hl1] at hmk
        have hsp : splitOk (wd ws a) = true := by unfold stands at hst; simp only [Bool.and_eq_true] at hst; exact hst.1
        have hmv : mkVal (wd ws a) false = headW { rawBk (wd ws a) with mark := false } ∧ mkErr (wd ws a) false = 0 := by
          unfold mkVal mkErr
          rw [if_pos hsp, if_pos hsp]
          have h1 : hdOk (remark (wd ws a) false) = true := hun
          exact ⟨by unfold hwVal; rw [if_pos h1]; rfl, hdErr_ok h1⟩
        have HMC := Lib.hid (fun W => hdMarked_c (wd ws a) false W (wd_lt HO.out a))
        rw [hmv.1, hmv.2] at HMC
        have HEN := Lib.hid (mvEn_of (u := u) hnn.symm n2)
        have HOUT : Hid (mvErr ws (a : Int) (u : Int) = 0 ∧ mvOut ws (a : Int) (u : Int) = mvEn ws a u) := Lib.hid ⟨h00, by simp [mvOut, h00]⟩
        obtain ⟨hw, hhw⟩ : ∃ hw, headW { rawBk (wd ws a) with mark := false } = hw := ⟨_, rfl⟩
        rw [hhw] at HMC HEN
        obtain ⟨b0, off0, hA0, hb0, p0⟩ := RdW.at_ HR.out (show a < ws.length by omega)
        subst hA0
        rw [← wd_get] at p0
        have hbd := fr_bd ws g1
        have hlen : ws.length ≤ 2048 := hbd.2.1
        have ha0 : (0 : Int) ≤ (a : Int) := by omega
        have ha1 : (a : Int) < (ws.length : Int) := by omega
        have hn0 : (0 : Int) ≤ (n : Int) := by omega
        obtain ⟨x, hx⟩ : ∃ x, wd ws a = x := ⟨_, rfl⟩
        rw [hx] at p0 HMC
        clear g1 g2 g3 g4 g5 f1 f2 h0 h00 hq hl0 hfst hbk hsp hmv hun hhw hst hlv hx hbd hf ht hnn
        obtain ⟨i0, hi, hz0, hz1, hz2⟩ := info_parts infoEntry
        have HIE := Lib.hid (And.intro hi (And.intro hz0 (And.intro hz1 hz2)))
        clear hi hz0 hz1 hz2
        go_enter Tryz.func39, Tryz.ntmps39
        go_wp2_with fail
        refine HC.out.mono ?_
        rintro e w1 ⟨⟨A1, c1, rfl, -, -⟩, hB1⟩
        go_wp2_with fail
        refine (HFR.out _ (HR.out.up hB1 hB1.size)).mono ?_
        rintro e w2 ⟨⟨A2, c2, rfl, hr2, -⟩, hB2⟩
        have hb2 := hB1.trans (hB2.mono hB1.size)
        obtain ⟨b, off, rfl, hb, q0, q1, q2, q3, q4, q5⟩ := RdB.at_ hr2 hl1
        rw [hmk] at q4
        rw [hsz] at q1
        simp only [Nat.zero_mul, Nat.add_zero] at q4 q1
        have p2 := (hb2.cell (p := ⟨b0, off0 + a, none⟩) hb0).trans p0
        clear q0 q2 q3 q5 hr2 hmk hsz
        go_wp2_with fail
        refine (HMC.out _).mono ?_
        rintro e w3 ⟨rfl, hB3⟩
        have hb3 := hb2.trans (hB3.mono hb2.size)
        have q1' := (hB3.cell (p := ⟨b, off + 1, none⟩) hb).trans q1
        obtain ⟨W0, hmk, hown0, hg0⟩ := run_make_full (P := Tryz.prog) w3 w.heap.size 30 53 i0 (.agg #[.int .i64 0, .int .u64 0]) 2 Tryz.underlying30 HIE.out.1 HIE.out.2.1 HIE.out.2.2.1 .i64 .i64 n (by rw [HIE.out.2.2.2]; omega) (by unfold maxLen; omega) hb3.size
        have hown1 : W0.ownsRow w.heap.size 53 2 (.slice (some ⟨w3.heap.size, 0, none⟩) n n) n ((mvPre ws a u n 0).flatMap En.cells) := by
          rw [mvPre_zero, ← zero_en]; exact hown0
        have HOW := Lib.hid hown1
        have HBW := Lib.hid (hb3.grown hg0 hb3.size (fun k hk => by cases hk))
        clear hown0 hg0 hown1 hB3 hb2 hB2 hB1 q4 q1 p2
        go_wp2_with fail
        clear hmk q1'
        have HPS : Hid (∀ i, i < n → mvPre ws a u n (i + 1) = (mvPre ws a u n i).set i ⟨((u + i : Nat) : Int), wd ws (a + i)⟩) := Lib.hid fun i hi => mvPre_step ws a u n i hi
        have HPL : Hid (∀ i, ((mvPre ws a u n i).flatMap En.cells).length = n * 2) := Lib.hid fun i => by rw [flat_len En.cells 2 En.len, mvPre_len]
        go_loopw [57] (fun i wr => ∃ k : Nat, k ≤ n ∧ i = .int .i64 k ∧ wr.ownsRow w.heap.size 53 2 (.slice (some ⟨w3.heap.size, 0, none⟩) n n) n ((mvPre ws a u n k).flatMap En.cells) ∧ Below w.heap.size w wr) (fun i _ => n - (intOf i).toNat)
        case atStart => exact ⟨0, Nat.zero_le _, rfl, HOW.out, HBW.out⟩
        case round =>
          obtain ⟨k, hk, rfl, hown, hB⟩ := hrel
          have hgH := own_base hown
          by_cases hlt : k < n
          · obtain ⟨b0', off0', hA0, hb0', p0⟩ := RdW.at_ (Rd.below HR.out hB) (show a + k < ws.length by omega)
            cases hA0
            rw [← wd_get] at p0
            have HS := Lib.hid (HPS.out k hlt)
            obtain ⟨y, hy⟩ : ∃ y, wd ws (a + k) = y := ⟨_, rfl⟩
            rw [hy] at p0 HS
            obtain ⟨u0, hu0⟩ : ∃ u0, ((mvPre ws a u n k).flatMap En.cells)[k * 2]? = some u0 := ⟨_, List.getElem?_eq_getElem (by rw [HPL.out]; omega)⟩
            obtain ⟨u1, hu1⟩ : ∃ u1, ((mvPre ws a u n k).flatMap En.cells)[k * 2 + 1]? = some u1 := ⟨_, List.getElem?_eq_getElem (by rw [HPL.out]; omega)⟩
            have d0 := (hown.cellAt (k * 2) (by omega)).trans hu0
            have d1 := (hown.cellAt (k * 2 + 1) (by omega)).trans hu1
            have e0 := hown.frozenAt (k * 2)
            have e1 := hown.frozenAt (k * 2 + 1)
            have HOWN := Lib.hid hown
            have hk1 : (k : Int) < (n : Int) := by omega
            have hk0 : (0 : Int) ≤ (k : Int) := by omega
            have hak : (a : Int) + (k : Int) < (ws.length : Int) := by omega
            have hak0 : (0 : Int) ≤ (a : Int) + (k : Int) := by omega
            have hakt : ((a : Int) + (k : Int)).toNat = a + k := by omega
            have hwa : IntKind.i64.wrap ((a : Int) + (k : Int)) = (a : Int) + (k : Int) := IntWalk.i64_in _ (by omega)
            have hwu : IntKind.i64.wrap ((u : Int) + (k : Int)) = (u : Int) + (k : Int) := IntWalk.i64_in _ (by omega)
            clear hy hu0 hu1 hown
            go_wp2_with fail
            go_roundw
            case rel =>
              refine ⟨k + 1, by omega, by go_num, ?_, (hB.setCell (p := ⟨w3.heap.size, k * 2, none⟩) hgH _).setCell (p := ⟨w3.heap.size, k * 2 + 1, none⟩) hgH _⟩
              rw [HS.out, en_set]
              have h5 := (((HOWN.out.stored (k * 2) (.int .i64 ((u : Int) + (k : Int)))).1).stored (k * 2 + 1) (.int .u64 (y : Int))).1
              rw [show (((u + k : Nat)) : Int) = (u : Int) + (k : Int) by omega]
              exact h5
            case measure => simp [intOf]; omega
          · obtain rfl : k = n := by omega
            have g0 : (mvPre ws a u k k)[0]? = some ⟨((u + 0 : Nat) : Int), wd ws (a + 0)⟩ := by rw [mvPre_get _ _ _ _ _ _ (by omega), if_pos (by omega)]
            obtain ⟨u1, hu1⟩ : ∃ u1, ((mvPre ws a u k k).flatMap En.cells)[1]? = some u1 := ⟨_, List.getElem?_eq_getElem (by rw [HPL.out]; omega)⟩
            obtain ⟨u3, hu3⟩ : ∃ u3, ((mvPre ws a u k k).flatMap En.cells)[3]? = some u3 := ⟨_, List.getElem?_eq_getElem (by rw [HPL.out]; omega)⟩
            have d1 := (hown.cellAt 1 (by omega)).trans hu1
            have d3 := (hown.cellAt 3 (by omega)).trans hu3
            have e1 := hown.frozenAt 1
            have e3 := hown.frozenAt 3
            have hn1i : (1 : Int) < (k : Int) := by omega
            have hn0i : (0 : Int) < (k : Int) := by omega
            have hrow : (((mvPre ws a u k k).set 0 ⟨(u : Int), hw⟩).set 1 ⟨((u + 1 : Nat) : Int), 0⟩).flatMap En.cells = (((mvPre ws a u k k).flatMap En.cells).set 1 (.int .u64 (hw : Int))).set 3 (.int .u64 0) := by
              rw [en_setv ((mvPre ws a u k k).set 0 ⟨(u : Int), hw⟩) 1 ⟨((u + 1 : Nat) : Int), wd ws (a + 1)⟩ 0 (by rw [List.getElem?_set, if_neg (by omega), mvPre_get _ _ _ _ _ _ (by omega), if_pos (by omega)])]
              rw [show (⟨(u : Int), hw⟩ : En) = ⟨(⟨((u + 0 : Nat) : Int), wd ws (a + 0)⟩ : En).a, hw⟩ from rfl, en_setv _ 0 _ hw g0]
              rfl
            have HROW := Lib.hid hrow
            have HOWN := Lib.hid hown
            have hlen2 : (mvEn ws a u).length = k := by rw [HEN.out, List.length_set, List.length_set, mvPre_len]
            have HLEN := Lib.hid hlen2
            clear g0 hu1 hu3 hrow hown hlen2
            go_wp2_with fail
            go_ret2
            have h5 := (((HOWN.out.stored 1 (.int .u64 (hw : Int))).1).stored 3 (.int .u64 0)).1
            rw [← HROW.out, ← HEN.out] at h5
            refine ⟨⟨some ⟨w3.heap.size, 0, none⟩, k, by rw [HOUT.out.1, HOUT.out.2, HLEN.out]; rfl, ?_⟩, (hB.setCell (p := ⟨w3.heap.size, 1, none⟩) hgH _).setCell (p := ⟨w3.heap.size, 3, none⟩) hgH _⟩
            rw [HOUT.out.2, HLEN.out]
            exact h5
  · have HE := Lib.hid (show mvErr ws f t = rdErr ws f t by unfold mvErr; rw [if_neg h0])
    have hn1 : (rdErr ws f t != 0) = true := by rw [bne_iff_ne]; exact h0
    have H0 := Lib.hid h0
    obtain ⟨r, hr⟩ : ∃ r, rdErr ws f t = r := ⟨_, rfl⟩
    obtain ⟨q, hq⟩ : ∃ q, (rdMv ws f t).length = q := ⟨_, rfl⟩
    rw [hr, hq] at HC
    rw [hr] at hn1 HE H0
    clear h0 hr hq
    go_enter Tryz.func39, Tryz.ntmps39
    go_wp2_with fail
    refine HC.out.mono ?_
    rintro e w1 ⟨⟨A1, c1, rfl, -, -⟩, hB1⟩
    go_wp2_with fail
    go_ret2
    exact ⟨enRes_no HE.out (mvOut_no HE.out H0.out), hB1⟩
theorem sMove_c (A : Option Addr) (ws : List Nat) (c n : Nat) (f t : Int) (w : World) (hn : ws.length = n) (hm : n ≤ 9223372036854775807) (hf : -9223372036854775808 ≤ f ∧ f ≤ 9223372036854775807) (ht : -9223372036854775808 ≤ t ∧ t ≤ 9223372036854775807) (hr : RdW w w.heap.size A ws) (ho : ∀ x ∈ ws, x < 18446744073709551616) :
    Calls Tryz.prog 39 #[.slice A n c, .int .i64 f, .int .i64 t] w fun e w' => MvRes ws f t e w' ∧ Below w.heap.size w w' := (sMoveF_c A ws c n f t w hn hm hf ht hr ho).mono fun _ _ ⟨h1, h2⟩ => ⟨h1.old, h2⟩
end Go.Proofs.YtoaepffpjoibaaaGreat

namespace Go.Proofs.YtoaepffpjoibaaaGreat
open Go.RowKit

/-- A view that the call made, and no error. -/
def OwnV (w : World) (xs : List Nat) (e : Ending) (w' : World) : Prop := ∃ g c, e = .returned (.tuple #[.slice (some ⟨g, 0, none⟩) xs.length c, .int .i64 0]) ∧ w'.ownsRow w.heap.size 46 1 (.slice (some ⟨g, 0, none⟩) xs.length c) xs.length (xs.flatMap wordCells) ∧ Below w.heap.size w w'

end Go.Proofs.YtoaepffpjoibaaaGreat

namespace Go.Proofs.YtoaepffpjoibaaaGreat

theorem first_mark (l : List Bk) : (∃ k, k < l.length ∧ noMark l k ∧ (gk l k).mark = true) ∨ noMark l l.length := by
  have key : ∀ n, n ≤ l.length → (∃ k, k < l.length ∧ noMark l k ∧ (gk l k).mark = true) ∨ noMark l n := by
    intro n
    induction n with
    | zero => intro _; exact .inr (noMark_zero l)
    | succ n ih =>
      intro hn
      rcases ih (by omega) with h | h
      · exact .inl h
      · cases hm : (gk l n).mark with
        | true => exact .inl ⟨n, by omega, h, hm⟩
        | false => exact .inr (noMark_succ h hm)
  exact key l.length (Nat.le_refl _)
theorem mkdL_append (a b : List Bk) : mkdL (a ++ b) = mkdL a ++ mkdL b := by unfold mkdL; rw [List.filter_append, List.map_append]
theorem mkdL_none {l : List Bk} : ∀ {k}, k ≤ l.length → noMark l k → mkdL (l.take k) = [] := by
  intro k
  induction k with
  | zero => intro _ _; rfl
  | succ k ih =>
    intro hk h
    have hl : k < l.length := by omega
    rw [mkdL_snoc hl, ih (by omega) (fun j hj => h j (by omega))]
    have := h k (by omega)
    rw [gk_get l k hl] at this
    simp [this]
theorem mkdL_cons (b : Bk) (l : List Bk) : (mkdL (b :: l)).length = (if b.mark = true then 1 else 0) + (mkdL l).length := by
  unfold mkdL
  cases h : b.mark
  · simp [h]
  · simp [h]; omega
/-- One step from object to object. -/
theorem left_step {ws : List Nat} (hs : sizeOk (ws.length : Int) = true) {a : Nat} {l : List Bk} (h1 : 128 ≤ a) (h2 : a ≤ ws.length) (h3 : a % 2 = 0) (hb : blocks ws a = some l) (hm : 0 < (mkdL l).length) :
    ∃ (m z : Nat) (l' : List Bk), nxtErr ws (a : Int) = 0 ∧ (nxtB ws (a : Int)).at_ = (m : Int) ∧ (nxtB ws (a : Int)).size = (z : Int) ∧ a ≤ m ∧ 2 ≤ z ∧ m + z ≤ ws.length ∧ (m + z) % 2 = 0 ∧ blocks ws (m + z) = some l' ∧ (mkdL l').length + 1 = (mkdL l).length := by
  have harg : frArg ws.length (a : Int) = false := by
    simp only [frArg, Bool.or_eq_false_iff, decide_eq_false_iff_not, bne_eq_false_iff_eq]; omega
  obtain ⟨g1, g2⟩ := frErr_some (a := (a : Int)) hs harg (by rw [Int.toNat_natCast]; exact hb)
  rcases first_mark l with ⟨k, hk, hn, hmk⟩ | hn
  · obtain ⟨e1, e2⟩ := nx_some g1 g2 hk hn hmk
    obtain ⟨m, f1, f2, f3, f4, f5, f6⟩ := blocks_at _ _ hb h3 k hk
    have hz := stands_sz f5
    rw [gk_get l k hk] at e1 hmk
    have hst := blocks_first f6 f4
    refine ⟨m, szAt ws m, l.drop (k + 1), e2, by rw [e1, f1]; rfl, by rw [e1, f1]; rfl, f3, hz.1, hz.2.2, by omega, ?_, ?_⟩
    · rw [hst.2.2.2, List.drop_drop]
    · have e : l = l.take k ++ (l[k] :: l.drop (k + 1)) := by rw [← List.drop_eq_getElem_cons hk, List.take_append_drop]
      have : (mkdL l).length = (mkdL (l.take k ++ (l[k] :: l.drop (k + 1)))).length := by rw [← e]
      rw [this, mkdL_append, List.length_append, mkdL_none (by omega) hn, mkdL_cons, hmk]
      simp; omega
  · have := mkdL_none (Nat.le_refl _) hn
    rw [List.take_length] at this
    rw [this] at hm
    simp at hm
theorem left_end {ws : List Nat} (hs : sizeOk (ws.length : Int) = true) {a : Nat} {l : List Bk} (h1 : 128 ≤ a) (h2 : a ≤ ws.length) (h3 : a % 2 = 0) (hb : blocks ws a = some l) (hm : (mkdL l).length = 0) :
    nxtErr ws (a : Int) = 6 ∧ nxtB ws (a : Int) = noBk := by
  have harg : frArg ws.length (a : Int) = false := by
    simp only [frArg, Bool.or_eq_false_iff, decide_eq_false_iff_not, bne_eq_false_iff_eq]; omega
  obtain ⟨g1, g2⟩ := frErr_some (a := (a : Int)) hs harg (by rw [Int.toNat_natCast]; exact hb)
  rcases first_mark l with ⟨k, hk, hn, hmk⟩ | hn
  · have e : l = l.take k ++ (l[k] :: l.drop (k + 1)) := by rw [← List.drop_eq_getElem_cons hk, List.take_append_drop]
    rw [gk_get l k hk] at hmk
    have : (mkdL l).length = (mkdL (l.take k ++ (l[k] :: l.drop (k + 1)))).length := by rw [← e]
    rw [this, mkdL_append, List.length_append, mkdL_cons, hmk] at hm
    simp at hm
  · obtain ⟨e1, e2⟩ := nx_none g1 g2 hn
    exact ⟨e2, e1⟩
/-- Where what is left begins. -/
theorem left_start {ws : List Nat} (h : ckErr ws = 0) (hp : ¬ wd ws 16 < 3) : sizeOk (ws.length : Int) = true ∧ (wd ws 16 = 3 ∨ wd ws 16 = 4) ∧ ∃ a : Nat, lfFrom ws = (a : Int) ∧ 128 ≤ a ∧ a ≤ ws.length ∧ a % 2 = 0 ∧ ∃ l, blocks ws a = some l ∧ lfN ws = (mkdL l).length := by
  have h0 := ck_ln h
  obtain ⟨h1, h2⟩ := lnErr_zero h0
  obtain ⟨hs, h3, h4⟩ := prErr_zero h1
  obtain ⟨⟨l0, l1, l2⟩, -⟩ := (lineW_iff ws).1 h3
  have hbd := fr_bd ws hs
  have hN := lfN_all h hp
  have fin : ∀ a : Nat, lfFrom ws = (a : Int) → 128 ≤ a → a ≤ ws.length → a % 2 = 0 → ∀ l, blocks ws a = some l → ∃ a : Nat, lfFrom ws = (a : Int) ∧ 128 ≤ a ∧ a ≤ ws.length ∧ a % 2 = 0 ∧ ∃ l, blocks ws a = some l ∧ lfN ws = (mkdL l).length := by
    intro a ha g1 g2 g3 l hl
    refine ⟨a, ha, g1, g2, g3, l, hl, ?_⟩
    have harg : frArg ws.length (a : Int) = false := by
      simp only [frArg, Bool.or_eq_false_iff, decide_eq_false_iff_not, bne_eq_false_iff_eq]; omega
    rw [hN, ha, (frErr_some (a := (a : Int)) hs harg (by rw [Int.toNat_natCast]; exact hl)).2]
  rcases (phOk_iff _ _ _).1 h4 with ⟨p4, i1, i2, i3⟩ | ⟨p3, i1, i2⟩ | ⟨p0, -⟩
  · refine ⟨hs, .inr p4, ?_⟩
    have i4 := (inHp_iff _).1 i1
    have hr : rdErr ws (wd ws 17 : Nat) (wd ws 18 : Nat) = 0 := by
      unfold ckErr at h
      rw [if_pos h0, if_pos p4] at h
      split at h
      · exact h
      · simp at h
    obtain ⟨-, -, l, hl, -⟩ := rdErr_zero hr
    rw [Int.toNat_natCast] at hl
    exact fin (wd ws 17) (by unfold lfFrom; rw [if_neg (by omega)]) i4.1 l1 i4.2.2 l hl
  · refine ⟨hs, .inl p3, ?_⟩
    have hr : rdErr ws 128 128 = 0 := by
      unfold ckErr at h
      rwa [if_pos h0, if_neg (by omega), if_pos p3] at h
    obtain ⟨-, -, l, hl, -⟩ := rdErr_zero hr
    have hl' : blocks ws 128 = some l := hl
    by_cases y0 : wd ws 17 = 0
    · exact fin 128 (by unfold lfFrom; rw [if_pos (by omega)]; rfl) (by omega) (by omega) (by omega) l hl'
    · have i4 := (inHp_iff _).1 (i2.resolve_left y0)
      have hlf : lfFrom ws = ((wd ws 17 : Nat) : Int) := by unfold lfFrom; rw [if_neg (by omega)]
      have hbt := h2 p3 y0
      unfold bdAt at hbt
      rw [hl'] at hbt
      have hbt : (l.any (fun b => b.at_ == ((wd ws 17 : Nat) : Int)) || wd ws 17 == ws.length) = true := hbt
      rw [Bool.or_eq_true, List.any_eq_true] at hbt
      rcases hbt with ⟨b, hm, hb⟩ | hb
      · obtain ⟨k, hk, rfl⟩ := List.getElem_of_mem hm
        obtain ⟨m, f1, f2, f3, f4, f5, f6⟩ := blocks_at _ _ hl' (by omega) k hk
        rw [beq_iff_eq, f1] at hb
        have hmy : m = wd ws 17 := by have : ((m : Nat) : Int) = ((wd ws 17 : Nat) : Int) := hb; omega
        rw [hmy] at f6
        exact fin (wd ws 17) hlf i4.1 l1 i4.2.2 _ f6
      · rw [beq_iff_eq] at hb
        exact fin (wd ws 17) hlf i4.1 l1 i4.2.2 [] (blocks_end (by omega))
  · exact absurd p0 hp

/-! The phase line, written again -/
def phE (p f t : Nat) : List En := [⟨16, p⟩, ⟨17, f⟩, ⟨18, t⟩]
theorem set_wd {ws : List Nat} {i : Nat} (h : i < ws.length) : ws.set i (wd ws i) = ws := by
  apply List.ext_getElem?
  intro j
  rw [List.getElem?_set]
  split
  · rename_i e
    subst e
    simp [wd, h]
  · rfl
theorem putE_in {ws : List Nat} (j v : Nat) (l : List En) (h : j < ws.length) : putE ws (⟨(j : Int), v⟩ :: l) = putE (ws.set j v) l := by
  simp only [putE]
  rw [if_pos (by omega), Int.toNat_natCast]
theorem line_put {ws : List Nat} (h : 256 ≤ ws.length) : putE ws (phE (wd ws 16) (wd ws 17) (wd ws 18)) = ws := by
  unfold phE
  rw [show (16 : Int) = ((16 : Nat) : Int) from rfl, show (17 : Int) = ((17 : Nat) : Int) from rfl, show (18 : Int) = ((18 : Nat) : Int) from rfl]
  rw [putE_in 16 _ _ (by omega), set_wd (by omega), putE_in 17 _ _ (by omega), set_wd (by omega), putE_in 18 _ _ (by omega), set_wd (by omega)]
  rfl
end Go.Proofs.YtoaepffpjoibaaaGreat

namespace Go.Proofs.YtoaepffpjoibaaaGreat
open Go.RowKit

/-- The entries that are wanted, as far as there is room. -/
def batE (l : List En) (p : Nat) : List En := if 32 ≤ l.length then l.take 31 else ⟨16, p⟩ :: l
def slidesE : List En := [⟨16, 4⟩, ⟨17, 128⟩, ⟨18, 128⟩]
/-- Where the next marked object is. -/
theorem nxt_at {ws : List Nat} {a : Nat} (h : nxtErr ws (a : Int) = 0) : sizeOk (ws.length : Int) = true ∧ 128 ≤ a ∧ a % 2 = 0 ∧ ∃ m : Nat, nxtB ws (a : Int) = bkAt ws m ∧ a ≤ m ∧ m % 2 = 0 ∧ 2 ≤ szAt ws m ∧ szAt ws m % 2 = 0 ∧ m + szAt ws m ≤ ws.length ∧ stands ws m = true ∧ (bkAt ws m).mark = true ∧ (bkAt ws m).kind = 1 ∧ ∃ l, blocks ws a = some l ∧ frErr ws (a : Int) = 0 ∧ frOut ws (a : Int) = l ∧ ∃ k, k < l.length ∧ noMark l k ∧ blocks ws m = some (l.drop k) := by
  have h0 : frErr ws (a : Int) = 0 := by
    by_cases h1 : frErr ws (a : Int) = 0
    · exact h1
    · rw [(nx_err rfl h1).2] at h; exact absurd h h1
  have hs : sizeOk (ws.length : Int) = true := by
    cases hq : sizeOk (ws.length : Int) with
    | true => rfl
    | false => rw [frErr_img hq] at h0; cases h0
  have harg : frArg ws.length (a : Int) = false := by
    cases hq : frArg ws.length (a : Int) with
    | false => rfl
    | true => rw [frErr_arg hs hq] at h0; cases h0
  have ha := frArg_no harg
  cases hb : blocks ws a with
  | none => rw [frErr_none hs harg (by rw [Int.toNat_natCast]; exact hb)] at h0; cases h0
  | some l =>
    have hf := frErr_some (a := (a : Int)) hs harg (l := l) (by rw [Int.toNat_natCast]; exact hb)
    rcases first_mark l with ⟨k, hk, hn, hm⟩ | hn
    · obtain ⟨e1, -⟩ := nx_some h0 hf.2 hk hn hm
      obtain ⟨m, f1, f2, f3, f4, f5, f6⟩ := blocks_at _ _ hb (by omega) k hk
      have hz := stands_sz f5
      have hlv := fr_live h0 (k := k) (by rw [hf.2]; exact hk)
      rw [hf.2] at hlv
      rw [gk_get l k hk] at e1 hm hlv
      rw [f1] at hm hlv
      rw [hm] at hlv
      simp only [Bool.not_true, Bool.or_false, beq_iff_eq] at hlv
      exact ⟨hs, by omega, by omega, m, by rw [e1, f1], f3, f2, hz.1, hz.2.1, hz.2.2, f5, hm, hlv, l, rfl, h0, hf.2, k, hk, hn, f6⟩
    · rw [(nx_none h0 hf.2 hn).2] at h; cases h
/-- The next change of PhFix, from an address on. -/
def fixL (ws : List Nat) : Nat → Nat → Int × List En
  | 0, _ => (0, slidesE)
  | f + 1, a => if nxtErr ws (a : Int) = 0 then (if rsOut ws (nxtB ws (a : Int)).at_ = [] then fixL ws f ((nxtB ws (a : Int)).at_ + (nxtB ws (a : Int)).size).toNat
      else if obErr ws (nxtB ws (a : Int)).at_ = 0 then (0, ⟨17, ((nxtB ws (a : Int)).at_ + (nxtB ws (a : Int)).size).toNat⟩ :: obOut ws (nxtB ws (a : Int)).at_)
      else (obErr ws (nxtB ws (a : Int)).at_, [])) else (0, slidesE)
theorem fixL_more {ws : List Nat} : ∀ {f a g : Nat}, ws.length - a < f → ws.length - a < g → fixL ws f a = fixL ws g a := by
  intro f
  induction f with
  | zero => intro a g h; omega
  | succ f ih =>
    intro a g h hg
    cases g with
    | zero => omega
    | succ g =>
      simp only [fixL]
      by_cases h0 : nxtErr ws (a : Int) = 0
      · obtain ⟨hs, a1, a2, m, e, m1, m2, m3, m4, m5, -⟩ := nxt_at h0
        have hn : ((nxtB ws (a : Int)).at_ + (nxtB ws (a : Int)).size).toNat = m + szAt ws m := by rw [e, bkAt_at, bkAt_size]; omega
        rw [if_pos h0, if_pos h0, hn]
        by_cases hr : rsOut ws (nxtB ws (a : Int)).at_ = []
        · rw [if_pos hr, if_pos hr]
          exact ih (by omega) (by omega)
        · rw [if_neg hr, if_neg hr]
      · rw [if_neg h0, if_neg h0]
def fixE (ws : List Nat) (a : Nat) : Int × List En := fixL ws (ws.length + 1) a
theorem fixE_no {ws : List Nat} {a : Nat} (h : nxtErr ws (a : Int) ≠ 0) : fixE ws a = (0, slidesE) := by
  unfold fixE
  rw [fixL, if_neg h]
theorem fixE_skip {ws : List Nat} {a m : Nat} (h : nxtErr ws (a : Int) = 0) (e : nxtB ws (a : Int) = bkAt ws m) (h2 : rsOut ws (m : Int) = []) : fixE ws a = fixE ws (m + szAt ws m) := by
  obtain ⟨hs, a1, a2, m', e', m1, m2, m3, m4, m5, -⟩ := nxt_at h
  have hmm : m' = m := by have := congrArg Bk.at_ (e.symm.trans e'); rw [bkAt_at, bkAt_at] at this; omega
  subst hmm
  unfold fixE
  rw [fixL, if_pos h, e, bkAt_at, if_pos h2, bkAt_size, show (((m' : Int) + ((szAt ws m' : Nat) : Int)).toNat) = m' + szAt ws m' by omega]
  exact fixL_more (by omega) (by omega)
theorem fixE_bad {ws : List Nat} {a m : Nat} (h : nxtErr ws (a : Int) = 0) (e : nxtB ws (a : Int) = bkAt ws m) (h2 : rsOut ws (m : Int) ≠ []) (h3 : obErr ws (m : Int) ≠ 0) : fixE ws a = (obErr ws (m : Int), []) := by
  unfold fixE
  rw [fixL, if_pos h, e, bkAt_at, if_neg h2, if_neg h3]
theorem fixE_ok {ws : List Nat} {a m : Nat} (h : nxtErr ws (a : Int) = 0) (e : nxtB ws (a : Int) = bkAt ws m) (h2 : rsOut ws (m : Int) ≠ []) (h3 : obErr ws (m : Int) = 0) : fixE ws a = (0, ⟨17, m + szAt ws m⟩ :: obOut ws (m : Int)) := by
  unfold fixE
  rw [fixL, if_pos h, e, bkAt_at, if_neg h2, if_pos h3, bkAt_size, show (((m : Int) + ((szAt ws m : Nat) : Int)).toNat) = m + szAt ws m by omega]
/-- The next change of PhFix. -/
def sgFix (ws : List Nat) : Int × List En := if wd ws 17 = 0 then (if fsErr ws = 0 then (0, ⟨17, 128⟩ :: fsOut ws) else (fsErr ws, [])) else fixE ws (wd ws 17)
/-- The next change of PhSlide. -/
def sgSld (ws : List Nat) : Int × List En := if nxtErr ws ((wd ws 17 : Nat) : Int) = 0 then
    (if mvErr ws (nxtB ws ((wd ws 17 : Nat) : Int)).at_ ((wd ws 18 : Nat) : Int) = 0 then (0, ⟨17, ((nxtB ws ((wd ws 17 : Nat) : Int)).at_ + (nxtB ws ((wd ws 17 : Nat) : Int)).size).toNat⟩ :: ⟨18, (((wd ws 18 : Nat) : Int) + (nxtB ws ((wd ws 17 : Nat) : Int)).size).toNat⟩ :: mvOut ws (nxtB ws ((wd ws 17 : Nat) : Int)).at_ ((wd ws 18 : Nat) : Int))
    else (mvErr ws (nxtB ws ((wd ws 17 : Nat) : Int)).at_ ((wd ws 18 : Nat) : Int), [])) else (6, [])
/-- The next change. -/
noncomputable def sgOne (ws : List Nat) : Int × List En := if ckErr ws = 0 then
    (if wd ws 16 = 1 then (if rcErr ws = 0 then (0, batE (wtOut ws) 2) else (rcErr ws, []))
    else if wd ws 16 = 2 then (if hpErr ws = 0 then (0, batE (wnOut ws) 3) else (hpErr ws, []))
    else if wd ws 16 = 3 then sgFix ws
    else if wd ws 16 = 4 then sgSld ws else (6, [])) else (ckErr ws, [])
theorem batE_great {l : List En} {p : Nat} (h : 32 ≤ l.length) : batE l p = l.take 31 := by unfold batE; rw [if_pos h]
theorem batE_few {l : List En} {p : Nat} (h : ¬ 32 ≤ l.length) : batE l p = ⟨16, p⟩ :: l := by unfold batE; rw [if_neg h]
end Go.Proofs.YtoaepffpjoibaaaGreat

namespace Go.Proofs.YtoaepffpjoibaaaGreat
open Go.RowKit

theorem mk_word {x : Nat} (h : splitOk x = true) (hk : (rawBk x).kind = 1) (m : Bool) : splitOk (mkVal x m) = true ∧ rawBk (mkVal x m) = { rawBk x with mark := m } ∧ mkErr x m = 0 ∧ mkVal x m < 18446744073709551616 := by
  have h1 : hdOk (rawBk x) = true := by
    unfold splitOk at h
    simp only [Bool.and_eq_true] at h
    exact h.1
  have h2 : hdOk (remark x m) = true := by
    have h3 := (hdOk_iff _).1 h1
    rw [hdOk_iff]
    unfold remark
    dsimp only
    refine ⟨h3.1, .inl ?_⟩
    rcases h3.2 with h4 | h4
    · exact h4
    · rw [hk] at h4; exact absurd h4.1 (by decide)
  have hv : mkVal x m = headW (remark x m) := by unfold mkVal hwVal; rw [if_pos h, if_pos h2]
  refine ⟨by rw [hv]; exact split_head h2, ?_, by unfold mkErr; rw [if_pos h]; exact hdErr_ok h2, by rw [hv]; exact headW_lt h2⟩
  rw [hv, raw_head h2]
  rfl
theorem splitOk_big {x : Nat} (h : splitOk x = true) : 2048 < x := by
  unfold splitOk at h
  simp only [Bool.and_eq_true] at h
  have h3 := (hdOk_iff _).1 h.1
  have h4 : (rawBk x).size = ((x / 65536 % 65536 : Nat) : Int) := rfl
  rw [h4] at h3
  omega

/-- Some headers of objects have another mark. -/
structure Rm (ws xs : List Nat) : Prop where
  len : xs.length = ws.length
  at_ : ∀ i, wd xs i = wd ws i ∨ (128 ≤ i ∧ i % 2 = 0 ∧ splitOk (wd ws i) = true ∧ (rawBk (wd ws i)).kind = 1 ∧ ∃ m, wd xs i = mkVal (wd ws i) m)
section
variable {ws xs : List Nat}
theorem Rm.low (h : Rm ws xs) {i : Nat} (hi : i < 128) : wd xs i = wd ws i := by
  rcases h.at_ i with h1 | h1
  · exact h1
  · omega
theorem Rm.odd (h : Rm ws xs) {i : Nat} (hi : i % 2 = 1) : wd xs i = wd ws i := by
  rcases h.at_ i with h1 | h1
  · exact h1
  · omega
theorem Rm.sp (h : Rm ws xs) (i : Nat) : splitOk (wd xs i) = splitOk (wd ws i) := by
  rcases h.at_ i with h1 | ⟨-, -, h3, h4, m, h5⟩
  · rw [h1]
  · rw [h5, h3, (mk_word h3 h4 m).1]
def mkAt (xs : List Nat) (i : Nat) : Bool := (rawBk (wd xs i)).mark
theorem Rm.raw (h : Rm ws xs) (i : Nat) : rawBk (wd xs i) = { rawBk (wd ws i) with mark := mkAt xs i } := by
  unfold mkAt
  rcases h.at_ i with h1 | ⟨-, -, h3, h4, m, h5⟩
  · rw [h1]
  · rw [h5, (mk_word h3 h4 m).2.1]
theorem Rm.sz (h : Rm ws xs) (i : Nat) : (rawBk (wd xs i)).size = (rawBk (wd ws i)).size := by rw [h.raw i]
theorem Rm.szAt (h : Rm ws xs) (i : Nat) : szAt xs i = szAt ws i := by
  have h1 := h.sz i
  have e : ∀ w, (rawBk w).size = ((w / 65536 % 65536 : Nat) : Int) := fun _ => rfl
  rw [e, e] at h1
  unfold Proofs.YtoaepffpjoibaaaGreat.szAt
  exact Int.ofNat.inj h1
theorem Rm.stands (h : Rm ws xs) (i : Nat) : stands xs i = stands ws i := by
  unfold Proofs.YtoaepffpjoibaaaGreat.stands
  rw [h.sp, h.sz, h.len]
/-- A block with the mark that the other words have. -/
def mkB (xs : List Nat) (b : Bk) : Bk := { b with mark := mkAt xs b.at_.toNat }
theorem Rm.bkAt (h : Rm ws xs) {i : Nat} (hi : i % 2 = 0) : bkAt xs i = mkB xs (bkAt ws i) := by
  unfold mkB
  have h1 : (Proofs.YtoaepffpjoibaaaGreat.bkAt ws i).at_.toNat = i := by rw [bkAt_at, Int.toNat_natCast]
  rw [h1]
  unfold Proofs.YtoaepffpjoibaaaGreat.bkAt
  rw [h.raw i, h.odd (i := i + 1) (by omega)]
theorem Rm.blocks (h : Rm ws xs) : ∀ i l, blocks ws i = some l → i % 2 = 0 → blocks xs i = some (l.map (mkB xs)) := by
  refine blocks_ind (fun i l => i % 2 = 0 → Proofs.YtoaepffpjoibaaaGreat.blocks xs i = some (l.map (mkB xs))) (fun i hi _ => ?_) (fun i l hi hs hb ih h2 => ?_)
  · exact blocks_end (by rw [h.len]; exact hi)
  · have hsz := stands_sz hs
    have ih := ih (by omega)
    rw [blocks_step (by rw [h.len]; exact hi) (by rw [h.stands]; exact hs), h.szAt, ih, h.bkAt h2]
    rfl
theorem tabL_mk (n : Nat) (l : List Bk) : tabL n (l.map (mkB xs)) = tabL n l := by
  unfold tabL
  rw [List.foldl_map]
  rfl
theorem fitB_mk (h : Rm ws xs) {b : Bk} (hb : b.kind = 1 → tyA b + 1 < 128) : fitB xs (mkB xs b) = fitB ws b := by
  have e := fitB_fw (ws := ws) (xs := xs) (fun j hj => h.low hj) hb
  by_cases hk : b.kind = 1
  · have h2 := hb hk
    unfold fitB typedB
    show (b.kind != 1 || (typOk (wd xs (tyA b)) (wd xs (tyA b + 1)) && b.size == ((objSz (wd xs (tyA b) % 256) : Nat) : Int))) = _
    rw [h.low (by omega), h.low (by omega)]
  · rw [fit_other hk, fit_other (b := mkB xs b) hk]
theorem Rm.heap (h : Rm ws xs) (h0 : hpErr ws = 0) : hpErr xs = 0 ∧ hpOut xs = (hpOut ws).map (mkB xs) := by
  obtain ⟨h1, l, h2, h3, h4⟩ := hpErr_zero h0
  have hb := h.blocks 128 l h2 (by omega)
  rw [h4]
  refine hpErr_ok (by rw [h.len]; exact h1) hb ?_
  rw [List.all_map, List.all_eq_true]
  rw [List.all_eq_true] at h3
  intro b hb2
  show fitB xs (mkB xs b) = true
  rw [fitB_mk h (blocks_ty h2 (by omega) b hb2)]
  exact h3 b hb2
theorem Rm.tb (h : Rm ws xs) (h0 : hpErr ws = 0) (a : Nat) : tb xs a = tb ws a := by
  unfold Proofs.YtoaepffpjoibaaaGreat.tb
  rw [(h.heap h0).2, h.len, tabL_mk]
theorem Rm.slAt (h : Rm ws xs) {i : Nat} (hi : i < 16) : slAt xs i = slAt ws i := by
  unfold Proofs.YtoaepffpjoibaaaGreat.slAt
  rw [h.low (by omega)]
theorem Rm.slsOk (h : Rm ws xs) : slsOk xs = slsOk ws := by
  rw [Bool.eq_iff_iff, slsOk_iff, slsOk_iff]
  unfold slsTo
  constructor
  · intro h1 i hi; rw [← h.slAt hi]; exact h1 i hi
  · intro h1 i hi; rw [h.slAt hi]; exact h1 i hi
theorem obj_typ {a : Nat} (h : isObj ws a) : (rawBk (wd ws a)).typ.toNat < 8 := by
  have h7 := (hdOk_iff _).1 (bkAt_hd h.2.2.2.1)
  have h5 := h.2.2.2.2.1
  omega
theorem Rm.flds (h : Rm ws xs) (h0 : hpErr ws = 0) {a : Nat} (ha : Proofs.YtoaepffpjoibaaaGreat.tb ws a ≠ 0) : flds xs a = flds ws a := by
  obtain ⟨ho, -⟩ := tb_obj h0 ha
  have := obj_typ ho
  unfold Proofs.YtoaepffpjoibaaaGreat.flds
  rw [h.raw a]
  dsimp only
  rw [h.low (by omega), h.low (by omega)]
/-- A field of an object that is reached is no header. -/
theorem Rm.ref (h : Rm ws xs) (hg : Good ws) (h0 : hpErr ws = 0) {a i : Nat} (ha : Rch ws a) (ht : Proofs.YtoaepffpjoibaaaGreat.tb ws a ≠ 0) (hf : (Proofs.YtoaepffpjoibaaaGreat.flds ws a)[i]? = some 3) : wd xs (a + 2 + i) = wd ws (a + 2 + i) := by
  rcases h.at_ (a + 2 + i) with h1 | ⟨-, -, h3, -⟩
  · exact h1
  · exfalso
    have hb := splitOk_big h3
    have h4 := hg _ (Rch.ref a i ha ht hf (by omega))
    rw [Nat.min_eq_right (by omega)] at h4
    have := tb_lt h4
    have := (fr_bd ws (hpErr_zero h0).1).2.1
    omega
theorem Rm.rch (h : Rm ws xs) (hg : Good ws) (h0 : hpErr ws = 0) (a : Nat) : Rch xs a ↔ Rch ws a := by
  constructor
  · intro ha
    induction ha with
    | slot i hi hu => rw [h.slAt hi] at hu ⊢; exact Rch.slot i hi hu
    | ref a i ha ht hf hv ih =>
      rw [h.tb h0] at ht
      rw [h.flds h0 ht] at hf
      rw [h.ref hg h0 ih ht hf] at hv ⊢
      exact Rch.ref a i ih ht hf hv
  · intro ha
    induction ha with
    | slot i hi hu => rw [← h.slAt hi] at hu ⊢; exact Rch.slot i hi hu
    | ref a i ha ht hf hv ih =>
      rw [← h.ref hg h0 ha ht hf] at hv ⊢
      exact Rch.ref a i ih (by rw [h.tb h0]; exact ht) (by rw [h.flds h0 ht]; exact hf) hv
theorem rcErr_zero (h : rcErr ws = 0) : hpErr ws = 0 ∧ slsOk ws = true ∧ Good ws := by
  unfold rcErr at h
  by_cases h1 : hpErr ws = 0
  · rw [if_pos h1] at h
    by_cases h2 : Proofs.YtoaepffpjoibaaaGreat.slsOk ws = true
    · rw [if_pos h2] at h
      by_cases h3 : Good ws
      · exact ⟨h1, h2, h3⟩
      · rw [if_neg h3] at h; cases h
    · rw [if_neg h2] at h; cases h
  · rw [if_neg h1] at h; exact absurd h h1
/-- The same is reached. -/
theorem Rm.same (h : Rm ws xs) (h0 : rcErr ws = 0) : rcErr xs = 0 ∧ rcOut xs = rcOut ws ∧ seenL xs = seenL ws ∧ hpErr xs = 0 ∧ hpOut xs = (hpOut ws).map (mkB xs) := by
  obtain ⟨h1, h2, h3⟩ := rcErr_zero h0
  have hr := h.rch h3 h1
  have hh := h.heap h1
  have hg : Good xs := fun a ha => by rw [h.tb h1]; exact h3 a ((hr a).1 ha)
  have he : rcErr xs = 0 := rc_ok hh.1 (by rw [h.slsOk]; exact h2) hg
  have hs : seenL xs = seenL ws := by
    unfold seenL
    rw [h.len]
    refine List.map_congr_left fun a _ => ?_
    exact decide_eq_decide.2 (hr a)
  refine ⟨he, ?_, hs, hh⟩
  rw [rcOut_seen he, rcOut_seen h0, hs, h.len]
end
end Go.Proofs.YtoaepffpjoibaaaGreat

namespace Go.Proofs.YtoaepffpjoibaaaGreat
open Go.RowKit

theorem inc_ext : ∀ {a b : List Int}, a.Pairwise (· < ·) → b.Pairwise (· < ·) → (∀ x, x ∈ a ↔ x ∈ b) → a = b := by
  intro a
  induction a with
  | nil =>
    intro b _ _ h
    cases b with
    | nil => rfl
    | cons y b => exact absurd ((h y).2 (by simp)) (by simp)
  | cons x a ih =>
    intro b ha hb h
    cases b with
    | nil => exact absurd ((h x).1 (by simp)) (by simp)
    | cons y b =>
      rw [List.pairwise_cons] at ha hb
      have hxy : x = y := by
        have h1 := (h x).1 (by simp)
        have h2 := (h y).2 (by simp)
        rw [List.mem_cons] at h1 h2
        rcases h1 with h1 | h1
        · exact h1
        · rcases h2 with h2 | h2
          · exact h2.symm
          · have := hb.1 _ h1; have := ha.1 _ h2; omega
      subst hxy
      rw [ih ha.2 hb.2 (fun z => ?_)]
      have hz := h z
      rw [List.mem_cons, List.mem_cons] at hz
      constructor
      · intro h1
        have := ha.1 _ h1
        rcases hz.1 (.inr h1) with h2 | h2
        · omega
        · exact h2
      · intro h1
        have := hb.1 _ h1
        rcases hz.2 (.inr h1) with h2 | h2
        · omega
        · exact h2
theorem putE_hit (l : List En) : ∀ ws : List Nat, l.Pairwise (fun a b => a.a < b.a) → ∀ e ∈ l, 0 ≤ e.a → e.a < (ws.length : Int) → wd (putE ws l) e.a.toNat = e.v := by
  induction l with
  | nil => intro ws _ e he; simp at he
  | cons x l ih =>
    intro ws hp e he h0 h1
    rw [List.pairwise_cons] at hp
    simp only [putE]
    rcases List.mem_cons.1 he with rfl | he
    · rw [putE_wd l _ _ (fun y hy => by have := hp.1 y hy; omega), if_pos ⟨h0, h1⟩]
      unfold wd
      rw [List.getElem?_set_self (by omega)]
      rfl
    · refine ih _ hp.2 e he h0 ?_
      split
      · rw [List.length_set]; exact h1
      · exact h1
theorem blocks_inc {ws : List Nat} : ∀ i l, blocks ws i = some l → (∀ b ∈ l, (i : Int) ≤ b.at_) ∧ l.Pairwise (fun a b => a.at_ < b.at_) := by
  refine blocks_ind _ (fun i _ => ⟨fun b h => by simp at h, List.Pairwise.nil⟩) (fun i l hi hs hb ih => ?_)
  have hsz := stands_sz hs
  refine ⟨fun b h => ?_, List.Pairwise.cons (fun b h => ?_) ih.2⟩
  · rcases List.mem_cons.1 h with rfl | h
    · rw [bkAt_at]; omega
    · have := ih.1 b h; omega
  · have := ih.1 b h
    rw [bkAt_at]; omega
theorem hp_row {ws : List Nat} (h : hpErr ws = 0) : (∀ b ∈ hpOut ws, ∃ a : Nat, b = bkAt ws a ∧ 128 ≤ a ∧ a % 2 = 0 ∧ a < ws.length ∧ stands ws a = true) ∧ (hpOut ws).Pairwise (fun a b => a.at_ < b.at_) := by
  obtain ⟨h1, l, h2, h3, h4⟩ := hpErr_zero h
  rw [h4]
  refine ⟨fun b hb => ?_, (blocks_inc _ _ h2).2⟩
  obtain ⟨k, hk, rfl⟩ := List.getElem_of_mem hb
  obtain ⟨a, e1, e2, e3, e4, e5, -⟩ := blocks_at _ _ h2 (by omega) k hk
  exact ⟨a, e1, by omega, e2, e4, e5⟩
/-- An object that is reached is one of the heap's. -/
theorem rch_mem {ws : List Nat} (h : rcErr ws = 0) {a : Nat} (ha : Rch ws a) : ∃ b ∈ hpOut ws, b = bkAt ws a ∧ b.kind = 1 ∧ isObj ws a := by
  obtain ⟨h1, h2, h3⟩ := rcErr_zero h
  obtain ⟨ho, -⟩ := tb_obj h1 (h3 a ha)
  obtain ⟨k, hk, e, -⟩ := ho.2.2.2.2.2.2
  exact ⟨_, List.getElem_mem hk, e, by rw [e]; exact ho.2.2.2.2.1, ho⟩
noncomputable def seenAt (ws : List Nat) (b : Bk) : Bool := (seenL ws)[b.at_.toNat]?.getD false
theorem seenAt_iff {ws : List Nat} {a : Nat} (h : a < ws.length) : seenAt ws (bkAt ws a) = true ↔ Rch ws a := by
  unfold seenAt
  rw [bkAt_at, Int.toNat_natCast]
  exact seenL_get h
theorem seen_kind {ws : List Nat} (h : rcErr ws = 0) {b : Bk} (hb : b ∈ hpOut ws) (hk : keepB (seenL ws) b = false) : b.kind = 1 := by
  obtain ⟨h1, -, -⟩ := rcErr_zero h
  obtain ⟨a, rfl, a1, a2, a3, a4⟩ := (hp_row h1).1 b hb
  cases hm : (bkAt ws a).mark with
  | true =>
    obtain ⟨_, l, g2, -, g4⟩ := hpErr_zero h1
    rw [g4] at hb
    exact blocks_mk g2 (by omega) _ hb hm
  | false =>
    have hs : seenAt ws (bkAt ws a) = true := by
      unfold keepB at hk
      rw [hm] at hk
      unfold seenAt
      cases hq : (seenL ws)[(bkAt ws a).at_.toNat]?.getD false with
      | true => rfl
      | false => rw [hq] at hk; exact absurd hk (by decide)
    obtain ⟨b', -, e, hk', -⟩ := rch_mem h ((seenAt_iff a3).1 hs)
    rw [e] at hk'
    exact hk'
theorem wtOut_eq {ws : List Nat} (h : rcErr ws = 0) : wtOut ws = (wntL (seenL ws) (hpOut ws)).map (wntE ws (seenL ws)) := by
  unfold wtOut
  rw [if_pos h]
theorem wtOut_mem {ws : List Nat} (h : rcErr ws = 0) {e : En} (he : e ∈ wtOut ws) : ∃ a : Nat, bkAt ws a ∈ hpOut ws ∧ 128 ≤ a ∧ a % 2 = 0 ∧ a < ws.length ∧ splitOk (wd ws a) = true ∧ (rawBk (wd ws a)).kind = 1 ∧ e = ⟨(a : Int), mkVal (wd ws a) (seenAt ws (bkAt ws a))⟩ ∧ keepB (seenL ws) (bkAt ws a) = false := by
  obtain ⟨h1, -, -⟩ := rcErr_zero h
  rw [wtOut_eq h, List.mem_map] at he
  obtain ⟨b, hb, rfl⟩ := he
  have hm := wntL_mem hb
  have hk : keepB (seenL ws) b = false := by
    unfold wntL at hb
    have := (List.mem_filter.1 hb).2
    simpa using this
  have hkind := seen_kind h hm hk
  obtain ⟨a, rfl, a1, a2, a3, a4⟩ := (hp_row h1).1 b hm
  refine ⟨a, hm, a1, a2, a3, ?_, hkind, rfl, hk⟩
  unfold stands at a4
  simp only [Bool.and_eq_true] at a4
  exact a4.1
theorem wtOut_inc {ws : List Nat} (h : rcErr ws = 0) : (wtOut ws).Pairwise (fun a b => a.a < b.a) := by
  obtain ⟨h1, -, -⟩ := rcErr_zero h
  rw [wtOut_eq h, List.pairwise_map]
  exact List.Pairwise.filter _ (hp_row h1).2
theorem wtOut_v {ws : List Nat} (h : rcErr ws = 0) : ∀ e ∈ wtOut ws, e.v < 18446744073709551616 := by
  intro e he
  obtain ⟨a, -, -, -, -, g1, g2, rfl, -⟩ := wtOut_mem h he
  exact (mk_word g1 g2 _).2.2.2
theorem puts_rm {ws : List Nat} (h : rcErr ws = 0) : Rm ws (putE ws (wtOut ws)) := by
  refine ⟨putE_len _ _, fun i => ?_⟩
  by_cases hi : ∃ e ∈ wtOut ws, e.a = (i : Int)
  · obtain ⟨e, he, hei⟩ := hi
    obtain ⟨a, -, a1, a2, a3, g1, g2, rfl, -⟩ := wtOut_mem h he
    have hai : a = i := by dsimp only at hei; omega
    subst hai
    refine .inr ⟨a1, a2, g1, g2, seenAt ws (bkAt ws a), ?_⟩
    have := putE_hit (wtOut ws) ws (wtOut_inc h) _ he (by dsimp only; omega) (by dsimp only; omega)
    dsimp only at this
    rw [Int.toNat_natCast] at this
    exact this
  · exact .inl (putE_wd _ _ _ (fun e he h2 => hi ⟨e, he, h2⟩))
theorem puts_mark {ws : List Nat} (h : rcErr ws = 0) {b : Bk} (hb : b ∈ hpOut ws) : (mkB (putE ws (wtOut ws)) b).mark = seenAt ws b := by
  obtain ⟨h1, -, -⟩ := rcErr_zero h
  obtain ⟨a, rfl, a1, a2, a3, a4⟩ := (hp_row h1).1 b hb
  show mkAt _ (bkAt ws a).at_.toNat = _
  rw [bkAt_at, Int.toNat_natCast]
  cases hk : keepB (seenL ws) (bkAt ws a) with
  | false =>
    have he : wntE ws (seenL ws) (bkAt ws a) ∈ wtOut ws := by
      rw [wtOut_eq h, List.mem_map]
      refine ⟨_, ?_, rfl⟩
      unfold wntL
      rw [List.mem_filter]
      exact ⟨hb, by rw [hk]; rfl⟩
    obtain ⟨a', -, b1, b2, b3, g1, g2, e, -⟩ := wtOut_mem h he
    have e1 := congrArg En.a e
    have : a' = a := by
      have : ((bkAt ws a).at_ : Int) = (a' : Int) := e1
      rw [bkAt_at] at this; omega
    subst this
    have := putE_hit (wtOut ws) ws (wtOut_inc h) _ he (by rw [e]; dsimp only; omega) (by rw [e]; dsimp only; omega)
    rw [e] at this
    dsimp only at this
    rw [Int.toNat_natCast] at this
    unfold mkAt
    rw [this, (mk_word g1 g2 _).2.1]
  | true =>
    have hw : wd (putE ws (wtOut ws)) a = wd ws a := putE_wd _ _ _ (fun e he h2 => by
      obtain ⟨a', hm, b1, b2, b3, g1, g2, rfl, hk'⟩ := wtOut_mem h he
      have : a' = a := by dsimp only at h2; omega
      subst this
      rw [hk] at hk'; cases hk')
    unfold mkAt
    rw [hw]
    unfold keepB at hk
    exact beq_iff_eq.1 hk
theorem mkdL_sub {l : List Bk} (h : l.Pairwise (fun a b => a.at_ < b.at_)) : (mkdL l).Pairwise (· < ·) := by
  unfold mkdL
  rw [List.pairwise_map]
  exact List.Pairwise.filter _ h
theorem map_inc {l : List Bk} {xs : List Nat} (h : l.Pairwise (fun a b => a.at_ < b.at_)) : (l.map (mkB xs)).Pairwise (fun a b => a.at_ < b.at_) := by
  rw [List.pairwise_map]
  exact h
theorem rcOut_mem {ws : List Nat} (h : rcErr ws = 0) (x : Int) : x ∈ rcOut ws ↔ ∃ a : Nat, x = (a : Int) ∧ a < ws.length ∧ Rch ws a := by
  rw [rcOut_seen h]
  unfold seenTo
  rw [List.mem_map]
  constructor
  · rintro ⟨a, ha, rfl⟩
    rw [List.mem_filter, List.mem_range] at ha
    exact ⟨a, rfl, ha.1, (seenL_get ha.1).1 ha.2⟩
  · rintro ⟨a, rfl, h1, h2⟩
    exact ⟨a, List.mem_filter.2 ⟨List.mem_range.2 h1, (seenL_get h1).2 h2⟩, rfl⟩
theorem rcOut_inc {ws : List Nat} (h : rcErr ws = 0) : (rcOut ws).Pairwise (· < ·) := by
  rw [rcOut_seen h]
  unfold seenTo
  rw [List.pairwise_map]
  refine List.Pairwise.filter _ ?_
  refine List.Pairwise.imp (R := (· < ·)) (fun {a b} hab => ?_) List.pairwise_lt_range
  omega
theorem puts_mkd {ws : List Nat} (h : rcErr ws = 0) : mkdL ((hpOut ws).map (mkB (putE ws (wtOut ws)))) = rcOut ws := by
  obtain ⟨h1, -, h3⟩ := rcErr_zero h
  have hrow := hp_row h1
  refine inc_ext (mkdL_sub (map_inc hrow.2)) (rcOut_inc h) fun x => ?_
  rw [rcOut_mem h]
  unfold mkdL
  rw [List.mem_map]
  constructor
  · rintro ⟨c, hc, rfl⟩
    rw [List.mem_filter, List.mem_map] at hc
    obtain ⟨⟨b, hb, rfl⟩, hm⟩ := hc
    rw [puts_mark h hb] at hm
    obtain ⟨a, rfl, a1, a2, a3, a4⟩ := hrow.1 b hb
    exact ⟨a, bkAt_at ws a, a3, (seenAt_iff a3).1 hm⟩
  · rintro ⟨a, rfl, ha, hr⟩
    obtain ⟨b, hb, rfl, -, -⟩ := rch_mem h hr
    refine ⟨mkB (putE ws (wtOut ws)) (bkAt ws a), ?_, bkAt_at ws a⟩
    rw [List.mem_filter]
    refine ⟨List.mem_map_of_mem hb, ?_⟩
    rw [puts_mark h hb]
    exact (seenAt_iff ha).2 hr
/-- MarkPuts. -/
theorem puts_plain {ws : List Nat} (h : rcErr ws = 0) : rcErr (putE ws (wtOut ws)) = 0 ∧ rcOut (putE ws (wtOut ws)) = rcOut ws ∧ hpErr (putE ws (wtOut ws)) = 0 ∧ mkdL (hpOut (putE ws (wtOut ws))) = rcOut ws ∧ wtOut (putE ws (wtOut ws)) = [] := by
  obtain ⟨g1, g2, g3, g4, g5⟩ := (puts_rm h).same h
  refine ⟨g1, g2, g4, by rw [g5]; exact puts_mkd h, ?_⟩
  rw [wtOut_eq g1, g3, g5]
  rw [show wntL (seenL ws) ((hpOut ws).map (mkB (putE ws (wtOut ws)))) = [] from ?_]
  · rfl
  unfold wntL
  rw [List.filter_eq_nil_iff]
  intro c hc
  obtain ⟨b, hb, rfl⟩ := List.mem_map.1 hc
  have hm := puts_mark h hb
  unfold keepB
  rw [hm]
  show ¬ (!(seenAt ws b == seenAt ws b)) = true
  simp
theorem wt_rows {ws : List Nat} (h : rcErr ws = 0) : (∀ (i : Nat) (x : En), (wtOut ws)[i]? = some x → 128 ≤ x.a ∧ x.a < (ws.length : Int)) ∧ ∀ (i : Nat) (x y : En), (wtOut ws)[i]? = some x → (wtOut ws)[i + 1]? = some y → x.a < y.a := by
  refine ⟨fun i x hx => ?_, fun i x y hx hy => ?_⟩
  · obtain ⟨a, -, a1, -, a3, -, -, rfl, -⟩ := wtOut_mem h (List.mem_of_getElem? hx)
    dsimp only; omega
  · have h2 := wtOut_inc h
    rw [List.pairwise_iff_getElem] at h2
    obtain ⟨h3, e3⟩ := List.getElem?_eq_some_iff.1 hx
    obtain ⟨h4, e4⟩ := List.getElem?_eq_some_iff.1 hy
    rw [← e3, ← e4]
    exact h2 i (i + 1) h3 h4 (by omega)

/-! Another mark at one address -/
theorem mkd_near : ∀ {l : List Bk} {xs : List Nat} {A : Nat}, l.Pairwise (fun a b => a.at_ < b.at_) → (∀ b ∈ l, 0 ≤ b.at_) → (∀ b ∈ l, b.at_ ≠ (A : Int) → mkAt xs b.at_.toNat = b.mark) → (mkdL (l.map (mkB xs))).length ≤ (mkdL l).length + 1 ∧ (mkdL l).length ≤ (mkdL (l.map (mkB xs))).length + 1 ∧ ((∀ b ∈ l, b.at_ ≠ (A : Int)) → (mkdL (l.map (mkB xs))).length = (mkdL l).length) := by
  intro l
  induction l with
  | nil => intro xs A _ _ _; exact ⟨by simp [mkdL], by simp [mkdL], fun _ => rfl⟩
  | cons b l ih =>
    intro xs A hp h0 hm
    rw [List.pairwise_cons] at hp
    obtain ⟨i1, i2, i3⟩ := ih hp.2 (fun c hc => h0 c (by simp [hc])) (fun c hc => hm c (by simp [hc]))
    have hl : ∀ (c : Bk) (m : List Bk), (mkdL (c :: m)).length = (if c.mark = true then 1 else 0) + (mkdL m).length := by
      intro c m
      unfold mkdL
      cases hc : c.mark <;> simp [hc]; omega
    rw [List.map_cons, hl, hl]
    by_cases hb : b.at_ = (A : Int)
    · have i4 := i3 (fun c hc => by have := hp.1 c hc; omega)
      rw [i4]
      refine ⟨?_, ?_, fun h => absurd hb (h b (by simp))⟩
      · split <;> split <;> omega
      · split <;> split <;> omega
    · have e : (mkB xs b).mark = b.mark := hm b (by simp) hb
      rw [e]
      exact ⟨by omega, by omega, fun h => by rw [i3 (fun c hc => h c (by simp [hc]))]⟩
theorem marks_rm {ws : List Nat} {a : Nat} (h1 : 128 ≤ a) (h2 : a % 2 = 0) (h3 : a < ws.length) (h4 : splitOk (wd ws a) = true) (h5 : (rawBk (wd ws a)).kind = 1) (m : Bool) : Rm ws (ws.set a (mkVal (wd ws a) m)) := by
  refine ⟨List.length_set, fun i => ?_⟩
  by_cases hi : i = a
  · subst hi
    refine .inr ⟨h1, h2, h4, h5, m, ?_⟩
    unfold wd
    rw [List.getElem?_set_self h3]
    rfl
  · refine .inl ?_
    unfold wd
    rw [List.getElem?_set_ne (by omega)]
/-- MarkMarks. -/
theorem marks_plain {ws : List Nat} (h : rcErr ws = 0) {a : Nat} (h1 : 128 ≤ a) (h2 : a % 2 = 0) (h3 : a < ws.length) (h4 : splitOk (wd ws a) = true) (h5 : (rawBk (wd ws a)).kind = 1) (m : Bool) :
    rcErr (ws.set a (mkVal (wd ws a) m)) = 0 ∧ rcOut (ws.set a (mkVal (wd ws a) m)) = rcOut ws ∧ hpErr (ws.set a (mkVal (wd ws a) m)) = 0 ∧
      (mkdL (hpOut (ws.set a (mkVal (wd ws a) m)))).length ≤ (mkdL (hpOut ws)).length + 1 ∧ (mkdL (hpOut ws)).length ≤ (mkdL (hpOut (ws.set a (mkVal (wd ws a) m)))).length + 1 := by
  have hrm := marks_rm h1 h2 h3 h4 h5 m
  obtain ⟨g1, g2, g3, g4, g5⟩ := hrm.same h
  obtain ⟨k1, -, -⟩ := rcErr_zero h
  have hrow := hp_row k1
  have := mkd_near (l := hpOut ws) (xs := ws.set a (mkVal (wd ws a) m)) (A := a) hrow.2 (fun b hb => by
    obtain ⟨i, rfl, -⟩ := hrow.1 b hb
    rw [bkAt_at]; omega) (fun b hb hne => by
    obtain ⟨i, rfl, -⟩ := hrow.1 b hb
    rw [bkAt_at] at hne ⊢
    rw [Int.toNat_natCast]
    unfold mkAt wd
    rw [List.getElem?_set_ne (by omega)]
    rfl)
  refine ⟨g1, g2, g4, ?_, ?_⟩
  · rw [g5]; exact this.1
  · rw [g5]; exact this.2.1
end Go.Proofs.YtoaepffpjoibaaaGreat

namespace Go.Proofs.YtoaepffpjoibaaaGreat
open Go.RowKit

theorem mvEn_len (ws : List Nat) (a u : Nat) : (mvEn ws a u).length = szAt ws a := by simp [mvEn]
theorem putE_seq (l : List Nat) : ∀ (ws : List Nat) (t : Nat), t + l.length ≤ ws.length → putE ws ((List.range l.length).map fun j => (⟨((t + j : Nat) : Int), l[j]?.getD 0⟩ : En)) = putSeq ws t l := by
  induction l with
  | nil => intro ws t _; rfl
  | cons v l ih =>
    intro ws t h
    simp only [List.length_cons] at h
    rw [List.length_cons, List.range_succ_eq_map, List.map_cons, List.map_map]
    simp only [putE, putSeq, Nat.add_zero]
    rw [if_pos (by omega), Int.toNat_natCast, List.getElem?_cons_zero, Option.getD_some, ← ih _ (t + 1) (by rw [List.length_set]; omega)]
    congr 1
    apply List.map_congr_left
    intro j _
    simp only [Function.comp]
    rw [show t + Nat.succ j = t + 1 + j by omega]
    simp
theorem putE_mv {ws : List Nat} {a u : Nat} (h : u + szAt ws a ≤ ws.length) : putE ws (mvEn ws a u) = putSeq ws u (mvWords ws a) := by
  rw [← putE_seq _ _ _ (by rw [mvWords_len]; exact h), mvWords_len]
  congr 1
  unfold mvEn
  apply List.map_congr_left
  intro j hj
  rw [mvWords_get _ _ _ (List.mem_range.1 hj)]; rfl
theorem mvEn_lt {ws : List Nat} {a u : Nat} (ho : ∀ x ∈ ws, x < 18446744073709551616) (h : hdOk { rawBk (wd ws a) with mark := false } = true) : ∀ e ∈ mvEn ws a u, e.v < 18446744073709551616 := by
  intro e he
  simp only [mvEn, List.mem_map] at he
  obtain ⟨j, -, rfl⟩ := he
  dsimp only
  split
  · exact headW_lt h
  · split
    · omega
    · exact wd_lt ho _
theorem mvEn_in {ws : List Nat} {a u : Nat} (h : u + szAt ws a ≤ ws.length) : ∀ e ∈ mvEn ws a u, 0 ≤ e.a ∧ e.a < (ws.length : Int) := by
  intro e he
  simp only [mvEn, List.mem_map] at he
  obtain ⟨j, hj, rfl⟩ := he
  have := List.mem_range.1 hj
  dsimp only
  omega
theorem mvEn_at {ws : List Nat} {a u k : Nat} (h : k < (mvEn ws a u).length) : ((mvEn ws a u)[k]).a = ((u + k : Nat) : Int) := by simp [mvEn]
end Go.Proofs.YtoaepffpjoibaaaGreat

namespace Go.Proofs.YtoaepffpjoibaaaGreat
open Go.RowKit

theorem endOf_ge28 : ∀ {l : List Bk} {s : Int}, (∀ b ∈ l, 0 ≤ b.size) → s ≤ endOf l s := by
  intro l
  induction l with
  | nil => intro s _; exact Int.le_refl _
  | cons b l ih =>
    intro s h
    have h1 := h b (by simp)
    simp only [endOf]
    split
    · have := ih (s := s + b.size) (fun c hc => h c (by simp [hc])); omega
    · exact ih (fun c hc => h c (by simp [hc]))
theorem wantE_val28 : ∀ {l : List Bk} {s : Int}, 0 ≤ s → (∀ b ∈ l, 0 ≤ b.size) → ∀ e ∈ wantE l s, (e.v : Int) ≤ endOf l s := by
  intro l
  induction l with
  | nil => intro s _ _ e h; simp [wantE] at h
  | cons b l ih =>
    intro s hs h e he
    have h1 := h b (by simp)
    have hl : ∀ c ∈ l, 0 ≤ c.size := fun c hc => h c (by simp [hc])
    have hns : s ≤ nextS b s := by unfold nextS; split <;> omega
    have hge := endOf_ge28 (l := l) (s := nextS b s) hl
    have hen : endOf (b :: l) s = endOf l (nextS b s) := by simp only [endOf, nextS]; split <;> rfl
    rw [hen]
    simp only [wantE, List.mem_append] at he
    rcases he with he | he
    · split at he
      · simp only [List.mem_cons, List.not_mem_nil, or_false] at he
        subst he
        show ((wantN b s : Nat) : Int) ≤ _
        unfold wantN
        split <;> omega
      · simp at he
    · exact ih (by omega) hl e he
theorem wnOut_bd {x : List Nat} (h : hpErr x = 0) : (wnOut x).length ≤ 1024 ∧ ∀ e ∈ wnOut x, e.v < 18446744073709551616 := by
  have hw : wnOut x = wantE (hpOut x) 128 := by unfold wnOut; rw [if_pos h]
  rw [hw]
  refine ⟨Nat.le_trans (wantE_len _ _) (hpOut_len x), fun e he => ?_⟩
  obtain ⟨hre, hs1, hs2, hs3⟩ := stErr_zero (hp_fr h).2.2.1
  have h1 := wantE_val28 (l := hpOut x) (s := 128) (by omega) (fun b hb => by
    obtain ⟨i, hi, rfl⟩ := List.getElem_of_mem hb
    have := size_bd' (hp_fr h).2.2.1 hi; omega) e he
  have h2 := endOf_bd hre (Nat.le_refl _) hs1 hs2
  rw [List.take_length] at h2
  omega
end Go.Proofs.YtoaepffpjoibaaaGreat

namespace Go.Proofs.YtoaepffpjoibaaaGreat
open Go.RowKit

/-- What the entries of a change are like. -/
structure Small (n : Nat) (E : List En) : Prop where
  pos : 1 ≤ E.length
  le : E.length ≤ 32
  inc : E.Pairwise (fun a b => a.a < b.a)
  ins : ∀ e ∈ E, (16 ≤ e.a ∧ e.a < 19 ∨ 112 ≤ e.a) ∧ e.a < (n : Int)
  val : ∀ e ∈ E, e.v < 18446744073709551616
theorem pair_take {l : List En} (h : l.Pairwise (fun a b => a.a < b.a)) (k : Nat) : (l.take k).Pairwise (fun a b => a.a < b.a) := h.sublist (List.take_sublist k l)
theorem small_bat {n p : Nat} {l : List En} (hn : 256 ≤ n) (hp : p < 4) (h1 : l.Pairwise (fun a b => a.a < b.a)) (h2 : ∀ e ∈ l, 128 ≤ e.a ∧ e.a < (n : Int)) (h3 : ∀ e ∈ l, e.v < 18446744073709551616) : Small n (batE l p) := by
  by_cases h : 32 ≤ l.length
  · rw [batE_great h]
    refine ⟨by rw [List.length_take]; omega, by rw [List.length_take]; omega, pair_take h1 31, fun e he => ?_, fun e he => h3 e (List.mem_of_mem_take he)⟩
    have := h2 e (List.mem_of_mem_take he)
    omega
  · rw [batE_few h]
    refine ⟨by simp, by rw [List.length_cons]; omega, List.Pairwise.cons (fun e he => ?_) h1, fun e he => ?_, fun e he => ?_⟩
    · have := h2 e he; dsimp only; omega
    · rcases List.mem_cons.1 he with rfl | he
      · dsimp only; omega
      · have := h2 e he; omega
    · rcases List.mem_cons.1 he with rfl | he
      · dsimp only; omega
      · exact h3 e he
theorem ob_ge {ws : List Nat} {a : Int} (h : obErr ws a = 0) : ∀ e ∈ obOut ws a, a ≤ e.a ∧ e.a < (ws.length : Int) ∧ e.v < 2048 := by
  obtain ⟨f, -, -, -, -, -, g7, g8, g9, g10⟩ := ob_plain h
  intro e he
  obtain ⟨r, r1, r2, r3, r4⟩ := g9 e he
  have hit := putE_hit (obOut ws a) ws g10 e he (by omega) (by omega)
  rw [r1, Int.toNat_natCast] at hit
  by_cases hex : ∃ i, i < (rsOut ws a).length ∧ f i = r
  · obtain ⟨i, hi, e2⟩ := hex
    have := (g7 i hi).2.1
    omega
  · have := g8 r (fun i hi h2 => hex ⟨i, hi, h2⟩)
    rw [hit] at this
    exact absurd this.symm r3
/-- What a view's phase line says, where it may go on. -/
theorem ck_parts {ws : List Nat} (h : ckErr ws = 0) : prErr ws = 0 ∧ sizeOk (ws.length : Int) = true ∧ lineW ws = true ∧ phOk (wd ws 16) (wd ws 17) (wd ws 18) = true := by
  have h1 := (lnErr_zero (ck_ln h)).1
  exact ⟨h1, prErr_zero h1⟩
theorem pr_ok {xs : List Nat} (h1 : sizeOk (xs.length : Int) = true) (h2 : lineW xs = true) (h3 : phOk (wd xs 16) (wd xs 17) (wd xs 18) = true) : prErr xs = 0 := (prErr_ok h1 (by rw [h2, h3]; rfl)).1
theorem put_low {ws : List Nat} {E : List En} (h : ∀ e ∈ E, 19 ≤ e.a) {i : Nat} (hi : i < 19) : wd (putE ws E) i = wd ws i := putE_wd _ _ _ fun e he => by have := h e he; omega
theorem small_at {n : Nat} {E : List En} (h : Small n E) {ws : List Nat} {i : Nat} (h1 : 19 ≤ i) (h2 : i < 112) : wd (putE ws E) i = wd ws i := putE_wd _ _ _ fun e he => by have := (h.ins e he).1; omega
theorem line_put2 {ws : List Nat} {E : List En} (hs : Small ws.length E) (hl : lineW ws = true) (h16 : wd (putE ws E) 16 ≤ ws.length) (h17 : wd (putE ws E) 17 ≤ ws.length) (h18 : wd (putE ws E) 18 ≤ ws.length) : lineW (putE ws E) = true := by
  obtain ⟨-, a3, a4, a5, a6, a7⟩ := (lineW_iff ws).1 hl
  rw [lineW_iff, putE_len]
  exact ⟨⟨h16, h17, h18⟩, by rw [small_at hs (by omega) (by omega)]; exact a3, by rw [small_at hs (by omega) (by omega)]; exact a4, by rw [small_at hs (by omega) (by omega)]; exact a5, by rw [small_at hs (by omega) (by omega)]; exact a6, by rw [small_at hs (by omega) (by omega)]; exact a7⟩
/-- Whether a phase line goes on. -/
def onW (ws xs : List Nat) : Prop := wd ws 16 ≤ wd xs 16 ∧ (wd xs 16 = wd ws 16 → wd ws 17 ≤ wd xs 17 ∧ wd ws 18 ≤ wd xs 18)
theorem wd_head {ws : List Nat} {j v : Nat} {l : List En} (hj : j < ws.length) (hl : ∀ e ∈ l, e.a ≠ (j : Int)) : wd (putE ws (⟨(j : Int), v⟩ :: l)) j = v := by
  rw [putE_in j v l hj, putE_wd _ _ _ hl]
  unfold wd
  rw [List.getElem?_set_self hj]; rfl
theorem wd_cons {ws : List Nat} {j i v : Nat} {l : List En} (hj : j < ws.length) (_hne : i ≠ j) : wd (putE ws (⟨(j : Int), v⟩ :: l)) i = wd (putE (ws.set j v) l) i := by rw [putE_in j v l hj]
theorem wd_set_off {ws : List Nat} {i j v : Nat} (h : i ≠ j) : wd (ws.set j v) i = wd ws i := by unfold wd; rw [List.getElem?_set_ne (by omega)]
/-- PhMark and PhForward. -/
theorem bat_props {ws : List Nat} {p : Nat} {l : List En} (hck : ckErr ws = 0) (hp : wd ws 16 = p) (hp2 : p = 1 ∨ p = 2) (h1 : l.Pairwise (fun a b => a.a < b.a)) (h2 : ∀ e ∈ l, 128 ≤ e.a ∧ e.a < (ws.length : Int)) (h3 : ∀ e ∈ l, e.v < 18446744073709551616) :
    Small ws.length (batE l (p + 1)) ∧ prErr (putE ws (batE l (p + 1))) = 0 ∧ onW ws (putE ws (batE l (p + 1))) ∧ wd (putE ws (batE l (p + 1))) 16 = (if 32 ≤ l.length then p else p + 1) ∧ wd (putE ws (batE l (p + 1))) 17 = 0 ∧ wd (putE ws (batE l (p + 1))) 18 = 0 := by
  obtain ⟨-, hs, hl, hph⟩ := ck_parts hck
  have hb := (sizeOk_iff _).1 hs
  have hsm := small_bat (n := ws.length) (p := p + 1) (by omega) (by omega) h1 h2 h3
  have h0 : wd ws 17 = 0 ∧ wd ws 18 = 0 := by
    rcases (phOk_iff _ _ _).1 hph with h | h | h <;> omega
  have hw : wd (putE ws (batE l (p + 1))) 16 = (if 32 ≤ l.length then p else p + 1) ∧ wd (putE ws (batE l (p + 1))) 17 = 0 ∧ wd (putE ws (batE l (p + 1))) 18 = 0 := by
    by_cases h : 32 ≤ l.length
    · rw [batE_great h, if_pos h]
      have hlow : ∀ e ∈ l.take 31, 19 ≤ e.a := fun e he => by have := h2 e (List.mem_of_mem_take he); omega
      rw [put_low hlow (by omega), put_low hlow (by omega), put_low hlow (by omega)]
      exact ⟨hp, h0⟩
    · rw [batE_few h, if_neg h, show (16 : Int) = ((16 : Nat) : Int) from rfl]
      have hlow : ∀ e ∈ l, 19 ≤ e.a := fun e he => by have := h2 e he; omega
      rw [wd_head (by omega) (fun e he => by have := hlow e he; omega), wd_cons (by omega) (by omega), wd_cons (by omega) (by omega), put_low hlow (by omega), put_low hlow (by omega), wd_set_off (by omega), wd_set_off (by omega)]
      exact ⟨rfl, h0⟩
  obtain ⟨w1, w2, w3⟩ := hw
  have hle : (if 32 ≤ l.length then p else p + 1) ≤ 3 ∧ p ≤ (if 32 ≤ l.length then p else p + 1) := by split <;> omega
  refine ⟨hsm, pr_ok (by rw [putE_len]; exact hs) (line_put2 hsm hl (by rw [w1]; omega) (by rw [w2]; omega) (by rw [w3]; omega)) ?_, ⟨by rw [w1, hp]; omega, fun _ => by rw [w2, w3, h0.1, h0.2]; exact ⟨Nat.le_refl _, Nat.le_refl _⟩⟩, w1, w2, w3⟩
  rw [w1, w2, w3, phOk_iff]
  rcases hp2 with rfl | rfl
  · right; right; split <;> omega
  · by_cases h : 32 ≤ l.length
    · rw [if_pos h]; right; right; omega
    · rw [if_neg h]; right; left; exact ⟨rfl, rfl, .inl rfl⟩
/-- A change of the first cursor alone. -/
theorem cur_props {ws : List Nat} {f : Nat} {l : List En} (hck : ckErr ws = 0) (hp : wd ws 16 = 3) (hf : inHp f = true) (hfn : f ≤ ws.length) (hfw : wd ws 17 ≤ f) (h0 : l.length ≤ 31) (h1 : l.Pairwise (fun a b => a.a < b.a)) (h2 : ∀ e ∈ l, 112 ≤ e.a ∧ e.a < (ws.length : Int)) (h3 : ∀ e ∈ l, e.v < 18446744073709551616) :
    Small ws.length (⟨17, f⟩ :: l) ∧ prErr (putE ws (⟨17, f⟩ :: l)) = 0 ∧ onW ws (putE ws (⟨17, f⟩ :: l)) ∧ wd (putE ws (⟨17, f⟩ :: l)) 16 = 3 ∧ wd (putE ws (⟨17, f⟩ :: l)) 17 = f ∧ wd (putE ws (⟨17, f⟩ :: l)) 18 = 0 := by
  obtain ⟨-, hs, hl, hph⟩ := ck_parts hck
  have hb := (sizeOk_iff _).1 hs
  have hi := (inHp_iff f).1 hf
  have hlow : ∀ e ∈ l, 19 ≤ e.a := fun e he => by have := h2 e he; omega
  have h00 : wd ws 18 = 0 := by
    rcases (phOk_iff _ _ _).1 hph with h | h | h <;> omega
  have hsm : Small ws.length (⟨17, f⟩ :: l) := by
    refine ⟨by simp, by rw [List.length_cons]; omega, List.Pairwise.cons (fun e he => ?_) h1, fun e he => ?_, fun e he => ?_⟩
    · have := hlow e he; dsimp only; omega
    · rcases List.mem_cons.1 he with rfl | he
      · dsimp only; omega
      · have := h2 e he; omega
    · rcases List.mem_cons.1 he with rfl | he
      · dsimp only; omega
      · exact h3 e he
  have hw : wd (putE ws (⟨17, f⟩ :: l)) 16 = 3 ∧ wd (putE ws (⟨17, f⟩ :: l)) 17 = f ∧ wd (putE ws (⟨17, f⟩ :: l)) 18 = 0 := by
    rw [show (17 : Int) = ((17 : Nat) : Int) from rfl]
    rw [wd_cons (by omega) (by omega), wd_head (by omega) (fun e he => by have := hlow e he; omega), wd_cons (by omega) (by omega), put_low hlow (by omega), put_low hlow (by omega), wd_set_off (by omega), wd_set_off (by omega)]
    exact ⟨hp, rfl, h00⟩
  obtain ⟨w1, w2, w3⟩ := hw
  refine ⟨hsm, pr_ok (by rw [putE_len]; exact hs) (line_put2 hsm hl (by rw [w1]; omega) (by rw [w2]; omega) (by rw [w3]; omega)) ?_, ⟨by rw [w1, hp]; exact Nat.le_refl _, fun _ => by rw [w2, w3, h00]; exact ⟨hfw, Nat.le_refl _⟩⟩, w1, w2, w3⟩
  rw [w1, w2, w3, phOk_iff]
  right; left; exact ⟨rfl, rfl, .inr hf⟩
theorem slides_props {ws : List Nat} (hck : ckErr ws = 0) (hp : wd ws 16 = 3) : Small ws.length slidesE ∧ prErr (putE ws slidesE) = 0 ∧ onW ws (putE ws slidesE) ∧ wd (putE ws slidesE) 16 = 4 ∧ wd (putE ws slidesE) 17 = 128 ∧ wd (putE ws slidesE) 18 = 128 := by
  obtain ⟨-, hs, hl, hph⟩ := ck_parts hck
  have hb := (sizeOk_iff _).1 hs
  have hsm : Small ws.length slidesE := by
    refine ⟨by decide, by decide, by unfold slidesE; simp, fun e he => ?_, fun e he => ?_⟩
    · unfold slidesE at he
      simp only [List.mem_cons, List.not_mem_nil, or_false] at he
      rcases he with rfl | rfl | rfl <;> (dsimp only; omega)
    · unfold slidesE at he
      simp only [List.mem_cons, List.not_mem_nil, or_false] at he
      rcases he with rfl | rfl | rfl <;> (dsimp only; omega)
  have hw : wd (putE ws slidesE) 16 = 4 ∧ wd (putE ws slidesE) 17 = 128 ∧ wd (putE ws slidesE) 18 = 128 := by
    unfold slidesE
    rw [show (16 : Int) = ((16 : Nat) : Int) from rfl, show (17 : Int) = ((17 : Nat) : Int) from rfl, show (18 : Int) = ((18 : Nat) : Int) from rfl]
    rw [putE_in 16 _ _ (by omega), putE_in 17 _ _ (by rw [List.length_set]; omega), putE_in 18 _ _ (by rw [List.length_set, List.length_set]; omega)]
    simp only [putE]
    refine ⟨?_, ?_, ?_⟩
    · rw [wd_set_off (by omega), wd_set_off (by omega)]; unfold wd; rw [List.getElem?_set_self (by omega)]; rfl
    · rw [wd_set_off (by omega)]; unfold wd; rw [List.getElem?_set_self (by rw [List.length_set]; omega)]; rfl
    · unfold wd; rw [List.getElem?_set_self (by rw [List.length_set, List.length_set]; omega)]; rfl
  obtain ⟨w1, w2, w3⟩ := hw
  refine ⟨hsm, pr_ok (by rw [putE_len]; exact hs) (line_put2 hsm hl (by rw [w1]; omega) (by rw [w2]; omega) (by rw [w3]; omega)) (by rw [w1, w2, w3]; decide), ⟨by rw [w1, hp]; omega, fun h => by rw [w1, hp] at h; exact absurd h (by decide)⟩, w1, w2, w3⟩
/-- PhSlide. -/
theorem sld_props {ws : List Nat} {f t : Nat} {l : List En} (hck : ckErr ws = 0) (hp : wd ws 16 = 4) (hf : inHp f = true) (ht : inHp t = true) (htf : t ≤ f) (hfn : f ≤ ws.length) (hfw : wd ws 17 ≤ f) (htw : wd ws 18 ≤ t) (h0 : l.length ≤ 30) (h1 : l.Pairwise (fun a b => a.a < b.a)) (h2 : ∀ e ∈ l, 112 ≤ e.a ∧ e.a < (ws.length : Int)) (h3 : ∀ e ∈ l, e.v < 18446744073709551616) :
    Small ws.length (⟨17, f⟩ :: ⟨18, t⟩ :: l) ∧ prErr (putE ws (⟨17, f⟩ :: ⟨18, t⟩ :: l)) = 0 ∧ onW ws (putE ws (⟨17, f⟩ :: ⟨18, t⟩ :: l)) ∧ wd (putE ws (⟨17, f⟩ :: ⟨18, t⟩ :: l)) 16 = 4 ∧ wd (putE ws (⟨17, f⟩ :: ⟨18, t⟩ :: l)) 17 = f ∧ wd (putE ws (⟨17, f⟩ :: ⟨18, t⟩ :: l)) 18 = t := by
  obtain ⟨-, hs, hl, hph⟩ := ck_parts hck
  have hb := (sizeOk_iff _).1 hs
  have hi := (inHp_iff f).1 hf
  have hj := (inHp_iff t).1 ht
  have hlow : ∀ e ∈ l, 19 ≤ e.a := fun e he => by have := h2 e he; omega
  have hsm : Small ws.length (⟨17, f⟩ :: ⟨18, t⟩ :: l) := by
    refine ⟨by simp, by rw [List.length_cons, List.length_cons]; omega, List.Pairwise.cons (fun e he => ?_) (List.Pairwise.cons (fun e he => ?_) h1), fun e he => ?_, fun e he => ?_⟩
    · rcases List.mem_cons.1 he with rfl | he
      · dsimp only; omega
      · have := hlow e he; dsimp only; omega
    · have := hlow e he; dsimp only; omega
    · rcases List.mem_cons.1 he with rfl | he
      · dsimp only; omega
      · rcases List.mem_cons.1 he with rfl | he
        · dsimp only; omega
        · have := h2 e he; omega
    · rcases List.mem_cons.1 he with rfl | he
      · dsimp only; omega
      · rcases List.mem_cons.1 he with rfl | he
        · dsimp only; omega
        · exact h3 e he
  have hw : wd (putE ws (⟨17, f⟩ :: ⟨18, t⟩ :: l)) 16 = 4 ∧ wd (putE ws (⟨17, f⟩ :: ⟨18, t⟩ :: l)) 17 = f ∧ wd (putE ws (⟨17, f⟩ :: ⟨18, t⟩ :: l)) 18 = t := by
    rw [show (17 : Int) = ((17 : Nat) : Int) from rfl, show (18 : Int) = ((18 : Nat) : Int) from rfl]
    rw [putE_in 17 _ _ (by omega), putE_in 18 _ _ (by rw [List.length_set]; omega), put_low hlow (by omega), put_low hlow (by omega), put_low hlow (by omega)]
    refine ⟨?_, ?_, ?_⟩
    · rw [wd_set_off (by omega), wd_set_off (by omega)]; exact hp
    · rw [wd_set_off (by omega)]; unfold wd; rw [List.getElem?_set_self (by omega)]; rfl
    · unfold wd; rw [List.getElem?_set_self (by rw [List.length_set]; omega)]; rfl
  obtain ⟨w1, w2, w3⟩ := hw
  refine ⟨hsm, pr_ok (by rw [putE_len]; exact hs) (line_put2 hsm hl (by rw [w1]; omega) (by rw [w2]; omega) (by rw [w3]; omega)) ?_, ⟨by rw [w1, hp]; exact Nat.le_refl _, fun _ => by rw [w2, w3]; exact ⟨hfw, htw⟩⟩, w1, w2, w3⟩
  rw [w1, w2, w3, phOk_iff]
  left; exact ⟨rfl, hf, ht, htf⟩
end Go.Proofs.YtoaepffpjoibaaaGreat

namespace Go.Proofs.YtoaepffpjoibaaaGreat
open Go.RowKit

theorem filter_lt {α : Type} {p q : α → Bool} : ∀ {l : List α}, (∀ b ∈ l, q b = true → p b = true) → (l.filter q).length ≤ (l.filter p).length ∧ ((∃ b ∈ l, p b = true ∧ q b = false) → (l.filter q).length < (l.filter p).length) := by
  intro l
  induction l with
  | nil => intro _; exact ⟨Nat.le_refl _, fun ⟨b, hb, _⟩ => by simp at hb⟩
  | cons b l ih =>
    intro h
    obtain ⟨i1, i2⟩ := ih (fun c hc => h c (by simp [hc]))
    have hb := h b (by simp)
    rw [List.filter_cons, List.filter_cons]
    refine ⟨?_, fun ⟨c, hc, h1, h2⟩ => ?_⟩
    · cases hq : q b with
      | true => rw [hb hq]; simp; omega
      | false => cases hp : p b <;> simp <;> omega
    · rcases List.mem_cons.1 hc with rfl | hc
      · rw [h1, h2]; simp; omega
      · have := i2 ⟨c, hc, h1, h2⟩
        cases hq : q b with
        | true => rw [hb hq]; simp; omega
        | false => cases hp : p b <;> simp <;> omega
/-- Some of the entries for marks, in their places. -/
theorem puts_rm_sub {ws : List Nat} (h : rcErr ws = 0) {E : List En} (hs : E.Sublist (wtOut ws)) : Rm ws (putE ws E) := by
  have hi : E.Pairwise (fun a b => a.a < b.a) := (wtOut_inc h).sublist hs
  refine ⟨putE_len _ _, fun i => ?_⟩
  by_cases hx : ∃ e ∈ E, e.a = (i : Int)
  · obtain ⟨e, he, hei⟩ := hx
    obtain ⟨a, -, a1, a2, a3, g1, g2, rfl, -⟩ := wtOut_mem h (hs.subset he)
    have hai : a = i := by dsimp only at hei; omega
    subst hai
    refine .inr ⟨a1, a2, g1, g2, seenAt ws (bkAt ws a), ?_⟩
    have := putE_hit E ws hi _ he (by dsimp only; omega) (by dsimp only; omega)
    dsimp only at this
    rw [Int.toNat_natCast] at this
    exact this
  · exact .inl (putE_wd _ _ _ (fun e he h2 => hx ⟨e, he, h2⟩))
theorem mark_dec {ws : List Nat} (h : rcErr ws = 0) (h32 : 32 ≤ (wtOut ws).length) : rcErr (putE ws ((wtOut ws).take 31)) = 0 ∧ (wtOut (putE ws ((wtOut ws).take 31))).length < (wtOut ws).length := by
  have hsub : ((wtOut ws).take 31).Sublist (wtOut ws) := List.take_sublist _ _
  have hinc : ((wtOut ws).take 31).Pairwise (fun a b => a.a < b.a) := (wtOut_inc h).sublist hsub
  obtain ⟨g1, g2, g3, g4, g5⟩ := (puts_rm_sub h hsub).same h
  refine ⟨g1, ?_⟩
  rw [wtOut_eq g1, g3, g5, List.length_map, wtOut_eq h, List.length_map]
  rw [← wtOut_eq h]
  obtain ⟨x, hx⟩ : ∃ x, putE ws ((wtOut ws).take 31) = x := ⟨_, rfl⟩
  rw [hx]
  unfold wntL
  rw [List.filter_map, List.length_map]
  have hrow := hp_row (rcErr_zero h).1
  have hmk : ∀ b ∈ hpOut ws, (∀ e ∈ (wtOut ws).take 31, e.a ≠ b.at_) → (mkB x b).mark = b.mark := by
    intro b hb hno
    obtain ⟨a, rfl, a1, a2, a3, a4⟩ := hrow.1 b hb
    show mkAt x (bkAt ws a).at_.toNat = _
    rw [bkAt_at, Int.toNat_natCast]
    unfold mkAt
    rw [← hx, putE_wd _ _ _ (fun e he => by have := hno e he; rwa [bkAt_at] at this)]
    rfl
  refine (filter_lt (fun b hb hq => ?_)).2 ?_
  · dsimp only [Function.comp_apply] at hq ⊢
    cases hk : keepB (seenL ws) b with
    | false => rfl
    | true =>
      exfalso
      have hm := hmk b hb (fun e he h2 => by
        obtain ⟨a, hm, b1, b2, b3, g1', g2', rfl, hk'⟩ := wtOut_mem h (hsub.subset he)
        dsimp only at h2
        have : bkAt ws a = b := by
          have hp := hrow.2
          rw [List.pairwise_iff_getElem] at hp
          obtain ⟨i, hi, e1⟩ := List.getElem_of_mem hm
          obtain ⟨j, hj, e2⟩ := List.getElem_of_mem hb
          have h3 : (hpOut ws)[i].at_ = (hpOut ws)[j].at_ := by rw [e1, e2, bkAt_at]; exact h2
          rcases Nat.lt_trichotomy i j with h4 | h4 | h4
          · have := hp i j hi hj h4; omega
          · subst h4; rw [← e1, ← e2]
          · have := hp j i hj hi h4; omega
        rw [this, hk] at hk'; cases hk')
      unfold keepB at hk hq
      rw [hm] at hq
      change (!(b.mark == ((seenL ws)[b.at_.toNat]?.getD false))) = true at hq
      rw [hk] at hq
      exact absurd hq (by decide)
  · have hpos : 0 < ((wtOut ws).take 31).length := by rw [List.length_take]; omega
    have he := List.getElem_mem hpos
    obtain ⟨a, hm, b1, b2, b3, g1', g2', e1, hk'⟩ := wtOut_mem h (hsub.subset he)
    refine ⟨bkAt ws a, hm, by rw [hk']; rfl, ?_⟩
    dsimp only [Function.comp_apply]
    have hit := putE_hit _ ws hinc _ he (by rw [e1]; dsimp only; omega) (by rw [e1]; dsimp only; omega)
    rw [e1] at hit
    dsimp only at hit
    rw [Int.toNat_natCast, hx] at hit
    unfold keepB
    show (!((mkB x (bkAt ws a)).mark == ((seenL ws)[(bkAt ws a).at_.toNat]?.getD false))) = false
    have hm2 : (mkB x (bkAt ws a)).mark = seenAt ws (bkAt ws a) := by
      show mkAt x (bkAt ws a).at_.toNat = _
      rw [bkAt_at, Int.toNat_natCast]
      unfold mkAt
      rw [hit, (mk_word g1' g2' _).2.1]
    rw [hm2]
    unfold seenAt
    simp

/-! Words of which other even ones, and those below the heap, are as they were -/
structure Ev (ws xs : List Nat) : Prop where
  len : xs.length = ws.length
  at_ : ∀ i, (i % 2 = 0 ∧ 96 ≤ i ∨ 96 ≤ i ∧ i < 128) → wd xs i = wd ws i
/-- A block with the second word that the other words have. -/
def nxB (xs : List Nat) (b : Bk) : Bk := { b with next := wd xs (b.at_.toNat + 1) }
section
variable {ws xs : List Nat}
theorem Ev.stands (h : Ev ws xs) {i : Nat} (hi : i % 2 = 0) (h96 : 96 ≤ i) : stands xs i = stands ws i := by
  unfold Proofs.YtoaepffpjoibaaaGreat.stands
  rw [h.at_ i (.inl ⟨hi, h96⟩), h.len]
theorem Ev.bkAt (h : Ev ws xs) {i : Nat} (hi : i % 2 = 0) (h96 : 96 ≤ i) : bkAt xs i = nxB xs (bkAt ws i) := by
  unfold nxB
  have h1 : (Proofs.YtoaepffpjoibaaaGreat.bkAt ws i).at_.toNat = i := by rw [bkAt_at, Int.toNat_natCast]
  rw [h1]
  unfold Proofs.YtoaepffpjoibaaaGreat.bkAt
  rw [h.at_ i (.inl ⟨hi, h96⟩)]
theorem Ev.blocks (h : Ev ws xs) : ∀ i l, blocks ws i = some l → i % 2 = 0 → 96 ≤ i → blocks xs i = some (l.map (nxB xs)) := by
  refine blocks_ind (fun i l => i % 2 = 0 → 96 ≤ i → Proofs.YtoaepffpjoibaaaGreat.blocks xs i = some (l.map (nxB xs))) (fun i hi _ _ => ?_) (fun i l hi hs hb ih h2 h3 => ?_)
  · exact blocks_end (by rw [h.len]; exact hi)
  · have hsz := stands_sz hs
    have ih := ih (by omega) (by omega)
    have hz : szAt xs i = szAt ws i := by unfold szAt; rw [h.at_ i (.inl ⟨h2, h3⟩)]
    rw [blocks_step (by rw [h.len]; exact hi) (by rw [h.stands h2 h3]; exact hs), hz, ih, h.bkAt h2 h3]
    rfl
theorem fitB_nx (h : Ev ws xs) {b : Bk} (hb : b.kind = 1 → tyA b + 1 < 128) : fitB xs (nxB xs b) = fitB ws b := by
  by_cases hk : b.kind = 1
  · have h2 := hb hk
    have h3 : 96 ≤ tyA b := by unfold tyA; omega
    unfold fitB typedB
    show (b.kind != 1 || (typOk (wd xs (tyA b)) (wd xs (tyA b + 1)) && b.size == ((objSz (wd xs (tyA b) % 256) : Nat) : Int))) = _
    rw [h.at_ _ (.inr ⟨h3, by omega⟩), h.at_ _ (.inr ⟨by omega, h2⟩)]
  · rw [fit_other hk, fit_other (b := nxB xs b) hk]
theorem Ev.heap (h : Ev ws xs) (h0 : hpErr ws = 0) : hpErr xs = 0 ∧ hpOut xs = (hpOut ws).map (nxB xs) := by
  obtain ⟨h1, l, h2, h3, h4⟩ := hpErr_zero h0
  have hb := h.blocks 128 l h2 (by omega) (by omega)
  rw [h4]
  refine hpErr_ok (by rw [h.len]; exact h1) hb ?_
  rw [List.all_map, List.all_eq_true]
  rw [List.all_eq_true] at h3
  intro b hb2
  show fitB xs (nxB xs b) = true
  rw [fitB_nx h (blocks_ty h2 (by omega) b hb2)]
  exact h3 b hb2
end
theorem wantE_memD : ∀ {l : List Bk} {s : Int} {e : En}, e ∈ wantE l s → ∃ b ∈ l, b.kind = 1 ∧ e.a = b.at_ + 1 := by
  intro l
  induction l with
  | nil => intro s e h; simp [wantE] at h
  | cons x l ih =>
    intro s e h
    simp only [wantE, List.mem_append] at h
    rcases h with h | h
    · split at h
      · rename_i hx
        rw [List.mem_singleton] at h
        subst h
        exact ⟨x, by simp, hx.1, rfl⟩
      · simp at h
    · obtain ⟨b, h1, h2⟩ := ih h
      exact ⟨b, by simp [h1], h2⟩
theorem wantE_nx {xs : List Nat} : ∀ {l : List Bk} {s : Int}, l.Pairwise (fun a b => a.at_ < b.at_) → (∀ b ∈ l, 0 ≤ b.at_) → (∀ b ∈ l, b.kind = 1 → wd xs (b.at_.toNat + 1) = b.next ∨ ∃ e ∈ wantE l s, e.a = b.at_ + 1 ∧ wd xs (b.at_.toNat + 1) = e.v) →
    (wantE (l.map (nxB xs)) s).length ≤ (wantE l s).length ∧ ((∃ e ∈ wantE l s, wd xs e.a.toNat = e.v) → (wantE (l.map (nxB xs)) s).length < (wantE l s).length) := by
  intro l
  induction l with
  | nil => intro s _ _ _; exact ⟨Nat.le_refl _, fun ⟨e, he, _⟩ => by simp [wantE] at he⟩
  | cons b l ih =>
    intro s hp h0 hq
    rw [List.pairwise_cons] at hp
    have htail : ∀ c ∈ l, c.kind = 1 → wd xs (c.at_.toNat + 1) = c.next ∨ ∃ e ∈ wantE l (nextS b s), e.a = c.at_ + 1 ∧ wd xs (c.at_.toNat + 1) = e.v := by
      intro c hc hk
      rcases hq c (by simp [hc]) hk with h1 | ⟨e, he, h2, h3⟩
      · exact .inl h1
      · simp only [wantE, List.mem_append] at he
        rcases he with he | he
        · split at he
          · rw [List.mem_singleton] at he
            subst he
            dsimp only at h2
            have := hp.1 c hc
            omega
          · simp at he
        · exact .inr ⟨e, he, h2, h3⟩
    obtain ⟨i1, i2⟩ := ih (s := nextS b s) hp.2 (fun c hc => h0 c (by simp [hc])) htail
    have hb0 := h0 b (by simp)
    rw [List.map_cons]
    simp only [wantE]
    have e1 : nextS (nxB xs b) s = nextS b s := rfl
    have e2 : wantN (nxB xs b) s = wantN b s := rfl
    rw [e1, e2, List.length_append, List.length_append]
    have hnx : (nxB xs b).next = wd xs (b.at_.toNat + 1) := rfl
    have hkk : (nxB xs b).kind = b.kind := rfl
    have hat : (nxB xs b).at_ = b.at_ := rfl
    -- the head's own part
    have hhead : b.kind = 1 → wd xs (b.at_.toNat + 1) = b.next ∨ wd xs (b.at_.toNat + 1) = wantN b s := by
      intro hk
      rcases hq b (by simp) hk with h1 | ⟨e, he, h2, h3⟩
      · exact .inl h1
      · simp only [wantE, List.mem_append] at he
        rcases he with he | he
        · split at he
          · rw [List.mem_singleton] at he
            subst he
            exact .inr h3
          · simp at he
        · obtain ⟨c, hc, -, h4⟩ := wantE_memD he
          have := hp.1 c hc
          omega
    have hle : (if (nxB xs b).kind = 1 ∧ (nxB xs b).next ≠ wantN b s then [(⟨(nxB xs b).at_ + 1, wantN b s⟩ : En)] else []).length ≤ (if b.kind = 1 ∧ b.next ≠ wantN b s then [(⟨b.at_ + 1, wantN b s⟩ : En)] else []).length := by
      rw [hnx, hkk, hat]
      by_cases hk : b.kind = 1
      · rcases hhead hk with h1 | h1
        · rw [h1]; exact Nat.le_refl _
        · rw [if_neg (fun h => h.2 h1)]; exact Nat.zero_le _
      · rw [if_neg (fun h => hk h.1)]; exact Nat.zero_le _
    refine ⟨by omega, fun ⟨e, he, hev⟩ => ?_⟩
    rcases List.mem_append.1 he with he | he
    · split at he
      · rename_i hc
        rw [List.mem_singleton] at he
        subst he
        dsimp only at hev
        have hn : (b.at_ + 1).toNat = b.at_.toNat + 1 := by omega
        rw [hn] at hev
        rw [hnx, hkk, hat, if_neg (fun h => h.2 hev), if_pos hc]
        simp only [List.length_nil, List.length_cons]
        omega
      · simp at he
    · have := i2 ⟨e, he, hev⟩
      omega
end Go.Proofs.YtoaepffpjoibaaaGreat

namespace Go.Proofs.YtoaepffpjoibaaaGreat
open Go.RowKit

/-- How much a phase leaves. -/
noncomputable def stM (ws : List Nat) : Nat := if wd ws 16 = 1 then (wtOut ws).length + 1 else if wd ws 16 = 2 then (wnOut ws).length + 1 else ws.length + 1 - wd ws 17
theorem fixE_cases {ws : List Nat} : ∀ k a, ws.length - a ≤ k → a ≤ ws.length → (fixE ws a).1 = 0 → fixE ws a = (0, slidesE) ∨ ∃ m : Nat, 128 ≤ m ∧ a ≤ m ∧ m % 2 = 0 ∧ 2 ≤ szAt ws m ∧ szAt ws m % 2 = 0 ∧ m + szAt ws m ≤ ws.length ∧ obErr ws (m : Int) = 0 ∧ fixE ws a = (0, ⟨17, m + szAt ws m⟩ :: obOut ws (m : Int)) := by
  intro k
  induction k with
  | zero =>
    intro a hk ha h
    by_cases h0 : nxtErr ws (a : Int) = 0
    · obtain ⟨hs, a1, a2, m, e, m1, m2, m3, m4, m5, -⟩ := nxt_at h0
      omega
    · exact .inl (fixE_no h0)
  | succ k ih =>
    intro a hk ha h
    by_cases h0 : nxtErr ws (a : Int) = 0
    · obtain ⟨hs, a1, a2, m, e, m1, m2, m3, m4, m5, -⟩ := nxt_at h0
      by_cases hr : rsOut ws (m : Int) = []
      · have e2 := fixE_skip h0 e hr
        rw [e2] at h ⊢
        rcases ih (m + szAt ws m) (by omega) (by omega) h with h1 | ⟨q, q1, q2, q3, q4, q5, q6, q7, q8⟩
        · exact .inl h1
        · exact .inr ⟨q, q1, by omega, q3, q4, q5, q6, q7, q8⟩
      · by_cases ho : obErr ws (m : Int) = 0
        · exact .inr ⟨m, by omega, m1, m2, m3, m4, m5, ho, fixE_ok h0 e hr ho⟩
        · rw [fixE_bad h0 e hr ho] at h
          exact absurd h ho
    · exact .inl (fixE_no h0)
theorem wn_eq {x : List Nat} (h : hpErr x = 0) : wnOut x = wantE (hpOut x) 128 := by unfold wnOut; rw [if_pos h]
theorem fw_ent {ws : List Nat} (h : hpErr ws = 0) : (wnOut ws).Pairwise (fun a b => a.a < b.a) ∧ (∀ e ∈ wnOut ws, 128 ≤ e.a ∧ e.a < (ws.length : Int)) ∧ (∀ e ∈ wnOut ws, e.v < 18446744073709551616) := by
  have hw : wnOut ws = wantE (hpOut ws) 128 := by unfold wnOut; rw [if_pos h]
  obtain ⟨_, l, g2, -, g4⟩ := hpErr_zero h
  refine ⟨?_, fun e he => ?_, (wnOut_bd h).2⟩
  · rw [hw, g4]; exact wantE_inc _ _ g2 128
  · rw [hw, g4] at he
    have := wantE_at _ _ g2 128 e he
    omega
theorem fwd_dec {ws : List Nat} (h : hpErr ws = 0) (h32 : 32 ≤ (wnOut ws).length) : hpErr (putE ws ((wnOut ws).take 31)) = 0 ∧ (wnOut (putE ws ((wnOut ws).take 31))).length < (wnOut ws).length := by
  obtain ⟨i1, i2, i3⟩ := fw_ent h
  have hw : wnOut ws = wantE (hpOut ws) 128 := by unfold wnOut; rw [if_pos h]
  have hrow := hp_row h
  have hsub : ((wnOut ws).take 31).Sublist (wnOut ws) := List.take_sublist _ _
  have hinc : ((wnOut ws).take 31).Pairwise (fun a b => a.a < b.a) := i1.sublist hsub
  have hodd : ∀ e ∈ wnOut ws, ∃ a : Nat, e.a = ((a + 1 : Nat) : Int) ∧ a % 2 = 0 ∧ 128 ≤ a := by
    intro e he
    rw [hw] at he
    obtain ⟨b, hb, -, e2⟩ := wantE_memD he
    obtain ⟨a, rfl, a1, a2, -⟩ := hrow.1 b hb
    exact ⟨a, by rw [e2, bkAt_at]; rfl, a2, a1⟩
  have hev : Ev ws (putE ws ((wnOut ws).take 31)) := by
    refine ⟨putE_len _ _, fun i hi => putE_wd _ _ _ fun e he h2 => ?_⟩
    obtain ⟨a, e1, a1, a2⟩ := hodd e (hsub.subset he)
    omega
  obtain ⟨g1, g2⟩ := hev.heap h
  refine ⟨g1, ?_⟩
  have hw2 : wnOut (putE ws ((wnOut ws).take 31)) = wantE ((hpOut ws).map (nxB (putE ws ((wnOut ws).take 31)))) 128 := by rw [wn_eq g1, g2]
  rw [hw2]
  have key := wantE_nx (xs := putE ws ((wnOut ws).take 31)) (l := hpOut ws) (s := 128) hrow.2 (fun b hb => by obtain ⟨a, rfl, -⟩ := hrow.1 b hb; rw [bkAt_at]; omega) (fun b hb hk => by
    obtain ⟨a, rfl, a1, a2, a3, a4⟩ := hrow.1 b hb
    have hsz := stands_sz a4
    rw [bkAt_at, Int.toNat_natCast]
    by_cases hx : ∃ e ∈ (wnOut ws).take 31, e.a = ((a + 1 : Nat) : Int)
    · obtain ⟨e, he, e1⟩ := hx
      refine .inr ⟨e, by rw [← hw]; exact hsub.subset he, by rw [e1]; omega, ?_⟩
      have := putE_hit _ ws hinc e he (by omega) (by omega)
      rw [e1, Int.toNat_natCast] at this
      exact this
    · exact .inl (by rw [putE_wd _ _ _ (fun e he h2 => hx ⟨e, he, h2⟩)]; rfl))
  rw [← hw] at key
  refine key.2 ?_
  have hpos : 0 < ((wnOut ws).take 31).length := by rw [List.length_take]; omega
  have he := List.getElem_mem hpos
  have hin := i2 _ (hsub.subset he)
  exact ⟨_, hsub.subset he, putE_hit _ ws hinc _ he (by omega) (by omega)⟩
/-- Every change is small, goes on, and leaves less. -/
theorem sg_ok {ws : List Nat} (ho : ∀ x ∈ ws, x < 18446744073709551616) (h : (sgOne ws).1 = 0) : ckErr ws = 0 ∧ Small ws.length (sgOne ws).2 ∧ prErr (putE ws (sgOne ws).2) = 0 ∧ onW ws (putE ws (sgOne ws).2) ∧ (wd (putE ws (sgOne ws).2) 16 = wd ws 16 → stM (putE ws (sgOne ws).2) < stM ws) ∧ (1 ≤ wd ws 16 ∧ wd ws 16 ≤ 4) ∧ wd (putE ws (sgOne ws).2) 16 ≤ wd ws 16 + 1 ∧ (wd ws 16 = 4 → wd (putE ws (sgOne ws).2) 16 = 4) := by
  have hck : ckErr ws = 0 := by
    by_cases h0 : ckErr ws = 0
    · exact h0
    · unfold sgOne at h; rw [if_neg h0] at h; exact absurd h h0
  obtain ⟨-, hs, hl, hph⟩ := ck_parts hck
  have hb := (sizeOk_iff _).1 hs
  obtain ⟨⟨l1, l2, l3⟩, -⟩ := (lineW_iff ws).1 hl
  by_cases p1 : wd ws 16 = 1
  · have hrc : rcErr ws = 0 := by
      by_cases h0 : rcErr ws = 0
      · exact h0
      · unfold sgOne at h; rw [if_pos hck, if_pos p1, if_neg h0] at h; exact absurd h h0
    have e : sgOne ws = (0, batE (wtOut ws) 2) := by unfold sgOne; rw [if_pos hck, if_pos p1, if_pos hrc]
    rw [e]
    dsimp only
    obtain ⟨r1, r2⟩ := wt_rows hrc
    obtain ⟨g1, g2, g3, g4, g5, g6⟩ := bat_props hck p1 (.inl rfl) (wtOut_inc hrc) (fun x hx => by
      obtain ⟨i, hi⟩ := List.mem_iff_getElem?.1 hx
      exact r1 i x hi) (wtOut_v hrc)
    simp only [Nat.reduceAdd] at g1 g2 g3 g4 g5 g6
    refine ⟨hck, g1, g2, g3, fun h5 => ?_, by omega, by rw [g4]; split <;> omega, fun h5 => by omega⟩
    have h32 : 32 ≤ (wtOut ws).length := by
      rw [g4] at h5
      split at h5
      · assumption
      · omega
    have hd := (mark_dec hrc h32).2
    rw [p1] at h5
    unfold stM
    rw [if_pos h5, if_pos p1, batE_great h32]
    omega
  · by_cases p2 : wd ws 16 = 2
    · have hhp : hpErr ws = 0 := by
        by_cases h0 : hpErr ws = 0
        · exact h0
        · unfold sgOne at h; rw [if_pos hck, if_neg p1, if_pos p2, if_neg h0] at h; exact absurd h h0
      have e : sgOne ws = (0, batE (wnOut ws) 3) := by unfold sgOne; rw [if_pos hck, if_neg p1, if_pos p2, if_pos hhp]
      rw [e]
      dsimp only
      obtain ⟨r1, r2, r3⟩ := fw_ent hhp
      obtain ⟨g1, g2, g3, g4, g5, g6⟩ := bat_props hck p2 (.inr rfl) r1 r2 r3
      simp only [Nat.reduceAdd] at g1 g2 g3 g4 g5 g6
      refine ⟨hck, g1, g2, g3, fun h5 => ?_, by omega, by rw [g4]; split <;> omega, fun h5 => by omega⟩
      have h32 : 32 ≤ (wnOut ws).length := by
        rw [g4] at h5
        split at h5
        · assumption
        · omega
      have hd := (fwd_dec hhp h32).2
      rw [p2] at h5
      unfold stM
      rw [if_neg (by omega), if_pos h5, if_neg p1, if_pos p2, batE_great h32]
      omega
    · by_cases p3 : wd ws 16 = 3
      · have e : sgOne ws = sgFix ws := by unfold sgOne; rw [if_pos hck, if_neg p1, if_neg p2, if_pos p3]
        rw [e] at h ⊢
        have fin : ∀ (f : Nat) (l : List En), sgFix ws = (0, ⟨17, f⟩ :: l) → inHp f = true → f ≤ ws.length → wd ws 17 < f → l.length ≤ 31 → l.Pairwise (fun a b => a.a < b.a) → (∀ e ∈ l, 112 ≤ e.a ∧ e.a < (ws.length : Int)) → (∀ e ∈ l, e.v < 18446744073709551616) →
            ckErr ws = 0 ∧ Small ws.length (sgFix ws).2 ∧ prErr (putE ws (sgFix ws).2) = 0 ∧ onW ws (putE ws (sgFix ws).2) ∧ (wd (putE ws (sgFix ws).2) 16 = wd ws 16 → stM (putE ws (sgFix ws).2) < stM ws) ∧ (1 ≤ wd ws 16 ∧ wd ws 16 ≤ 4) ∧ wd (putE ws (sgFix ws).2) 16 ≤ wd ws 16 + 1 ∧ (wd ws 16 = 4 → wd (putE ws (sgFix ws).2) 16 = 4) := by
          intro f l e2 f1 f2 f3 f4 f5 f6 f7
          rw [e2]
          dsimp only
          obtain ⟨g1, g2, g3, g4, g5, g6⟩ := cur_props hck p3 f1 f2 (by omega) f4 f5 f6 f7
          refine ⟨hck, g1, g2, g3, fun h5 => ?_, by omega, by rw [g4]; omega, fun h5 => by omega⟩
          unfold stM
          rw [g4, if_neg (by decide), if_neg (by decide), if_neg p1, if_neg p2, putE_len, g5]
          omega
        by_cases z : wd ws 17 = 0
        · have hfs : fsErr ws = 0 := by
            by_cases h0 : fsErr ws = 0
            · exact h0
            · unfold sgFix at h; rw [if_pos z, if_neg h0] at h; exact absurd h h0
          have e2 : sgFix ws = (0, ⟨17, 128⟩ :: fsOut ws) := by unfold sgFix; rw [if_pos z, if_pos hfs]
          obtain ⟨-, -, -, -, -, -, -, q1, q2, q3, -⟩ := fs_plain hfs
          exact fin 128 (fsOut ws) e2 (by decide) (by omega) (by omega) (by omega) q2 (fun e he => by have := (q1 e he).1; omega) (fun e he => (q1 e he).2)
        · have e2 : sgFix ws = fixE ws (wd ws 17) := by unfold sgFix; rw [if_neg z]
          have h' : (fixE ws (wd ws 17)).1 = 0 := by rw [← e2]; exact h
          rcases fixE_cases ws.length (wd ws 17) (by omega) l2 h' with h1 | ⟨m, m1, m2, m3, m4, m5, m6, m7, m8⟩
          · rw [e2, h1]
            dsimp only
            obtain ⟨g1, g2, g3, g4, g5, g6⟩ := slides_props hck p3
            exact ⟨hck, g1, g2, g3, fun h5 => by rw [g4] at h5; omega, by omega, by rw [g4]; omega, fun h5 => by omega⟩
          · obtain ⟨f, -, -, -, -, q5, -, -, -, q9⟩ := ob_plain m7
            have q6 := ob_ge m7
            exact fin (m + szAt ws m) (obOut ws (m : Int)) (by rw [e2, m8]) ((inHp_iff _).2 (by omega)) m6 (by omega) (by omega) q9 (fun e he => by have := q6 e he; omega) (fun e he => by have := q6 e he; omega)
      · by_cases p4 : wd ws 16 = 4
        · have e : sgOne ws = sgSld ws := by unfold sgOne; rw [if_pos hck, if_neg p1, if_neg p2, if_neg p3, if_pos p4]
          rw [e] at h ⊢
          have hnx : nxtErr ws ((wd ws 17 : Nat) : Int) = 0 := by
            by_cases h0 : nxtErr ws ((wd ws 17 : Nat) : Int) = 0
            · exact h0
            · unfold sgSld at h; rw [if_neg h0] at h; exact absurd h (by decide)
          obtain ⟨-, a1, a2, m, em, m1, m2, m3, m4, m5, m6, m7, m8, -⟩ := nxt_at hnx
          have hmv : mvErr ws (m : Int) ((wd ws 18 : Nat) : Int) = 0 := by
            by_cases h0 : mvErr ws (m : Int) ((wd ws 18 : Nat) : Int) = 0
            · exact h0
            · unfold sgSld at h; rw [if_pos hnx, em, bkAt_at, if_neg h0] at h; exact absurd h h0
          have e2 : sgSld ws = (0, ⟨17, m + szAt ws m⟩ :: ⟨18, wd ws 18 + szAt ws m⟩ :: mvEn ws m (wd ws 18)) := by
            unfold sgSld
            rw [if_pos hnx, em, bkAt_at, if_pos hmv, bkAt_size, show ((m : Int) + ((szAt ws m : Nat) : Int)).toNat = m + szAt ws m by omega, show (((wd ws 18 : Nat) : Int) + ((szAt ws m : Nat) : Int)).toNat = wd ws 18 + szAt ws m by omega]
            unfold mvOut
            rw [if_pos hmv, Int.toNat_natCast, Int.toNat_natCast]
          obtain ⟨a, u, n, ea, eu, en, n2, n10, hu, hua, han, hst, hlv, -, -, hun⟩ := slide_plain hmv
          have ea : a = m := by omega
          have eu : u = wd ws 18 := by omega
          subst ea eu
          subst en
          have hfp := (phOk_iff _ _ _).1 hph
          have hin : inHp (wd ws 17) = true ∧ inHp (wd ws 18) = true ∧ wd ws 18 ≤ wd ws 17 := by
            rcases hfp with h1 | h1 | h1
            · exact h1.2
            · omega
            · omega
          have i1 := (inHp_iff _).1 hin.1
          have i2 := (inHp_iff _).1 hin.2.1
          rw [e2]
          dsimp only
          obtain ⟨g1, g2, g3, g4, g5, g6⟩ := sld_props (f := a + szAt ws a) (t := wd ws 18 + szAt ws a) (l := mvEn ws a (wd ws 18)) hck p4 ((inHp_iff _).2 (by omega)) ((inHp_iff _).2 (by omega)) (by omega) (by omega) (by omega) (by omega) (by rw [mvEn_len]; omega) (by
              rw [List.pairwise_iff_getElem]
              intro i j hi hj hij
              rw [mvEn_at, mvEn_at]; omega) (fun e he => by
              obtain ⟨k, hk, rfl⟩ := List.getElem_of_mem he
              rw [mvEn_at]
              rw [mvEn_len] at hk
              omega) (mvEn_lt ho hun)
          refine ⟨hck, g1, g2, g3, fun h5 => ?_, by omega, by rw [g4]; omega, fun h5 => g4⟩
          unfold stM
          rw [g4, if_neg (by decide), if_neg (by decide), if_neg p1, if_neg p2, putE_len, g5]
          omega
        · have e : sgOne ws = (6, []) := by unfold sgOne; rw [if_pos hck, if_neg p1, if_neg p2, if_neg p3, if_neg p4]
          rw [e] at h
          exact absurd h (by decide)

/-! All changes of a phase -/
noncomputable def allG (p : Nat) : Nat → List Nat → Int × List (List En) × List Nat
  | 0, x => (0, [], x)
  | f + 1, x => if wd x 16 = p then (if (sgOne x).1 = 6 then (0, [], x) else if (sgOne x).1 = 0 then
      (if (allG p f (putE x (sgOne x).2)).1 = 0 then (0, (sgOne x).2 :: (allG p f (putE x (sgOne x).2)).2.1, (allG p f (putE x (sgOne x).2)).2.2) else ((allG p f (putE x (sgOne x).2)).1, [], []))
      else ((sgOne x).1, [], [])) else (0, [], x)
noncomputable def mzS (p : Nat) (x : List Nat) : Nat := if wd x 16 = p then stM x + 1 else 0
theorem putS_lt {ws : List Nat} (ho : ∀ x ∈ ws, x < 18446744073709551616) (h : (sgOne ws).1 = 0) : ∀ x ∈ putE ws (sgOne ws).2, x < 18446744073709551616 := putE_lt _ _ ho (sg_ok ho h).2.1.val
theorem mzS_dec {p : Nat} {x : List Nat} (ho : ∀ v ∈ x, v < 18446744073709551616) (hp : wd x 16 = p) (h : (sgOne x).1 = 0) : mzS p (putE x (sgOne x).2) < mzS p x := by
  unfold mzS
  rw [if_pos hp]
  split
  · rename_i h1
    have := (sg_ok ho h).2.2.2.2.1 (by rw [h1, hp])
    omega
  · omega
theorem allG_more {p : Nat} : ∀ {f g : Nat} {x : List Nat}, (∀ v ∈ x, v < 18446744073709551616) → mzS p x ≤ f → mzS p x ≤ g → allG p f x = allG p g x := by
  have key : ∀ n, ∀ f g x, (∀ v ∈ x, v < 18446744073709551616) → mzS p x ≤ n → mzS p x ≤ f → mzS p x ≤ g → allG p f x = allG p g x := by
    intro n
    induction n with
    | zero =>
      intro f g x ho h0 hf hg
      have hp : ¬ wd x 16 = p := fun hp => by unfold mzS at h0; rw [if_pos hp] at h0; omega
      cases f with
      | zero =>
        cases g with
        | zero => rfl
        | succ g => simp only [allG]; rw [if_neg hp]
      | succ f =>
        cases g with
        | zero => simp only [allG]; rw [if_neg hp]
        | succ g => simp only [allG]; rw [if_neg hp, if_neg hp]
    | succ n ih =>
      intro f g x ho h0 hf hg
      by_cases hp : wd x 16 = p
      · have h1 : 0 < mzS p x := by unfold mzS; rw [if_pos hp]; omega
        obtain ⟨f, rfl⟩ : ∃ f', f = f' + 1 := ⟨f - 1, by omega⟩
        obtain ⟨g, rfl⟩ : ∃ g', g = g' + 1 := ⟨g - 1, by omega⟩
        simp only [allG]
        by_cases h2 : (sgOne x).1 = 0
        · have hd := mzS_dec ho hp h2
          rw [ih f g (putE x (sgOne x).2) (putS_lt ho h2) (by omega) (by omega) (by omega)]
        · simp only [h2, if_false]
      · cases f with
        | zero =>
          cases g with
          | zero => rfl
          | succ g => simp only [allG]; rw [if_neg hp]
        | succ f =>
          cases g with
          | zero => simp only [allG]; rw [if_neg hp]
          | succ g => simp only [allG]; rw [if_neg hp, if_neg hp]
  intro f g x ho hf hg
  exact key _ f g x ho (Nat.le_refl _) hf hg
noncomputable def allE (p : Nat) (x : List Nat) : Int × List (List En) × List Nat := allG p (mzS p x) x
theorem allE_other {p : Nat} {x : List Nat} (h : wd x 16 ≠ p) : allE p x = (0, [], x) := by
  unfold allE mzS
  rw [if_neg h]; rfl
theorem allE_none {p : Nat} {x : List Nat} (hp : wd x 16 = p) (h : (sgOne x).1 = 6) : allE p x = (0, [], x) := by
  unfold allE mzS
  rw [if_pos hp]
  simp only [allG]
  rw [if_pos hp, if_pos h]
theorem allE_err {p : Nat} {x : List Nat} (hp : wd x 16 = p) (h : (sgOne x).1 ≠ 6) (h2 : (sgOne x).1 ≠ 0) : allE p x = ((sgOne x).1, [], []) := by
  unfold allE mzS
  rw [if_pos hp]
  simp only [allG]
  rw [if_pos hp, if_neg h, if_neg h2]
theorem allE_step {p : Nat} {x : List Nat} (ho : ∀ v ∈ x, v < 18446744073709551616) (hp : wd x 16 = p) (h : (sgOne x).1 = 0) : allE p x = (if (allE p (putE x (sgOne x).2)).1 = 0 then (0, (sgOne x).2 :: (allE p (putE x (sgOne x).2)).2.1, (allE p (putE x (sgOne x).2)).2.2) else ((allE p (putE x (sgOne x).2)).1, [], [])) := by
  have hd := mzS_dec ho hp h
  have hm : mzS p x = stM x + 1 := by unfold mzS; rw [if_pos hp]
  have e : allG p (stM x) (putE x (sgOne x).2) = allE p (putE x (sgOne x).2) := allG_more (putS_lt ho h) (by omega) (Nat.le_refl _)
  conv => lhs; unfold allE
  rw [hm]
  simp only [allG]
  rw [if_pos hp, if_neg (by rw [h]; decide), if_pos h, e]
/-- All changes of a view. -/
noncomputable def sgAll (ws : List Nat) : Int × List (List En) × List Nat := if ckErr ws = 0 then allE (wd ws 16) ws else (ckErr ws, [], [])
end Go.Proofs.YtoaepffpjoibaaaGreat
