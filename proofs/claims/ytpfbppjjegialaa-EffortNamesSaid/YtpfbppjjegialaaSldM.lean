/- The change that moves a marked object: what the program returns. -/
import Derived.Test.YtpfbppjjegialaaKMove
namespace Go.Proofs.Ytpfbppjjegialaa
open Go.RowKit

/-- The entries of a move, the first i of them laid. -/
def mvPre (ws : List Nat) (a u n i : Nat) : List En := (List.range n).map fun j => if j < i then ⟨((u + j : Nat) : Int), wd ws (a + j)⟩ else ⟨0, 0⟩
/-- The entries of a move. -/
def mvEn (ws : List Nat) (a u : Nat) : List En := (List.range (szAt ws a)).map fun j => ⟨((u + j : Nat) : Int), if j = 0 then headW { rawBk (wd ws a) with mark := false } else if j = 1 then 0 else wd ws (a + j)⟩
def mvOut (ws : List Nat) (f t : Int) : List En := if mvErr ws f t = 0 then mvEn ws f.toNat t.toNat else []
def MvRes (ws : List Nat) (f t : Int) (e : Ending) (w' : World) : Prop := ∃ A c, e = .returned (.tuple #[.slice A (mvOut ws f t).length c, .int .i64 (mvErr ws f t)]) ∧ RdE w' w'.heap.size A (mvOut ws f t) ∧ (mvOut ws f t).length ≤ c
theorem mvOut_no {ws : List Nat} {f t r : Int} (hr : mvErr ws f t = r) (h0 : r ≠ 0) : mvOut ws f t = [] := by subst hr; simp [mvOut, h0]
theorem mvRes_no {ws : List Nat} {f t r : Int} {w' : World} (hr : mvErr ws f t = r) (h0 : r ≠ 0) : MvRes ws f t (.returned (.tuple #[.slice none 0 0, .int .i64 r])) w' := by
  subst hr
  have : mvOut ws f t = [] := by simp [mvOut, h0]
  exact ⟨none, 0, by rw [this]; rfl, by rw [this]; exact Rd.nil_, by rw [this]; simp⟩
theorem mvPre_len (ws : List Nat) (a u n i : Nat) : (mvPre ws a u n i).length = n := by simp [mvPre]
theorem mvPre_get (ws : List Nat) (a u n i j : Nat) (hj : j < n) : (mvPre ws a u n i)[j]? = some (if j < i then ⟨((u + j : Nat) : Int), wd ws (a + j)⟩ else ⟨0, 0⟩) := by simp [mvPre, hj]
theorem mvPre_step (ws : List Nat) (a u n i : Nat) (hi : i < n) : mvPre ws a u n (i + 1) = (mvPre ws a u n i).set i ⟨((u + i : Nat) : Int), wd ws (a + i)⟩ := by
  apply List.ext_getElem?
  intro j
  rw [List.getElem?_set]
  by_cases hj : j < n
  · rw [mvPre_get _ _ _ _ _ _ hj, mvPre_get _ _ _ _ _ _ hj]
    by_cases e : i = j
    · subst e; rw [if_pos (show i < i + 1 by omega), if_pos rfl, if_pos (show i < (mvPre ws a u n i).length by rw [mvPre_len]; exact hi)]
    · rw [if_neg e]
      by_cases h : j < i
      · rw [if_pos h, if_pos (by omega)]
      · rw [if_neg h, if_neg (by omega)]
  · rw [List.getElem?_eq_none (by rw [mvPre_len]; omega), if_neg (by omega), List.getElem?_eq_none (by rw [mvPre_len]; omega)]
/-- A cell of a row of entries that is another one. -/
theorem en_set (l : List En) (k : Nat) (x : En) : (l.set k x).flatMap En.cells = ((l.flatMap En.cells).set (k * 2) (.int .i64 x.a)).set (k * 2 + 1) (.int .u64 (x.v : Int)) := by
  have h1 := flat_set En.cells 2 En.len l k 0 (by omega) ⟨x.a, (l[k]?.getD default).v⟩ (.int .i64 x.a) (fun y hy => by rw [hy]; rfl)
  have h2 := flat_set En.cells 2 En.len (l.set k ⟨x.a, (l[k]?.getD default).v⟩) k 1 (by omega) x (.int .u64 (x.v : Int)) (fun y hy => by
    rw [List.getElem?_set] at hy
    simp only [if_true] at hy
    split at hy
    · cases hy; rfl
    · cases hy)
  rw [List.set_set] at h2
  rw [h2, h1]; rfl
theorem en_setv (l : List En) (k : Nat) (x : En) (v : Nat) (hk : l[k]? = some x) : (l.set k ⟨x.a, v⟩).flatMap En.cells = (l.flatMap En.cells).set (k * 2 + 1) (.int .u64 (v : Int)) :=
  flat_set En.cells 2 En.len l k 1 (by omega) ⟨x.a, v⟩ (.int .u64 (v : Int)) (fun y hy => by rw [hk] at hy; cases hy; rfl)
theorem mvEn_of {ws : List Nat} {a u n : Nat} (hn : szAt ws a = n) (h2 : 2 ≤ n) : mvEn ws a u = ((mvPre ws a u n n).set 0 ⟨(u : Int), headW { rawBk (wd ws a) with mark := false }⟩).set 1 ⟨((u + 1 : Nat) : Int), 0⟩ := by
  apply List.ext_getElem?
  intro j
  rw [List.getElem?_set, List.getElem?_set]
  unfold mvEn
  rw [hn]
  by_cases hj : j < n
  · rw [mvPre_get _ _ _ _ _ _ hj, if_pos hj]
    simp only [List.getElem?_map, List.getElem?_range hj, Option.map_some, List.length_set, mvPre_len]
    by_cases h0 : j = 0
    · subst h0; simp [hj]
    · by_cases h1 : j = 1
      · subst h1; simp [hj]
      · rw [if_neg h0, if_neg h1, if_neg (fun h => h1 h.symm), if_neg (fun h => h0 h.symm)]
  · rw [if_neg (by omega), if_neg (by omega), List.getElem?_eq_none (by simp; omega), List.getElem?_eq_none (by rw [mvPre_len]; omega)]
theorem zero_en (n : Nat) : (madeCells #[Value.int .i64 0, .int .u64 0] (n * 2)).toList = (List.replicate n (⟨0, 0⟩ : En)).flatMap En.cells := by
  apply List.ext_getElem?
  intro j
  by_cases hj : j < n * 2
  · have hk : j / 2 < (List.replicate n (⟨0, 0⟩ : En)).length := by rw [List.length_replicate]; omega
    have h1 := flat_get En.cells 2 En.len (List.replicate n ⟨0, 0⟩) (j / 2) (j % 2) hk (by omega)
    rw [show j / 2 * 2 + j % 2 = j by omega, List.getElem_replicate] at h1
    rw [h1]
    have h2 : (madeCells #[Value.int .i64 0, .int .u64 0] (n * 2)).toList[j]? = some (#[Value.int .i64 0, .int .u64 0][j % 2]!) := by simp [madeCells, hj]
    rw [h2]
    rcases (show j % 2 = 0 ∨ j % 2 = 1 by omega) with h | h <;> rw [h] <;> rfl
  · rw [List.getElem?_eq_none (by rw [Array.length_toList, size_madeCells]; omega), List.getElem?_eq_none (by rw [flat_len En.cells 2 En.len, List.length_replicate]; omega)]
theorem mvPre_zero (ws : List Nat) (a u n : Nat) : mvPre ws a u n 0 = List.replicate n ⟨0, 0⟩ := by
  apply List.ext_getElem?
  intro j
  by_cases hj : j < n
  · rw [mvPre_get _ _ _ _ _ _ hj]; simp [hj]
  · rw [List.getElem?_eq_none (by rw [mvPre_len]; omega), List.getElem?_eq_none (by simp; omega)]
theorem mvErr_six {ws : List Nat} {f t : Int} (h : rdErr ws f t = 0) {l : List Bk} (hl : blocks ws f.toNat = some l) (h2 : l = [] ∨ (gk l 0).mark = false) : mvErr ws f t = 6 := by
  unfold mvErr
  rw [if_pos h, hl]
  cases l with
  | nil => rfl
  | cons b l =>
    rcases h2 with h2 | h2
    · cases h2
    · rw [gk_zero] at h2; simp [h2]
theorem mvErr_live {ws : List Nat} {f t : Int} (h : rdErr ws f t = 0) {l : List Bk} (hl : blocks ws f.toNat = some l) (h0 : 0 < l.length) (h2 : (gk l 0).mark = true) : mvErr ws f t = 0 := by
  unfold mvErr
  rw [if_pos h, hl]
  cases l with
  | nil => simp at h0
  | cons b l => rw [gk_zero] at h2; simp [h2]

set_option maxRecDepth 100000 in
set_option maxHeartbeats 8000000 in
theorem sMoveF_c (A : Option Addr) (ws : List Nat) (c n : Nat) (f t : Int) (w : World) (hn : ws.length = n) (hm : n ≤ 9223372036854775807) (hf : -9223372036854775808 ≤ f ∧ f ≤ 9223372036854775807) (ht : -9223372036854775808 ≤ t ∧ t ≤ 9223372036854775807) (hr : RdW w w.heap.size A ws) (ho : ∀ x ∈ ws, x < 18446744073709551616) :
    Calls Try.prog 46 #[.slice A n c, .int .i64 f, .int .i64 t] w fun e w' => EnRes w.heap.size (mvErr ws f t) (mvOut ws f t) e w' ∧ Below w.heap.size w w' := by
  subst hn
  have HR := Lib.hid hr
  have HO := Lib.hid ho
  have HC := Lib.hid (fwRead_c A ws c ws.length f t w rfl hm hf ht hr ho)
  unfold RdRes at HC
  have HFR := Lib.hid (fun W (h : RdW W W.heap.size A ws) => from_c A ws c ws.length f W rfl hm h ho)
  unfold FrRes at HFR
  clear hr ho
  by_cases h0 : rdErr ws f t = 0
  · obtain ⟨g1, g2, l, g3, g4, g5⟩ := rdErr_zero h0
    rw [isImg_size] at g1
    obtain ⟨f1, f2⟩ := frErr_some g1 (frArg_rd g2) g3
    rw [h0] at HC
    rw [f1, f2] at HFR
    obtain ⟨q, hq⟩ : ∃ q, (rdMv ws f t).length = q := ⟨_, rfl⟩
    rw [hq] at HC
    by_cases hl0 : l.length = 0
    · have HE := Lib.hid (mvErr_six h0 g3 (.inl (List.eq_nil_of_length_eq_zero hl0)))
      rw [hl0] at HFR
      clear g1 g2 g3 g4 g5 f1 f2 h0 hq hl0
      go_enter Try.func46, Try.ntmps46
      go_wp2_with fail
      refine HC.out.mono ?_
      rintro e w1 ⟨⟨A1, c1, rfl, -, -⟩, hB1⟩
      go_wp2_with fail
      refine (HFR.out _ (HR.out.up hB1 hB1.size)).mono ?_
      rintro e w2 ⟨⟨A2, c2, rfl, -, -⟩, hB2⟩
      go_wp2_with fail
      go_ret2
      exact ⟨enRes_no HE.out (mvOut_no HE.out (by omega)), hB1.trans (hB2.mono hB1.size)⟩
    · have hl1 : 0 < l.length := by omega
      have hne : ((l.length : Int) == 0) = false := by rw [beq_eq_false_iff_ne]; omega
      have hnen : (l.length == 0) = false := by rw [beq_eq_false_iff_ne]; exact hl0
      have hl1i : (0 : Int) < (l.length : Int) := by omega
      cases hmk : (gk l 0).mark
      · have HE := Lib.hid (mvErr_six h0 g3 (.inr hmk))
        rw [gk_get l 0 hl1] at hmk
        clear g1 g2 g3 g4 g5 f1 f2 h0 hq hl0
        go_enter Try.func46, Try.ntmps46
        go_wp2_with fail
        refine HC.out.mono ?_
        rintro e w1 ⟨⟨A1, c1, rfl, -, -⟩, hB1⟩
        go_wp2_with fail
        refine (HFR.out _ (HR.out.up hB1 hB1.size)).mono ?_
        rintro e w2 ⟨⟨A2, c2, rfl, hr2, -⟩, hB2⟩
        obtain ⟨b, off, rfl, hb, q0, q1, q2, q3, q4, q5⟩ := RdB.at_ hr2 hl1
        rw [hmk] at q4
        simp only [Nat.zero_mul, Nat.add_zero] at q4
        clear q0 q1 q2 q3 q5 hr2 hmk
        go_wp2_with fail
        go_ret2
        exact ⟨enRes_no HE.out (mvOut_no HE.out (by omega)), hB1.trans (hB2.mono hB1.size)⟩
      · have h00 := mvErr_live h0 g3 hl1 hmk
        obtain ⟨a, u, n, rfl, rfl, hnn, n2, n10, hu, hua, han, hst, hlv, -, -, hun⟩ := slide_plain h00
        rw [Int.toNat_natCast] at g3
        have hfst := (blocks_first g3 (by omega)).2.1
        have hbk : l[0] = bkAt ws a := by rw [← gk_get l 0 hl1, hfst]
        have hsz : l[0].size = ((n : Nat) : Int) := by rw [hbk, bkAt_size, hnn]
        rw [gk_get l 0 hl1] at hmk
        have hsp : splitOk (wd ws a) = true := by unfold stands at hst; simp only [Bool.and_eq_true] at hst; exact hst.1
        have hmv : mkVal (wd ws a) false = headW { rawBk (wd ws a) with mark := false } ∧ mkErr (wd ws a) false = 0 := by
          unfold mkVal mkErr
          rw [if_pos hsp, if_pos hsp]
          have h1 : hdOk (remark (wd ws a) false) = true := hun
          exact ⟨by unfold hwVal; rw [if_pos h1]; rfl, hdErr_ok h1⟩
        have HMC := Lib.hid (fun W => hdMarked_c (wd ws a) false W (wd_lt HO.out a))
        rw [hmv.1, hmv.2] at HMC
        have HEN := Lib.hid (mvEn_of (u := u) hnn.symm n2)
        have HOUT : Hid (mvErr ws (a : Int) (u : Int) = 0 ∧ mvOut ws (a : Int) (u : Int) = mvEn ws a u) := Lib.hid ⟨h00, by simp [mvOut, h00]⟩
        obtain ⟨hw, hhw⟩ : ∃ hw, headW { rawBk (wd ws a) with mark := false } = hw := ⟨_, rfl⟩
        rw [hhw] at HMC HEN
        obtain ⟨b0, off0, hA0, hb0, p0⟩ := RdW.at_ HR.out (show a < ws.length by omega)
        subst hA0
        rw [← wd_get] at p0
        have hbd := fr_bd ws g1
        have hlen : ws.length ≤ 2048 := hbd.2.1
        have ha0 : (0 : Int) ≤ (a : Int) := by omega
        have ha1 : (a : Int) < (ws.length : Int) := by omega
        have hn0 : (0 : Int) ≤ (n : Int) := by omega
        obtain ⟨x, hx⟩ : ∃ x, wd ws a = x := ⟨_, rfl⟩
        rw [hx] at p0 HMC
        clear g1 g2 g3 g4 g5 f1 f2 h0 h00 hq hl0 hfst hbk hsp hmv hun hhw hst hlv hx hbd hf ht hnn
        obtain ⟨i0, hi, hz0, hz1, hz2⟩ := info_parts infoEntry
        have HIE := Lib.hid (And.intro hi (And.intro hz0 (And.intro hz1 hz2)))
        clear hi hz0 hz1 hz2
        go_enter Try.func46, Try.ntmps46
        go_wp2_with fail
        refine HC.out.mono ?_
        rintro e w1 ⟨⟨A1, c1, rfl, -, -⟩, hB1⟩
        go_wp2_with fail
        refine (HFR.out _ (HR.out.up hB1 hB1.size)).mono ?_
        rintro e w2 ⟨⟨A2, c2, rfl, hr2, -⟩, hB2⟩
        have hb2 := hB1.trans (hB2.mono hB1.size)
        obtain ⟨b, off, rfl, hb, q0, q1, q2, q3, q4, q5⟩ := RdB.at_ hr2 hl1
        rw [hmk] at q4
        rw [hsz] at q1
        simp only [Nat.zero_mul, Nat.add_zero] at q4 q1
        have p2 := (hb2.cell (p := ⟨b0, off0 + a, none⟩) hb0).trans p0
        clear q0 q2 q3 q5 hr2 hmk hsz
        go_wp2_with fail
        refine (HMC.out _).mono ?_
        rintro e w3 ⟨rfl, hB3⟩
        have hb3 := hb2.trans (hB3.mono hb2.size)
        have q1' := (hB3.cell (p := ⟨b, off + 1, none⟩) hb).trans q1
        obtain ⟨W0, hmk, hown0, hg0⟩ := run_make_full (P := Try.prog) w3 w.heap.size 24 50 i0 (.agg #[.int .i64 0, .int .u64 0]) 2 Try.underlying24 HIE.out.1 HIE.out.2.1 HIE.out.2.2.1 .i64 .i64 n (by rw [HIE.out.2.2.2]; omega) (by unfold maxLen; omega) hb3.size
        have hown1 : W0.ownsRow w.heap.size 50 2 (.slice (some ⟨w3.heap.size, 0, none⟩) n n) n ((mvPre ws a u n 0).flatMap En.cells) := by
          rw [mvPre_zero, ← zero_en]; exact hown0
        have HOW := Lib.hid hown1
        have HBW := Lib.hid (hb3.grown hg0 hb3.size (fun k hk => by cases hk))
        clear hown0 hg0 hown1 hB3 hb2 hB2 hB1 q4 q1 p2
        go_wp2_with fail
        clear hmk q1'
        have HPS : Hid (∀ i, i < n → mvPre ws a u n (i + 1) = (mvPre ws a u n i).set i ⟨((u + i : Nat) : Int), wd ws (a + i)⟩) := Lib.hid fun i hi => mvPre_step ws a u n i hi
        have HPL : Hid (∀ i, ((mvPre ws a u n i).flatMap En.cells).length = n * 2) := Lib.hid fun i => by rw [flat_len En.cells 2 En.len, mvPre_len]
        go_loopw [57] (fun i wr => ∃ k : Nat, k ≤ n ∧ i = .int .i64 k ∧ wr.ownsRow w.heap.size 50 2 (.slice (some ⟨w3.heap.size, 0, none⟩) n n) n ((mvPre ws a u n k).flatMap En.cells) ∧ Below w.heap.size w wr) (fun i _ => n - (intOf i).toNat)
        case atStart => exact ⟨0, Nat.zero_le _, rfl, HOW.out, HBW.out⟩
        case round =>
          obtain ⟨k, hk, rfl, hown, hB⟩ := hrel
          have hgH := own_base hown
          by_cases hlt : k < n
          · obtain ⟨b0', off0', hA0, hb0', p0⟩ := RdW.at_ (Rd.below HR.out hB) (show a + k < ws.length by omega)
            cases hA0
            rw [← wd_get] at p0
            have HS := Lib.hid (HPS.out k hlt)
            obtain ⟨y, hy⟩ : ∃ y, wd ws (a + k) = y := ⟨_, rfl⟩
            rw [hy] at p0 HS
            obtain ⟨u0, hu0⟩ : ∃ u0, ((mvPre ws a u n k).flatMap En.cells)[k * 2]? = some u0 := ⟨_, List.getElem?_eq_getElem (by rw [HPL.out]; omega)⟩
            obtain ⟨u1, hu1⟩ : ∃ u1, ((mvPre ws a u n k).flatMap En.cells)[k * 2 + 1]? = some u1 := ⟨_, List.getElem?_eq_getElem (by rw [HPL.out]; omega)⟩
            have d0 := (hown.cellAt (k * 2) (by omega)).trans hu0
            have d1 := (hown.cellAt (k * 2 + 1) (by omega)).trans hu1
            have e0 := hown.frozenAt (k * 2)
            have e1 := hown.frozenAt (k * 2 + 1)
            have HOWN := Lib.hid hown
            have hk1 : (k : Int) < (n : Int) := by omega
            have hk0 : (0 : Int) ≤ (k : Int) := by omega
            have hak : (a : Int) + (k : Int) < (ws.length : Int) := by omega
            have hak0 : (0 : Int) ≤ (a : Int) + (k : Int) := by omega
            have hakt : ((a : Int) + (k : Int)).toNat = a + k := by omega
            have hwa : IntKind.i64.wrap ((a : Int) + (k : Int)) = (a : Int) + (k : Int) := IntWalk.i64_in _ (by omega)
            have hwu : IntKind.i64.wrap ((u : Int) + (k : Int)) = (u : Int) + (k : Int) := IntWalk.i64_in _ (by omega)
            clear hy hu0 hu1 hown
            go_wp2_with fail
            go_roundw
            case rel =>
              refine ⟨k + 1, by omega, by go_num, ?_, (hB.setCell (p := ⟨w3.heap.size, k * 2, none⟩) hgH _).setCell (p := ⟨w3.heap.size, k * 2 + 1, none⟩) hgH _⟩
              rw [HS.out, en_set]
              have h5 := (((HOWN.out.stored (k * 2) (.int .i64 ((u : Int) + (k : Int)))).1).stored (k * 2 + 1) (.int .u64 (y : Int))).1
              rw [show (((u + k : Nat)) : Int) = (u : Int) + (k : Int) by omega]
              exact h5
            case measure => simp [intOf]; omega
          · obtain rfl : k = n := by omega
            have g0 : (mvPre ws a u k k)[0]? = some ⟨((u + 0 : Nat) : Int), wd ws (a + 0)⟩ := by rw [mvPre_get _ _ _ _ _ _ (by omega), if_pos (by omega)]
            obtain ⟨u1, hu1⟩ : ∃ u1, ((mvPre ws a u k k).flatMap En.cells)[1]? = some u1 := ⟨_, List.getElem?_eq_getElem (by rw [HPL.out]; omega)⟩
            obtain ⟨u3, hu3⟩ : ∃ u3, ((mvPre ws a u k k).flatMap En.cells)[3]? = some u3 := ⟨_, List.getElem?_eq_getElem (by rw [HPL.out]; omega)⟩
            have d1 := (hown.cellAt 1 (by omega)).trans hu1
            have d3 := (hown.cellAt 3 (by omega)).trans hu3
            have e1 := hown.frozenAt 1
            have e3 := hown.frozenAt 3
            have hn1i : (1 : Int) < (k : Int) := by omega
            have hn0i : (0 : Int) < (k : Int) := by omega
            have hrow : (((mvPre ws a u k k).set 0 ⟨(u : Int), hw⟩).set 1 ⟨((u + 1 : Nat) : Int), 0⟩).flatMap En.cells = (((mvPre ws a u k k).flatMap En.cells).set 1 (.int .u64 (hw : Int))).set 3 (.int .u64 0) := by
              rw [en_setv ((mvPre ws a u k k).set 0 ⟨(u : Int), hw⟩) 1 ⟨((u + 1 : Nat) : Int), wd ws (a + 1)⟩ 0 (by rw [List.getElem?_set, if_neg (by omega), mvPre_get _ _ _ _ _ _ (by omega), if_pos (by omega)])]
              rw [show (⟨(u : Int), hw⟩ : En) = ⟨(⟨((u + 0 : Nat) : Int), wd ws (a + 0)⟩ : En).a, hw⟩ from rfl, en_setv _ 0 _ hw g0]
              rfl
            have HROW := Lib.hid hrow
            have HOWN := Lib.hid hown
            have hlen2 : (mvEn ws a u).length = k := by rw [HEN.out, List.length_set, List.length_set, mvPre_len]
            have HLEN := Lib.hid hlen2
            clear g0 hu1 hu3 hrow hown hlen2
            go_wp2_with fail
            go_ret2
            have h5 := (((HOWN.out.stored 1 (.int .u64 (hw : Int))).1).stored 3 (.int .u64 0)).1
            rw [← HROW.out, ← HEN.out] at h5
            refine ⟨⟨some ⟨w3.heap.size, 0, none⟩, k, by rw [HOUT.out.1, HOUT.out.2, HLEN.out]; rfl, ?_⟩, (hB.setCell (p := ⟨w3.heap.size, 1, none⟩) hgH _).setCell (p := ⟨w3.heap.size, 3, none⟩) hgH _⟩
            rw [HOUT.out.2, HLEN.out]
            exact h5
  · have HE := Lib.hid (show mvErr ws f t = rdErr ws f t by unfold mvErr; rw [if_neg h0])
    have hn1 : (rdErr ws f t != 0) = true := by rw [bne_iff_ne]; exact h0
    have H0 := Lib.hid h0
    obtain ⟨r, hr⟩ : ∃ r, rdErr ws f t = r := ⟨_, rfl⟩
    obtain ⟨q, hq⟩ : ∃ q, (rdMv ws f t).length = q := ⟨_, rfl⟩
    rw [hr, hq] at HC
    rw [hr] at hn1 HE H0
    clear h0 hr hq
    go_enter Try.func46, Try.ntmps46
    go_wp2_with fail
    refine HC.out.mono ?_
    rintro e w1 ⟨⟨A1, c1, rfl, -, -⟩, hB1⟩
    go_wp2_with fail
    go_ret2
    exact ⟨enRes_no HE.out (mvOut_no HE.out H0.out), hB1⟩
theorem sMove_c (A : Option Addr) (ws : List Nat) (c n : Nat) (f t : Int) (w : World) (hn : ws.length = n) (hm : n ≤ 9223372036854775807) (hf : -9223372036854775808 ≤ f ∧ f ≤ 9223372036854775807) (ht : -9223372036854775808 ≤ t ∧ t ≤ 9223372036854775807) (hr : RdW w w.heap.size A ws) (ho : ∀ x ∈ ws, x < 18446744073709551616) :
    Calls Try.prog 46 #[.slice A n c, .int .i64 f, .int .i64 t] w fun e w' => MvRes ws f t e w' ∧ Below w.heap.size w w' := (sMoveF_c A ws c n f t w hn hm hf ht hr ho).mono fun _ _ ⟨h1, h2⟩ => ⟨h1.old, h2⟩
end Go.Proofs.Ytpfbppjjegialaa
