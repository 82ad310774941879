/- A phase's check, and the phase line of an image: what the program returns. -/
import Derived.Test.YtpifagclhhaniaaPhP
import Derived.Test.YtpifagclhhaniaaMrk
import Derived.Test.YtpifagclhhaniaaAgg
import Derived.Deep.RegionHeld3
import Derived.Deep.DrawnRows
import Derived.Laws.BitsLemmas
namespace Go.Proofs.Ytpifagclhhaniaa
open Go.RowKit

theorem i64_and1 (n : Int) : bits .and .i64 n 1 = n % 2 := by
  have h1 : (BitVec.ofInt 64 1).toNat = 2 ^ 1 - 1 := by decide
  have key : (BitVec.ofInt 64 n &&& BitVec.ofInt 64 1).toNat = (n % ((2 ^ 64 : Nat) : Int)).toNat % 2 ^ 1 := by
    rw [BitVec.toNat_and, BitVec.toNat_ofInt, h1, Nat.and_two_pow_sub_one_eq_mod]
  show IntKind.i64.wrap ((BitVec.ofInt 64 n &&& BitVec.ofInt 64 1).toNat : Nat) = n % 2
  rw [key, IntKind.wrap_i64]
  omega
theorem pHeap_c (n : Nat) (w : World) (hn : n ≤ 4611686018427387904) : Calls Try.prog 97 #[.int .i64 (n : Int)] w fun e w' => e = .returned (.bool (inHp n)) ∧ w = w' := by
  have H : Hid (∀ b : Bool, (b = true ↔ 128 ≤ n ∧ n ≤ 2048 ∧ n % 2 = 0) → b = inHp n) := Lib.hid fun b h => by rw [Bool.eq_iff_iff, inHp_iff, h]
  have ha := i64_and1 (n : Int)
  go_enter Try.func97, Try.ntmps97
  go_wp2_with fail
  all_goals
    go_ret
    exact ⟨ret_bool' (H.out _ (by simp; omega)), rfl⟩
def phErr (p f t : Nat) : Int := if phOk p f t = true then 0 else 8

set_option maxRecDepth 100000 in
set_option maxHeartbeats 2000000 in
theorem pCheck_c (p f t : Nat) (w : World) (hp : p ≤ 4611686018427387904) (hf : f ≤ 4611686018427387904) (ht : t ≤ 4611686018427387904) :
    Calls Try.prog 74 #[phV p f t] w fun e w' => e = .returned (.int .i64 (phErr p f t)) ∧ Below w.heap.size w w' := by
  have HF := Lib.hid (fun W => pHeap_c f W hf)
  have HT := Lib.hid (fun W => pHeap_c t W ht)
  have HE : Hid (∀ r : Int, r = (if (if p = 4 then inHp f && (inHp t && decide (t ≤ f)) else if t ≠ 0 then false else if p = 3 then f == 0 || inHp f else decide (p < 3) && f == 0) = true then 0 else 8) → phErr p f t = r) := Lib.hid fun r h => by rw [h]; rfl
  have hB := (Below.refl w.heap.size w).alloc (Nat.le_refl _) (.cells #[.int .i64 (p : Int), .int .i64 (f : Int), .int .i64 (t : Int)] 61)
  have HB := Lib.hid hB
  unfold phV
  clear hB
  by_cases p4 : p = 4
  · subst p4
    cases hif : inHp f
    · rw [hif] at HF
      have HV := Lib.hid (HE.out 8 (by rw [if_pos rfl, hif]; rfl))
      clear HE HT hif
      (try simp only [Int.cast_ofNat_Int] at HB ⊢)
      go_enter Try.func74, Try.ntmps74
      go_wp2_with fail
      refine (HF.out _).mono ?_
      rintro e w1 ⟨rfl, rfl⟩
      go_wp2_with fail
      go_ret
      exact ⟨by rw [HV.out]; rfl, HB.out⟩
    · cases hit : inHp t
      · rw [hif] at HF
        rw [hit] at HT
        have HV := Lib.hid (HE.out 8 (by rw [if_pos rfl, hif, hit]; rfl))
        clear HE hif hit
        (try simp only [Int.cast_ofNat_Int] at HB ⊢)
        go_enter Try.func74, Try.ntmps74
        go_wp2_with fail
        refine (HF.out _).mono ?_
        rintro e w1 ⟨rfl, rfl⟩
        go_wp2_with fail
        refine (HT.out _).mono ?_
        rintro e w1 ⟨rfl, rfl⟩
        go_wp2_with fail
        go_ret
        exact ⟨by rw [HV.out]; rfl, HB.out⟩
      · rw [hif] at HF
        rw [hit] at HT
        by_cases htf : t ≤ f
        · have hd : decide ((t : Int) ≤ (f : Int)) = true := by rw [decide_eq_true_iff]; omega
          have hdn : decide (t ≤ f) = true := by rw [decide_eq_true_iff]; omega
          have HV := Lib.hid (HE.out 0 (by rw [if_pos rfl, hif, hit, hdn]; rfl))
          clear HE hif hit htf
          (try simp only [Int.cast_ofNat_Int] at HB ⊢)
          go_enter Try.func74, Try.ntmps74
          go_wp2_with fail
          refine (HF.out _).mono ?_
          rintro e w1 ⟨rfl, rfl⟩
          go_wp2_with fail
          refine (HT.out _).mono ?_
          rintro e w1 ⟨rfl, rfl⟩
          go_wp2_with fail
          go_ret
          exact ⟨by rw [HV.out]; rfl, HB.out⟩
        · have hd : decide ((t : Int) ≤ (f : Int)) = false := by rw [decide_eq_false_iff_not]; omega
          have hdn : decide (t ≤ f) = false := by rw [decide_eq_false_iff_not]; omega
          have HV := Lib.hid (HE.out 8 (by rw [if_pos rfl, hif, hit, hdn]; rfl))
          clear HE hif hit htf
          (try simp only [Int.cast_ofNat_Int] at HB ⊢)
          go_enter Try.func74, Try.ntmps74
          go_wp2_with fail
          refine (HF.out _).mono ?_
          rintro e w1 ⟨rfl, rfl⟩
          go_wp2_with fail
          refine (HT.out _).mono ?_
          rintro e w1 ⟨rfl, rfl⟩
          go_wp2_with fail
          go_ret
          exact ⟨by rw [HV.out]; rfl, HB.out⟩
  · have e4 : ((p : Int) == 4) = false := by rw [beq_eq_false_iff_ne]; omega
    have e4n : (p == 4) = false := by rw [beq_eq_false_iff_ne]; omega
    by_cases t0 : t = 0
    · subst t0
      by_cases p3 : p = 3
      · subst p3
        by_cases f0 : f = 0
        · subst f0
          have HV := Lib.hid (HE.out 0 (by simp))
          clear HE HF HT p4
          (try simp only [Int.cast_ofNat_Int] at HB ⊢)
          go_enter Try.func74, Try.ntmps74
          go_wp2_with fail
          go_ret
          exact ⟨by rw [HV.out]; rfl, HB.out⟩
        · have ef : ((f : Int) == 0) = false := by rw [beq_eq_false_iff_ne]; omega
          have efn : (f == 0) = false := by rw [beq_eq_false_iff_ne]; omega
          cases hif : inHp f
          · rw [hif] at HF
            have HV := Lib.hid (HE.out 8 (by simp [hif, f0]))
            clear HE HT hif p4 f0
            (try simp only [Int.cast_ofNat_Int] at HB ⊢)
            go_enter Try.func74, Try.ntmps74
            go_wp2_with fail
            refine (HF.out _).mono ?_
            rintro e w1 ⟨rfl, rfl⟩
            go_wp2_with fail
            go_ret
            exact ⟨by rw [HV.out]; rfl, HB.out⟩
          · rw [hif] at HF
            have HV := Lib.hid (HE.out 0 (by simp [hif]))
            clear HE HT hif p4 f0
            (try simp only [Int.cast_ofNat_Int] at HB ⊢)
            go_enter Try.func74, Try.ntmps74
            go_wp2_with fail
            refine (HF.out _).mono ?_
            rintro e w1 ⟨rfl, rfl⟩
            go_wp2_with fail
            go_ret
            exact ⟨by rw [HV.out]; rfl, HB.out⟩
      · have e3 : ((p : Int) == 3) = false := by rw [beq_eq_false_iff_ne]; omega
        have e3n : (p == 3) = false := by rw [beq_eq_false_iff_ne]; omega
        have p0 : (0 : Int) ≤ (p : Int) := by omega
        by_cases pl : p < 3
        · have hd : decide ((p : Int) < 3) = true := by rw [decide_eq_true_iff]; omega
          have hdn : decide (p < 3) = true := by rw [decide_eq_true_iff]; omega
          by_cases f0 : f = 0
          · subst f0
            have HV := Lib.hid (HE.out 0 (by simp [p4, p3, pl]))
            clear HE HF HT p4 p3 pl
            (try simp only [Int.cast_ofNat_Int] at HB ⊢)
            go_enter Try.func74, Try.ntmps74
            go_wp2_with fail
            go_ret
            exact ⟨by rw [HV.out]; rfl, HB.out⟩
          · have ef : ((f : Int) == 0) = false := by rw [beq_eq_false_iff_ne]; omega
            have efn : (f == 0) = false := by rw [beq_eq_false_iff_ne]; omega
            have HV := Lib.hid (HE.out 8 (by simp [p4, p3, pl, f0]))
            clear HE HF HT p4 p3 pl f0
            (try simp only [Int.cast_ofNat_Int] at HB ⊢)
            go_enter Try.func74, Try.ntmps74
            go_wp2_with fail
            go_ret
            exact ⟨by rw [HV.out]; rfl, HB.out⟩
        · have hd : decide ((p : Int) < 3) = false := by rw [decide_eq_false_iff_not]; omega
          have hdn : decide (p < 3) = false := by rw [decide_eq_false_iff_not]; omega
          have HV := Lib.hid (HE.out 8 (by simp [p4, p3, pl]))
          clear HE HF HT p4 p3 pl
          (try simp only [Int.cast_ofNat_Int] at HB ⊢)
          go_enter Try.func74, Try.ntmps74
          go_wp2_with fail
          go_ret
          exact ⟨by rw [HV.out]; rfl, HB.out⟩
    · have et : ((t : Int) != 0) = true := by rw [bne_iff_ne]; omega
      have etn : (t != 0) = true := by rw [bne_iff_ne]; omega
      have HV := Lib.hid (HE.out 8 (by rw [if_neg p4, if_pos t0]; rfl))
      clear HE HF HT p4 t0
      (try simp only [Int.cast_ofNat_Int] at HB ⊢)
      go_enter Try.func74, Try.ntmps74
      go_wp2_with fail
      go_ret
      exact ⟨by rw [HV.out]; rfl, HB.out⟩

/-- The numbers of a line, the first k of them laid. -/
def lnPre (ws : List Nat) (k : Nat) : Array Value := #[.int .i64 (if 0 < k then (wd ws 16 : Int) else 0), .int .i64 (if 1 < k then (wd ws 17 : Int) else 0), .int .i64 (if 2 < k then (wd ws 18 : Int) else 0)]
theorem lnPre_set (ws : List Nat) {k : Nat} (hk : k < 3) : (lnPre ws k).setIfInBounds k (.int .i64 (wd ws (16 + k) : Int)) = lnPre ws (k + 1) := by
  match k, hk with
  | 0, _ => rfl
  | 1, _ => rfl
  | 2, _ => rfl
theorem lnPre_more (ws : List Nat) {k : Nat} (hk : 3 ≤ k) : lnPre ws (k + 1) = lnPre ws k := by
  unfold lnPre
  rw [if_pos (by omega), if_pos (by omega), if_pos (by omega), if_pos (by omega), if_pos (by omega), if_pos (by omega)]
theorem lnPre_cell (ws : List Nat) {k : Nat} (hk : k < 3) : ∃ u, (lnPre ws k)[k]? = some u := by
  match k, hk with
  | 0, _ => exact ⟨_, rfl⟩
  | 1, _ => exact ⟨_, rfl⟩
  | 2, _ => exact ⟨_, rfl⟩
def okTo (ws : List Nat) (k : Nat) : Prop := ∀ i, i < k → (i < 3 → wd ws (16 + i) ≤ ws.length) ∧ (3 ≤ i → wd ws (16 + i) = 0)
theorem okTo_zero (ws : List Nat) : okTo ws 0 := fun i h => absurd h (by omega)
theorem okTo_succ {ws : List Nat} {k : Nat} (h : okTo ws k) (h1 : (k < 3 → wd ws (16 + k) ≤ ws.length) ∧ (3 ≤ k → wd ws (16 + k) = 0)) : okTo ws (k + 1) := fun i hi => by
  rcases Nat.lt_or_ge i k with h2 | h2
  · exact h i h2
  · have : i = k := by omega
    subst this; exact h1
theorem okTo_line {ws : List Nat} (h : okTo ws 8) : lineW ws = true := by
  rw [lineW_iff]
  exact ⟨⟨(h 0 (by omega)).1 (by omega), (h 1 (by omega)).1 (by omega), (h 2 (by omega)).1 (by omega)⟩, (h 3 (by omega)).2 (by omega), (h 4 (by omega)).2 (by omega), (h 5 (by omega)).2 (by omega), (h 6 (by omega)).2 (by omega), (h 7 (by omega)).2 (by omega)⟩
theorem prErr_line {ws : List Nat} (h : sizeOk (ws.length : Int) = true) (h2 : lineW ws = false) : prErr ws = 50 ∧ prV ws = phV 0 0 0 := prErr_bad h (by rw [h2, Bool.false_and])
theorem prErr_ck {ws : List Nat} (h : sizeOk (ws.length : Int) = true) (h2 : phErr (wd ws 16) (wd ws 17) (wd ws 18) ≠ 0) : prErr ws = 50 ∧ prV ws = phV 0 0 0 := prErr_bad h (by
  unfold phErr at h2
  cases hq : phOk (wd ws 16) (wd ws 17) (wd ws 18) with
  | false => rw [Bool.and_false]
  | true => rw [hq] at h2; exact absurd rfl h2)
theorem prErr_good {ws : List Nat} (h : sizeOk (ws.length : Int) = true) (h1 : lineW ws = true) (h2 : phErr (wd ws 16) (wd ws 17) (wd ws 18) = 0) : prErr ws = 0 ∧ prV ws = phV (wd ws 16) (wd ws 17) (wd ws 18) := prErr_ok h (by
  unfold phErr at h2
  cases hq : phOk (wd ws 16) (wd ws 17) (wd ws 18) with
  | true => rw [h1]; rfl
  | false => rw [hq] at h2; cases h2)
theorem results_ph {fn : Func} {p q : Tmp} (h : fn.results = #[.cell p 61, .tmp q]) (tmps : Array Value) {W : World} {g : Nat} {t : TypeId} {v0 v1 v2 u : Value} (hb : Bx W g t #[v0, v1, v2]) (hp : tmps.getD p undef = .pointer (some ⟨g, 0, none⟩)) (hq : tmps.getD q undef = u) :
    (results fn tmps).run Try.prog W = .ok (.tuple #[.agg #[v0, v1, v2], u]) W := by
  obtain ⟨c0, c1, c2, -⟩ := hb.c3
  rw [Array.getD_eq_getD_getElem?] at hp hq
  simp [results, h, hp, hq, go_sem, c0, c1, c2]

set_option maxRecDepth 100000 in
set_option maxHeartbeats 2000000 in
theorem pRead_c (A : Option Addr) (ws : List Nat) (c n : Nat) (w : World) (hn : ws.length = n) (hm : n ≤ 9223372036854775807) (hc : n ≤ c) (hr : RdW w w.heap.size A ws) (ho : ∀ x ∈ ws, x < 18446744073709551616) :
    Calls Try.prog 40 #[.slice A n c] w fun e w' => e = .returned (.tuple #[prV ws, .int .i64 (prErr ws)]) ∧ Below w.heap.size w w' := by
  subst hn
  have HR := Lib.hid hr
  have HO := Lib.hid ho
  clear hr ho
  have b0 := Bx.new w 61 #[.int .i64 0, .int .i64 0, .int .i64 0]
  cases hs : sizeOk (ws.length : Int)
  · have HI := Lib.hid (imgErr_no hs)
    have HV := Lib.hid (prErr_img hs)
    have HB0 := Lib.hid b0
    clear hs b0
    go_enter Try.func40, Try.ntmps40
    go_wp2_with fail
    refine (imCheck_c A ws.length c _ hm).mono ?_
    rintro e w1 ⟨rfl, rfl⟩
    rw [HI.out]
    go_wp2_with fail
    refine bodyPost_ret (v := .tuple #[.agg #[.int .i64 0, .int .i64 0, .int .i64 0], .int .i64 8]) (results_ph Try.results40 _ HB0.out rfl rfl) rfl ⟨by rw [HV.out.1, HV.out.2]; rfl, (Below.refl _ _).alloc (Nat.le_refl _) _⟩
  · have HI := Lib.hid (imgErr_ok hs)
    obtain ⟨hb1, hb2, -⟩ := fr_bd ws hs
    have HS := Lib.hid hs
    have HB0 := Lib.hid b0
    obtain ⟨b, off, rfl, hb, -⟩ := RdW.at_ HR.out (show 0 < ws.length by omega)
    have HC : Hid (∀ k (h : k < 8) (W : World), Below w.heap.size w W → W.cell? ⟨b, off + 16 + k, none⟩ = some (.int .u64 (wd ws (16 + k) : Int))) := Lib.hid fun k h W hB => by
      obtain ⟨b', off', e', -, h0⟩ := RdW.at_ (Rd.below HR.out hB) (show 16 + k < ws.length by omega)
      cases e'
      rw [← wd_get, ← Nat.add_assoc] at h0
      exact h0
    have HLT : Hid (∀ k, wd ws k < 18446744073709551616) := Lib.hid (wd_lt HO.out)
    have hc24 : (24 : Int) ≤ (c : Int) := by omega
    have hc16 : ((c : Int) == 16) = false := by rw [beq_eq_false_iff_ne]; omega
    have hc16n : (c == 16) = false := by rw [beq_eq_false_iff_ne]; omega
    have hne : ¬ c = 16 := by omega
    clear hs b0
    go_enter Try.func40, Try.ntmps40
    go_wp2_with fail
    refine (imCheck_c _ ws.length c _ hm).mono ?_
    rintro e w1 ⟨rfl, rfl⟩
    rw [HI.out]
    go_wp2_with fail
    go_loopw [20] (fun i wr => ∃ k : Nat, k ≤ 8 ∧ i = .int .i64 k ∧ Hid (okTo ws k) ∧ Bx wr w.heap.size 61 #[.int .i64 0, .int .i64 0, .int .i64 0] ∧ Bx wr (w.heap.size + 1) 104 (lnPre ws k) ∧ Below w.heap.size w wr) (fun i _ => 8 - (intOf i).toNat)
    case atStart =>
      have x1 := Bx.new (w.alloc (.cells #[.int .i64 0, .int .i64 0, .int .i64 0] 61)) 104 #[.int .i64 0, .int .i64 0, .int .i64 0]
      rw [World.size_alloc] at x1
      exact ⟨0, Nat.zero_le _, rfl, okTo_zero ws, HB0.out.alloc _, x1, ((Below.refl _ _).alloc (Nat.le_refl _) _).alloc (by simp) _⟩
    case round =>
      obtain ⟨k, hk, rfl, HOK, b0, b1, hB⟩ := hrel
      have hz := hB.size
      by_cases hlt : k < 8
      · have h0 := HC.out k hlt _ hB
        have hx0 := HLT.out (16 + k)
        have HSU := Lib.hid (fun h => okTo_succ HOK.out h)
        have HBD := Lib.hid (fun h => prErr_line HS.out (line_bad hlt h))
        have HSET := Lib.hid (fun h => lnPre_set ws (k := k) h)
        have HMO := Lib.hid (fun h => lnPre_more ws (k := k) h)
        have HCE := Lib.hid (fun h => lnPre_cell ws (k := k) h)
        obtain ⟨x, hx⟩ : ∃ x, wd ws (16 + k) = x := ⟨_, rfl⟩
        rw [hx] at h0 hx0 HSU HBD HSET
        have hk1 : (k : Int) < 8 := by omega
        have hk0 : (0 : Int) ≤ (k : Int) := by omega
        have hx1 : (0 : Int) ≤ (x : Int) := by omega
        clear hx
        by_cases hk3 : k < 3
        · have hd3 : decide ((k : Int) < 3) = true := by rw [decide_eq_true_iff]; omega
          have hd3n : decide (k < 3) = true := by rw [decide_eq_true_iff]; omega
          obtain ⟨u, hu⟩ := HCE.out hk3
          by_cases hle : x ≤ ws.length
          · have hdl : decide ((x : Int) ≤ (ws.length : Int)) = true := by rw [decide_eq_true_iff]; omega
            have hdln : decide (x ≤ ws.length) = true := by rw [decide_eq_true_iff]; omega
            have HY := Lib.hid (HSU.out ⟨fun _ => hle, fun h => absurd h (by omega)⟩)
            have HZ := Lib.hid (HSET.out hk3)
            have c1 := (b1.cell k).trans hu
            have f1 := b1.frozen k
            have B0 := Lib.hid b0
            have B1 := Lib.hid b1
            have hxw : IntKind.i64.wrap (x : Int) = (x : Int) := IntWalk.i64_in _ (by omega)
            clear HSU HBD HSET HMO HCE b0 b1 hu hle
            go_wp2_with fail
            go_roundw
            case rel => exact ⟨k + 1, by omega, by go_num, HY.out, B0.out.far (by simp) _, by rw [← HZ.out]; exact B1.out.set_ k _, hB.setCell (by simp) _⟩
            case measure => simp [intOf]; omega
          · have hdl : decide ((x : Int) ≤ (ws.length : Int)) = false := by rw [decide_eq_false_iff_not]; omega
            have hdln : decide (x ≤ ws.length) = false := by rw [decide_eq_false_iff_not]; exact hle
            have HV := Lib.hid (HBD.out (.inl ⟨hk3, by omega⟩))
            have B0 := Lib.hid b0
            obtain ⟨c0, c1, c2, f0, f1, f2, hgl⟩ := b0.c3
            clear HSU HBD HSET HMO HCE b0 b1 hu hle
            go_wp2_with fail
            refine bodyPost_ret (v := .tuple #[.agg #[.int .i64 0, .int .i64 0, .int .i64 0], .int .i64 50]) (results_ph Try.results40 _ (((B0.out.set_ 0 _).set_ 1 _).set_ 2 _) rfl rfl) rfl ⟨by rw [HV.out.1, HV.out.2]; rfl, ((hB.setCell (by simp) _).setCell (by simp) _).setCell (by simp) _⟩
        · have hd3 : decide ((k : Int) < 3) = false := by rw [decide_eq_false_iff_not]; omega
          have hd3n : decide (k < 3) = false := by rw [decide_eq_false_iff_not]; omega
          by_cases hx0' : x = 0
          · have hxe : ((x : Int) != 0) = false := by rw [bne_eq_false_iff_eq]; omega
            have hxen : (x != 0) = false := by rw [bne_eq_false_iff_eq]; exact hx0'
            have HY := Lib.hid (HSU.out ⟨fun h => absurd h hk3, fun _ => hx0'⟩)
            have HZ := Lib.hid (HMO.out (by omega))
            have B0 := Lib.hid b0
            have B1 := Lib.hid b1
            clear HSU HBD HSET HMO HCE b0 b1 hx0'
            go_wp2_with fail
            go_roundw
            case rel => exact ⟨k + 1, by omega, by go_num, HY.out, B0.out, by rw [HZ.out]; exact B1.out, hB⟩
            case measure => simp [intOf]; omega
          · have hxe : ((x : Int) != 0) = true := by rw [bne_iff_ne]; omega
            have hxen : (x != 0) = true := by rw [bne_iff_ne]; exact hx0'
            have HV := Lib.hid (HBD.out (.inr ⟨by omega, hx0'⟩))
            have B0 := Lib.hid b0
            obtain ⟨c0, c1, c2, f0, f1, f2, hgl⟩ := b0.c3
            clear HSU HBD HSET HMO HCE b0 b1 hx0'
            go_wp2_with fail
            refine bodyPost_ret (v := .tuple #[.agg #[.int .i64 0, .int .i64 0, .int .i64 0], .int .i64 50]) (results_ph Try.results40 _ (((B0.out.set_ 0 _).set_ 1 _).set_ 2 _) rfl rfl) rfl ⟨by rw [HV.out.1, HV.out.2]; rfl, ((hB.setCell (by simp) _).setCell (by simp) _).setCell (by simp) _⟩
      · obtain rfl : k = 8 := by omega
        have HLN := Lib.hid (okTo_line HOK.out)
        obtain ⟨⟨l0, l1, l2⟩, -⟩ := (lineW_iff ws).1 HLN.out
        have HCK := Lib.hid (fun W => pCheck_c (wd ws 16) (wd ws 17) (wd ws 18) W (by omega) (by omega) (by omega))
        have HG1 := Lib.hid (fun h => prErr_ck HS.out h)
        have HG2 := Lib.hid (fun h => prErr_good HS.out HLN.out h)
        have b1' : Bx wr (w.heap.size + 1) 104 #[.int .i64 (wd ws 16 : Int), .int .i64 (wd ws 17 : Int), .int .i64 (wd ws 18 : Int)] := b1
        obtain ⟨c0, c1, c2, -⟩ := b1'.c3
        obtain ⟨q0, q1, q2, f0, f1, f2, hgl⟩ := b0.c3
        unfold phV at HCK HG2
        obtain ⟨x, hx⟩ : ∃ x, wd ws 16 = x := ⟨_, rfl⟩
        obtain ⟨y, hy⟩ : ∃ y, wd ws 17 = y := ⟨_, rfl⟩
        obtain ⟨z, hz'⟩ : ∃ z, wd ws 18 = z := ⟨_, rfl⟩
        rw [hx, hy, hz'] at HCK HG1 HG2
        rw [hx] at c0
        rw [hy] at c1
        rw [hz'] at c2
        have B0 := Lib.hid b0
        have HB := Lib.hid hB
        clear b0 b1 b1' l0 l1 l2 hx hy hz'
        obtain ⟨r, hr⟩ : ∃ r, phErr x y z = r := ⟨_, rfl⟩
        rw [hr] at HCK HG1 HG2
        clear hr
        go_wp2_with fail
        refine (HCK.out _).mono ?_
        rintro e w2 ⟨rfl, hB2⟩
        rw [World.size_alloc] at hB2
        have hb2 := below_call hB2
        have b3 := Lib.hid (B0.out.up hb2 hgl)
        have n3 := Bx.of_new hB2
        obtain ⟨q0, q1, q2, f0, f1, f2, hgl2⟩ := b3.out.c3
        obtain ⟨n0, n1, n2, -⟩ := n3.c3
        have HB2 := Lib.hid (HB.out.trans (hb2.mono HB.out.size))
        clear hB2 hb2 n3
        by_cases hr0 : r = 0
        · have HV := Lib.hid (HG2.out hr0)
          subst hr0
          go_wp2_with fail
          refine bodyPost_ret (v := .tuple #[.agg #[.int .i64 (x : Int), .int .i64 (y : Int), .int .i64 (z : Int)], .int .i64 0]) (results_ph Try.results40 _ (((b3.out.set_ 0 _).set_ 1 _).set_ 2 _) rfl rfl) rfl ⟨by rw [HV.out.1, HV.out.2], ((HB2.out.setCell (by simp) _).setCell (by simp) _).setCell (by simp) _⟩
        · have HV := Lib.hid (HG1.out hr0)
          have hrn : (r != 0) = true := by rw [bne_iff_ne]; exact hr0
          clear hr0
          go_wp2_with fail
          refine bodyPost_ret (v := .tuple #[.agg #[.int .i64 0, .int .i64 0, .int .i64 0], .int .i64 50]) (results_ph Try.results40 _ (((b3.out.set_ 0 _).set_ 1 _).set_ 2 _) rfl rfl) rfl ⟨by rw [HV.out.1, HV.out.2]; rfl, ((HB2.out.setCell (by simp) _).setCell (by simp) _).setCell (by simp) _⟩
end Go.Proofs.Ytpifagclhhaniaa
