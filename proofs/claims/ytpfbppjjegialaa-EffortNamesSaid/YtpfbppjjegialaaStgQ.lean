/- What a change is like, and what it leaves: plain facts. -/
import Derived.Test.YtpfbppjjegialaaStgP
import Derived.Test.YtpfbppjjegialaaMkPP
import Derived.Test.YtpfbppjjegialaaKFix
import Derived.Test.YtpfbppjjegialaaSlP
import Derived.Test.YtpfbppjjegialaaWnB
namespace Go.Proofs.Ytpfbppjjegialaa
open Go.RowKit

/-- What the entries of a change are like. -/
structure Small (n : Nat) (E : List En) : Prop where
  pos : 1 ≤ E.length
  le : E.length ≤ 32
  inc : E.Pairwise (fun a b => a.a < b.a)
  ins : ∀ e ∈ E, (16 ≤ e.a ∧ e.a < 19 ∨ 112 ≤ e.a) ∧ e.a < (n : Int)
  val : ∀ e ∈ E, e.v < 18446744073709551616
theorem pair_take {l : List En} (h : l.Pairwise (fun a b => a.a < b.a)) (k : Nat) : (l.take k).Pairwise (fun a b => a.a < b.a) := h.sublist (List.take_sublist k l)
theorem small_bat {n p : Nat} {l : List En} (hn : 256 ≤ n) (hp : p < 4) (h1 : l.Pairwise (fun a b => a.a < b.a)) (h2 : ∀ e ∈ l, 128 ≤ e.a ∧ e.a < (n : Int)) (h3 : ∀ e ∈ l, e.v < 18446744073709551616) : Small n (batE l p) := by
  by_cases h : 32 ≤ l.length
  · rw [batE_great h]
    refine ⟨by rw [List.length_take]; omega, by rw [List.length_take]; omega, pair_take h1 31, fun e he => ?_, fun e he => h3 e (List.mem_of_mem_take he)⟩
    have := h2 e (List.mem_of_mem_take he)
    omega
  · rw [batE_few h]
    refine ⟨by simp, by rw [List.length_cons]; omega, List.Pairwise.cons (fun e he => ?_) h1, fun e he => ?_, fun e he => ?_⟩
    · have := h2 e he; dsimp only; omega
    · rcases List.mem_cons.1 he with rfl | he
      · dsimp only; omega
      · have := h2 e he; omega
    · rcases List.mem_cons.1 he with rfl | he
      · dsimp only; omega
      · exact h3 e he
theorem ob_ge {ws : List Nat} {a : Int} (h : obErr ws a = 0) : ∀ e ∈ obOut ws a, a ≤ e.a ∧ e.a < (ws.length : Int) ∧ e.v < 2048 := by
  obtain ⟨f, -, -, -, -, -, g7, g8, g9, g10⟩ := ob_plain h
  intro e he
  obtain ⟨r, r1, r2, r3, r4⟩ := g9 e he
  have hit := putE_hit (obOut ws a) ws g10 e he (by omega) (by omega)
  rw [r1, Int.toNat_natCast] at hit
  by_cases hex : ∃ i, i < (rsOut ws a).length ∧ f i = r
  · obtain ⟨i, hi, e2⟩ := hex
    have := (g7 i hi).2.1
    omega
  · have := g8 r (fun i hi h2 => hex ⟨i, hi, h2⟩)
    rw [hit] at this
    exact absurd this.symm r3
/-- What a view's phase line says, where it may go on. -/
theorem ck_parts {ws : List Nat} (h : ckErr ws = 0) : prErr ws = 0 ∧ sizeOk (ws.length : Int) = true ∧ lineW ws = true ∧ phOk (wd ws 16) (wd ws 17) (wd ws 18) = true := by
  have h1 := (lnErr_zero (ck_ln h)).1
  exact ⟨h1, prErr_zero h1⟩
theorem pr_ok {xs : List Nat} (h1 : sizeOk (xs.length : Int) = true) (h2 : lineW xs = true) (h3 : phOk (wd xs 16) (wd xs 17) (wd xs 18) = true) : prErr xs = 0 := (prErr_ok h1 (by rw [h2, h3]; rfl)).1
theorem put_low {ws : List Nat} {E : List En} (h : ∀ e ∈ E, 19 ≤ e.a) {i : Nat} (hi : i < 19) : wd (putE ws E) i = wd ws i := putE_wd _ _ _ fun e he => by have := h e he; omega
theorem small_at {n : Nat} {E : List En} (h : Small n E) {ws : List Nat} {i : Nat} (h1 : 19 ≤ i) (h2 : i < 112) : wd (putE ws E) i = wd ws i := putE_wd _ _ _ fun e he => by have := (h.ins e he).1; omega
theorem line_put2 {ws : List Nat} {E : List En} (hs : Small ws.length E) (hl : lineW ws = true) (h16 : wd (putE ws E) 16 ≤ ws.length) (h17 : wd (putE ws E) 17 ≤ ws.length) (h18 : wd (putE ws E) 18 ≤ ws.length) : lineW (putE ws E) = true := by
  obtain ⟨-, a3, a4, a5, a6, a7⟩ := (lineW_iff ws).1 hl
  rw [lineW_iff, putE_len]
  exact ⟨⟨h16, h17, h18⟩, by rw [small_at hs (by omega) (by omega)]; exact a3, by rw [small_at hs (by omega) (by omega)]; exact a4, by rw [small_at hs (by omega) (by omega)]; exact a5, by rw [small_at hs (by omega) (by omega)]; exact a6, by rw [small_at hs (by omega) (by omega)]; exact a7⟩
/-- Whether a phase line goes on. -/
def onW (ws xs : List Nat) : Prop := wd ws 16 ≤ wd xs 16 ∧ (wd xs 16 = wd ws 16 → wd ws 17 ≤ wd xs 17 ∧ wd ws 18 ≤ wd xs 18)
theorem wd_head {ws : List Nat} {j v : Nat} {l : List En} (hj : j < ws.length) (hl : ∀ e ∈ l, e.a ≠ (j : Int)) : wd (putE ws (⟨(j : Int), v⟩ :: l)) j = v := by
  rw [putE_in j v l hj, putE_wd _ _ _ hl]
  unfold wd
  rw [List.getElem?_set_self hj]; rfl
theorem wd_cons {ws : List Nat} {j i v : Nat} {l : List En} (hj : j < ws.length) (_hne : i ≠ j) : wd (putE ws (⟨(j : Int), v⟩ :: l)) i = wd (putE (ws.set j v) l) i := by rw [putE_in j v l hj]
theorem wd_set_off {ws : List Nat} {i j v : Nat} (h : i ≠ j) : wd (ws.set j v) i = wd ws i := by unfold wd; rw [List.getElem?_set_ne (by omega)]
/-- PhMark and PhForward. -/
theorem bat_props {ws : List Nat} {p : Nat} {l : List En} (hck : ckErr ws = 0) (hp : wd ws 16 = p) (hp2 : p = 1 ∨ p = 2) (h1 : l.Pairwise (fun a b => a.a < b.a)) (h2 : ∀ e ∈ l, 128 ≤ e.a ∧ e.a < (ws.length : Int)) (h3 : ∀ e ∈ l, e.v < 18446744073709551616) :
    Small ws.length (batE l (p + 1)) ∧ prErr (putE ws (batE l (p + 1))) = 0 ∧ onW ws (putE ws (batE l (p + 1))) ∧ wd (putE ws (batE l (p + 1))) 16 = (if 32 ≤ l.length then p else p + 1) ∧ wd (putE ws (batE l (p + 1))) 17 = 0 ∧ wd (putE ws (batE l (p + 1))) 18 = 0 := by
  obtain ⟨-, hs, hl, hph⟩ := ck_parts hck
  have hb := (sizeOk_iff _).1 hs
  have hsm := small_bat (n := ws.length) (p := p + 1) (by omega) (by omega) h1 h2 h3
  have h0 : wd ws 17 = 0 ∧ wd ws 18 = 0 := by
    rcases (phOk_iff _ _ _).1 hph with h | h | h <;> omega
  have hw : wd (putE ws (batE l (p + 1))) 16 = (if 32 ≤ l.length then p else p + 1) ∧ wd (putE ws (batE l (p + 1))) 17 = 0 ∧ wd (putE ws (batE l (p + 1))) 18 = 0 := by
    by_cases h : 32 ≤ l.length
    · rw [batE_great h, if_pos h]
      have hlow : ∀ e ∈ l.take 31, 19 ≤ e.a := fun e he => by have := h2 e (List.mem_of_mem_take he); omega
      rw [put_low hlow (by omega), put_low hlow (by omega), put_low hlow (by omega)]
      exact ⟨hp, h0⟩
    · rw [batE_few h, if_neg h, show (16 : Int) = ((16 : Nat) : Int) from rfl]
      have hlow : ∀ e ∈ l, 19 ≤ e.a := fun e he => by have := h2 e he; omega
      rw [wd_head (by omega) (fun e he => by have := hlow e he; omega), wd_cons (by omega) (by omega), wd_cons (by omega) (by omega), put_low hlow (by omega), put_low hlow (by omega), wd_set_off (by omega), wd_set_off (by omega)]
      exact ⟨rfl, h0⟩
  obtain ⟨w1, w2, w3⟩ := hw
  have hle : (if 32 ≤ l.length then p else p + 1) ≤ 3 ∧ p ≤ (if 32 ≤ l.length then p else p + 1) := by split <;> omega
  refine ⟨hsm, pr_ok (by rw [putE_len]; exact hs) (line_put2 hsm hl (by rw [w1]; omega) (by rw [w2]; omega) (by rw [w3]; omega)) ?_, ⟨by rw [w1, hp]; omega, fun _ => by rw [w2, w3, h0.1, h0.2]; exact ⟨Nat.le_refl _, Nat.le_refl _⟩⟩, w1, w2, w3⟩
  rw [w1, w2, w3, phOk_iff]
  rcases hp2 with rfl | rfl
  · right; right; split <;> omega
  · by_cases h : 32 ≤ l.length
    · rw [if_pos h]; right; right; omega
    · rw [if_neg h]; right; left; exact ⟨rfl, rfl, .inl rfl⟩
/-- A change of the first cursor alone. -/
theorem cur_props {ws : List Nat} {f : Nat} {l : List En} (hck : ckErr ws = 0) (hp : wd ws 16 = 3) (hf : inHp f = true) (hfn : f ≤ ws.length) (hfw : wd ws 17 ≤ f) (h0 : l.length ≤ 31) (h1 : l.Pairwise (fun a b => a.a < b.a)) (h2 : ∀ e ∈ l, 112 ≤ e.a ∧ e.a < (ws.length : Int)) (h3 : ∀ e ∈ l, e.v < 18446744073709551616) :
    Small ws.length (⟨17, f⟩ :: l) ∧ prErr (putE ws (⟨17, f⟩ :: l)) = 0 ∧ onW ws (putE ws (⟨17, f⟩ :: l)) ∧ wd (putE ws (⟨17, f⟩ :: l)) 16 = 3 ∧ wd (putE ws (⟨17, f⟩ :: l)) 17 = f ∧ wd (putE ws (⟨17, f⟩ :: l)) 18 = 0 := by
  obtain ⟨-, hs, hl, hph⟩ := ck_parts hck
  have hb := (sizeOk_iff _).1 hs
  have hi := (inHp_iff f).1 hf
  have hlow : ∀ e ∈ l, 19 ≤ e.a := fun e he => by have := h2 e he; omega
  have h00 : wd ws 18 = 0 := by
    rcases (phOk_iff _ _ _).1 hph with h | h | h <;> omega
  have hsm : Small ws.length (⟨17, f⟩ :: l) := by
    refine ⟨by simp, by rw [List.length_cons]; omega, List.Pairwise.cons (fun e he => ?_) h1, fun e he => ?_, fun e he => ?_⟩
    · have := hlow e he; dsimp only; omega
    · rcases List.mem_cons.1 he with rfl | he
      · dsimp only; omega
      · have := h2 e he; omega
    · rcases List.mem_cons.1 he with rfl | he
      · dsimp only; omega
      · exact h3 e he
  have hw : wd (putE ws (⟨17, f⟩ :: l)) 16 = 3 ∧ wd (putE ws (⟨17, f⟩ :: l)) 17 = f ∧ wd (putE ws (⟨17, f⟩ :: l)) 18 = 0 := by
    rw [show (17 : Int) = ((17 : Nat) : Int) from rfl]
    rw [wd_cons (by omega) (by omega), wd_head (by omega) (fun e he => by have := hlow e he; omega), wd_cons (by omega) (by omega), put_low hlow (by omega), put_low hlow (by omega), wd_set_off (by omega), wd_set_off (by omega)]
    exact ⟨hp, rfl, h00⟩
  obtain ⟨w1, w2, w3⟩ := hw
  refine ⟨hsm, pr_ok (by rw [putE_len]; exact hs) (line_put2 hsm hl (by rw [w1]; omega) (by rw [w2]; omega) (by rw [w3]; omega)) ?_, ⟨by rw [w1, hp]; exact Nat.le_refl _, fun _ => by rw [w2, w3, h00]; exact ⟨hfw, Nat.le_refl _⟩⟩, w1, w2, w3⟩
  rw [w1, w2, w3, phOk_iff]
  right; left; exact ⟨rfl, rfl, .inr hf⟩
theorem slides_props {ws : List Nat} (hck : ckErr ws = 0) (hp : wd ws 16 = 3) : Small ws.length slidesE ∧ prErr (putE ws slidesE) = 0 ∧ onW ws (putE ws slidesE) ∧ wd (putE ws slidesE) 16 = 4 ∧ wd (putE ws slidesE) 17 = 128 ∧ wd (putE ws slidesE) 18 = 128 := by
  obtain ⟨-, hs, hl, hph⟩ := ck_parts hck
  have hb := (sizeOk_iff _).1 hs
  have hsm : Small ws.length slidesE := by
    refine ⟨by decide, by decide, by unfold slidesE; simp, fun e he => ?_, fun e he => ?_⟩
    · unfold slidesE at he
      simp only [List.mem_cons, List.not_mem_nil, or_false] at he
      rcases he with rfl | rfl | rfl <;> (dsimp only; omega)
    · unfold slidesE at he
      simp only [List.mem_cons, List.not_mem_nil, or_false] at he
      rcases he with rfl | rfl | rfl <;> (dsimp only; omega)
  have hw : wd (putE ws slidesE) 16 = 4 ∧ wd (putE ws slidesE) 17 = 128 ∧ wd (putE ws slidesE) 18 = 128 := by
    unfold slidesE
    rw [show (16 : Int) = ((16 : Nat) : Int) from rfl, show (17 : Int) = ((17 : Nat) : Int) from rfl, show (18 : Int) = ((18 : Nat) : Int) from rfl]
    rw [putE_in 16 _ _ (by omega), putE_in 17 _ _ (by rw [List.length_set]; omega), putE_in 18 _ _ (by rw [List.length_set, List.length_set]; omega)]
    simp only [putE]
    refine ⟨?_, ?_, ?_⟩
    · rw [wd_set_off (by omega), wd_set_off (by omega)]; unfold wd; rw [List.getElem?_set_self (by omega)]; rfl
    · rw [wd_set_off (by omega)]; unfold wd; rw [List.getElem?_set_self (by rw [List.length_set]; omega)]; rfl
    · unfold wd; rw [List.getElem?_set_self (by rw [List.length_set, List.length_set]; omega)]; rfl
  obtain ⟨w1, w2, w3⟩ := hw
  refine ⟨hsm, pr_ok (by rw [putE_len]; exact hs) (line_put2 hsm hl (by rw [w1]; omega) (by rw [w2]; omega) (by rw [w3]; omega)) (by rw [w1, w2, w3]; decide), ⟨by rw [w1, hp]; omega, fun h => by rw [w1, hp] at h; exact absurd h (by decide)⟩, w1, w2, w3⟩
/-- PhSlide. -/
theorem sld_props {ws : List Nat} {f t : Nat} {l : List En} (hck : ckErr ws = 0) (hp : wd ws 16 = 4) (hf : inHp f = true) (ht : inHp t = true) (htf : t ≤ f) (hfn : f ≤ ws.length) (hfw : wd ws 17 ≤ f) (htw : wd ws 18 ≤ t) (h0 : l.length ≤ 30) (h1 : l.Pairwise (fun a b => a.a < b.a)) (h2 : ∀ e ∈ l, 112 ≤ e.a ∧ e.a < (ws.length : Int)) (h3 : ∀ e ∈ l, e.v < 18446744073709551616) :
    Small ws.length (⟨17, f⟩ :: ⟨18, t⟩ :: l) ∧ prErr (putE ws (⟨17, f⟩ :: ⟨18, t⟩ :: l)) = 0 ∧ onW ws (putE ws (⟨17, f⟩ :: ⟨18, t⟩ :: l)) ∧ wd (putE ws (⟨17, f⟩ :: ⟨18, t⟩ :: l)) 16 = 4 ∧ wd (putE ws (⟨17, f⟩ :: ⟨18, t⟩ :: l)) 17 = f ∧ wd (putE ws (⟨17, f⟩ :: ⟨18, t⟩ :: l)) 18 = t := by
  obtain ⟨-, hs, hl, hph⟩ := ck_parts hck
  have hb := (sizeOk_iff _).1 hs
  have hi := (inHp_iff f).1 hf
  have hj := (inHp_iff t).1 ht
  have hlow : ∀ e ∈ l, 19 ≤ e.a := fun e he => by have := h2 e he; omega
  have hsm : Small ws.length (⟨17, f⟩ :: ⟨18, t⟩ :: l) := by
    refine ⟨by simp, by rw [List.length_cons, List.length_cons]; omega, List.Pairwise.cons (fun e he => ?_) (List.Pairwise.cons (fun e he => ?_) h1), fun e he => ?_, fun e he => ?_⟩
    · rcases List.mem_cons.1 he with rfl | he
      · dsimp only; omega
      · have := hlow e he; dsimp only; omega
    · have := hlow e he; dsimp only; omega
    · rcases List.mem_cons.1 he with rfl | he
      · dsimp only; omega
      · rcases List.mem_cons.1 he with rfl | he
        · dsimp only; omega
        · have := h2 e he; omega
    · rcases List.mem_cons.1 he with rfl | he
      · dsimp only; omega
      · rcases List.mem_cons.1 he with rfl | he
        · dsimp only; omega
        · exact h3 e he
  have hw : wd (putE ws (⟨17, f⟩ :: ⟨18, t⟩ :: l)) 16 = 4 ∧ wd (putE ws (⟨17, f⟩ :: ⟨18, t⟩ :: l)) 17 = f ∧ wd (putE ws (⟨17, f⟩ :: ⟨18, t⟩ :: l)) 18 = t := by
    rw [show (17 : Int) = ((17 : Nat) : Int) from rfl, show (18 : Int) = ((18 : Nat) : Int) from rfl]
    rw [putE_in 17 _ _ (by omega), putE_in 18 _ _ (by rw [List.length_set]; omega), put_low hlow (by omega), put_low hlow (by omega), put_low hlow (by omega)]
    refine ⟨?_, ?_, ?_⟩
    · rw [wd_set_off (by omega), wd_set_off (by omega)]; exact hp
    · rw [wd_set_off (by omega)]; unfold wd; rw [List.getElem?_set_self (by omega)]; rfl
    · unfold wd; rw [List.getElem?_set_self (by rw [List.length_set]; omega)]; rfl
  obtain ⟨w1, w2, w3⟩ := hw
  refine ⟨hsm, pr_ok (by rw [putE_len]; exact hs) (line_put2 hsm hl (by rw [w1]; omega) (by rw [w2]; omega) (by rw [w3]; omega)) ?_, ⟨by rw [w1, hp]; exact Nat.le_refl _, fun _ => by rw [w2, w3]; exact ⟨hfw, htw⟩⟩, w1, w2, w3⟩
  rw [w1, w2, w3, phOk_iff]
  left; exact ⟨rfl, hf, ht, htf⟩
end Go.Proofs.Ytpfbppjjegialaa
