/- Types: the words of a type, as the program writes them. -/
import Derived.Test.YtpifagclhhaniaaKnd
import Derived.Test.YtpifagclhhaniaaAgg
namespace Go.Proofs.Ytpifagclhhaniaa
open Go.RowKit

def twoV (a b : Nat) : Value := .agg #[.int .u64 (a : Int), .int .u64 (b : Int)]
def kwV (l : List Nat) : Value := if kndErr l = 0 then twoV (typW l) (sum1 (typW l)) else twoV 0 0
/-- The word of a type, as far as it is written. -/
def fw (l : List Nat) (k : Nat) : Nat := l.length + fldW (l.take k) 4
theorem zero2v (w : World) : (zeroValue 118).run Try.prog w = .ok (twoV 0 0) w := by kernel_rfl
theorem results_two {fn : Func} {p q : Tmp} (h : fn.results = #[.cell p 118, .tmp q]) (tmps : Array Value) {W : World} {g : Nat} {t : TypeId} {v0 v1 u : Value} (hb : Bx W g t #[v0, v1]) (hp : tmps.getD p undef = .pointer (some ⟨g, 0, none⟩)) (hq : tmps.getD q undef = u) :
    (results fn tmps).run Try.prog W = .ok (.tuple #[.agg #[v0, v1], u]) W := by
  obtain ⟨c0, c1, -⟩ := hb.c2
  rw [Array.getD_eq_getD_getElem?] at hp hq
  simp [results, h, hp, hq, go_sem, c0, c1]

theorem fw_lt {l : List Nat} (h : l.length ≤ 8) (hk : kndOk l = true) (k : Nat) : fw l k < 4 ^ (4 + k) := by
  have h1 := fldW_lt (l.take k) 4 (fun x hx => ((kndOk_iff l).1 hk x (List.mem_of_mem_take hx)).2)
  have h2 : 4 ^ (4 + (l.take k).length) ≤ 4 ^ (4 + k) := Nat.pow_le_pow_right (by omega) (by rw [List.length_take]; omega)
  have h4 : (4 : Nat) ^ 4 = 256 := by decide
  unfold fw; omega
theorem fw_step {l : List Nat} {k x : Nat} (h : l.length ≤ 8) (hk : kndOk l = true) (hlt : k < l.length) (hx : l[k] = x) :
    bits BinOp.or .u64 (fw l k : Nat) (IntKind.u64.wrap ((x : Int) * 2 ^ (8 + 2 * k))) = ((fw l (k + 1) : Nat) : Int) := by
  have hx3 : x ≤ 3 := by rw [← hx]; exact ((kndOk_iff l).1 hk l[k] (List.getElem_mem hlt)).2
  have hq := fw_lt h hk k
  have e1 : (2 : Nat) ^ (8 + 2 * k) = 4 ^ (4 + k) := by rw [show 8 + 2 * k = 2 * (4 + k) by omega, Nat.pow_mul]
  have hp : (4 : Nat) ^ (4 + k) ≤ 4 ^ 11 := Nat.pow_le_pow_right (by omega) (by omega)
  have h11 : (4 : Nat) ^ 11 = 4194304 := by decide
  have hb : x * 2 ^ (8 + 2 * k) ≤ 3 * 4194304 := by
    rw [e1]
    exact Nat.le_trans (Nat.mul_le_mul_right _ hx3) (by omega)
  have e2 : (x : Int) * 2 ^ (8 + 2 * k) = ((x * 2 ^ (8 + 2 * k) : Nat) : Int) := by simp
  rw [e2, IntWalk.u64_in _ (by omega), u64_or_nat _ _ (by omega) (by omega), or_join (by rw [e1]; exact hq)]
  have e3 : fw l (k + 1) = fw l k + x * 4 ^ (4 + k) := by
    unfold fw
    rw [List.take_succ_eq_append_getElem hlt, fldW_append, hx, List.length_take, Nat.min_eq_left (by omega)]
    simp only [fldW]
    omega
  rw [e3, e1]
theorem fw_end (l : List Nat) : fw l l.length = typW l := by unfold fw typW; rw [List.take_length]

set_option maxRecDepth 100000 in
set_option maxHeartbeats 2000000 in
theorem kWrite_c (A : Option Addr) (l : List Nat) (c n : Nat) (w : World) (hn : l.length = n) (hm : n ≤ 9223372036854775807) (hr : RdY w w.heap.size A l) :
    Calls Try.prog 87 #[.slice A n c] w fun e w' => e = .returned (.tuple #[kwV l, .int .i64 (kndErr l)]) ∧ Below w.heap.size w w' := by
  subst hn
  have HR := Lib.hid hr
  have bx := Bx.new w 118 #[.int .u64 0, .int .u64 0]
  have HC := Lib.hid (kCheck_c A l c l.length w.heap.size (w.alloc (.cells #[.int .u64 0, .int .u64 0] 118)) rfl hm (hr.alloc (Nat.le_refl _) _))
  by_cases h0 : kndErr l = 0
  · have hz := kndErr_zero h0
    obtain ⟨hz1, hz2⟩ := hz
    have HZ2 := Lib.hid hz2
    have HV := Lib.hid (show kwV l = .agg #[.int .u64 (typW l : Nat), .int .u64 (sum1 (typW l) : Nat)] by simp [kwV, h0, twoV])
    have HE := Lib.hid h0
    rw [h0] at HC
    have BX := Lib.hid bx
    clear h0 hz2 bx hr
    go_enter Try.func87, Try.ntmps87
    go_wp2_with fail
    refine HC.out.mono ?_
    rintro e w1 ⟨rfl, rfl⟩
    go_wp2_with fail
    go_loop [5, 21] (fun s i => ∃ k : Nat, k ≤ l.length ∧ i = .int .i64 k ∧ s = .int .u64 (fw l k : Nat)) (fun _ i => l.length - (intOf i).toNat)
    case atStart => exact ⟨0, Nat.zero_le _, rfl, by simp [fw, fldW]⟩
    case round =>
      obtain ⟨k, hk, rfl, rfl⟩ := hrel
      by_cases hlt : k < l.length
      · obtain ⟨b, off, rfl, hb, h0⟩ := HR.out.at_ hlt
        replace h0 := (World.cell?_alloc_lt w (.cells #[.int .u64 0, .int .u64 0] 118) ⟨b, off + k, none⟩ hb).trans h0
        obtain ⟨x, hx⟩ : ∃ x, l[k] = x := ⟨_, rfl⟩
        have hx3 : x ≤ 3 := by rw [← hx]; exact ((kndOk_iff l).1 HZ2.out l[k] (List.getElem_mem hlt)).2
        have HST := Lib.hid (fw_step hz1 HZ2.out hlt hx)
        obtain ⟨q, hq⟩ : ∃ q, fw l k = q := ⟨_, rfl⟩
        rw [hx] at h0
        rw [hq] at HST ⊢
        clear hx hq
        go_wp2_with fail
        go_round
        case rel => exact ⟨k + 1, by omega, by go_num, by rw [HST.out]⟩
        case measure => simp [intOf]; omega
      · obtain rfl : k = l.length := by omega
        have hlt2 := typW_lt hz1 HZ2.out
        have HSM : Hid (sumFrom 14695981039346656037 [typW l] = sum1 (typW l)) := Lib.hid rfl
        rw [fw_end]
        obtain ⟨q, hq⟩ : ∃ q, typW l = q := ⟨_, rfl⟩
        rw [hq] at hlt2 HV HSM ⊢
        have hi2 : (Try.prog.info? 118).map (·.size) = some 2 := by kernel_rfl
        clear hq
        go_wp2_with fail
        have hrd := rd_new1 (w.alloc (.cells #[.int .u64 0, .int .u64 0] 118)) [.int .u64 (q : Int)] 38
        refine (sumOf_c _ [q] _ 1 _ rfl (by omega) (by simp only [World.size_alloc] at hrd ⊢; exact hrd) (by intro y hy; simp at hy; subst hy; omega)).mono ?_
        rintro e w1 ⟨rfl, hB1⟩
        rw [World.size_alloc, World.size_alloc] at hB1
        have hb1 := (((Below.refl _ _).alloc (Nat.le_refl _) (.cells #[.int .u64 0, .int .u64 0] 118)).alloc (by simp) (.cells #[.int .u64 (q : Int)] 38)).trans (hB1.mono (by omega))
        have bx1 := (BX.out.alloc (.cells #[.int .u64 (q : Int)] 38)).up hB1 (by omega)
        have BX1 := Lib.hid bx1
        have HB1 := Lib.hid hb1
        rw [HSM.out]
        obtain ⟨z, hz⟩ : ∃ z, sum1 q = z := ⟨_, rfl⟩
        rw [hz] at HV ⊢
        clear hz bx1 hb1 hB1 hrd
        go_wp2_with ((with_reducible refine at_store 118 (.tmp 2) _ ?_); refine wpList_store_agg rfl _ _ _ rfl w.heap.size 118 #[.int .u64 0, .int .u64 0] #[.int .u64 (q : Int), .int .u64 (z : Int)] (by rfl) (by rfl) BX1.out rfl hi2 (by simp [Value.oneCell']) ?_; intro w3 hb3 ha3; have HB3 := Lib.hid hb3; have HA3 := Lib.hid ha3; clear hb3 ha3)
        exact bodyPost_ret (v := .tuple #[.agg #[.int .u64 (q : Int), .int .u64 (z : Int)], .int .i64 0]) (results_two Try.results87 _ HB3.out rfl rfl) rfl ⟨by rw [HV.out, HE.out], HA3.out.below HB1.out (Nat.le_refl _)⟩
  · have HV := Lib.hid (show kwV l = .agg #[.int .u64 0, .int .u64 0] by simp [kwV, h0, twoV])
    have hne : (kndErr l != 0) = true := by rw [bne_iff_ne]; exact h0
    have BX := Lib.hid bx
    clear h0 bx hr
    go_enter Try.func87, Try.ntmps87
    go_wp2_with fail
    refine HC.out.mono ?_
    rintro e w1 ⟨rfl, rfl⟩
    go_wp2_with fail
    exact bodyPost_ret (v := .tuple #[.agg #[.int .u64 0, .int .u64 0], .int .i64 (kndErr l)]) (results_two Try.results87 _ BX.out rfl rfl) rfl ⟨by rw [HV.out], (Below.refl _ _).alloc (Nat.le_refl _) _⟩
end Go.Proofs.Ytpifagclhhaniaa
