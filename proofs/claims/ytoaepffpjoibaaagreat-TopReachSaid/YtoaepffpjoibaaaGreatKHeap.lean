/- Texts laid together: Knd KndW KndR Mrk Mrk2 Fwt Fww. -/
import Derived.Test.YtoaepffpjoibaaaGreatKPlain
import Derived.Test.YtoaepffpjoibaaaGreatKHead
import Derived.Deep.RegionHeld3
import Derived.Deep.DrawnRows
import Derived.Test.YtoaepffpjoibaaaGreatKPlace
namespace Go.Proofs.YtoaepffpjoibaaaGreat
open Go.RowKit

def byteCells (x : Nat) : List Value := [.int .u8 (x : Int)]
theorem byteCells_len (x : Nat) : (byteCells x).length = 1 := rfl
def RdY (w : World) (B : Nat) (A : Option Addr) (l : List Nat) : Prop := Rd w B A (l.flatMap byteCells)
theorem RdY.at_ {w : World} {B : Nat} {A : Option Addr} {l : List Nat} (h : RdY w B A l) {k : Nat} (hk : k < l.length) :
    ∃ b off, A = some ⟨b, off, none⟩ ∧ b < B ∧ w.cell? ⟨b, off + k, none⟩ = some (.int .u8 (l[k] : Int)) := by
  obtain ⟨b, off, e, hb, hc⟩ := Rd.at_flat byteCells_len h (by omega) hk
  have := hc 0 (by omega)
  simp only [Nat.mul_one, Nat.add_zero] at this
  exact ⟨b, off, e, hb, this⟩
theorem kndOk_snoc {l : List Nat} {k : Nat} (hk : k < l.length) (h : kndOk (l.take k) = true) (h1 : 1 ≤ l[k]) (h2 : l[k] ≤ 3) : kndOk (l.take (k + 1)) = true := by
  rw [List.take_succ_eq_append_getElem hk]
  rw [kndOk_iff] at h ⊢
  intro x hx
  rw [List.mem_append] at hx
  rcases hx with hx | hx
  · exact h x hx
  · simp only [List.mem_cons, List.not_mem_nil, or_false] at hx
    subst hx; exact ⟨h1, h2⟩

set_option maxRecDepth 100000 in
set_option maxHeartbeats 800000 in
theorem kCheck_c (A : Option Addr) (l : List Nat) (c n B : Nat) (w : World) (hn : l.length = n) (hm : n ≤ 9223372036854775807) (hr : RdY w B A l) :
    Calls Tryz.prog 75 #[.slice A n c] w fun e w' => e = .returned (.int .i64 (kndErr l)) ∧ w = w' := by
  subst hn
  have HR := Lib.hid hr
  clear hr
  by_cases h8 : 8 < l.length
  · have HE := Lib.hid (kndErr_many h8)
    go_enter Tryz.func75, Tryz.ntmps75
    go_wp2_with fail
    go_ret
    exact ⟨by rw [HE.out]; rfl, rfl⟩
  · have h8' : l.length ≤ 8 := by omega
    have HB : Hid (kndOk l = false → kndErr l = 8) := Lib.hid fun h => kndErr_bad h8' h
    have HO : Hid (kndOk l = true → kndErr l = 0) := Lib.hid fun h => kndErr_ok h8' h
    clear h8
    go_enter Tryz.func75, Tryz.ntmps75
    go_wp2_with fail
    go_loop [10] (fun i => ∃ k : Nat, k ≤ l.length ∧ i = .int .i64 k ∧ Hid (kndOk (l.take k) = true)) (fun i => l.length - (intOf i).toNat)
    case atStart => exact ⟨0, Nat.zero_le _, rfl, rfl⟩
    case round =>
      obtain ⟨k, hk, rfl, HK⟩ := hrel
      by_cases hlt : k < l.length
      · obtain ⟨b, off, rfl, hb, h0⟩ := HR.out.at_ hlt
        have HS := Lib.hid (fun h1 h2 => kndOk_snoc hlt HK.out h1 h2)
        have HN := Lib.hid (fun h => kndOk_bad hlt h)
        obtain ⟨x, hx⟩ : ∃ x, l[k] = x := ⟨_, rfl⟩
        rw [hx] at h0 HS HN
        clear hx
        by_cases h1 : x < 1
        · have E := Lib.hid (HB.out (HN.out (.inl h1)))
          go_wp2_with fail
          go_ret
          exact ⟨by rw [E.out]; rfl, rfl⟩
        · by_cases h2 : 3 < x
          · have E := Lib.hid (HB.out (HN.out (.inr h2)))
            go_wp2_with fail
            go_ret
            exact ⟨by rw [E.out]; rfl, rfl⟩
          · have h3 : 1 ≤ x := by omega
            have h4 : x ≤ 3 := by omega
            clear h1 h2
            go_wp2_with fail
            go_round
            case rel => exact ⟨k + 1, by omega, by go_num, HS.out h3 h4⟩
            case measure => simp [intOf]; omega
      · have E := Lib.hid (HO.out (by have := HK.out; rwa [List.take_of_length_le (by omega)] at this))
        go_wp2_with fail
        go_ret
        exact ⟨by rw [E.out]; rfl, rfl⟩

def kSz (l : List Nat) : Nat := if kndErr l = 0 then objSz l.length else 0
set_option maxRecDepth 100000 in
set_option maxHeartbeats 800000 in
theorem kSize_c (A : Option Addr) (l : List Nat) (c n B : Nat) (w : World) (hn : l.length = n) (hm : n ≤ 9223372036854775807) (hr : RdY w B A l) :
    Calls Tryz.prog 50 #[.slice A n c] w fun e w' => e = .returned (.tuple #[.int .i64 (kSz l : Nat), .int .i64 (kndErr l)]) ∧ w = w' := by
  have HC := Lib.hid (kCheck_c A l c n B w hn hm hr)
  clear hr
  by_cases h0 : kndErr l = 0
  · have hl := (kndErr_zero h0).1
    have HS := Lib.hid (show ((kSz l : Nat) : Int) = 2 + ((n : Int) + 1) / 2 * 2 by simp only [kSz, h0, if_true, objSz, hn]; omega)
    rw [hn] at hl
    rw [h0] at HC
    have H0 := Lib.hid h0
    clear h0 hn
    go_enter Tryz.func50, Tryz.ntmps50
    go_wp2_with fail
    refine HC.out.mono ?_
    rintro e w1 ⟨rfl, rfl⟩
    go_wp2_with fail
    go_ret2
    exact ⟨by rw [HS.out, H0.out]; rfl, rfl⟩
  · have HS := Lib.hid (show kSz l = 0 by simp [kSz, h0])
    have hne : (kndErr l != 0) = true := by rw [bne_iff_ne]; exact h0
    clear h0 hn
    go_enter Tryz.func50, Tryz.ntmps50
    go_wp2_with fail
    refine HC.out.mono ?_
    rintro e w1 ⟨rfl, rfl⟩
    go_wp2_with fail
    go_ret2
    exact ⟨by rw [HS.out]; rfl, rfl⟩
end Go.Proofs.YtoaepffpjoibaaaGreat

namespace Go.Proofs.YtoaepffpjoibaaaGreat
open Go.RowKit

def twoV (a b : Nat) : Value := .agg #[.int .u64 (a : Int), .int .u64 (b : Int)]
def kwV (l : List Nat) : Value := if kndErr l = 0 then twoV (typW l) (sum1 (typW l)) else twoV 0 0
/-- The word of a type, as far as it is written. -/
def fw (l : List Nat) (k : Nat) : Nat := l.length + fldW (l.take k) 4
theorem zero2v (w : World) : (zeroValue 108).run Tryz.prog w = .ok (twoV 0 0) w := by kernel_rfl
theorem results_two {fn : Func} {p q : Tmp} (h : fn.results = #[.cell p 108, .tmp q]) (tmps : Array Value) {W : World} {g : Nat} {t : TypeId} {v0 v1 u : Value} (hb : Bx W g t #[v0, v1]) (hp : tmps.getD p undef = .pointer (some ⟨g, 0, none⟩)) (hq : tmps.getD q undef = u) :
    (results fn tmps).run Tryz.prog W = .ok (.tuple #[.agg #[v0, v1], u]) W := by
  obtain ⟨c0, c1, -⟩ := hb.c2
  rw [Array.getD_eq_getD_getElem?] at hp hq
  simp [results, h, hp, hq, go_sem, c0, c1]

theorem fw_lt {l : List Nat} (h : l.length ≤ 8) (hk : kndOk l = true) (k : Nat) : fw l k < 4 ^ (4 + k) := by
  have h1 := fldW_lt (l.take k) 4 (fun x hx => ((kndOk_iff l).1 hk x (List.mem_of_mem_take hx)).2)
  have h2 : 4 ^ (4 + (l.take k).length) ≤ 4 ^ (4 + k) := Nat.pow_le_pow_right (by omega) (by rw [List.length_take]; omega)
  have h4 : (4 : Nat) ^ 4 = 256 := by decide
  unfold fw; omega
theorem fw_step {l : List Nat} {k x : Nat} (h : l.length ≤ 8) (hk : kndOk l = true) (hlt : k < l.length) (hx : l[k] = x) :
    bits BinOp.or .u64 (fw l k : Nat) (IntKind.u64.wrap ((x : Int) * 2 ^ (8 + 2 * k))) = ((fw l (k + 1) : Nat) : Int) := by
  have hx3 : x ≤ 3 := by rw [← hx]; exact ((kndOk_iff l).1 hk l[k] (List.getElem_mem hlt)).2
  have hq := fw_lt h hk k
  have e1 : (2 : Nat) ^ (8 + 2 * k) = 4 ^ (4 + k) := by rw [show 8 + 2 * k = 2 * (4 + k) by omega, Nat.pow_mul]
  have hp : (4 : Nat) ^ (4 + k) ≤ 4 ^ 11 := Nat.pow_le_pow_right (by omega) (by omega)
  have h11 : (4 : Nat) ^ 11 = 4194304 := by decide
  have hb : x * 2 ^ (8 + 2 * k) ≤ 3 * 4194304 := by
    rw [e1]
    exact Nat.le_trans (Nat.mul_le_mul_right _ hx3) (by omega)
  have e2 : (x : Int) * 2 ^ (8 + 2 * k) = ((x * 2 ^ (8 + 2 * k) : Nat) : Int) := by simp
  rw [e2, IntWalk.u64_in _ (by omega), u64_or_nat _ _ (by omega) (by omega), or_join (by rw [e1]; exact hq)]
  have e3 : fw l (k + 1) = fw l k + x * 4 ^ (4 + k) := by
    unfold fw
    rw [List.take_succ_eq_append_getElem hlt, fldW_append, hx, List.length_take, Nat.min_eq_left (by omega)]
    simp only [fldW]
    omega
  rw [e3, e1]
theorem fw_end (l : List Nat) : fw l l.length = typW l := by unfold fw typW; rw [List.take_length]

set_option maxRecDepth 100000 in
set_option maxHeartbeats 2000000 in
theorem kWrite_c (A : Option Addr) (l : List Nat) (c n : Nat) (w : World) (hn : l.length = n) (hm : n ≤ 9223372036854775807) (hr : RdY w w.heap.size A l) :
    Calls Tryz.prog 74 #[.slice A n c] w fun e w' => e = .returned (.tuple #[kwV l, .int .i64 (kndErr l)]) ∧ Below w.heap.size w w' := by
  subst hn
  have HR := Lib.hid hr
  have bx := Bx.new w 108 #[.int .u64 0, .int .u64 0]
  have HC := Lib.hid (kCheck_c A l c l.length w.heap.size (w.alloc (.cells #[.int .u64 0, .int .u64 0] 108)) rfl hm (hr.alloc (Nat.le_refl _) _))
  by_cases h0 : kndErr l = 0
  · have hz := kndErr_zero h0
    obtain ⟨hz1, hz2⟩ := hz
    have HZ2 := Lib.hid hz2
    have HV := Lib.hid (show kwV l = .agg #[.int .u64 (typW l : Nat), .int .u64 (sum1 (typW l) : Nat)] by simp [kwV, h0, twoV])
    have HE := Lib.hid h0
    rw [h0] at HC
    have BX := Lib.hid bx
    clear h0 hz2 bx hr
    go_enter Tryz.func74, Tryz.ntmps74
    go_wp2_with fail
    refine HC.out.mono ?_
    rintro e w1 ⟨rfl, rfl⟩
    go_wp2_with fail
    go_loop [5, 21] (fun s i => ∃ k : Nat, k ≤ l.length ∧ i = .int .i64 k ∧ s = .int .u64 (fw l k : Nat)) (fun _ i => l.length - (intOf i).toNat)
    case atStart => exact ⟨0, Nat.zero_le _, rfl, by simp [fw, fldW]⟩
    case round =>
      obtain ⟨k, hk, rfl, rfl⟩ := hrel
      by_cases hlt : k < l.length
      · obtain ⟨b, off, rfl, hb, h0⟩ := HR.out.at_ hlt
        replace h0 := (World.cell?_alloc_lt w (.cells #[.int .u64 0, .int .u64 0] 108) ⟨b, off + k, none⟩ hb).trans h0
        obtain ⟨x, hx⟩ : ∃ x, l[k] = x := ⟨_, rfl⟩
        have hx3 : x ≤ 3 := by rw [← hx]; exact ((kndOk_iff l).1 HZ2.out l[k] (List.getElem_mem hlt)).2
        have HST := Lib.hid (fw_step hz1 HZ2.out hlt hx)
        obtain ⟨q, hq⟩ : ∃ q, fw l k = q := ⟨_, rfl⟩
        rw [hx] at h0
        rw [hq] at HST ⊢
        clear hx hq
        go_wp2_with fail
        go_round
        case rel => exact ⟨k + 1, by omega, by go_num, by rw [HST.out]⟩
        case measure => simp [intOf]; omega
      · obtain rfl : k = l.length := by omega
        have hlt2 := typW_lt hz1 HZ2.out
        have HSM : Hid (sumFrom 14695981039346656037 [typW l] = sum1 (typW l)) := Lib.hid rfl
        rw [fw_end]
        obtain ⟨q, hq⟩ : ∃ q, typW l = q := ⟨_, rfl⟩
        rw [hq] at hlt2 HV HSM ⊢
        have hi2 : (Tryz.prog.info? 108).map (·.size) = some 2 := by kernel_rfl
        clear hq
        go_wp2_with fail
        have hrd := rd_new1 (w.alloc (.cells #[.int .u64 0, .int .u64 0] 108)) [.int .u64 (q : Int)] 46
        refine (sumOf_c _ [q] _ 1 _ rfl (by omega) (by simp only [World.size_alloc] at hrd ⊢; exact hrd) (by intro y hy; simp at hy; subst hy; omega)).mono ?_
        rintro e w1 ⟨rfl, hB1⟩
        rw [World.size_alloc, World.size_alloc] at hB1
        have hb1 := (((Below.refl _ _).alloc (Nat.le_refl _) (.cells #[.int .u64 0, .int .u64 0] 108)).alloc (by simp) (.cells #[.int .u64 (q : Int)] 46)).trans (hB1.mono (by omega))
        have bx1 := (BX.out.alloc (.cells #[.int .u64 (q : Int)] 46)).up hB1 (by omega)
        have BX1 := Lib.hid bx1
        have HB1 := Lib.hid hb1
        rw [HSM.out]
        obtain ⟨z, hz⟩ : ∃ z, sum1 q = z := ⟨_, rfl⟩
        rw [hz] at HV ⊢
        clear hz bx1 hb1 hB1 hrd
        go_wp2_with ((with_reducible refine at_store 108 (.tmp 2) _ ?_); refine wpList_store_agg rfl _ _ _ rfl w.heap.size 108 #[.int .u64 0, .int .u64 0] #[.int .u64 (q : Int), .int .u64 (z : Int)] (by rfl) (by rfl) BX1.out rfl hi2 (by simp [Value.oneCell']) ?_; intro w3 hb3 ha3; have HB3 := Lib.hid hb3; have HA3 := Lib.hid ha3; clear hb3 ha3)
        exact bodyPost_ret (v := .tuple #[.agg #[.int .u64 (q : Int), .int .u64 (z : Int)], .int .i64 0]) (results_two Tryz.results74 _ HB3.out rfl rfl) rfl ⟨by rw [HV.out, HE.out], HA3.out.below HB1.out (Nat.le_refl _)⟩
  · have HV := Lib.hid (show kwV l = .agg #[.int .u64 0, .int .u64 0] by simp [kwV, h0, twoV])
    have hne : (kndErr l != 0) = true := by rw [bne_iff_ne]; exact h0
    have BX := Lib.hid bx
    clear h0 bx hr
    go_enter Tryz.func74, Tryz.ntmps74
    go_wp2_with fail
    refine HC.out.mono ?_
    rintro e w1 ⟨rfl, rfl⟩
    go_wp2_with fail
    exact bodyPost_ret (v := .tuple #[.agg #[.int .u64 0, .int .u64 0], .int .i64 (kndErr l)]) (results_two Tryz.results74 _ BX.out rfl rfl) rfl ⟨by rw [HV.out], (Below.refl _ _).alloc (Nat.le_refl _) _⟩
end Go.Proofs.YtoaepffpjoibaaaGreat

namespace Go.Proofs.YtoaepffpjoibaaaGreat
open Go.RowKit

def krOut (a b : Nat) : List Nat := if typOk a b = true then fldL a else []
def krErr (a b : Nat) : Int := if typOk a b = true then 0 else 50
def KrRes (a b : Nat) (e : Ending) (w' : World) : Prop := ∃ A c, e = .returned (.tuple #[.slice A (krOut a b).length c, .int .i64 (krErr a b)]) ∧ RdY w' w'.heap.size A (krOut a b) ∧ (krOut a b).length ≤ c
theorem krRes_no {a b : Nat} {w' : World} (h : typOk a b = false) : KrRes a b (.returned (.tuple #[.slice none 0 0, .int .i64 50])) w' := by
  have h1 : krOut a b = [] := by simp [krOut, h]
  have h2 : krErr a b = 50 := by simp [krErr, h]
  exact ⟨none, 0, by rw [h1, h2]; rfl, by rw [h1]; exact Rd.nil_, by rw [h1]; simp⟩
theorem krRes_own {H : Nat} {a b : Nat} {v : Value} {w' : World} (h0 : typOk a b = true) (h : w'.ownsRow H 5 1 v (fldL a).length ((fldL a).flatMap byteCells)) : KrRes a b (.returned (.tuple #[v, .int .i64 0])) w' := by
  have h1 : krOut a b = fldL a := by simp [krOut, h0]
  have h2 : krErr a b = 0 := by simp [krErr, h0]
  have hc : ∃ A c, v = .slice A (fldL a).length c ∧ (fldL a).length ≤ c := by
    rcases h.2 with ⟨rfl, hnil⟩ | ⟨g, cap, cur, rfl, _, _, hle, _⟩
    · exact ⟨none, 0, by rw [hnil], by omega⟩
    · exact ⟨_, _, rfl, hle⟩
  obtain ⟨A, c, rfl, hle⟩ := hc
  exact ⟨A, c, by rw [h1, h2], by rw [h1]; exact Rd.of_own h, by rw [h1]; exact hle⟩
theorem typOk_parts (a b : Nat) : typOk a b = ((decide (a % 256 ≤ 8) && kndOk (fldL a)) && (typW (fldL a) == a && sum1 a == b)) := rfl
theorem fld_bits (a k : Nat) (ha : a < 18446744073709551616) : bits BinOp.and .u64 ((a : Int) / 2 ^ (8 + 2 * k)) 3 = ((a / 4 ^ (k + 4) % 4 : Nat) : Int) := by
  have e1 : (2 : Nat) ^ (8 + 2 * k) = 4 ^ (k + 4) := by rw [show 8 + 2 * k = 2 * (k + 4) by omega, Nat.pow_mul]
  have e2 : (a : Int) / 2 ^ (8 + 2 * k) = ((a / 4 ^ (k + 4) : Nat) : Int) := by rw [← e1]; simp
  have h : a / 4 ^ (k + 4) < 18446744073709551616 := Nat.lt_of_le_of_lt (Nat.div_le_self _ _) ha
  rw [e2]
  exact and_m (k := 2) (m := 3) h (by decide) (by omega)

theorem two_eq (p q a b : Int) (W : World) : (Op.equalIn 10000 108 (.agg #[.int .u64 p, .int .u64 q]) (.agg #[.int .u64 a, .int .u64 b])).run Tryz.prog W = .ok (p == a && q == b) W := by
  have hu := Tryz.underlying108
  have hw := Tryz.underlying46
  have hs : (Op.equalIn 10000 108 (.agg #[.int .u64 p, .int .u64 q]) (.agg #[.int .u64 a, .int .u64 b])) = (Op.equalIn (9999 + 1) 108 (.agg #[.int .u64 p, .int .u64 q]) (.agg #[.int .u64 a, .int .u64 b])) := rfl
  have hr : List.range' 0 2 = [0, 1] := rfl
  have e1 := fun (x y : Int) => run_equalIn_int W 9998 46 .u64 .u64 x y hw
  rw [hs]
  unfold Op.equalIn
  simp [go_sem, run_underlying hu, Sem.run_bind, hr, List.forIn_cons]
  by_cases h1 : p = a <;> by_cases h2 : q = b <;> simp [h1, h2, go_sem]

set_option maxRecDepth 100000 in
set_option maxHeartbeats 2000000 in
theorem kRead_c (a b : Nat) (w : World) (ha : a < 18446744073709551616) (hb : b < 18446744073709551616) :
    Calls Tryz.prog 49 #[.int .u64 (a : Int), .int .u64 (b : Int)] w fun e w' => KrRes a b e w' ∧ Below w.heap.size w w' := by
  have HT := Lib.hid (typOk_parts a b)
  have ha0 : (0 : Int) ≤ (a : Int) := by omega
  have e1 := (spl_and a ha).1
  have HFL := Lib.hid (fldL_len a)
  have HFG := Lib.hid (fun k h => fldL_get a k h)
  have HBT := Lib.hid (fun k => fld_bits a k ha)
  have hm : a % 256 < 256 := Nat.mod_lt _ (by omega)
  obtain ⟨m, hmm⟩ : ∃ m, a % 256 = m := ⟨_, rfl⟩
  rw [hmm] at e1 HFL HFG HT hm
  by_cases h8 : 8 < m
  · have HB := Lib.hid (show typOk a b = false by rw [HT.out, show decide (m ≤ 8) = false by rw [decide_eq_false_iff_not]; omega]; rfl)
    clear hmm ha hb
    go_enter Tryz.func49, Tryz.ntmps49
    go_wp2_with fail
    go_ret2
    exact ⟨krRes_no HB.out, Below.refl _ _⟩
  · have h8' : m ≤ 8 := by omega
    rw [show decide (m ≤ 8) = true by rw [decide_eq_true_iff]; exact h8'] at HT
    have hx0 : (0 : Int) ≤ (m : Int) := by omega
    have HA := Lib.hid ha
    have HB := Lib.hid hb
    have d8 : decide ((8 : Int) < (m : Int)) = false := by rw [decide_eq_false_iff_not]; omega
    clear hmm ha hb h8 hm
    obtain ⟨i0, hi, hz0, hz1, hz2⟩ := info_parts infoByte
    have HI := Lib.hid hi
    have HZ0 := Lib.hid hz0
    have HZ1 := Lib.hid hz1
    have HZ2 := Lib.hid hz2
    clear hi hz0 hz1 hz2
    go_enter Tryz.func49, Tryz.ntmps49
    go_wp2_with fail
    go_loopw [7, 16] (fun v i wr => ∃ k : Nat, k ≤ m ∧ i = .int .u64 k ∧ wr.ownsRow w.heap.size 5 1 v k (((fldL a).take k).flatMap byteCells) ∧ Below w.heap.size w wr) (fun _ i _ => m - (intOf i).toNat)
    case atStart => exact ⟨0, Nat.zero_le _, rfl, World.ownsRow_nil _ _ _ _, Below.refl _ _⟩
    case round =>
      obtain ⟨k, hk, rfl, hown, hB⟩ := hrel
      have hz := hB.size
      by_cases hlt : k < m
      · have hbt := HBT.out k
        have hg := HFG.out k hlt
        obtain ⟨x, hx⟩ : ∃ x, a / 4 ^ (k + 4) % 4 = x := ⟨_, rfl⟩
        have hx3 : x < 4 := by rw [← hx]; exact Nat.mod_lt _ (by omega)
        rw [hx] at hbt hg
        have HFL2 := Lib.hid (show ((fldL a).take (k + 1)).flatMap byteCells = ((fldL a).take k).flatMap byteCells ++ [.int .u8 (x : Int)] by
          have hl : k < (fldL a).length := by rw [HFL.out]; exact hlt
          rw [List.take_succ_eq_append_getElem hl, flat_snoc]
          rw [List.getElem?_eq_getElem hl] at hg
          rw [Option.some.inj hg]; rfl)
        have hxi : (x : Int) < 4 := by omega
        have hx00 : (0 : Int) ≤ (x : Int) := by omega
        have hki : (k : Int) < (m : Int) := by omega
        clear hx hg
        go_wp2_with (at_builtin; refine wpList_append_own _ rfl _ _ 82 rfl w.heap.size 5 i0 _ 1 1 Tryz.underlying82 HI.out HZ0.out HZ1.out HZ2.out rfl (by decide) _ _ _ rfl (hown.alloc _) ⟨_, 0, none⟩ 1 1 [.int .u8 (x : Int)] rfl rfl (news_new _ _ _) (by simp [Value.oneCell']) (by unfold maxLen; omega) (by omega) (le_alloc_ hB.size) ?_; intro v1 w1 hown1 hg1 _; have hB1 := below_append hB hB.size hown hg1)
        go_roundw
        case rel => exact ⟨k + 1, by omega, by go_num, by rw [HFL2.out]; exact hown1, hB1⟩
        case measure => simp [intOf]; omega
      · obtain rfl : k = m := by omega
        rw [List.take_of_length_le (by rw [HFL.out]; exact Nat.le_refl _)] at hown
        obtain ⟨A1, c1, rfl⟩ := own_slice hown
        have HC := Lib.hid (kWrite_c A1 (fldL a) c1 k wr HFL.out (by omega) (Rd.of_own hown))
        have hlen8 : (fldL a).length ≤ 8 := by rw [HFL.out]; exact h8'
        cases hkn : kndOk (fldL a)
        · have HKE := Lib.hid (kndErr_bad hlen8 hkn)
          have HN := Lib.hid (show typOk a b = false by rw [HT.out, hkn]; rfl)
          have HV := Lib.hid (show kwV (fldL a) = .agg #[.int .u64 0, .int .u64 0] by simp [kwV, HKE.out, twoV])
          rw [HKE.out, HV.out] at HC
          clear hkn hlen8 hown
          go_wp2_with fail
          refine HC.out.mono ?_
          rintro e w1 ⟨rfl, hB1⟩
          have hb1 := hB.trans (hB1.mono hz)
          go_wp2_with fail
          go_ret2
          exact ⟨krRes_no HN.out, hb1.alloc hb1.size _⟩
        · have HKE := Lib.hid (kndErr_ok hlen8 hkn)
          have HV := Lib.hid (show kwV (fldL a) = .agg #[.int .u64 (typW (fldL a) : Nat), .int .u64 (sum1 (typW (fldL a)) : Nat)] by simp [kwV, HKE.out, twoV])
          have HT2 := Lib.hid (show typOk a b = (typW (fldL a) == a && sum1 (typW (fldL a)) == b) by
            rw [HT.out, hkn]
            by_cases h : typW (fldL a) = a
            · rw [h]; simp
            · rw [show (typW (fldL a) == a) = false by rw [beq_eq_false_iff_ne]; exact h]; simp only [Bool.false_and, Bool.and_false])
          rw [HKE.out, HV.out] at HC
          obtain ⟨p, hp⟩ : ∃ p, typW (fldL a) = p := ⟨_, rfl⟩
          obtain ⟨q, hq⟩ : ∃ q, sum1 p = q := ⟨_, rfl⟩
          rw [hp, hq] at HC HT2
          clear hkn hlen8 hp hq
          by_cases hpa : p = a
          · by_cases hqb : q = b
            · have HY := Lib.hid (show typOk a b = true by rw [HT2.out, hpa, hqb]; simp)
              have hq1 := two_eq p q a b
              rw [show ((p : Int) == (a : Int)) = true by rw [beq_iff_eq]; omega, show ((q : Int) == (b : Int)) = true by rw [beq_iff_eq]; omega, Bool.and_self] at hq1
              clear hpa hqb
              go_wp2_with fail
              refine HC.out.mono ?_
              rintro e w1 ⟨rfl, hB1⟩
              have hb1 := hB.trans (hB1.mono hz)
              have hown1 := own_below hown hB1 (Nat.le_refl _)
              go_wp2_with fail
              go_ret2
              refine ⟨krRes_own HY.out (H := w.heap.size) ?_, hb1.alloc hb1.size _⟩
              rw [HFL.out]; exact hown1.alloc _
            · have HN := Lib.hid (show typOk a b = false by rw [HT2.out, show (q == b) = false by rw [beq_eq_false_iff_ne]; exact hqb, Bool.and_false])
              have hq1 := two_eq p q a b
              rw [show ((q : Int) == (b : Int)) = false by rw [beq_eq_false_iff_ne]; omega, Bool.and_false] at hq1
              clear hpa hqb hown
              go_wp2_with fail
              refine HC.out.mono ?_
              rintro e w1 ⟨rfl, hB1⟩
              have hb1 := hB.trans (hB1.mono hz)
              go_wp2_with fail
              go_ret2
              exact ⟨krRes_no HN.out, hb1.alloc hb1.size _⟩
          · have HN := Lib.hid (show typOk a b = false by rw [HT2.out, show (p == a) = false by rw [beq_eq_false_iff_ne]; exact hpa, Bool.false_and])
            have hq1 := two_eq p q a b
            rw [show ((p : Int) == (a : Int)) = false by rw [beq_eq_false_iff_ne]; omega, Bool.false_and] at hq1
            clear hpa hown
            go_wp2_with fail
            refine HC.out.mono ?_
            rintro e w1 ⟨rfl, hB1⟩
            have hb1 := hB.trans (hB1.mono hz)
            go_wp2_with fail
            go_ret2
            exact ⟨krRes_no HN.out, hb1.alloc hb1.size _⟩
end Go.Proofs.YtoaepffpjoibaaaGreat

namespace Go.Proofs.YtoaepffpjoibaaaGreat
open Go.RowKit

def FlRes (a b : Nat) (e : Ending) (w' : World) : Prop := ∃ A c, e = .returned (.tuple #[.slice A (krOut a b).length c, .bool (typOk a b)]) ∧ RdY w' w'.heap.size A (krOut a b) ∧ (krOut a b).length ≤ c
theorem krErr_eq (a b : Nat) : (krErr a b == 0) = typOk a b := by
  unfold krErr
  cases typOk a b <;> simp
set_option maxRecDepth 100000 in
set_option maxHeartbeats 2000000 in
theorem mFields_c (A : Option Addr) (ws : List Nat) (c n t : Nat) (w : World) (hn : ws.length = n) (hm : n ≤ 1000000) (h2 : 256 ≤ n) (ht : t < 8) (hr : RdW w w.heap.size A ws) (ho : ∀ x ∈ ws, x < 18446744073709551616) :
    Calls Tryz.prog 43 #[.slice A n c, .int .i64 (t : Int)] w fun e w' => FlRes (wd ws (96 + 2 * t)) (wd ws (96 + 2 * t + 1)) e w' ∧ Below w.heap.size w w' := by
  subst hn
  have hx := wd_lt ho (96 + 2 * t)
  have hy := wd_lt ho (96 + 2 * t + 1)
  have HC := Lib.hid (fun W => kRead_c (wd ws (96 + 2 * t)) (wd ws (96 + 2 * t + 1)) W hx hy)
  have HK := Lib.hid (krErr_eq (wd ws (96 + 2 * t)) (wd ws (96 + 2 * t + 1)))
  obtain ⟨b, off, rfl, hb, h0⟩ := RdW.at_ hr (show 96 + 2 * t < ws.length by omega)
  obtain ⟨b', off', e', -, h1⟩ := RdW.at_ hr (show 96 + 2 * t + 1 < ws.length by omega)
  cases e'
  rw [← wd_get] at h0 h1
  obtain ⟨x, hx2⟩ : ∃ x, wd ws (96 + 2 * t) = x := ⟨_, rfl⟩
  obtain ⟨y, hy2⟩ : ∃ y, wd ws (96 + 2 * t + 1) = y := ⟨_, rfl⟩
  rw [hx2] at h0 HC HK ⊢
  rw [hy2] at h1 HC HK ⊢
  have t0 : (0 : Int) ≤ (t : Int) := by omega
  have t8 : (t : Int) < 8 := by omega
  have w1 : IntKind.i64.wrap (2 * (t : Int)) = 2 * (t : Int) := IntWalk.i64_in _ (by omega)
  have w2 : IntKind.i64.wrap (96 + 2 * (t : Int)) = 96 + 2 * (t : Int) := IntWalk.i64_in _ (by omega)
  have w3 : IntKind.i64.wrap (96 + 2 * (t : Int) + 1) = 96 + 2 * (t : Int) + 1 := IntWalk.i64_in _ (by omega)
  have i1 : (0 : Int) ≤ 96 + 2 * (t : Int) := by omega
  have i2 : (96 : Int) + 2 * (t : Int) < (ws.length : Int) := by omega
  have i3 : (0 : Int) ≤ 96 + 2 * (t : Int) + 1 := by omega
  have i4 : (96 : Int) + 2 * (t : Int) + 1 < (ws.length : Int) := by omega
  have n1 : ((96 : Int) + 2 * (t : Int)).toNat = 96 + 2 * t := by omega
  have n2 : ((96 : Int) + 2 * (t : Int) + 1).toNat = 96 + 2 * t + 1 := by omega
  clear hr hx hy hx2 hy2 ho ht
  go_enter Tryz.func43, Tryz.ntmps43
  go_wp2_with fail
  go_region_held3 (fun X : World => X.cell? ⟨b, off + (96 + 2 * t), none⟩ = some (.int .u64 (x : Int)) ∧ X.cell? ⟨b, off + (96 + 2 * t + 1), none⟩ = some (.int .u64 (y : Int))) (go_keep)
    (first | (go_at_call 49; refine (HC.out _).mono ?_; rintro e w5 ⟨⟨A1, c1, rfl, hrd, hcl⟩, hB5⟩; have m0 := (hB5.cell (p := ⟨b, off + (96 + 2 * t), none⟩) hb).trans h0; have m1 := (hB5.cell (p := ⟨b, off + (96 + 2 * t + 1), none⟩) hb).trans h1; have HRD := Lib.hid hrd; have HCL := Lib.hid hcl; clear hrd hcl))
  go_wp2_with fail
  go_ret2
  exact ⟨⟨A1, c1, by rw [HK.out]; rfl, HRD.out, HCL.out⟩, (Below.refl _ _).drew.trans hB5⟩
/-- What heap gives. -/
def MhRes (ws : List Nat) (e : Ending) (w' : World) : Prop := ∃ A c, e = .returned (.tuple #[.slice A (hpOut ws).length c, .int .i64 (hpErr ws)]) ∧ RdB w' w'.heap.size A (hpOut ws) ∧ (hpOut ws).length ≤ c
theorem mhRes_no {ws : List Nat} {r : Int} {w' : World} (hr : hpErr ws = r) (h0 : r ≠ 0) : MhRes ws (.returned (.tuple #[.slice none 0 0, .int .i64 r])) w' := by
  subst hr
  have : hpOut ws = [] := by simp [hpOut, h0]
  exact ⟨none, 0, by rw [this]; rfl, by rw [this]; exact Rd.nil_, by rw [this]; simp⟩
theorem frErr_128 {ws : List Nat} (h : sizeOk (ws.length : Int) = true) : frArg ws.length 128 = false := by
  have := (sizeOk_iff _).1 h
  simp only [frArg, Bool.or_eq_false_iff, decide_eq_false_iff_not, bne_eq_false_iff_eq]; omega
theorem hp_of_fr {ws : List Nat} {r : Int} (h : frErr ws 128 = r) (h0 : r ≠ 0) : hpErr ws = r := by
  subst h
  cases hs : sizeOk (ws.length : Int) with
  | false => rw [hpErr_img hs, frErr_img hs]
  | true =>
    cases hb : blocks ws 128 with
    | none => rw [hpErr_none hs hb, frErr_none hs (frErr_128 hs) hb]
    | some l => exact absurd (frErr_some hs (frErr_128 hs) hb).1 h0
theorem fr_128 {ws : List Nat} (h : frErr ws 128 = 0) : sizeOk (ws.length : Int) = true ∧ blocks ws 128 = some (frOut ws 128) := by
  cases hs : sizeOk (ws.length : Int) with
  | false => rw [frErr_img hs] at h; cases h
  | true =>
    cases hb : blocks ws 128 with
    | none => rw [frErr_none hs (frErr_128 hs) hb] at h; cases h
    | some l => rw [(frErr_some hs (frErr_128 hs) hb).2]; exact ⟨rfl, rfl⟩
theorem all_snoc {ws : List Nat} {l : List Bk} {k : Nat} (hk : k < l.length) (h : (l.take k).all (fitB ws) = true) (h1 : fitB ws l[k] = true) : (l.take (k + 1)).all (fitB ws) = true := by
  rw [List.take_succ_eq_append_getElem hk, List.all_append, h]; simp [h1]
theorem all_bad {ws : List Nat} {l : List Bk} {k : Nat} (hk : k < l.length) (h1 : fitB ws l[k] = false) : l.all (fitB ws) = false := by
  cases hq : l.all (fitB ws) with
  | false => rfl
  | true => rw [List.all_eq_true] at hq; rw [hq _ (List.getElem_mem hk)] at h1; cases h1
theorem krOut_len {a b : Nat} (h : typOk a b = true) : (krOut a b).length = a % 256 := by simp [krOut, h, fldL_len]
theorem fit_obj {ws : List Nat} {b : Bk} (hk : b.kind = 1) : fitB ws b = (typOk (wd ws (tyA b)) (wd ws (tyA b + 1)) && b.size == ((objSz (krOut (wd ws (tyA b)) (wd ws (tyA b + 1))).length : Nat) : Int)) := by
  unfold fitB typedB
  rw [hk]
  cases ht : typOk (wd ws (tyA b)) (wd ws (tyA b + 1)) with
  | false => rfl
  | true => rw [krOut_len ht]; rfl
theorem fit_other {ws : List Nat} {b : Bk} (hk : b.kind ≠ 1) : fitB ws b = true := by
  unfold fitB
  rw [show (b.kind != 1) = true by rw [bne_iff_ne]; exact hk]; rfl
/-- An object of a heap: its type is one of eight. -/
theorem blocks_typ {ws : List Nat} {i : Nat} {l : List Bk} (h : blocks ws i = some l) (h2 : i % 2 = 0) {k : Nat} (hk : k < l.length) (h1 : l[k].kind = 1) : 0 ≤ l[k].typ ∧ l[k].typ < 8 := by
  obtain ⟨a, e, -, -, -, b4, -⟩ := blocks_at _ _ h h2 k hk
  have h7 := (hdOk_iff _).1 (bkAt_hd b4)
  have e1 : (bkAt ws a).kind = (rawBk (wd ws a)).kind := rfl
  have e2 : (bkAt ws a).typ = (rawBk (wd ws a)).typ := rfl
  rw [e] at h1 ⊢
  omega
theorem fr_bd (ws : List Nat) (h : sizeOk (ws.length : Int) = true) : 256 ≤ ws.length ∧ ws.length ≤ 2048 ∧ ws.length % 8 = 0 := by
  have := (sizeOk_iff _).1 h; omega

set_option maxRecDepth 100000 in
set_option maxHeartbeats 4000000 in
theorem mHeap_c (A : Option Addr) (ws : List Nat) (c n : Nat) (w : World) (hn : ws.length = n) (hm : n ≤ 9223372036854775807) (hr : RdW w w.heap.size A ws) (ho : ∀ x ∈ ws, x < 18446744073709551616) :
    Calls Tryz.prog 22 #[.slice A n c] w fun e w' => MhRes ws e w' ∧ Below w.heap.size w w' := by
  subst hn
  have HR := Lib.hid hr
  have HO := Lib.hid ho
  have HFR := Lib.hid (from_c A ws c ws.length 128 w rfl hm hr ho)
  clear hr ho
  cases hs : sizeOk (ws.length : Int)
  · have HI := Lib.hid (imgErr_no hs)
    have HE := Lib.hid (hpErr_img hs)
    clear hs
    go_enter Tryz.func22, Tryz.ntmps22
    go_wp2_with fail
    refine (imCheck_c A ws.length c w hm).mono ?_
    rintro e w1 ⟨rfl, rfl⟩
    rw [HI.out]
    go_wp2_with fail
    go_ret2
    exact ⟨mhRes_no HE.out (by omega), Below.refl _ _⟩
  · have HI := Lib.hid (imgErr_ok hs)
    obtain ⟨hb1, hb2, hb3⟩ := fr_bd ws hs
    have HS := Lib.hid hs
    clear hs hb3
    go_enter Tryz.func22, Tryz.ntmps22
    go_wp2_with fail
    refine (imCheck_c A ws.length c w hm).mono ?_
    rintro e w1 ⟨rfl, rfl⟩
    rw [HI.out]
    go_wp2_with fail
    refine HFR.out.mono ?_
    rintro e w1 ⟨⟨A1, c1, rfl, hrd, hcl⟩, hB1⟩
    have hz1 := hB1.size
    have hlen := frOut_len ws 128
    have H128 : Hid (frErr ws 128 = 0 → sizeOk (ws.length : Int) = true ∧ blocks ws 128 = some (frOut ws 128)) := Lib.hid fr_128
    have HNO : Hid (∀ r, frErr ws 128 = r → r ≠ 0 → hpErr ws = r) := Lib.hid (fun _ h h0 => hp_of_fr h h0)
    obtain ⟨l, hl⟩ : ∃ l, frOut ws 128 = l := ⟨_, rfl⟩
    rw [hl] at hrd hcl hlen H128 ⊢
    have HRD := Lib.hid hrd
    have HCL := Lib.hid hcl
    obtain ⟨r, hr⟩ : ∃ r, frErr ws 128 = r := ⟨_, rfl⟩
    have HER := Lib.hid hr
    rw [hr] at H128 ⊢
    clear hr hrd hcl hl
    by_cases hr0 : r = 0
    · subst hr0
      have HBL := Lib.hid (H128.out rfl).2
      clear H128 HNO
      go_wp2_with fail
      go_loopw [26] (fun i wr => ∃ k : Nat, k ≤ l.length ∧ i = .int .i64 k ∧ Hid ((l.take k).all (fitB ws) = true) ∧ Below w1.heap.size w1 wr) (fun i _ => l.length - (intOf i).toNat)
      case atStart => exact ⟨0, Nat.zero_le _, rfl, rfl, Below.refl _ _⟩
      case round =>
        obtain ⟨k, hk, rfl, HAL, hB⟩ := hrel
        have hz := hB.size
        by_cases hlt : k < l.length
        · obtain ⟨b, off, rfl, hbw, q0, q1, q2, q3, q4, q5⟩ := RdB.at_ (HRD.out.below hB) hlt
          have HTY := Lib.hid (fun h => blocks_typ HBL.out (by omega) hlt h)
          have HSN := Lib.hid (fun h => all_snoc hlt HAL.out h)
          have HBD := Lib.hid (fun h => hpErr_bad HS.out HBL.out (all_bad hlt h))
          obtain ⟨x, hx⟩ : ∃ x, l[k] = x := ⟨_, rfl⟩
          rw [hx] at q0 q1 q2 q3 q4 q5 HTY HSN HBD
          have HFO := Lib.hid (fun h => fit_obj (ws := ws) (b := x) h)
          have HFN := Lib.hid (fun h => fit_other (ws := ws) (b := x) h)
          have hty : tyA x = 96 + 2 * x.typ.toNat := rfl
          rw [hty] at HFO
          obtain ⟨xa, xs, xk, xt, xm, xn⟩ := x
          dsimp only at q0 q1 q2 q3 q4 q5 HTY HFO
          have hlm : (k : Int) < (l.length : Int) := by omega
          clear hx hty
          have hnew := Bx.new wr 48 #[.int .i64 xa, .int .i64 xs, .int .i64 xk, .int .i64 xt, .bool xm, .int .u64 (xn : Int)]
          by_cases hk1 : xk = 1
          · obtain ⟨t0, t8⟩ := HTY.out hk1
            obtain ⟨t, rfl⟩ := Int.eq_ofNat_of_zero_le t0
            have HF := Lib.hid (HFO.out hk1)
            simp only [Int.toNat_natCast] at HF
            subst hk1
            have HC := Lib.hid (fun W (h : RdW W W.heap.size A ws) => mFields_c A ws c ws.length t W rfl (by omega) hb1 (by omega) h HO.out)
            have hz1w := hz1
            have HRW := Lib.hid ((((HR.out.up hB1 hz1).up hB hz).alloc (Nat.le_refl _) (.cells #[.int .i64 xa, .int .i64 xs, .int .i64 1, .int .i64 (t : Int), .bool xm, .int .u64 (xn : Int)] 48)).more (B' := (wr.alloc (.cells #[.int .i64 xa, .int .i64 xs, .int .i64 1, .int .i64 (t : Int), .bool xm, .int .u64 (xn : Int)] 48)).heap.size) (by simp))
            obtain ⟨fx, hfx⟩ : ∃ fx, wd ws (96 + 2 * t) = fx := ⟨_, rfl⟩
            obtain ⟨fy, hfy⟩ : ∃ fy, wd ws (96 + 2 * t + 1) = fy := ⟨_, rfl⟩
            rw [hfx, hfy] at HC HF
            clear hnew hfx hfy HFO HFN HTY
            go_wp2_with fail
            refine (HC.out _ HRW.out).mono ?_
            rintro e w2 ⟨⟨A2, c2, rfl, hrd2, hcl2⟩, hB2⟩
            rw [World.size_alloc] at hB2
            have bx2 := Bx.of_new hB2
            have hb2 := hB.trans ((below_call hB2).mono hz)
            obtain ⟨c0, c1', c2', c3, c4, c5, cf, cz⟩ := bx2.c6
            have HB2 := Lib.hid hb2
            clear hrd2 hcl2 bx2 hB2 hb2 cf
            obtain ⟨ok, hok⟩ : ∃ ok, typOk fx fy = ok := ⟨_, rfl⟩
            obtain ⟨m, hm2⟩ : ∃ m, (krOut fx fy).length = m := ⟨_, rfl⟩
            have hm8 : m ≤ 255 := by
              rw [← hm2]; unfold krOut; split
              · rw [fldL_len]; have := Nat.mod_lt fx (show 0 < 256 by omega); omega
              · simp
            rw [hok, hm2] at HF ⊢
            clear hok hm2
            cases ok
            · have HB := Lib.hid (HBD.out (by rw [HF.out]; rfl))
              go_wp2_with fail
              go_ret2
              exact ⟨mhRes_no HB.out (by omega), hB1.trans (HB2.out.mono hz1)⟩
            · rw [Bool.true_and] at HF
              have hsz : ((objSz m : Nat) : Int) = ((m : Int) + 3) / 2 * 2 := by unfold objSz; omega
              rw [hsz] at HF
              by_cases hse : xs = ((m : Int) + 3) / 2 * 2
              · have hs1 : (xs != ((m : Int) + 3) / 2 * 2) = false := by rw [bne_eq_false_iff_eq]; exact hse
                have HY := Lib.hid (HSN.out (by rw [HF.out, beq_iff_eq]; exact hse))
                clear hse
                go_wp2_with fail
                go_roundw
                case rel => exact ⟨k + 1, by omega, by go_num, HY.out, HB2.out⟩
                case measure => simp [intOf]; omega
              · have hs1 : (xs != ((m : Int) + 3) / 2 * 2) = true := by rw [bne_iff_ne]; exact hse
                have HB := Lib.hid (HBD.out (by rw [HF.out, beq_eq_false_iff_ne]; exact hse))
                clear hse
                go_wp2_with fail
                go_ret2
                exact ⟨mhRes_no HB.out (by omega), hB1.trans (HB2.out.mono hz1)⟩
          · have hk2 : (xk != 1) = true := by rw [bne_iff_ne]; exact hk1
            have HY := Lib.hid (HSN.out (HFN.out hk1))
            clear hk1 hnew
            go_wp2_with fail
            go_roundw
            case rel => exact ⟨k + 1, by omega, by go_num, HY.out, hB.alloc hz _⟩
            case measure => simp [intOf]; omega
        · have HP := Lib.hid (hpErr_ok HS.out HBL.out (by have := HAL.out; rwa [List.take_of_length_le (by omega)] at this))
          go_wp2_with fail
          go_ret2
          exact ⟨⟨A1, c1, by rw [HP.out.1, HP.out.2]; rfl, by rw [HP.out.2]; exact HRD.out.up hB hz, by rw [HP.out.2]; exact HCL.out⟩, hB1.trans (hB.mono hz1)⟩
    · have hn1 : (r != 0) = true := by rw [bne_iff_ne]; exact hr0
      have HN := Lib.hid (HNO.out r HER.out hr0)
      have HR0 := Lib.hid hr0
      clear hr0 H128 HNO
      go_wp2_with fail
      go_ret2
      exact ⟨mhRes_no HN.out HR0.out, hB1⟩
end Go.Proofs.YtoaepffpjoibaaaGreat

namespace Go.Proofs.YtoaepffpjoibaaaGreat
open Go.RowKit

set_option maxRecDepth 100000 in
set_option maxHeartbeats 1000000 in
theorem mCheck_c (A : Option Addr) (ws : List Nat) (c n : Nat) (w : World) (hn : ws.length = n) (hm : n ≤ 9223372036854775807) (hr : RdW w w.heap.size A ws) (ho : ∀ x ∈ ws, x < 18446744073709551616) :
    Calls Tryz.prog 27 #[.slice A n c] w fun e w' => e = .returned (.int .i64 (hpErr ws)) ∧ Below w.heap.size w w' := by
  have HC := Lib.hid (mHeap_c A ws c n w hn hm hr ho)
  clear hr ho hn
  obtain ⟨r, hr⟩ : ∃ r, hpErr ws = r := ⟨_, rfl⟩
  have HE := Lib.hid hr
  rw [hr]
  clear hr
  go_enter Tryz.func27, Tryz.ntmps27
  go_wp2_with fail
  refine HC.out.mono ?_
  rintro e w1 ⟨⟨A1, c1, rfl, -, -⟩, hB1⟩
  go_wp2_with fail
  go_ret
  exact ⟨by rw [← HE.out]; rfl, hB1⟩

/-- The marked objects that are given. -/
def MdRes (ws : List Nat) (e : Ending) (w' : World) : Prop := ∃ A c, e = .returned (.tuple #[.slice A (mkdL (hpOut ws)).length c, .int .i64 (hpErr ws)]) ∧ RdI w' w'.heap.size A (mkdL (hpOut ws)) ∧ (mkdL (hpOut ws)).length ≤ c
theorem mkdL_snoc {l : List Bk} {k : Nat} (hk : k < l.length) : mkdL (l.take (k + 1)) = mkdL (l.take k) ++ (if l[k].mark = true then [l[k].at_] else []) := by
  rw [List.take_succ_eq_append_getElem hk]
  unfold mkdL
  rw [List.filter_append, List.map_append]
  cases h : l[k].mark <;> simp [h]
theorem mkdL_len (l : List Bk) : (mkdL l).length ≤ l.length := by unfold mkdL; rw [List.length_map]; exact List.length_filter_le _ _
theorem hpOut_len (ws : List Nat) : (hpOut ws).length ≤ 1024 := by
  unfold hpOut
  split
  · rename_i h
    obtain ⟨h1, l, h2, -⟩ := hpErr_zero h
    have hb := (sizeOk_iff _).1 h1
    have := (blocks_chain (by omega) _ _ h2 (by omega) (by omega) (by omega)).1
    rw [h2]; simp only [Option.getD_some]; omega
  · simp
theorem slice_of {H n : Nat} {e : TypeId} {sz : Nat} {v : Value} {w' : World} {xs : List Value} (h : w'.ownsRow H e sz v n xs) : ∃ A c, v = .slice A n c ∧ n ≤ c ∧ Rd w' w'.heap.size A xs := by
  have hc : ∃ A c, v = .slice A n c ∧ n ≤ c := by
    rcases h.2 with ⟨rfl, hnil⟩ | ⟨g, cap, cur, rfl, _, _, hle, _⟩
    · have h0 : n = 0 ∨ 0 < n := by omega
      exact ⟨none, 0, by
        have := own_slice h
        obtain ⟨A, c, e⟩ := this
        injection e with _ e2 _
        rw [← e2], by
        have := own_slice h
        obtain ⟨A, c, e⟩ := this
        injection e with _ e2 _
        omega⟩
    · exact ⟨_, _, rfl, hle⟩
  obtain ⟨A, c, rfl, hle⟩ := hc
  exact ⟨A, c, rfl, hle, Rd.of_own h⟩

set_option maxRecDepth 100000 in
set_option maxHeartbeats 2000000 in
theorem mMarked_c (A : Option Addr) (ws : List Nat) (c n : Nat) (w : World) (hn : ws.length = n) (hm : n ≤ 9223372036854775807) (hr : RdW w w.heap.size A ws) (ho : ∀ x ∈ ws, x < 18446744073709551616) :
    Calls Tryz.prog 11 #[.slice A n c] w fun e w' => MdRes ws e w' ∧ Below w.heap.size w w' := by
  have HC := Lib.hid (mHeap_c A ws c n w hn hm hr ho)
  have hlen := hpOut_len ws
  have HNO : Hid (hpErr ws ≠ 0 → hpOut ws = []) := Lib.hid (fun h => by simp [hpOut, h])
  clear hr ho hn
  obtain ⟨r, hr⟩ : ∃ r, hpErr ws = r := ⟨_, rfl⟩
  have HE := Lib.hid hr
  rw [hr] at HNO
  obtain ⟨l, hl⟩ : ∃ l, hpOut ws = l := ⟨_, rfl⟩
  have HL := Lib.hid hl
  rw [hl] at hlen HNO
  unfold MhRes at HC
  rw [hr, hl] at HC
  clear hr hl
  by_cases hr0 : r = 0
  · subst hr0
    obtain ⟨i0, hi, hz0, hz1, hz2⟩ := info_parts infoInt
    have HI := Lib.hid hi
    have HZ0 := Lib.hid hz0
    have HZ1 := Lib.hid hz1
    have HZ2 := Lib.hid hz2
    clear hi hz0 hz1 hz2
    go_enter Tryz.func11, Tryz.ntmps11
    go_wp2_with fail
    refine HC.out.mono ?_
    rintro e w1 ⟨⟨A1, c1, rfl, hrd, -⟩, hB1⟩
    have hz1 := hB1.size
    have HRD := Lib.hid hrd
    clear hrd
    go_wp2_with fail
    go_loopw [6, 19] (fun v i wr => ∃ k : Nat, k ≤ l.length ∧ i = .int .i64 k ∧ wr.ownsRow w1.heap.size 3 1 v (mkdL (l.take k)).length ((mkdL (l.take k)).flatMap intCells) ∧ Below w1.heap.size w1 wr) (fun _ i _ => l.length - (intOf i).toNat)
    case atStart => exact ⟨0, Nat.zero_le _, rfl, World.ownsRow_nil _ _ _ _, Below.refl _ _⟩
    case round =>
      obtain ⟨k, hk, rfl, hown, hB⟩ := hrel
      have hz := hB.size
      by_cases hlt : k < l.length
      · obtain ⟨b, off, rfl, hbw, q0, q1, q2, q3, q4, q5⟩ := RdB.at_ (HRD.out.below hB) hlt
        have HSN := Lib.hid (mkdL_snoc hlt)
        have hml := mkdL_len (l.take k)
        rw [List.length_take] at hml
        obtain ⟨m, hm2⟩ : ∃ m, mkdL (l.take k) = m := ⟨_, rfl⟩
        rw [hm2] at hown HSN hml
        obtain ⟨x, hx⟩ : ∃ x, l[k] = x := ⟨_, rfl⟩
        rw [hx] at q0 q1 q2 q3 q4 q5 HSN
        obtain ⟨xa, xs, xk, xt, xm, xn⟩ := x
        dsimp only at q0 q1 q2 q3 q4 q5 HSN
        have hlm : (k : Int) < (l.length : Int) := by omega
        have hml2 : m.length ≤ 1024 := by omega
        clear hx hm2 hml
        cases xm
        · have HS2 := Lib.hid (show mkdL (l.take (k + 1)) = m by rw [HSN.out]; simp)
          clear HSN
          go_wp2_with fail
          go_roundw
          case rel => exact ⟨k + 1, by omega, by go_num, by rw [HS2.out]; exact hown.alloc _, hB.alloc hz _⟩
          case measure => simp [intOf]; omega
        · have HS2 := Lib.hid (show mkdL (l.take (k + 1)) = m ++ [xa] by rw [HSN.out]; rfl)
          clear HSN
          go_wp2_with (at_builtin; refine wpList_append_own _ rfl _ _ 26 rfl w1.heap.size 3 i0 _ 1 8 Tryz.underlying26 HI.out HZ0.out HZ1.out HZ2.out rfl (by decide) _ _ _ rfl ((hown.alloc _).alloc _) ⟨_, 0, none⟩ 1 1 [.int .i64 xa] rfl rfl (news_at _ _ _ (World.size_alloc _ _)) (by simp [Value.oneCell']) (by unfold maxLen; omega) (by omega) (by simp; omega) ?_; intro v1 w2 hown1 hg1 _; have hB2 := below_append (hB.alloc hz (.cells #[.int .i64 xa, .int .i64 xs, .int .i64 xk, .int .i64 xt, .bool true, .int .u64 (xn : Int)] 48)) (by simp; omega) (hown.alloc _) hg1)
          go_roundw
          case rel => exact ⟨k + 1, by omega, by go_num, by rw [HS2.out, List.length_append, flat_snoc]; exact hown1, hB2⟩
          case measure => simp [intOf]; omega
      · rw [List.take_of_length_le (by omega)] at hown
        obtain ⟨A2, c2, rfl, hle, hrd2⟩ := slice_of hown
        have HRD2 := Lib.hid hrd2
        have HLE := Lib.hid hle
        clear hrd2 hown
        go_wp2_with fail
        go_ret2
        exact ⟨⟨A2, c2, by rw [HL.out, HE.out]; rfl, by rw [HL.out]; exact HRD2.out, by rw [HL.out]; exact HLE.out⟩, hB1.trans (hB.mono hz1)⟩
  · have hn1 : (r != 0) = true := by rw [bne_iff_ne]; exact hr0
    have HN := Lib.hid (HNO.out hr0)
    clear hr0 HNO
    go_enter Tryz.func11, Tryz.ntmps11
    go_wp2_with fail
    refine HC.out.mono ?_
    rintro e w1 ⟨⟨A1, c1, rfl, hrd, -⟩, hB1⟩
    clear hrd
    go_wp2_with fail
    go_ret2
    exact ⟨⟨none, 0, by rw [HL.out, HN.out, HE.out]; rfl, by rw [HL.out, HN.out]; exact Rd.nil_, by rw [HL.out, HN.out]; exact Nat.le_refl _⟩, hB1⟩
end Go.Proofs.YtoaepffpjoibaaaGreat

namespace Go.Proofs.YtoaepffpjoibaaaGreat
open Go.RowKit

theorem typed_eq (ws : List Nat) (xa xs xk : Int) (t : Nat) (xm : Bool) (xn : Nat) : typedB ws ⟨xa, xs, xk, (t : Int), xm, xn⟩ = (typOk (wd ws (96 + 2 * t)) (wd ws (96 + 2 * t + 1)) && xs == ((objSz (krOut (wd ws (96 + 2 * t)) (wd ws (96 + 2 * t + 1))).length : Nat) : Int)) := by
  have h := fit_obj (ws := ws) (b := ⟨xa, xs, 1, (t : Int), xm, xn⟩) rfl
  unfold fitB at h
  exact h
theorem krOut_knd (a b : Nat) : kndErr (krOut a b) = 0 := by
  unfold krOut
  split
  · rename_i h
    unfold typOk at h
    simp only [Bool.and_eq_true, decide_eq_true_eq] at h
    exact kndErr_ok (by rw [fldL_len]; exact h.1.1) h.1.2
  · rfl
theorem krOut_le (a b : Nat) : (krOut a b).length ≤ 8 := (kndErr_zero (krOut_knd a b)).1

set_option maxRecDepth 100000 in
set_option maxHeartbeats 2000000 in
theorem fwTyped_c (A : Option Addr) (ws : List Nat) (c n t : Nat) (xa xs xk : Int) (xm : Bool) (xn : Nat) (w : World) (hn : ws.length = n) (hm : n ≤ 1000000) (h2 : 256 ≤ n) (ht : t < 8) (hr : RdW w w.heap.size A ws) (ho : ∀ x ∈ ws, x < 18446744073709551616) :
    Calls Tryz.prog 29 #[.slice A n c, .agg #[.int .i64 xa, .int .i64 xs, .int .i64 xk, .int .i64 (t : Int), .bool xm, .int .u64 (xn : Int)]] w fun e w' => e = .returned (.bool (typedB ws ⟨xa, xs, xk, (t : Int), xm, xn⟩)) ∧ Below w.heap.size w w' := by
  subst hn
  have hx := wd_lt ho (96 + 2 * t)
  have hy := wd_lt ho (96 + 2 * t + 1)
  have HTE := Lib.hid (typed_eq ws xa xs xk t xm xn)
  have HC := Lib.hid (fun W => kRead_c (wd ws (96 + 2 * t)) (wd ws (96 + 2 * t + 1)) W hx hy)
  have HK := Lib.hid (krErr_eq (wd ws (96 + 2 * t)) (wd ws (96 + 2 * t + 1)))
  have hmx := krOut_le (wd ws (96 + 2 * t)) (wd ws (96 + 2 * t + 1))
  have HKN := Lib.hid (krOut_knd (wd ws (96 + 2 * t)) (wd ws (96 + 2 * t + 1)))
  obtain ⟨b, off, rfl, hb, h0⟩ := RdW.at_ hr (show 96 + 2 * t < ws.length by omega)
  obtain ⟨b', off', e', -, h1⟩ := RdW.at_ hr (show 96 + 2 * t + 1 < ws.length by omega)
  cases e'
  rw [← wd_get] at h0 h1
  obtain ⟨x, hx2⟩ : ∃ x, wd ws (96 + 2 * t) = x := ⟨_, rfl⟩
  obtain ⟨y, hy2⟩ : ∃ y, wd ws (96 + 2 * t + 1) = y := ⟨_, rfl⟩
  obtain ⟨q, hq2⟩ : ∃ q, typedB ws ⟨xa, xs, xk, (t : Int), xm, xn⟩ = q := ⟨_, rfl⟩
  rw [hx2] at h0 HC HK HTE HKN hmx
  rw [hy2] at h1 HC HK HTE HKN hmx
  rw [hq2] at HTE ⊢
  have t0 : (0 : Int) ≤ (t : Int) := by omega
  have t8 : (t : Int) < 8 := by omega
  have w1 : IntKind.i64.wrap (2 * (t : Int)) = 2 * (t : Int) := IntWalk.i64_in _ (by omega)
  have w2 : IntKind.i64.wrap (96 + 2 * (t : Int)) = 96 + 2 * (t : Int) := IntWalk.i64_in _ (by omega)
  have w3 : IntKind.i64.wrap (96 + 2 * (t : Int) + 1) = 96 + 2 * (t : Int) + 1 := IntWalk.i64_in _ (by omega)
  have i1 : (0 : Int) ≤ 96 + 2 * (t : Int) := by omega
  have i2 : (96 : Int) + 2 * (t : Int) < (ws.length : Int) := by omega
  have i3 : (0 : Int) ≤ 96 + 2 * (t : Int) + 1 := by omega
  have i4 : (96 : Int) + 2 * (t : Int) + 1 < (ws.length : Int) := by omega
  have n1 : ((96 : Int) + 2 * (t : Int)).toNat = 96 + 2 * t := by omega
  have n2 : ((96 : Int) + 2 * (t : Int) + 1).toNat = 96 + 2 * t + 1 := by omega
  obtain ⟨cs, hcs⟩ : ∃ cs, cs = #[Value.int .i64 xa, .int .i64 xs, .int .i64 xk, .int .i64 (t : Int), .bool xm, .int .u64 (xn : Int)] := ⟨_, rfl⟩
  have bx := Bx.new w 48 #[.int .i64 xa, .int .i64 xs, .int .i64 xk, .int .i64 (t : Int), .bool xm, .int .u64 (xn : Int)]
  have hbw := (Below.refl w.heap.size w).alloc (Nat.le_refl _) (.cells #[.int .i64 xa, .int .i64 xs, .int .i64 xk, .int .i64 (t : Int), .bool xm, .int .u64 (xn : Int)] 48)
  replace h0 := (hbw.cell (p := ⟨b, off + (96 + 2 * t), none⟩) hb).trans h0
  replace h1 := (hbw.cell (p := ⟨b, off + (96 + 2 * t + 1), none⟩) hb).trans h1
  have hsw : (w.alloc (.cells #[.int .i64 xa, .int .i64 xs, .int .i64 xk, .int .i64 (t : Int), .bool xm, .int .u64 (xn : Int)] 48)).heap.size = w.heap.size + 1 := by simp
  clear hr hx hy hx2 hy2 ho ht hq2 hcs
  go_enter Tryz.func29, Tryz.ntmps29
  go_wp2_with fail
  obtain ⟨W0, hW0⟩ : ∃ W0, w.alloc (.cells #[.int .i64 xa, .int .i64 xs, .int .i64 xk, .int .i64 (t : Int), .bool xm, .int .u64 (xn : Int)] 48) = W0 := ⟨_, rfl⟩
  rw [hW0] at h0 h1 bx hbw hsw ⊢
  clear hW0
  have b3 : W0.cell? ⟨w.heap.size, 3, none⟩ = some (.int .i64 (t : Int)) := bx.cell 3
  have hbb : b < W0.heap.size := by omega
  have hgg : w.heap.size < W0.heap.size := by omega
  have BX := Lib.hid bx
  have HBW := Lib.hid hbw
  clear bx hbw hsw
  go_region_held3 (fun X : World => X.cell? ⟨b, off + (96 + 2 * t), none⟩ = some (.int .u64 (x : Int)) ∧ X.cell? ⟨b, off + (96 + 2 * t + 1), none⟩ = some (.int .u64 (y : Int)) ∧ X.cell? ⟨w.heap.size, 3, none⟩ = some (.int .i64 (t : Int))) (go_keep)
    (first | (go_at_call 49; refine (HC.out _).mono ?_; rintro e w5 ⟨⟨A1, c1, rfl, hrd, hcl⟩, hB5⟩; have m0 := (hB5.cell (p := ⟨b, off + (96 + 2 * t), none⟩) hbb).trans h0; have m1 := (hB5.cell (p := ⟨b, off + (96 + 2 * t + 1), none⟩) hbb).trans h1; have m2 := (hB5.cell (p := ⟨w.heap.size, 3, none⟩) hgg).trans b3; have HRD := Lib.hid hrd; have HB5 := Lib.hid hB5; clear hrd hcl))
  have hsz := kSize_c A1 (krOut x y) c1 (krOut x y).length w5.heap.size w5 rfl (by omega) HRD.out
  have hks : kSz (krOut x y) = objSz (krOut x y).length := by simp [kSz, HKN.out]
  rw [HKN.out, hks] at hsz
  have HSZ := Lib.hid hsz
  have hob : objSz (krOut x y).length ≤ 10 := by unfold objSz; omega
  have c1x : w5.cell? ⟨w.heap.size, 1, none⟩ = some (.int .i64 xs) := (HB5.out.cell (p := ⟨w.heap.size, 1, none⟩) hgg).trans (BX.out.cell 1)
  obtain ⟨m, hm2⟩ : ∃ m, (krOut x y).length = m := ⟨_, rfl⟩
  rw [hm2] at HTE HSZ hmx hob ⊢
  obtain ⟨z, hz⟩ : ∃ z, objSz m = z := ⟨_, rfl⟩
  rw [hz] at HSZ HTE hob
  have HKR : Hid (krErr x y = if typOk x y = true then 0 else 50) := Lib.hid rfl
  obtain ⟨r, hr⟩ : ∃ r, krErr x y = r := ⟨_, rfl⟩
  obtain ⟨ok, hok⟩ : ∃ ok, typOk x y = ok := ⟨_, rfl⟩
  rw [hr] at HKR HK ⊢
  rw [hok] at HKR HTE HK
  clear hr hok hsz hks hm2 hz m0 m1 m2 h0 h1 b3
  cases ok
  · obtain rfl : r = 50 := HKR.out
    go_wp2_with fail
    refine HSZ.out.mono ?_
    rintro e w6 ⟨rfl, rfl⟩
    go_wp2_with fail
    go_ret
    exact ⟨by rw [HTE.out]; rfl, HBW.out.trans ((Below.refl _ _).drew.trans (HB5.out.mono (by show _ ≤ W0.heap.size; omega)))⟩
  · obtain rfl : r = 0 := HKR.out
    rw [Bool.true_and] at HTE
    go_wp2_with fail
    refine HSZ.out.mono ?_
    rintro e w6 ⟨rfl, rfl⟩
    go_wp2_with fail
    go_ret
    exact ⟨by rw [HTE.out]; rfl, HBW.out.trans ((Below.refl _ _).drew.trans (HB5.out.mono (by show _ ≤ W0.heap.size; omega)))⟩
end Go.Proofs.YtoaepffpjoibaaaGreat

namespace Go.Proofs.YtoaepffpjoibaaaGreat
open Go.RowKit

theorem infoEntry : (Tryz.prog.info? 53).map (fun i => (i.zero, i.size, i.bytes)) = some (some (.agg #[.int .i64 0, .int .u64 0]), 2, 16) := by kernel_rfl
def wnOut (ws : List Nat) : List En := if hpErr ws = 0 then wantE (hpOut ws) 128 else []
def WnRes (ws : List Nat) (e : Ending) (w' : World) : Prop := ∃ A c, e = .returned (.tuple #[.slice A (wnOut ws).length c, .int .i64 (hpErr ws)]) ∧ RdE w' w'.heap.size A (wnOut ws) ∧ (wnOut ws).length ≤ c
theorem hp_fr {ws : List Nat} (h : hpErr ws = 0) : frErr ws 128 = 0 ∧ frOut ws 128 = hpOut ws ∧ stErr (hpOut ws) 128 = 0 ∧ blocks ws 128 = some (hpOut ws) := by
  obtain ⟨h1, l, h2, h3, h4⟩ := hpErr_zero h
  obtain ⟨g1, g2⟩ := frErr_some h1 (frErr_128 h1) (l := l) h2
  have hb := (sizeOk_iff _).1 h1
  refine ⟨g1, by rw [g2, h4], ?_, by rw [h2, h4]⟩
  rw [h4]
  exact blocks_st (i := 128) (by omega) h2 (by omega) (by omega) (by omega) (s := 128) (by omega) (by omega) (by omega)
theorem wantE_take {l : List Bk} {k : Nat} (hk : k < l.length) (s : Int) : wantE (l.take (k + 1)) s = wantE (l.take k) s ++ (if l[k].kind = 1 ∧ l[k].next ≠ wantN l[k] (endOf (l.take k) s) then [⟨l[k].at_ + 1, wantN l[k] (endOf (l.take k) s)⟩] else []) := by
  rw [List.take_succ_eq_append_getElem hk, wantE_append]
  simp [wantE]
theorem wantE_len (l : List Bk) : ∀ s, (wantE l s).length ≤ l.length := by
  induction l with
  | nil => intro s; exact Nat.le_refl _
  | cons b l ih =>
    intro s
    have := ih (nextS b s)
    simp only [wantE, List.length_append, List.length_cons]
    split <;> simp <;> omega
theorem place_at {l : List Bk} {s : Int} (h : stErr l s = 0) {k : Nat} (hk : k < l.length) : ∃ h2 : k < (plOut l s).length, (plOut l s)[k] = ((wantN l[k] (endOf (l.take k) s) : Nat) : Int) ∧ wantN l[k] (endOf (l.take k) s) ≤ 2048 := by
  have e1 : plOut l s = placesOf l s := by simp [plOut, h]
  have hl : k < (plOut l s).length := by rw [e1, placesOf_len]; exact hk
  refine ⟨hl, ?_, ?_⟩
  · have := placesOf_at (l := l) (s := s) hk
    rw [gk_get l k hk, ← e1, List.getElem?_eq_getElem hl] at this
    rw [Option.some.inj this]
    obtain ⟨h1, h2, h3, _⟩ := stErr_zero h
    have hb := endOf_bd h1 (Nat.le_of_lt hk) h2 h3
    unfold wantN
    split <;> omega
  · obtain ⟨h1, h2, h3, _⟩ := stErr_zero h
    have hb := endOf_bd h1 (Nat.le_of_lt hk) h2 h3
    unfold wantN
    split <;> omega

theorem size_bd' {l : List Bk} {s : Int} (h : stErr l s = 0) {k : Nat} (hk : k < l.length) : 128 ≤ l[k].at_ ∧ l[k].at_ ≤ 2048 ∧ 2 ≤ l[k].size ∧ l[k].size ≤ 2048 := by
  obtain ⟨h1, _⟩ := stErr_zero h
  have := (bkOk_iff _).1 (rowPre_at (rowErr_zero h1).2 hk).1
  rw [gk_get l k hk] at this
  omega

set_option maxRecDepth 100000 in
set_option maxHeartbeats 4000000 in
theorem fwWantedF_c (A : Option Addr) (ws : List Nat) (c n : Nat) (w : World) (hn : ws.length = n) (hm : n ≤ 9223372036854775807) (hr : RdW w w.heap.size A ws) (ho : ∀ x ∈ ws, x < 18446744073709551616) :
    Calls Tryz.prog 10 #[.slice A n c] w fun e w' => EnRes w.heap.size (hpErr ws) (wnOut ws) e w' ∧ Below w.heap.size w w' := by
  have HC := Lib.hid (mCheck_c A ws c n w hn hm hr ho)
  have HF := Lib.hid (fun W (h : RdW W W.heap.size A ws) => from_c A ws c n 128 W hn hm h ho)
  have HR := Lib.hid hr
  have HFR : Hid (hpErr ws = 0 → frErr ws 128 = 0 ∧ frOut ws 128 = hpOut ws ∧ stErr (hpOut ws) 128 = 0 ∧ blocks ws 128 = some (hpOut ws)) := Lib.hid hp_fr
  have hlen := hpOut_len ws
  clear hr ho hn
  by_cases h0 : hpErr ws = 0
  · obtain ⟨g1, g2, g3, g4⟩ := HFR.out h0
    have HW := Lib.hid (show wnOut ws = wantE (hpOut ws) 128 by simp [wnOut, h0])
    have HE := Lib.hid h0
    rw [h0] at HC
    unfold FrRes at HF
    rw [g1, g2] at HF
    obtain ⟨l, hl⟩ : ∃ l, hpOut ws = l := ⟨_, rfl⟩
    rw [hl] at HF hlen HW g3
    have HG3 := Lib.hid g3
    have HPL := Lib.hid (fun (A2 : Option Addr) (c2 : Nat) (W : World) (h : RdB W W.heap.size A2 l) => places_c A2 l c2 l.length 128 W rfl (by omega) h (by omega))
    unfold PlRes at HPL
    rw [g3] at HPL
    clear h0 g1 g2 g3 g4 hl HFR
    obtain ⟨i0, hi, hz0, hz1, hz2⟩ := info_parts infoEntry
    have HI := Lib.hid hi
    have HZ0 := Lib.hid hz0
    have HZ1 := Lib.hid hz1
    have HZ2 := Lib.hid hz2
    clear hi hz0 hz1 hz2
    go_enter Tryz.func10, Tryz.ntmps10
    go_wp2_with fail
    refine HC.out.mono ?_
    rintro e w1 ⟨rfl, hB1⟩
    have hz1 := hB1.size
    go_wp2_with fail
    refine (HF.out _ (HR.out.up hB1 hz1)).mono ?_
    rintro e w2 ⟨⟨A1, c1, rfl, hrd, -⟩, hB2⟩
    have hb2 := hB1.trans (hB2.mono hz1)
    have hz2 := hb2.size
    have HRD := Lib.hid hrd
    clear hrd
    go_wp2_with fail
    refine (HPL.out A1 c1 _ HRD.out).mono ?_
    rintro e w3 ⟨⟨A2, c2, rfl, hrp, -⟩, hB3⟩
    have hb3 := hb2.trans (hB3.mono hz2)
    have hz3 := hb3.size
    have HRP := Lib.hid hrp
    have HRD3 := Lib.hid (HRD.out.up hB3 hB3.size)
    clear hrp HRD
    obtain ⟨pl, hpl⟩ : ∃ pl, plOut l 128 = pl := ⟨_, rfl⟩
    have HPE := Lib.hid hpl
    rw [hpl] at HRP ⊢
    have hpll : pl.length = l.length := by rw [← hpl]; simp [plOut, HG3.out, placesOf_len]
    have HPA := Lib.hid (fun k (hk : k < l.length) => place_at HG3.out hk)
    rw [hpl] at HPA
    have HPL2 := Lib.hid hpll
    rw [hpll]
    clear hpl hpll
    go_wp2_with fail
    go_loopw [9, 30] (fun v i wr => ∃ k : Nat, k ≤ l.length ∧ i = .int .i64 k ∧ wr.ownsRow w3.heap.size 53 2 v (wantE (l.take k) 128).length ((wantE (l.take k) 128).flatMap En.cells) ∧ Below w3.heap.size w3 wr) (fun _ i _ => l.length - (intOf i).toNat)
    case atStart => exact ⟨0, Nat.zero_le _, rfl, World.ownsRow_nil _ _ _ _, Below.refl _ _⟩
    case round =>
      obtain ⟨k, hk, rfl, hown, hB⟩ := hrel
      have hz := hB.size
      by_cases hlt : k < l.length
      · obtain ⟨b, off, rfl, hbw, q0, q1, q2, q3, q4, q5⟩ := RdB.at_ (HRD3.out.below hB) hlt
        obtain ⟨hkp, hp1, hp2⟩ := HPA.out k hlt
        obtain ⟨b2, off2, rfl, hbw2, p0⟩ := RdI.at_ (HRP.out.below hB) hkp
        rw [hp1] at p0
        have HSN := Lib.hid (wantE_take hlt 128)
        have hml := wantE_len (l.take k) 128
        rw [List.length_take] at hml
        have hbd := size_bd' HG3.out hlt
        obtain ⟨m, hm2⟩ : ∃ m, wantE (l.take k) 128 = m := ⟨_, rfl⟩
        rw [hm2] at hown HSN hml
        obtain ⟨v, hv⟩ : ∃ v, wantN l[k] (endOf (l.take k) 128) = v := ⟨_, rfl⟩
        rw [hv] at hp2 p0 HSN
        obtain ⟨x, hx⟩ : ∃ x, l[k] = x := ⟨_, rfl⟩
        rw [hx] at q0 q1 q2 q3 q4 q5 HSN hbd
        obtain ⟨xa, xs, xk, xt, xm, xn⟩ := x
        dsimp only at q0 q1 q2 q3 q4 q5 HSN hbd
        have hlm : (k : Int) < (l.length : Int) := by omega
        have hml2 : m.length ≤ 1024 := by omega
        have hbw' : b2 < wr.heap.size := by omega
        have p0' := (World.cell?_alloc_lt wr (.cells #[.int .i64 xa, .int .i64 xs, .int .i64 xk, .int .i64 xt, .bool xm, .int .u64 (xn : Int)] 48) ⟨b2, off2 + k, none⟩ hbw').trans p0
        have hv2 : (v : Int) ≤ 2048 := by omega
        have hv0 : (0 : Int) ≤ (v : Int) := by omega
        clear hx hm2 hml hv hp1
        by_cases hk1 : xk = 1
        · subst hk1
          by_cases hnv : xn = v
          · have hnb : ((xn : Int) != (v : Int)) = false := by rw [bne_eq_false_iff_eq]; omega
            have HS2 := Lib.hid (show wantE (l.take (k + 1)) 128 = m by rw [HSN.out, if_neg (fun h => h.2 hnv)]; simp)
            clear HSN hnv
            go_wp2_with fail
            go_roundw
            case rel => exact ⟨k + 1, by omega, by go_num, by rw [HS2.out]; exact hown.alloc _, hB.alloc hz _⟩
            case measure => simp [intOf]; omega
          · have hnb : ((xn : Int) != (v : Int)) = true := by rw [bne_iff_ne]; omega
            have HS2 := Lib.hid (show wantE (l.take (k + 1)) 128 = m ++ [⟨xa + 1, v⟩] by rw [HSN.out, if_pos ⟨rfl, hnv⟩])
            clear HSN hnv
            go_wp2_with (at_builtin; refine wpList_append_own _ rfl _ _ 30 rfl w3.heap.size 53 i0 _ 2 16 Tryz.underlying30 HI.out HZ0.out HZ1.out HZ2.out rfl (by decide) _ _ _ rfl ((hown.alloc _).alloc _) ⟨_, 0, none⟩ 1 1 [.int .i64 (xa + 1), .int .u64 (v : Int)] rfl rfl (news_at _ _ _ (World.size_alloc _ _)) (by simp [Value.oneCell']) (by unfold maxLen; omega) (by omega) (by simp; omega) ?_; intro v1 w2 hown1 hg1 _; have hB2 := below_append (hB.alloc hz (.cells #[.int .i64 xa, .int .i64 xs, .int .i64 1, .int .i64 xt, .bool xm, .int .u64 (xn : Int)] 48)) (by simp; omega) (hown.alloc _) hg1)
            go_roundw
            case rel => exact ⟨k + 1, by omega, by go_num, by rw [HS2.out, List.length_append, flat_snoc]; exact hown1, hB2⟩
            case measure => simp [intOf]; omega
        · have hk2 : (xk == 1) = false := by rw [beq_eq_false_iff_ne]; exact hk1
          have HS2 := Lib.hid (show wantE (l.take (k + 1)) 128 = m by rw [HSN.out, if_neg (fun h => hk1 h.1)]; simp)
          clear HSN hk1
          go_wp2_with fail
          go_roundw
          case rel => exact ⟨k + 1, by omega, by go_num, by rw [HS2.out]; exact hown.alloc _, hB.alloc hz _⟩
          case measure => simp [intOf]; omega
      · rw [List.take_of_length_le (by omega)] at hown
        obtain ⟨A4, c4, rfl⟩ := own_slice hown
        have HOW := Lib.hid (own_mono hown hb3.size)
        clear hown
        go_wp2_with fail
        go_ret2
        exact ⟨⟨A4, c4, by rw [HW.out, HE.out]; rfl, by rw [HW.out]; exact HOW.out⟩, hb3.trans (hB.mono hz3)⟩
  · have hn1 : (hpErr ws != 0) = true := by rw [bne_iff_ne]; exact h0
    have HW := Lib.hid (show wnOut ws = [] by simp [wnOut, h0])
    obtain ⟨r, hr⟩ : ∃ r, hpErr ws = r := ⟨_, rfl⟩
    have HE := Lib.hid hr
    rw [hr] at HC hn1
    clear h0 hr HFR
    go_enter Tryz.func10, Tryz.ntmps10
    go_wp2_with fail
    refine HC.out.mono ?_
    rintro e w1 ⟨rfl, hB1⟩
    go_wp2_with fail
    go_ret2
    exact ⟨enRes_no HE.out HW.out, hB1⟩
theorem fwWanted_c (A : Option Addr) (ws : List Nat) (c n : Nat) (w : World) (hn : ws.length = n) (hm : n ≤ 9223372036854775807) (hr : RdW w w.heap.size A ws) (ho : ∀ x ∈ ws, x < 18446744073709551616) :
    Calls Tryz.prog 10 #[.slice A n c] w fun e w' => WnRes ws e w' ∧ Below w.heap.size w w' := (fwWantedF_c A ws c n w hn hm hr ho).mono fun _ _ ⟨h1, h2⟩ => ⟨h1.old, h2⟩
end Go.Proofs.YtoaepffpjoibaaaGreat
