/- The entries of a phase line: what the program returns. -/
import Derived.Test.YtpifagclhhaniaaCurP
import Derived.Test.YtpifagclhhaniaaKHeap
namespace Go.Proofs.Ytpifagclhhaniaa
open Go.RowKit

theorem results_w3 {fn : Func} {p : Tmp} (h : fn.results = #[.cell p 106]) (tmps : Array Value) {W : World} {g : Nat} {t : TypeId} {v0 v1 v2 : Value} (hb : Bx W g t #[v0, v1, v2]) (hp : tmps.getD p undef = .pointer (some ⟨g, 0, none⟩)) :
    (results fn tmps).run Try.prog W = .ok (.agg #[v0, v1, v2]) W := by
  obtain ⟨c0, c1, c2, -⟩ := hb.c3
  rw [Array.getD_eq_getD_getElem?] at hp
  simp [results, h, hp, go_sem, c0, c1, c2]
set_option maxRecDepth 100000 in
set_option maxHeartbeats 2000000 in
theorem pWords_c (p f t : Nat) (w : World) (hp : p ≤ 4611686018427387904) (hf : f ≤ 4611686018427387904) (ht : t ≤ 4611686018427387904) :
    Calls Try.prog 75 #[phV p f t] w fun e w' => e = .returned (.agg #[.int .u64 (p : Int), .int .u64 (f : Int), .int .u64 (t : Int)]) ∧ Below w.heap.size w w' := by
  unfold phV
  have h1 : IntKind.u64.wrap (p : Int) = (p : Int) := IntWalk.u64_in _ (by omega)
  have h2 : IntKind.u64.wrap (f : Int) = (f : Int) := IntWalk.u64_in _ (by omega)
  have h3 : IntKind.u64.wrap (t : Int) = (t : Int) := IntWalk.u64_in _ (by omega)
  have b1 := Bx.new (w.alloc (.cells #[.int .i64 (p : Int), .int .i64 (f : Int), .int .i64 (t : Int)] 61)) 106 #[.int .u64 (p : Int), .int .u64 (f : Int), .int .u64 (t : Int)]
  have B1 := Lib.hid b1
  have HB := Lib.hid (((Below.refl w.heap.size w).alloc (Nat.le_refl _) (.cells #[.int .i64 (p : Int), .int .i64 (f : Int), .int .i64 (t : Int)] 61)).alloc (le_alloc_ (Nat.le_refl _)) (.cells #[.int .u64 (p : Int), .int .u64 (f : Int), .int .u64 (t : Int)] 106))
  clear b1
  go_enter Try.func75, Try.ntmps75
  go_wp2_with fail
  exact bodyPost_ret (v := .agg #[.int .u64 (p : Int), .int .u64 (f : Int), .int .u64 (t : Int)]) (results_w3 Try.results75 _ B1.out (by simp)) rfl ⟨rfl, HB.out⟩

theorem phE_len (p f t : Nat) : (phE p f t).length = 3 := rfl
theorem phE_take (p f t k : Nat) (hk : k < 3) : ∃ v : Nat, #[Value.int .u64 (p : Int), .int .u64 (f : Int), .int .u64 (t : Int)][k]? = some (.int .u64 (v : Int)) ∧ (phE p f t).take (k + 1) = (phE p f t).take k ++ [⟨16 + (k : Int), v⟩] := by
  match k, hk with
  | 0, _ => exact ⟨p, rfl, rfl⟩
  | 1, _ => exact ⟨f, rfl, rfl⟩
  | 2, _ => exact ⟨t, rfl, rfl⟩
theorem infoU64 : (Try.prog.info? 38).map (·.size) = some 1 := by kernel_rfl
theorem aggU64 (w : World) : (isAgg 38).run Try.prog w = .ok false w := by kernel_rfl
set_option maxRecDepth 100000 in
set_option maxHeartbeats 2000000 in
theorem pWrite_c (p f t : Nat) (w : World) (hp : p ≤ 4611686018427387904) (hf : f ≤ 4611686018427387904) (ht : t ≤ 4611686018427387904) (hok : phOk p f t = true) :
    Calls Try.prog 41 #[phV p f t] w fun e w' => (∃ A c, e = .returned (.tuple #[.slice A 3 c, .int .i64 0]) ∧ RdE w' w'.heap.size A (phE p f t) ∧ 3 ≤ c) ∧ Below w.heap.size w w' := by
  have HCK := Lib.hid (fun W => pCheck_c p f t W hp hf ht)
  have hpe : phErr p f t = 0 := by simp [phErr, hok]
  rw [hpe] at HCK
  have HWD := Lib.hid (fun W => pWords_c p f t W hp hf ht)
  have HTK := Lib.hid (fun k hk => phE_take p f t k hk)
  have HLN := Lib.hid (phE_len p f t)
  obtain ⟨E, hE⟩ : ∃ E, phE p f t = E := ⟨_, rfl⟩
  rw [hE] at HTK HLN ⊢
  unfold phV at HCK HWD ⊢
  obtain ⟨cs, hcs⟩ : ∃ cs, #[Value.int .u64 (p : Int), .int .u64 (f : Int), .int .u64 (t : Int)] = cs := ⟨_, rfl⟩
  rw [hcs] at HWD HTK
  have b1 := Bx.new w 61 #[.int .i64 (p : Int), .int .i64 (f : Int), .int .i64 (t : Int)]
  have HB0 := Lib.hid ((Below.refl w.heap.size w).alloc (Nat.le_refl _) (.cells #[.int .i64 (p : Int), .int .i64 (f : Int), .int .i64 (t : Int)] 61))
  have B0 := Lib.hid b1
  clear hpe hE hcs b1 hok
  obtain ⟨i0, hi, hz0, hz1, hz2⟩ := info_parts infoEntry
  have HI := Lib.hid hi
  have HZ0 := Lib.hid hz0
  have HZ1 := Lib.hid hz1
  have HZ2 := Lib.hid hz2
  clear hi hz0 hz1 hz2
  go_enter Try.func41, Try.ntmps41
  go_wp2_with fail
  refine (HCK.out _).mono ?_
  rintro e w1 ⟨rfl, hB1⟩
  have b1 := B0.out.up hB1 B0.out.lt
  have HB1 := Lib.hid (HB0.out.trans (hB1.mono HB0.out.size))
  obtain ⟨p0, p1, p2, -⟩ := b1.c3
  have hz1 := HB1.out.size
  clear hB1 b1
  go_wp2_with fail
  refine (HWD.out _).mono ?_
  rintro e w2 ⟨rfl, hB2⟩
  have HB2 := Lib.hid (HB1.out.trans (hB2.mono hz1))
  have hz2 := HB2.out.size
  clear hB2 p0 p1 p2
  go_wp2_with fail
  go_loopw [5, 15] (fun v i wr => ∃ k : Nat, k ≤ 3 ∧ i = .int .i64 k ∧ wr.ownsRow w2.heap.size 43 2 v (E.take k).length ((E.take k).flatMap En.cells) ∧ Below w2.heap.size w2 wr) (fun _ i _ => 3 - (intOf i).toNat)
  case atStart => exact ⟨0, Nat.zero_le _, rfl, World.ownsRow_nil _ _ _ _, Below.refl _ _⟩
  case round =>
    obtain ⟨k, hk, rfl, hown, hB⟩ := hrel
    have hz := hB.size
    by_cases hlt : k < 3
    · obtain ⟨x, hx, htk⟩ := HTK.out k hlt
      have HTS := Lib.hid htk
      have hrun := run_index_agg (P := Try.prog) Try.underlying106 (show Try.prog.info? 38 = some _ from rfl) rfl aggU64 hlt hx
      have hk1 : (k : Int) < 3 := by omega
      have hk0 : (0 : Int) ≤ (k : Int) := by omega
      obtain ⟨m, hm⟩ : ∃ m, E.take k = m := ⟨_, rfl⟩
      have hml : m.length ≤ 3 := by rw [← hm, List.length_take]; omega
      rw [hm] at hown HTS
      clear hm htk hx
      go_wp2_with (at_builtin; refine wpList_append_own _ rfl _ _ 39 rfl w2.heap.size 43 i0 _ 2 16 Try.underlying39 HI.out HZ0.out HZ1.out HZ2.out rfl (by decide) _ _ _ rfl (hown.alloc _) ⟨_, 0, none⟩ 1 1 [.int .i64 (16 + (k : Int)), .int .u64 (x : Int)] rfl rfl (news_new _ _ _) (by simp [Value.oneCell']) (by unfold maxLen; omega) (by omega) (by simp; omega) ?_; intro v1 w4 hown1 hg1 _; have hB2 := below_append hB hz hown hg1)
      go_roundw
      case rel => exact ⟨k + 1, by omega, by go_num, by rw [HTS.out, List.length_append, flat_snoc]; exact hown1, hB2⟩
      case measure => simp [intOf]; omega
    · obtain rfl : k = 3 := by omega
      have hl3 := HLN.out
      rw [List.take_of_length_le (by omega), hl3] at hown
      obtain ⟨A2, c2, rfl, hle, hrd2⟩ := slice_of hown
      have HRD2 := Lib.hid hrd2
      have HLE := Lib.hid hle
      clear hrd2 hown
      go_wp2_with fail
      go_ret2
      exact ⟨⟨A2, c2, rfl, HRD2.out, HLE.out⟩, HB2.out.trans (hB.mono hz2)⟩
end Go.Proofs.Ytpifagclhhaniaa
