/- Entries of a change: Check of the program and of the reference. -/
import Derived.Test.YtiaddipbjigaiaaEnt
namespace Go.Proofs.Ytiaddipbjigaiaa
open Go.RowKit Go.Maps

theorem addrs_bd {l : List En} (ho : ∀ e ∈ l, e.ok) {k : Nat} (hk : k < l.length) : -9223372036854775808 ≤ (addrs l)[k]?.getD 0 ∧ (addrs l)[k]?.getD 0 ≤ 9223372036854775807 := by
  rw [addrs_get l k hk]
  have := ho l[k] (List.getElem_mem hk)
  exact ⟨this.1, this.2.1⟩

set_option maxRecDepth 100000 in
set_option maxHeartbeats 1600000 in
theorem entCheck_c (A : Option Addr) (l : List En) (c n : Nat) (ws : Int) (w : World) (hn : l.length = n) (hm : n ≤ 9223372036854775807) (hr : RdE w w.heap.size A l) (ho : ∀ e ∈ l, e.ok) :
    Calls Try.prog 50 #[.slice A n c, .int .i64 ws] w fun e w' => e = .returned (.int .i64 (entErr (addrs l) ws)) ∧ Below w.heap.size w w' := by
  subst hn
  have HR := Lib.hid hr
  have HO := Lib.hid ho
  clear hr ho
  cases hs : sizeOk ws
  · have HE := Lib.hid (entErr_arg (ad := addrs l) hs)
    have HZ := Lib.hid (szErr_no hs)
    clear hs
    go_enter Try.func50, Try.ntmps50
    go_wp2_with fail
    refine (entSize_c ws w).mono ?_
    rintro e w1 ⟨rfl, rfl⟩
    rw [HZ.out]
    go_wp2_with fail
    go_ret
    exact ⟨by rw [HE.out]; rfl, Below.refl _ _⟩
  · have HS := Lib.hid hs
    have HZ := Lib.hid (szErr_ok hs)
    clear hs
    by_cases h32 : 32 < l.length
    · have HE := Lib.hid (entErr_many (ad := addrs l) HS.out (by rw [addrs_len]; exact h32))
      go_enter Try.func50, Try.ntmps50
      go_wp2_with fail
      refine (entSize_c ws w).mono ?_
      rintro e w1 ⟨rfl, rfl⟩
      rw [HZ.out]
      go_wp2_with fail
      go_ret
      exact ⟨by rw [HE.out]; rfl, Below.refl _ _⟩
    · have hle : l.length ≤ 32 := by omega
      have hgt : decide ((32 : Int) < (l.length : Int)) = false := by rw [decide_eq_false_iff_not]; omega
      clear h32
      go_enter Try.func50, Try.ntmps50
      go_wp2_with fail
      refine (entSize_c ws w).mono ?_
      rintro e w1 ⟨rfl, rfl⟩
      rw [HZ.out]
      go_wp2_with fail
      go_loopw [19] (fun i wr => ∃ k : Nat, k ≤ l.length ∧ i = .int .i64 k ∧ entPre (addrs l) ws k = true ∧ SetSt w.heap.size wr w.heap.size (addrs l) k ∧ Below w.heap.size w wr) (fun i _ => l.length - (intOf i).toNat)
      case atStart => exact ⟨0, Nat.zero_le _, rfl, rfl, .inl ⟨rfl, Bx.new w _ _⟩, (Below.refl _ _).alloc (Nat.le_refl _) _⟩
      case round =>
        obtain ⟨k, hk, rfl, hok, hst, hB⟩ := hrel
        have hz := hB.size
        by_cases hlt : k < l.length
        · obtain ⟨b, off, rfl, hb, h0, h1⟩ := HR.out.at_ hlt
          replace h0 := (hB.cell (p := ⟨b, off + k * 2, none⟩) hb).trans h0
          replace h1 := (hB.cell (p := ⟨b, off + k * 2 + 1, none⟩) hb).trans h1
          have hbd := addrs_bd HO.out hlt
          rw [← addrs_get l k hlt] at h0
          obtain ⟨x, hx⟩ : ∃ x, (addrs l)[k]?.getD 0 = x := ⟨_, rfl⟩
          rw [hx] at h0 hbd
          have HOK := Lib.hid hok
          have HX := Lib.hid hx
          have HBD := Lib.hid hbd
          have ik1 : (0 : Int) ≤ (k : Int) := by omega
          have ik2 : (k : Int) < (l.length : Int) := by omega
          have hst2 : SetSt w.heap.size (wr.alloc (.cells #[.int .i64 x, .int .u64 (l[k].v : Int)] 37)) w.heap.size (addrs l) k := by
            rcases hst with ⟨h1, h2⟩ | ⟨m, h1, h2, h3⟩
            · exact .inl ⟨h1, h2.alloc _⟩
            · exact .inr ⟨m, h1, h2.alloc _, h3.alloc _⟩
          have HST := Lib.hid hst2
          clear hok hx hst hst2 hbd
          go_wp2_with fail
          refine (entMay_c x ws _).mono ?_
          rintro e w1 ⟨rfl, rfl⟩
          cases hmb : mayB x ws
          · have HBAD := Lib.hid (entErr_bad HS.out (by rw [addrs_len]; exact hle) (k := k + 1) (entPre_no (by rw [HX.out]; exact hmb)) (by rw [addrs_len]; exact hlt))
            clear hmb
            go_wp2_with fail
            go_ret
            exact ⟨by rw [HBAD.out]; rfl, hB.alloc hz _⟩
          · have HMB := Lib.hid hmb
            clear hmb
            go_wp2_with fail
            refine (add_c w.heap.size w.heap.size (addrs l) k x _ HX.out HBD.out (by omega) (Nat.le_refl _) HST.out).mono ?_
            rintro e w1 ⟨rfl, hst1, hB1, -⟩
            have hB2 := (hB.alloc hz (.cells #[.int .i64 x, .int .u64 (l[k].v : Int)] 37)).trans hB1
            cases hse : addrSeen (addrs l) x k
            · have HREL := Lib.hid (entPre_yes HOK.out (by rw [HX.out]; exact HMB.out) (by rw [HX.out]; exact hse))
              clear hse
              have HST1 := Lib.hid hst1
              clear hst1
              go_wp2_with fail
              go_roundw
              case rel => exact ⟨k + 1, by omega, by go_num, HREL.out, HST1.out, hB2⟩
              case measure => simp [intOf]; omega
            · have HBAD := Lib.hid (entErr_bad HS.out (by rw [addrs_len]; exact hle) (k := k + 1) (entPre_twice (by rw [HX.out]; exact hse)) (by rw [addrs_len]; exact hlt))
              clear hse hst1
              go_wp2_with fail
              go_ret
              exact ⟨by rw [HBAD.out]; rfl, hB2⟩
        · obtain rfl : k = l.length := by omega
          have HE := Lib.hid (entErr_ok HS.out (by rw [addrs_len]; exact hle) (by rw [addrs_len]; exact hok))
          clear hst hok
          go_wp2_with fail
          go_ret
          exact ⟨by rw [HE.out]; rfl, hB⟩

set_option maxRecDepth 100000 in
set_option maxHeartbeats 1600000 in
theorem refCheck08_c (A : Option Addr) (l : List En) (c n : Nat) (ws : Int) (w : World) (hn : l.length = n) (hm : n ≤ 9223372036854775807) (hr : RdE w w.heap.size A l) :
    Calls Try.prog 33 #[.slice A n c, .int .i64 ws] w fun e w' => e = .returned (.int .i64 (entErr (addrs l) ws)) ∧ Below w.heap.size w w' := by
  subst hn
  have HR := Lib.hid hr
  clear hr
  cases hs : sizeOk ws
  · have HE := Lib.hid (entErr_arg (ad := addrs l) hs)
    have HS := Lib.hid hs
    clear hs
    go_enter Try.func33, Try.ntmps33
    go_wp2_with fail
    refine (refSize_c ws w).mono ?_
    rintro e w1 ⟨rfl, rfl⟩
    rw [HS.out]
    go_wp2_with fail
    go_ret
    exact ⟨by rw [HE.out]; rfl, Below.refl _ _⟩
  · have HS := Lib.hid hs
    clear hs
    by_cases h32 : 32 < l.length
    · have HE := Lib.hid (entErr_many (ad := addrs l) HS.out (by rw [addrs_len]; exact h32))
      go_enter Try.func33, Try.ntmps33
      go_wp2_with fail
      refine (refSize_c ws w).mono ?_
      rintro e w1 ⟨rfl, rfl⟩
      rw [HS.out]
      go_wp2_with fail
      go_ret
      exact ⟨by rw [HE.out]; rfl, Below.refl _ _⟩
    · have hle : l.length ≤ 32 := by omega
      have hgt : decide ((32 : Int) < (l.length : Int)) = false := by rw [decide_eq_false_iff_not]; omega
      clear h32
      go_enter Try.func33, Try.ntmps33
      go_wp2_with fail
      refine (refSize_c ws w).mono ?_
      rintro e w1 ⟨rfl, rfl⟩
      rw [HS.out]
      go_wp2_with fail
      go_loopw [5] (fun i wr => ∃ k : Nat, k ≤ l.length ∧ i = .int .i64 k ∧ entPre (addrs l) ws k = true ∧ Below w.heap.size w wr) (fun i _ => l.length - (intOf i).toNat)
      case atStart => exact ⟨0, Nat.zero_le _, rfl, rfl, Below.refl _ _⟩
      case round =>
        obtain ⟨k, hk, rfl, hok, hB⟩ := hrel
        have hz := hB.size
        by_cases hlt : k < l.length
        · obtain ⟨b, off, rfl, hb, h0, -⟩ := HR.out.at_ hlt
          replace h0 := (hB.cell (p := ⟨b, off + k * 2, none⟩) hb).trans h0
          rw [← addrs_get l k hlt] at h0
          obtain ⟨x, hx⟩ : ∃ x, (addrs l)[k]?.getD 0 = x := ⟨_, rfl⟩
          rw [hx] at h0
          have HOK := Lib.hid hok
          have HX := Lib.hid hx
          have ik1 : (0 : Int) ≤ (k : Int) := by omega
          have ik2 : (k : Int) < (l.length : Int) := by omega
          clear hok hx
          go_wp2_with fail
          refine (refFree_c x ws _).mono ?_
          rintro e w1 ⟨rfl, rfl⟩
          cases hmb : mayB x ws
          · have HBAD := Lib.hid (entErr_bad HS.out (by rw [addrs_len]; exact hle) (k := k + 1) (entPre_no (by rw [HX.out]; exact hmb)) (by rw [addrs_len]; exact hlt))
            clear hmb
            go_wp2_with fail
            go_ret
            exact ⟨by rw [HBAD.out]; rfl, hB⟩
          · have HMB := Lib.hid hmb
            clear hmb
            obtain ⟨wo, hwo⟩ : ∃ wo, wo = wr := ⟨_, rfl⟩
            subst hwo
            go_wp2_with fail
            go_loopw [6] (fun j wr => ∃ i : Nat, i ≤ k ∧ j = .int .i64 i ∧ addrSeen (addrs l) x i = false ∧ Below w.heap.size w wr) (fun j _ => k - (intOf j).toNat)
            case atStart => exact ⟨0, Nat.zero_le _, rfl, rfl, hB⟩
            case round =>
              obtain ⟨i, hi, rfl, hns, hB2⟩ := hrel
              have HNS := Lib.hid hns
              clear hns
              by_cases hli : i < k
              · obtain ⟨b', off', hA, hb', g0, -⟩ := HR.out.at_ (show i < l.length by omega)
                cases hA
                obtain ⟨b'', off'', hA2, hb'', f0, -⟩ := HR.out.at_ hlt
                cases hA2
                replace g0 := (hB2.cell (p := ⟨b, off + i * 2, none⟩) hb).trans g0
                replace f0 := (hB2.cell (p := ⟨b, off + k * 2, none⟩) hb).trans f0
                rw [← addrs_get l i (by omega)] at g0
                rw [← addrs_get l k hlt, HX.out] at f0
                obtain ⟨y, hy⟩ : ∃ y, (addrs l)[i]?.getD 0 = y := ⟨_, rfl⟩
                rw [hy] at g0
                have HY := Lib.hid hy
                clear hy
                have ji1 : (0 : Int) ≤ (i : Int) := by omega
                have ji2 : (i : Int) < (l.length : Int) := by omega
                by_cases hxy : y = x
                · have hq : (y == x) = true := by rw [beq_iff_eq]; exact hxy
                  have hse : addrSeen (addrs l) x k = true := addrSeen_mono (j := i + 1) (by simp [addrSeen, HY.out, hxy]) (by omega)
                  have HBAD := Lib.hid (entErr_bad HS.out (by rw [addrs_len]; exact hle) (k := k + 1) (entPre_twice (by rw [HX.out]; exact hse)) (by rw [addrs_len]; exact hlt))
                  clear hxy hse
                  go_wp2_with fail
                  go_quiet (fail)
                  go_wp2_with fail
                  go_ret
                  exact ⟨by rw [HBAD.out]; rfl, below_drewN hB2 _⟩
                · have hq : (y == x) = false := by rw [beq_eq_false_iff_ne]; exact hxy
                  have HSE := Lib.hid (show addrSeen (addrs l) x (i + 1) = false by simp [addrSeen, HNS.out, HY.out, hxy])
                  clear hxy
                  go_wp2_with fail
                  go_quiet (fail)
                  go_wp2_with fail
                  go_roundw
                  case rel => exact ⟨i + 1, by omega, by go_num, HSE.out, below_drewN hB2 _⟩
                  case measure => simp [intOf]; omega
              · obtain rfl : i = k := by omega
                have HREL := Lib.hid (entPre_yes HOK.out (by rw [HX.out]; exact HMB.out) (by rw [HX.out]; exact HNS.out))
                go_wp2_with fail
                go_roundw
                case rel => exact ⟨i + 1, by omega, by go_num, HREL.out, hB2⟩
                case measure => simp [intOf]; omega
        · obtain rfl : k = l.length := by omega
          have HE := Lib.hid (entErr_ok HS.out (by rw [addrs_len]; exact hle) (by rw [addrs_len]; exact hok))
          clear hok
          go_wp2_with fail
          go_ret
          exact ⟨by rw [HE.out]; rfl, hB⟩
end Go.Proofs.Ytiaddipbjigaiaa
