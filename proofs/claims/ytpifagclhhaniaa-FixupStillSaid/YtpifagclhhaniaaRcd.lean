/- The addresses of the objects that are reached. -/
import Derived.Test.YtpifagclhhaniaaRch
namespace Go.Proofs.Ytpifagclhhaniaa
open Go.RowKit

def seenTo (S : List Bool) (k : Nat) : List Int := ((List.range k).filter fun a => S[a]?.getD false).map fun a : Nat => (a : Int)
theorem seenTo_succ (S : List Bool) (k : Nat) : seenTo S (k + 1) = seenTo S k ++ (if S[k]?.getD false = true then [(k : Int)] else []) := by
  unfold seenTo
  rw [List.range_succ, List.filter_append, List.map_append]
  congr 1
  cases hb : S[k]?.getD false <;> simp [hb]
theorem seenTo_len (S : List Bool) (k : Nat) : (seenTo S k).length ≤ k := by
  unfold seenTo
  rw [List.length_map]
  have := List.length_filter_le (fun a => S[a]?.getD false) (List.range k)
  rwa [List.length_range] at this
theorem seenL_len (ws : List Nat) : (seenL ws).length = ws.length := by simp [seenL]
theorem seenL_get {ws : List Nat} {a : Nat} (h : a < ws.length) : (seenL ws)[a]?.getD false = true ↔ Rch ws a := by
  unfold seenL
  rw [List.getElem?_map, List.getElem?_range h]
  simp
theorem rcOut_seen {ws : List Nat} (h : rcErr ws = 0) : rcOut ws = seenTo (seenL ws) ws.length := by
  unfold rcOut seenTo
  rw [if_pos h]
  congr 1
  refine List.filter_congr fun a ha => ?_
  have h2 := seenL_get (ws := ws) (List.mem_range.1 ha)
  cases hb : (seenL ws)[a]?.getD false
  · rw [hb] at h2
    simpa using h2
  · rw [hb] at h2
    simpa using h2
theorem rcOut_no {ws : List Nat} (h : rcErr ws ≠ 0) : rcOut ws = [] := by
  unfold rcOut
  rw [if_neg h]
theorem rcErr_heap {ws : List Nat} (h : hpErr ws ≠ 0) : rcErr ws = hpErr ws := by
  unfold rcErr
  rw [if_neg h]
def RcdRes (ws : List Nat) (e : Ending) (w' : World) : Prop := ∃ A c, e = .returned (.tuple #[.slice A (rcOut ws).length c, .int .i64 (rcErr ws)]) ∧ RdI w' w'.heap.size A (rcOut ws) ∧ (rcOut ws).length ≤ c
theorem rcdRes_no {ws : List Nat} {r : Int} {w' : World} (h1 : rcErr ws = r) (h0 : r ≠ 0) : RcdRes ws (.returned (.tuple #[.slice none 0 0, .int .i64 r])) w' := by
  have h2 := rcOut_no (ws := ws) (by rw [h1]; exact h0)
  exact ⟨none, 0, by rw [h1, h2]; rfl, by rw [h2]; exact Rd.nil_, by rw [h2]; exact Nat.le_refl _⟩

set_option maxRecDepth 100000 in
set_option maxHeartbeats 4000000 in
theorem mReached_c (A : Option Addr) (ws : List Nat) (c n : Nat) (w : World) (hn : ws.length = n) (hm : n ≤ 9223372036854775807) (hr : RdW w w.heap.size A ws) (ho : ∀ x ∈ ws, x < 18446744073709551616) :
    Calls Try.prog 17 #[.slice A n c] w fun e w' => RcdRes ws e w' ∧ Below w.heap.size w w' := by
  subst hn
  have HR := Lib.hid hr
  have HC := Lib.hid (mHeap_c A ws c ws.length w rfl hm hr ho)
  unfold MhRes at HC
  have HO := Lib.hid ho
  clear hr ho
  by_cases h0 : hpErr ws = 0
  · obtain ⟨l, hl⟩ : ∃ l, hpOut ws = l := ⟨_, rfl⟩
    have HRC := Lib.hid (fun L cl W (h : RdW W W.heap.size A ws) (h2 : RdB W W.heap.size L l) => mReach_c A L ws c cl ws.length l W rfl hm h0 hl h h2 HO.out)
    unfold RcRes at HRC
    rw [h0, hl] at HC
    have hbd := fr_bd ws (hpErr_zero h0).1
    have hlen := hbd.2.1
    have hlen1 := hbd.1
    by_cases hz : rcErr ws = 0
    · have HV := Lib.hid (And.intro hz (rcOut_seen hz))
      have HSL := Lib.hid (seenL_len ws)
      obtain ⟨i0, hi, hz0, hz1, hz2⟩ := info_parts infoInt
      have HI := Lib.hid hi
      have HZ0 := Lib.hid hz0
      have HZ1 := Lib.hid hz1
      have HZ2 := Lib.hid hz2
      clear hi hz0 hz1 hz2
      clear h0 hl hbd hz
      generalize seenL ws = S at HRC HV HSL
      have HSU := Lib.hid (fun k => seenTo_succ S k)
      have HSM := Lib.hid (fun k => seenTo_len S k)
      go_enter Try.func17, Try.ntmps17
      go_wp2_with fail
      refine HC.out.mono ?_
      rintro e w1 ⟨⟨A1, c1, rfl, hrd, -⟩, hB1⟩
      have HB1 := Lib.hid hB1
      have HR1 := Lib.hid (HR.out.up hB1 hB1.size)
      have HRD := Lib.hid hrd
      clear hrd hB1
      go_wp2_with fail
      refine (HRC.out A1 _ w1 HR1.out HRD.out).mono ?_
      rintro e wE ⟨⟨-, g, c2, rfl, hownS⟩ | ⟨h9, -⟩, hB2⟩
      · have HBE := Lib.hid (HB1.out.trans (hB2.mono HB1.out.size))
        have HS := Lib.hid hownS
        have hgE := (hownS.lt g rfl).2
        clear hownS hB2
        go_wp2_with fail
        go_loopw [7, 29] (fun v i wr => ∃ k : Nat, k ≤ ws.length ∧ i = .int .i64 k ∧ wr.ownsRow wE.heap.size 3 1 v (seenTo S k).length ((seenTo S k).flatMap intCells) ∧ Below wE.heap.size wE wr) (fun _ i _ => ws.length - (intOf i).toNat)
        case atStart => exact ⟨0, Nat.zero_le _, rfl, World.ownsRow_nil _ _ _ _, Below.refl _ _⟩
        case round =>
          obtain ⟨k, hk, rfl, hown, hB⟩ := hrel
          have hz := hB.size
          by_cases hlt : k < ws.length
          · have c0 := ((own_below HS.out hB (Nat.le_refl _)).cellAt k (by omega)).trans (bools_get S k (by rw [HSL.out]; exact hlt))
            have HSN := Lib.hid (HSU.out k)
            have hml := HSM.out k
            obtain ⟨m, hm2⟩ : ∃ m, seenTo S k = m := ⟨_, rfl⟩
            rw [hm2] at hown HSN hml
            obtain ⟨b, hb⟩ : ∃ b, S[k]?.getD false = b := ⟨_, rfl⟩
            rw [hb] at c0 HSN
            have hlm : (k : Int) < (ws.length : Int) := by omega
            have hl0 : (0 : Int) ≤ (k : Int) := by omega
            clear hm2 hb
            cases b
            · have HS2 := Lib.hid (show seenTo S (k + 1) = m by rw [HSN.out]; simp)
              clear HSN
              go_wp2_with fail
              go_roundw
              case rel => exact ⟨k + 1, by omega, by go_num, by rw [HS2.out]; exact hown, hB⟩
              case measure => simp [intOf]; omega
            · have HS2 := Lib.hid (show seenTo S (k + 1) = m ++ [(k : Int)] by rw [HSN.out]; rfl)
              clear HSN
              go_wp2_with (at_builtin; refine wpList_append_own _ rfl _ _ 25 rfl wE.heap.size 3 i0 _ 1 8 Try.underlying25 HI.out HZ0.out HZ1.out HZ2.out rfl (by decide) _ _ _ rfl (hown.alloc _) ⟨_, 0, none⟩ 1 1 [.int .i64 (k : Int)] rfl rfl (news_new _ _ _) (by simp [Value.oneCell']) (by unfold maxLen; omega) (by omega) (by simp; omega) ?_; intro v1 w2 hown1 hg1 _; have hB2 := below_append hB hz hown hg1)
              go_roundw
              case rel => exact ⟨k + 1, by omega, by go_num, by rw [HS2.out, List.length_append, flat_snoc]; exact hown1, hB2⟩
              case measure => simp [intOf]; omega
          · obtain rfl : k = ws.length := by omega
            obtain ⟨A2, c3, rfl, hle, hrd2⟩ := slice_of hown
            have HRD2 := Lib.hid hrd2
            have HLE := Lib.hid hle
            clear hrd2 hown hle
            go_wp2_with fail
            go_ret2
            exact ⟨⟨A2, c3, by rw [HV.out.1, HV.out.2]; rfl, by rw [HV.out.2]; exact HRD2.out, by rw [HV.out.2]; exact HLE.out⟩, HBE.out.trans (hB.mono HBE.out.size)⟩
      · exfalso
        rw [HV.out.1] at h9
        exact absurd h9 (by decide)
    · have HZ := Lib.hid hz
      clear h0 hl hbd hz
      go_enter Try.func17, Try.ntmps17
      go_wp2_with fail
      refine HC.out.mono ?_
      rintro e w1 ⟨⟨A1, c1, rfl, hrd, -⟩, hB1⟩
      have HB1 := Lib.hid hB1
      have HR1 := Lib.hid (HR.out.up hB1 hB1.size)
      have HRD := Lib.hid hrd
      clear hrd hB1
      go_wp2_with fail
      refine (HRC.out A1 _ w1 HR1.out HRD.out).mono ?_
      rintro e wE ⟨⟨h9, -⟩ | ⟨h9, rfl⟩, hB2⟩
      · exact absurd h9 HZ.out
      · have hbe := HB1.out.trans (hB2.mono HB1.out.size)
        have H9 := Lib.hid h9
        clear h9
        go_wp2_with fail
        go_ret2
        exact ⟨rcdRes_no H9.out (by decide), hbe⟩
  · have HZ := Lib.hid (And.intro (rcErr_heap h0) h0)
    obtain ⟨r, hr⟩ : ∃ r, hpErr ws = r := ⟨_, rfl⟩
    rw [hr] at HC HZ
    have hn1 : (r != 0) = true := by rw [bne_iff_ne, ← hr]; exact h0
    obtain ⟨q, hq⟩ : ∃ q, (hpOut ws).length = q := ⟨_, rfl⟩
    rw [hq] at HC
    clear h0 hr hq
    go_enter Try.func17, Try.ntmps17
    go_wp2_with fail
    refine HC.out.mono ?_
    rintro e w1 ⟨⟨A1, c1, rfl, -, -⟩, hB1⟩
    go_wp2_with fail
    go_ret2
    exact ⟨rcdRes_no HZ.out.1 HZ.out.2, hB1⟩
end Go.Proofs.Ytpifagclhhaniaa
