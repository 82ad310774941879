/- All root slots: what the program returns. -/
import Derived.Test.YtpifagclhhaniaaHnd
namespace Go.Proofs.Ytpifagclhhaniaa
open Go.RowKit

theorem slArr_cell (l : List Sl) {j : Nat} (h : j < l.length * 3) : ∃ u, (slArr l)[j]? = some u := by
  have := slArr_size l
  exact ⟨_, Array.getElem?_eq_getElem (by omega)⟩
theorem results_tab {fn : Func} {p q : Tmp} (h : fn.results = #[.cell p 86, .tmp q]) (tmps : Array Value) {W : World} {g : Nat} {t : TypeId} {cs : Array Value} {u : Value} (hb : Bx W g t cs) (hs : cs.size = 48) (hp : tmps.getD p undef = .pointer (some ⟨g, 0, none⟩)) (hq : tmps.getD q undef = u) :
    (results fn tmps).run Try.prog W = .ok (.tuple #[.agg cs, u]) W := by
  have hp' : tmps[p]?.getD undef = .pointer (some ⟨g, 0, none⟩) := by simpa using hp
  have hq' : tmps[q]?.getD undef = u := by simpa using hq
  have hi : (Try.prog.info? 86).map (·.size) = some cs.size := by rw [hs]; exact infoTab
  have hl := run_loadVar_row W g t 86 cs (0, 0) _ hb Try.underlying86 rfl hi
  simp [results, h, hp', hq', asAddr, hl]
/-- The table, as it is returned. -/
def opV (ws : List Nat) : Value := .agg (if hdlErr ws = 0 then slArr (slL ws) else zero48)
theorem op_ok {ws : List Nat} (h : hdlErr ws = 0) : opV ws = .agg (slArr (slL ws)) := by simp [opV, h]
theorem op_no {ws : List Nat} (h : hdlErr ws ≠ 0) : opV ws = .agg zero48 := by simp [opV, h]

set_option maxRecDepth 100000 in
set_option maxHeartbeats 4000000 in
theorem hOpen_c (A : Option Addr) (ws : List Nat) (c n : Nat) (w : World) (hn : ws.length = n) (hm : n ≤ 9223372036854775807) (hr : RdW w w.heap.size A ws) (ho : ∀ x ∈ ws, x < 18446744073709551616) :
    Calls Try.prog 56 #[.slice A n c] w fun e w' => e = .returned (.tuple #[opV ws, .int .i64 (hdlErr ws)]) ∧ Below w.heap.size w w' := by
  subst hn
  have HR := Lib.hid hr
  have HLT : Hid (∀ k, wd ws k < 18446744073709551616) := Lib.hid (wd_lt ho)
  have hzv := zero48v
  have hbv := build48
  have hz8 := zero48_size
  have hz1 := Lib.hid zero48_one
  have hit := infoTab
  have b0 := Bx.new w 86 zero48
  have hb0 := (Below.refl w.heap.size w).alloc (Nat.le_refl _) (.cells zero48 86)
  clear hr ho
  cases hs : sizeOk (ws.length : Int)
  · have HI := Lib.hid (imgErr_no hs)
    have he := hdlErr_img hs
    have HV := Lib.hid (And.intro he (op_no (by rw [he]; omega)))
    have HB0 := Lib.hid b0
    have HBB := Lib.hid hb0
    rw [← hz8] at hit
    have hi48 := hit
    clear hs he b0 hb0 hit
    go_enter Try.func56, Try.ntmps56
    go_wp2_with fail
    refine (imCheck_c A ws.length c _ hm).mono ?_
    rintro e w1 ⟨rfl, rfl⟩
    rw [HI.out]
    go_wp2_with (first
      | ((with_reducible refine at_store 86 (.tmp 2) _ ?_); refine wpList_store_agg rfl _ _ _ rfl w.heap.size 86 zero48 zero48 (by rfl) (by rfl) HB0.out rfl hi48 hz1.out ?_; intro w3 hb3 ha3; have HB3 := Lib.hid hb3; have HA3 := Lib.hid ha3; clear hb3 ha3))
    exact bodyPost_ret (v := .tuple #[.agg zero48, .int .i64 8]) (results_tab Try.results56 _ HB3.out hz8 rfl rfl) rfl ⟨by rw [HV.out.1, HV.out.2], HA3.out.below HBB.out (Nat.le_refl _)⟩
  · have HI := Lib.hid (imgErr_ok hs)
    obtain ⟨hb1, hb2, -⟩ := fr_bd ws hs
    have HS := Lib.hid hs
    obtain ⟨b, off, rfl, hb, -⟩ := RdW.at_ HR.out (show 0 < ws.length by omega)
    have HCL : Hid (∀ k (h : k < ws.length) (W : World), Below w.heap.size w W → W.cell? ⟨b, off + k, none⟩ = some (.int .u64 (wd ws k : Int))) := Lib.hid fun k h W hB => by
      obtain ⟨b', off', e', -, h0⟩ := RdW.at_ (Rd.below HR.out hB) h
      cases e'
      rw [← wd_get] at h0
      exact h0
    have HB0 := Lib.hid b0
    have HBB := Lib.hid hb0
    rw [← hz8] at hit
    have hi48 := hit
    clear hs b0 hb0 hit
    go_enter Try.func56, Try.ntmps56
    go_wp2_with fail
    refine (imCheck_c _ ws.length c _ hm).mono ?_
    rintro e w1 ⟨rfl, rfl⟩
    rw [HI.out]
    go_wp2_with fail
    go_loopw [15] (fun i wr => ∃ k : Nat, k ≤ 16 ∧ i = .int .i64 k ∧ Hid (slsTo ws k) ∧ Bx wr w.heap.size 86 zero48 ∧ Bx wr (w.heap.size + 1) 86 (slArr (slPre ws k)) ∧ Below w.heap.size w wr) (fun i _ => 16 - (intOf i).toNat)
    case atStart =>
      have x1 := Bx.new (w.alloc (.cells zero48 86)) 86 zero48
      rw [World.size_alloc] at x1
      exact ⟨0, Nat.zero_le _, rfl, slsTo_zero ws, HB0.out.alloc _, by rw [slPre_zero]; exact x1, HBB.out.alloc (by simp) _⟩
    case round =>
      obtain ⟨k, hk, rfl, HOK, q0, q1, hB⟩ := hrel
      have hz := hB.size
      have Q0 := Lib.hid q0
      have Q1 := Lib.hid q1
      by_cases hlt : k < 16
      · have h0 := HCL.out (112 + k) (by omega) _ hB
        have HSP := Lib.hid (fun W => hSplit_c (wd ws (112 + k)) W (HLT.out _))
        have HSU := Lib.hid (fun h => slsTo_succ HOK.out h)
        have HBD := Lib.hid (fun h => hdlErr_bad HS.out (slsOk_bad hlt h))
        have hsa : slRaw (wd ws (112 + k)) = slAt ws k := rfl
        have HPS := Lib.hid (slPre_step ws k hlt)
        have hsz := slPre_len ws k
        obtain ⟨u0, hu0⟩ := slArr_cell (slPre ws k) (j := k * 3) (by omega)
        obtain ⟨u1, hu1⟩ := slArr_cell (slPre ws k) (j := k * 3 + 1) (by omega)
        obtain ⟨u2, hu2⟩ := slArr_cell (slPre ws k) (j := k * 3 + 2) (by omega)
        have i1 : (0 : Int) ≤ 112 + (k : Int) := by omega
        have i2 : (112 : Int) + (k : Int) < (ws.length : Int) := by omega
        have n1 : ((112 : Int) + (k : Int)).toNat = 112 + k := by omega
        have hk1 : (k : Int) < 16 := by omega
        have hk0 : (0 : Int) ≤ (k : Int) := by omega
        obtain ⟨x, hx⟩ : ∃ x, wd ws (112 + k) = x := ⟨_, rfl⟩
        rw [hx] at h0 HSP hsa
        cases hso : slOk (slAt ws k)
        · have he := HBD.out hso
          have HV := Lib.hid (And.intro he (op_no (by rw [he]; omega)))
          rw [← hsa] at hso
          rw [(sl_no hso).1, (sl_no hso).2] at HSP
          unfold Sl.val at HSP
          dsimp only at HSP
          clear hx hso he hsa HBD HSU q0 q1 hu0 hu1 hu2
          go_wp2_with fail
          refine (HSP.out _).mono ?_
          rintro e w3 ⟨rfl, hB3⟩
          have q3 := Lib.hid (Q0.out.up hB3 Q0.out.lt)
          have HB3 := Lib.hid (hB.trans (hB3.mono hz))
          clear hB3
          go_wp2_with (first
            | ((with_reducible refine at_store 86 (.tmp 2) _ ?_); refine wpList_store_agg rfl _ _ _ rfl w.heap.size 86 zero48 zero48 (by rfl) (by rfl) (q3.out.alloc _) rfl hi48 hz1.out ?_; intro w4 hb4 ha4; have HB4 := Lib.hid hb4; have HA4 := Lib.hid ha4; clear hb4 ha4))
          exact bodyPost_ret (v := .tuple #[.agg zero48, .int .i64 50]) (results_tab Try.results56 _ HB4.out hz8 rfl rfl) rfl ⟨by rw [HV.out.1, HV.out.2], HA4.out.below (HB3.out.alloc HB3.out.size _) (Nat.le_refl _)⟩
        · have HSU2 := Lib.hid (HSU.out hso)
          rw [← hsa] at hso
          rw [(sl_ok hso).1, (sl_ok hso).2, hsa] at HSP
          have hset := slArr_set (slPre ws k) k (slAt ws k)
          rw [← HPS.out] at hset
          have HSET := Lib.hid hset
          obtain ⟨s, hs2⟩ : ∃ s, slAt ws k = s := ⟨_, rfl⟩
          rw [hs2] at HSP HSET
          obtain ⟨sg, su, sa⟩ := s
          unfold Sl.val at HSP
          dsimp only at HSP HSET
          clear hx hso hsa hs2 hset HBD HSU q0 q1
          go_wp2_with fail
          refine (HSP.out _).mono ?_
          rintro e w3 ⟨rfl, hB3⟩
          have q3 := Q1.out.up hB3 Q1.out.lt
          have Q3 := Lib.hid q3
          have Q4 := Lib.hid (Q0.out.up hB3 Q0.out.lt)
          have hg3 := q3.lt
          have d0 := (q3.cell (k * 3)).trans hu0
          have d1 := (q3.cell (k * 3 + 1)).trans hu1
          have d2 := (q3.cell (k * 3 + 2)).trans hu2
          have f0 := q3.frozen (k * 3)
          have f1 := q3.frozen (k * 3 + 1)
          have f2 := q3.frozen (k * 3 + 2)
          have HB3 := Lib.hid (hB.trans (hB3.mono hz))
          clear hB3 q3 hu0 hu1 hu2
          go_wp2_with fail
          go_roundw
          case rel =>
            refine ⟨k + 1, by omega, by go_num, HSU2.out, (((Q4.out.far (by simp) _).far (by simp) _).far (by simp) _).alloc _, ?_, (((HB3.out.setCell (by simp) _).setCell (by simp) _).setCell (by simp) _).alloc (by simpa using HB3.out.size) _⟩
            rw [← HSET.out]
            exact (((Q3.out.set_ (k * 3) _).set_ (k * 3 + 1) _).set_ (k * 3 + 2) _).alloc _
          case measure => simp [intOf]; omega
      · obtain rfl : k = 16 := by omega
        have hok := hdlErr_ok HS.out ((slsOk_iff ws).2 HOK.out)
        have HV := Lib.hid (And.intro hok.1 (op_ok hok.1))
        rw [slPre_all] at q1
        have hs48 : (slArr (slL ws)).size = 48 := by rw [slArr_size, slL_len]
        obtain ⟨cs, hcs⟩ : ∃ cs, slArr (slL ws) = cs := ⟨_, rfl⟩
        have h1 : cs.all (·.oneCell') = true := by rw [← hcs]; exact slArr_one _
        have H1 := Lib.hid h1
        rw [hcs] at q1 HV hs48
        have Q5 := Lib.hid q1
        have hic : (Try.prog.info? 86).map (·.size) = some cs.size := by rw [hs48]; exact infoTab
        have hss : cs.size = zero48.size := by rw [hs48, hz8]
        clear q0 q1 hok hcs h1
        go_wp2_with (first
          | ((with_reducible refine at_load 86 (.tmp 5) ?_); refine wpList_load_row rfl _ _ rfl (w.heap.size + 1) (by rfl) 86 cs (0, 0) _ Q5.out Try.underlying86 (by rfl) hic ?_)
          | ((with_reducible refine at_store 86 (.tmp 2) _ ?_); refine wpList_store_agg rfl _ _ _ rfl w.heap.size 86 zero48 cs (by rfl) (by rfl) Q0.out hss hic H1.out ?_; intro w4 hb4 ha4; have HB4 := Lib.hid hb4; have HA4 := Lib.hid ha4; clear hb4 ha4))
        exact bodyPost_ret (v := .tuple #[.agg cs, .int .i64 0]) (results_tab Try.results56 _ HB4.out hs48 rfl rfl) rfl ⟨by rw [HV.out.1, HV.out.2], HA4.out.below hB (Nat.le_refl _)⟩

theorem Rd.of_box {w : World} {g B : Nat} {t : TypeId} {cs : Array Value} (h : Bx w g t cs) (hg : g < B) : Rd w B (some ⟨g, 0, none⟩) cs.toList := fun _ =>
  ⟨g, 0, rfl, hg, fun j hj => by
    rw [Nat.zero_add, h.cell j]
    simp⟩
def RdS (w : World) (B : Nat) (A : Option Addr) (l : List Sl) : Prop := Rd w B A (l.flatMap Sl.cells)
theorem RdS.at_ {w : World} {B : Nat} {A : Option Addr} {l : List Sl} (h : RdS w B A l) {k : Nat} (hk : k < l.length) :
    ∃ b off, A = some ⟨b, off, none⟩ ∧ b < B ∧ w.cell? ⟨b, off + k * 3, none⟩ = some (.int .i64 l[k].gen) ∧ w.cell? ⟨b, off + k * 3 + 1, none⟩ = some (.bool l[k].used) ∧ w.cell? ⟨b, off + k * 3 + 2, none⟩ = some (.int .i64 l[k].at_) := by
  obtain ⟨b, off, e, hb, hc⟩ := Rd.at_flat Sl.len h (by omega) hk
  exact ⟨b, off, e, hb, hc 0 (by omega), hc 1 (by omega), hc 2 (by omega)⟩
def HaRes (ws : List Nat) (e : Ending) (w' : World) : Prop := ∃ A c, e = .returned (.tuple #[.slice A (hdlOut ws).length c, .int .i64 (hdlErr ws)]) ∧ RdS w' w'.heap.size A (hdlOut ws) ∧ (hdlOut ws).length ≤ c
set_option maxRecDepth 100000 in
set_option maxHeartbeats 4000000 in
theorem hAll_c (A : Option Addr) (ws : List Nat) (c n : Nat) (w : World) (hn : ws.length = n) (hm : n ≤ 9223372036854775807) (hr : RdW w w.heap.size A ws) (ho : ∀ x ∈ ws, x < 18446744073709551616) :
    Calls Try.prog 18 #[.slice A n c] w fun e w' => HaRes ws e w' ∧ Below w.heap.size w w' := by
  have HC := Lib.hid (hOpen_c A ws c n w hn hm hr ho)
  clear hr ho hn hm
  have hz8 := zero48_size
  by_cases h0 : hdlErr ws = 0
  · have hout : hdlOut ws = slL ws := by simp [hdlOut, h0]
    have HO := Lib.hid (And.intro h0 hout)
    have hl := slL_len ws
    rw [h0, op_ok h0] at HC
    have hs48 : (slArr (slL ws)).size = 48 := by rw [slArr_size, slL_len]
    obtain ⟨l, hl2⟩ : ∃ l, slL ws = l := ⟨_, rfl⟩
    rw [hl2] at hs48 HC hl HO
    have HCS : Hid (slArr l = (l.flatMap Sl.cells).toArray) := Lib.hid rfl
    have H1 := Lib.hid (slArr_one l)
    have HL := Lib.hid hl
    obtain ⟨cs, hcs⟩ : ∃ cs, slArr l = cs := ⟨_, rfl⟩
    rw [hcs] at HC hs48 HCS H1
    have hic : (Try.prog.info? 86).map (·.size) = some cs.size := by rw [hs48]; exact infoTab
    clear h0 hout hl2 hcs hl hz8
    go_enter Try.func18, Try.ntmps18
    go_wp2_with fail
    refine HC.out.mono ?_
    rintro e w1 ⟨rfl, hB1⟩
    have hzv := zero48v
    have hss : cs.size = zero48.size := by rw [hs48, zero48_size]
    have bz := Bx.new w1 86 zero48
    have BZ := Lib.hid bz
    have HB1 := Lib.hid (hB1.alloc hB1.size (.cells zero48 86))
    have hz1 := hB1.size
    clear bz hB1
    go_wp2_with (first
      | ((with_reducible refine at_store 86 (.tmp 4) _ ?_); refine wpList_store_agg rfl _ _ _ rfl w1.heap.size 86 zero48 cs (by rfl) (by rfl) BZ.out hss hic H1.out ?_; intro w4 hb4 ha4; have HB4 := Lib.hid hb4; have HA4 := Lib.hid (ha4.below HB1.out hz1); clear hb4 ha4))
    go_ret2
    refine ⟨⟨some ⟨w1.heap.size, 0, none⟩, 16, by rw [HO.out.1, HO.out.2, HL.out]; rfl, ?_, by rw [HO.out.2, HL.out]; omega⟩, HA4.out⟩
    rw [HO.out.2]
    have := HB4.out
    rw [HCS.out] at this
    exact Rd.of_box this this.lt
  · have hout : hdlOut ws = [] := by simp [hdlOut, h0]
    have HO := Lib.hid hout
    rw [op_no h0] at HC
    obtain ⟨r, hr⟩ : ∃ r, hdlErr ws = r := ⟨_, rfl⟩
    have HE := Lib.hid hr
    rw [hr] at HC h0
    have hrn : (r != 0) = true := by rw [bne_iff_ne]; exact h0
    have hz1 := Lib.hid zero48_one
    have hic : (Try.prog.info? 86).map (·.size) = some zero48.size := by rw [hz8]; exact infoTab
    clear h0 hout hr hz8
    go_enter Try.func18, Try.ntmps18
    go_wp2_with fail
    refine HC.out.mono ?_
    rintro e w1 ⟨rfl, hB1⟩
    have hzv := zero48v
    have bz := Bx.new w1 86 zero48
    have BZ := Lib.hid bz
    have HB1 := Lib.hid (hB1.alloc hB1.size (.cells zero48 86))
    have hz1' := hB1.size
    clear bz hB1
    go_wp2_with (first
      | ((with_reducible refine at_store 86 (.tmp 4) _ ?_); refine wpList_store_agg rfl _ _ _ rfl w1.heap.size 86 zero48 zero48 (by rfl) (by rfl) BZ.out rfl hic hz1.out ?_; intro w4 hb4 ha4; have HB4 := Lib.hid hb4; have HA4 := Lib.hid (ha4.below HB1.out hz1'); clear hb4 ha4))
    go_ret2
    exact ⟨⟨none, 0, by rw [HE.out, HO.out]; rfl, by rw [HO.out]; exact Rd.nil_, by rw [HO.out]; exact Nat.le_refl _⟩, HA4.out⟩
end Go.Proofs.Ytpifagclhhaniaa
