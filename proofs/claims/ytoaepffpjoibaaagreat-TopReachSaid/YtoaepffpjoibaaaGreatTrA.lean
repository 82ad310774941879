/- TopReach: the sanity check (two objects, one reached). -/
import Derived.Test.YtoaepffpjoibaaaGreatTrF
import Derived.Test.YtoaepffpjoibaaaGreatKWnt
import Derived.Test.YtoaepffpjoibaaaGreatKHeap
import Derived.Test.YtoaepffpjoibaaaGreatKMove
import Derived.Test.YtoaepffpjoibaaaGreatKImage
import Derived.Test.YtoaepffpjoibaaaGreatKStg3
import Derived.Test.YtoaepffpjoibaaaGreatRcRun
namespace Go.Proofs.YtoaepffpjoibaaaGreat
open Go.RowKit

def prS : List Bool := (List.range 256).map fun a => a == 132
theorem pr_run : rcRun pairL 20 = some (some prS) := by decide +kernel
theorem pr_out : ((wntL prS (hpOut pairL)).map (wntE pairL prS)).length = 1 ∧ wnOut (putE pairL ((wntL prS (hpOut pairL)).map (wntE pairL prS))) = [⟨133, 128⟩] := by decide +kernel
theorem pr_wt : (wtOut pairL).length = 1 ∧ wnOut (putE pairL (wtOut pairL)) = [⟨133, 128⟩] := by
  rw [wtOut_eq pair_rc.1, (rc_run pair_hp pair_sl pr_run).2.1]
  exact pr_out
set_option maxRecDepth 100000 in
set_option maxHeartbeats 4000000 in
theorem alive30t_c (w : World) : Calls Tryz.prog 4 #[] w fun e w' => e = .returned (.bool true) ∧ Below w.heap.size w w' := by
  obtain ⟨k1, k2⟩ := pr_wt
  have h1 := (tr_of pair_rc.1 pairL_lt).1
  have hl1 : (putE pairL (wtOut pairL)).length = 256 := by rw [putE_len, pairL_len]
  have hlt1 : ∀ v ∈ putE pairL (wtOut pairL), v < 18446744073709551616 := putE_lt _ _ pairL_lt (wtOut_v pair_rc.1)
  have HC := Lib.hid (fun W => pair_c W)
  unfold OwnW at HC
  rw [pairL_len] at HC
  have HWT := Lib.hid (fun A c W (h : RdW W W.heap.size A pairL) => mWanted_c A pairL c 256 W pairL_len (by omega) h pairL_lt)
  unfold WtRes at HWT
  rw [pair_rc.1, k1] at HWT
  have HPT := Lib.hid (fun A B c d W (h : RdW W W.heap.size A pairL) (h2 : RdE W W.heap.size B (wtOut pairL)) => putW_c A B pairL (wtOut pairL) c d 256 1 W pairL_len k1 (by omega) (by omega) (by omega) h h2)
  have HWN := Lib.hid (fun A c W (h : RdW W W.heap.size A (putE pairL (wtOut pairL))) => fwWanted_c A (putE pairL (wtOut pairL)) c 256 W hl1 (by omega) h hlt1)
  unfold WnRes at HWN
  rw [h1, k2] at HWN
  have HSE := Lib.hid (fun A c B d W (h1 : RdE W W.heap.size A [⟨133, 128⟩]) (h2 : RdE W W.heap.size B [⟨133, 128⟩]) => sameEntries_c A B [⟨133, 128⟩] [⟨133, 128⟩] 1 1 c d W.heap.size W rfl rfl (by omega) h1 h2 (Nat.le_refl _))
  rw [show decide (([⟨133, 128⟩] : List En) = [⟨133, 128⟩]) = true from rfl] at HSE
  obtain ⟨p1, hp1⟩ : ∃ p1, putE pairL (wtOut pairL) = p1 := ⟨_, rfl⟩
  rw [hp1] at HPT HWN
  obtain ⟨E1, hE1⟩ : ∃ E1, wtOut pairL = E1 := ⟨_, rfl⟩
  rw [hE1] at HWT HPT
  obtain ⟨pl, hpl⟩ : ∃ pl, pairL = pl := ⟨_, rfl⟩
  rw [hpl] at HC HWT HPT
  clear k1 k2 h1 hl1 hlt1 hp1 hE1 hpl
  go_enter Tryz.func4, Tryz.ntmps4
  go_wp2_with fail
  refine (HC.out _).mono ?_
  rintro e w1 ⟨g1, c1, rfl, hown1, hB1⟩
  have HB1 := Lib.hid hB1
  have HR1 := Lib.hid (Rd.of_own hown1)
  clear hown1 hB1
  go_wp2_with fail
  refine (HWT.out _ _ _ HR1.out).mono ?_
  rintro e w2 ⟨⟨A2, c2, rfl, hr2, -⟩, hB2⟩
  have HB2 := Lib.hid (HB1.out.trans (hB2.mono HB1.out.size))
  have HR2 := Lib.hid (HR1.out.up hB2 hB2.size)
  have HE2 := Lib.hid hr2
  clear hr2 hB2
  go_wp2_with fail
  refine (HPT.out _ _ _ _ _ HR2.out HE2.out).mono ?_
  rintro e w3 ⟨⟨g3, d3, rfl, -, hr3⟩, hB3⟩
  have HB3 := Lib.hid (HB2.out.trans (hB3.mono HB2.out.size))
  have HR3 := Lib.hid hr3
  clear hr3 hB3
  go_wp2_with fail
  refine (HWN.out _ _ _ HR3.out).mono ?_
  rintro e w5 ⟨⟨A5, c5, rfl, hr5, -⟩, hB5⟩
  have hb5 := HB3.out.trans (hB5.mono HB3.out.size)
  have HRE := Lib.hid hr5
  clear hr5
  go_wp2_with fail
  have xb := Bx.new w5 53 #[.int .i64 133, .int .u64 128]
  have HRA := Lib.hid (show RdE _ _ _ _ from (HRE.out.alloc (Nat.le_refl _) (.cells #[.int .i64 133, .int .u64 128] 53)).more (B' := (w5.alloc (.cells #[.int .i64 133, .int .u64 128] 53)).heap.size) (by simp))
  refine (HSE.out _ _ _ _ _ HRA.out (show Rd _ _ _ _ from Rd.of_bx xb xb.lt)).mono ?_
  rintro e w6 ⟨rfl, hB6⟩
  have hb6 := (hb5.alloc hb5.size (.cells #[.int .i64 133, .int .u64 128] 53)).trans (hB6.mono (by have := hb5.size; simp; omega))
  clear xb
  go_wp2_with fail
  go_ret
  exact ⟨rfl, hb6⟩
end Go.Proofs.YtoaepffpjoibaaaGreat
