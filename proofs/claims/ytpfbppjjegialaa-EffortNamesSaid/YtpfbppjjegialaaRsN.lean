/- What comes next: the walk of resume.Next. -/
import Derived.Test.YtpfbppjjegialaaRsE
import Derived.Test.YtpfbppjjegialaaStgO
import Derived.Test.YtpfbppjjegialaaFin
namespace Go.Proofs.Ytpfbppjjegialaa
open Go.RowKit

def NxRes (H : Nat) (r : Int) (d : Bool) (E : List En) (e : Ending) (w' : World) : Prop := ∃ A c, e = .returned (.tuple #[.slice A E.length c, .bool d, .int .i64 r]) ∧ w'.ownsRow H 50 2 (.slice A E.length c) E.length (E.flatMap En.cells)

set_option maxRecDepth 100000 in
set_option maxHeartbeats 8000000 in
theorem rNext_c (A : Option Addr) (ws : List Nat) (c n : Nat) (w : World) (hn : ws.length = n) (hm : n ≤ 9223372036854775807) (hc : n ≤ c) (hr : RdW w w.heap.size A ws) (ho : ∀ x ∈ ws, x < 18446744073709551616) :
    Calls Try.prog 8 #[.slice A n c] w fun e w' => NxRes w.heap.size (rsNx ws).1 (rsNx ws).2.1 (rsNx ws).2.2 e w' ∧ Below w.heap.size w w' := by
  subst hn
  have HR := Lib.hid hr
  have HON := Lib.hid (sgOne_c A ws c ws.length w rfl hm hc hr ho)
  have HLN := Lib.hid (fun W (h : RdW W W.heap.size A ws) => line_c A ws c ws.length W rfl hm hc h ho)
  have HCH := Lib.hid (fun W (h : RdW W W.heap.size A ws) => fChangeF_c A ws c ws.length W rfl hm hc h ho)
  unfold EnRes at HON HCH
  by_cases h6 : (sgOne ws).1 = 6
  · have hck := six_ck h6
    obtain ⟨hpr, hs, hl, -⟩ := ck_parts hck
    have hb := (sizeOk_iff _).1 hs
    obtain ⟨⟨l1, l2, l3⟩, -⟩ := (lineW_iff ws).1 hl
    have hln := ck_ln hck
    have hlv : lnV ws = phV (wd ws 16) (wd ws 17) (wd ws 18) := by simp [lnV, hln]
    rw [hlv, hln] at HLN
    unfold phV at HLN
    rw [h6] at HON
    obtain ⟨E, hE⟩ : ∃ E, (sgOne ws).2 = E := ⟨_, rfl⟩
    rw [hE] at HON
    by_cases h0 : wd ws 16 = 0
    · have HV := Lib.hid (show rsNx ws = (0, true, []) by unfold rsNx; rw [if_pos h6, if_pos h0])
      rw [h0] at HLN
      generalize wd ws 17 = F at HLN
      generalize wd ws 18 = T at HLN
      clear hr ho h6 h0 hck hpr hs hl hln hlv hE hb l1 l2 l3
      go_enter Try.func8, Try.ntmps8
      go_wp2_with fail
      refine HON.out.mono ?_
      rintro e w1 ⟨⟨A1, c1, rfl, -⟩, hB1⟩
      have HB1 := Lib.hid hB1
      have HR1 := Lib.hid (HR.out.up hB1 hB1.size)
      clear hB1
      go_wp2_with fail
      refine (HLN.out _ HR1.out).mono ?_
      rintro e w2 ⟨rfl, hB2⟩
      have HB2 := Lib.hid (HB1.out.trans (hB2.mono HB1.out.size))
      clear hB2
      go_wp2_with fail
      go_ret3
      exact ⟨⟨none, 0, by rw [HV.out]; rfl, by rw [HV.out]; exact World.ownsRow_nil _ _ _ _⟩, HB2.out.alloc HB2.out.size _⟩
    · have HV := Lib.hid (show rsNx ws = (enErr ws, false, chOut ws) by unfold rsNx; rw [if_pos h6, if_neg h0])
      generalize wd ws 17 = F at HLN l2
      generalize wd ws 18 = T at HLN l3
      generalize enErr ws = r at HCH HV
      generalize chOut ws = Z at HCH HV
      generalize wd ws 16 = P at HLN h0 l1
      have p1 : ((P : Int) == 0) = false := by rw [beq_eq_false_iff_ne]; omega
      have p2 : (P == 0) = false := by rw [beq_eq_false_iff_ne]; exact h0
      have p3 : decide (P = 0) = false := by rw [decide_eq_false_iff_not]; exact h0
      clear hr ho h6 hck hpr hs hl hln hlv hE hb l1 l2 l3
      go_enter Try.func8, Try.ntmps8
      go_wp2_with fail
      refine HON.out.mono ?_
      rintro e w1 ⟨⟨A1, c1, rfl, -⟩, hB1⟩
      have HB1 := Lib.hid hB1
      have HR1 := Lib.hid (HR.out.up hB1 hB1.size)
      clear hB1
      go_wp2_with fail
      refine (HLN.out _ HR1.out).mono ?_
      rintro e w2 ⟨rfl, hB2⟩
      have hb2 := HB1.out.trans (hB2.mono HB1.out.size)
      have HBN := Lib.hid (hb2.alloc hb2.size (.cells #[.int .i64 (P : Int), .int .i64 (F : Int), .int .i64 (T : Int)] 57))
      have HRN := Lib.hid (HR.out.up HBN.out HBN.out.size)
      clear hB2 hb2
      go_wp2_with fail
      refine (HCH.out _ HRN.out).mono ?_
      rintro e w3 ⟨⟨A3, c3, rfl, hown3⟩, hB3⟩
      have HB3 := Lib.hid (HBN.out.trans (hB3.mono HBN.out.size))
      have HO3 := Lib.hid (own_mono hown3 HBN.out.size)
      clear hB3 hown3
      go_wp2_with fail
      go_ret3
      exact ⟨⟨A3, c3, by rw [HV.out]; rfl, by rw [HV.out]; exact HO3.out⟩, HB3.out⟩
  · have HV := Lib.hid (show rsNx ws = ((sgOne ws).1, false, (sgOne ws).2) by unfold rsNx; rw [if_neg h6])
    generalize (sgOne ws).2 = E at HON HV
    generalize (sgOne ws).1 = r at HON HV h6
    have p1 : ((r : Int) == 6) = false := by rw [beq_eq_false_iff_ne]; exact h6
    have p2 : ((r : Int) != 6) = true := by rw [bne_iff_ne]; exact h6
    clear hr ho h6
    go_enter Try.func8, Try.ntmps8
    go_wp2_with fail
    refine HON.out.mono ?_
    rintro e w1 ⟨⟨A1, c1, rfl, hown1⟩, hB1⟩
    have HO1 := Lib.hid hown1
    clear hown1
    go_wp2_with fail
    go_ret3
    exact ⟨⟨A1, c1, by rw [HV.out]; rfl, by rw [HV.out]; exact HO1.out⟩, hB1⟩
end Go.Proofs.Ytpfbppjjegialaa
