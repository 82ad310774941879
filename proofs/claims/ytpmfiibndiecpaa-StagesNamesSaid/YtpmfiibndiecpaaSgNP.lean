/- Images of the law StagesNames, and what the next changes of these are. -/
import Derived.Test.YtpmfiibndiecpaaAl31
import Derived.Test.YtpmfiibndiecpaaCmp
import Derived.Test.YtpmfiibndiecpaaMk256
import Derived.Test.YtpmfiibndiecpaaSeq
namespace Go.Proofs.Ytpmfiibndiecpaa
open Go.RowKit

set_option maxRecDepth 100000 in
set_option maxHeartbeats 2000000 in
theorem one31_c (A B : Option Addr) (ws : List Nat) (E : List En) (c n m d : Nat) (r : Int) (w : World) (hn : ws.length = n) (hlm : E.length = m) (hm : n ≤ 9223372036854775807) (hc : n ≤ c) (hm2 : m ≤ 1000000) (hr : RdW w w.heap.size A ws) (hE : RdE w w.heap.size B E) (ho : ∀ x ∈ ws, x < 18446744073709551616) (h : sgOne ws = (r, E)) :
    Calls Try.prog 51 #[.slice A n c, .int .i64 r, .slice B m d] w fun e w' => e = .returned (.bool true) ∧ Below w.heap.size w w' := by
  have HC := Lib.hid (sgOne_c A ws c n w hn hm hc hr ho)
  unfold EnRes at HC
  rw [h] at HC
  dsimp only at HC
  have HS := Lib.hid (fun A1 c1 W (h : RdE W W.heap.size A1 E) (h2 : RdE W W.heap.size B E) => sameEntries_c A1 B E E E.length m c1 d W.heap.size W rfl hlm (by omega) h h2 (Nat.le_refl _))
  rw [show decide (E = E) = true by simp] at HS
  have HL := Lib.hid hE
  clear hr hE ho h hn hlm hm hm2 hc
  go_enter Try.func51, Try.ntmps51
  go_wp2_with fail
  refine HC.out.mono ?_
  rintro e w1 ⟨⟨A1, c1, rfl, hown⟩, hB1⟩
  have HB1 := Lib.hid hB1
  have HL1 := Lib.hid (HL.out.up hB1 hB1.size)
  have HR1 := Lib.hid (show RdE _ _ _ _ from Rd.of_own hown)
  clear hB1 hown
  go_wp2_with fail
  refine (HS.out _ _ _ HR1.out HL1.out).mono ?_
  rintro e w2 ⟨rfl, hB2⟩
  have HB2 := Lib.hid (HB1.out.trans (hB2.mono HB1.out.size))
  clear hB2
  go_wp2_with fail
  go_ret
  exact ⟨rfl, HB2.out⟩
def snB (k : Nat) : List Bk := (List.range k).map fun i => ⟨0, 2, 1, 0, decide (0 < i), 0⟩
theorem snB_snoc (k : Nat) : (snB (k + 1)).flatMap Bk.cells = (snB k).flatMap Bk.cells ++ [.int .i64 0, .int .i64 2, .int .i64 1, .int .i64 0, .bool (decide (0 < k)), .int .u64 0] := by
  unfold snB
  rw [List.range_succ, List.map_append, List.map_singleton, flat_snoc]
  rfl
theorem infoBlkN : (Try.prog.info? 24).map (fun i => (i.zero, i.size, i.bytes)) = some (some (.agg #[.int .i64 0, .int .i64 0, .int .i64 0, .int .i64 0, .bool false, .int .u64 0]), 6, 48) := by kernel_rfl
def snwL : List Nat := buildL 256 [] [] []
theorem snw_len : snwL.length = 256 := by decide +kernel
theorem snw_lt : ∀ x ∈ snwL, x < 18446744073709551616 := by decide +kernel
theorem snw_fit : ∀ k, k < 0 → fits 256 [] [] k := by decide +kernel
theorem snw_slt : ∀ k, k < 0 → ([] : List Int)[k]?.getD 0 < 4294967296 ∧ -4294967296 < ([] : List Int)[k]?.getD 0 := by decide +kernel
set_option maxRecDepth 100000 in
theorem snw_c (w : World) : Calls Try.prog 32 #[.int .i64 256, .slice none 0 0, .slice none 0 0, .slice none 0 0] w fun e w' => OwnW w snwL e w' := by
  have hbz : Below w.heap.size w w := Below.refl _ _
  obtain ⟨Z, hZ⟩ : ∃ Z, w = Z := ⟨_, rfl⟩
  rw [hZ] at  hbz ⊢
  clear hZ
  have hC := build_c none none none [] [] [] 0 0 0 256 Z.heap.size Z (by omega) (by omega) RdT.nil_ (show (0 : Nat) ≤ 8 by decide) Rd.nil_ Rd.nil_ (show (0 : Nat) ≤ 16 by decide) (Nat.le_refl _) (show (0 : Nat) ≤ 2048 by decide) (fun k hk => snw_fit k hk) (fun k hk => snw_slt k hk)
  refine hC.mono ?_
  intro e w1 h
  exact OwnW.mk_ hbz (show OwnW Z snwL e w1 from h)
def snmL : List Nat := buildL 256 [[]] (snB 40) [128]
theorem snm_len : snmL.length = 256 := by decide +kernel
theorem snm_lt : ∀ x ∈ snmL, x < 18446744073709551616 := by decide +kernel
theorem snm_fit : ∀ k, k < 40 → fits 256 [[]] (snB 40) k := by decide +kernel
theorem snm_slt : ∀ k, k < 1 → ([128] : List Int)[k]?.getD 0 < 4294967296 ∧ -4294967296 < ([128] : List Int)[k]?.getD 0 := by decide +kernel
set_option maxRecDepth 100000 in
theorem snm_c (w : World) (BA : Option Addr) (cap : Nat) (hrow : RdB w w.heap.size BA (snB 40)) : Calls Try.prog 32 #[.int .i64 256, .slice (some ⟨w.heap.size + 1, 0, none⟩) 1 1, .slice BA 40 cap, .slice (some ⟨w.heap.size + 1 + 1, 0, none⟩) 1 1] (((w.alloc (.cells #[] 5)).alloc (.cells #[.slice (some ⟨w.heap.size, 0, none⟩) 0 0] 58)).alloc (.cells #[.int .i64 128] 3)) fun e w' => OwnW w snmL e w' := by
  have x0 := Bx.new w 5 #[]
  have x1 := Bx.new (w.alloc (.cells #[] 5)) 58 #[.slice (some ⟨w.heap.size, 0, none⟩) 0 0]
  have x2 := Bx.new ((w.alloc (.cells #[] 5)).alloc (.cells #[.slice (some ⟨w.heap.size, 0, none⟩) 0 0] 58)) 3 #[.int .i64 128]
  (try simp only [World.size_alloc] at x0 x1 x2)
  replace x0 := ((x0.alloc (.cells #[.slice (some ⟨w.heap.size, 0, none⟩) 0 0] 58)).alloc (.cells #[.int .i64 128] 3))
  replace x1 := (x1.alloc (.cells #[.int .i64 128] 3))
  have hbz : Below w.heap.size w (((w.alloc (.cells #[] 5)).alloc (.cells #[.slice (some ⟨w.heap.size, 0, none⟩) 0 0] 58)).alloc (.cells #[.int .i64 128] 3)) := by
    refine ((((Below.refl _ _).alloc ?_ _).alloc ?_ _).alloc ?_ _) <;> (try simp only [World.size_alloc]) <;> omega
  obtain ⟨Z, hZ⟩ : ∃ Z, (((w.alloc (.cells #[] 5)).alloc (.cells #[.slice (some ⟨w.heap.size, 0, none⟩) 0 0] 58)).alloc (.cells #[.int .i64 128] 3)) = Z := ⟨_, rfl⟩
  rw [hZ] at x0 x1 x2 hbz ⊢
  clear hZ
  have hT : RdT Z Z.heap.size (some ⟨w.heap.size + 1, 0, none⟩) [⟨some ⟨w.heap.size, 0, none⟩, 0, []⟩] := by
    refine ⟨Rd.of_bx x1 x1.lt, fun x hx => ?_⟩
    simp only [List.mem_cons, List.not_mem_nil, or_false] at hx
    rcases hx with rfl
    · exact ⟨Rd.nil_, show (0 : Nat) ≤ 8 by decide, show kndOk [] = true by decide⟩
  have hrz : RdB Z Z.heap.size BA (snB 40) := hrow.up hbz hbz.size
  have hC := build_c (some ⟨w.heap.size + 1, 0, none⟩) BA (some ⟨w.heap.size + 1 + 1, 0, none⟩) [⟨some ⟨w.heap.size, 0, none⟩, 0, []⟩] (snB 40) [128] 1 cap 1 256 Z.heap.size Z (by omega) (by omega) hT (show (1 : Nat) ≤ 8 by decide) hrz (show Rd _ _ _ _ from Rd.of_bx x2 x2.lt) (show (1 : Nat) ≤ 16 by decide) (Nat.le_refl _) (show (40 : Nat) ≤ 2048 by decide) (fun k hk => snm_fit k hk) (fun k hk => snm_slt k hk)
  refine hC.mono ?_
  intro e w1 h
  exact OwnW.mk_ hbz (show OwnW Z snmL e w1 from h)
def snlL : List Nat := buildL 256 [[]] ((snB 40).drop 1 |>.take 31) []
theorem snl_len : snlL.length = 256 := by decide +kernel
theorem snl_lt : ∀ x ∈ snlL, x < 18446744073709551616 := by decide +kernel
theorem snl_fit : ∀ k, k < 31 → fits 256 [[]] ((snB 40).drop 1 |>.take 31) k := by decide +kernel
theorem snl_slt : ∀ k, k < 0 → ([] : List Int)[k]?.getD 0 < 4294967296 ∧ -4294967296 < ([] : List Int)[k]?.getD 0 := by decide +kernel
set_option maxRecDepth 100000 in
theorem snl_c (w : World) (BA : Option Addr) (cap : Nat) (hrow : RdB w w.heap.size BA ((snB 40).drop 1 |>.take 31)) : Calls Try.prog 32 #[.int .i64 256, .slice (some ⟨w.heap.size + 1, 0, none⟩) 1 1, .slice BA 31 cap, .slice none 0 0] ((w.alloc (.cells #[] 5)).alloc (.cells #[.slice (some ⟨w.heap.size, 0, none⟩) 0 0] 58)) fun e w' => OwnW w snlL e w' := by
  have x0 := Bx.new w 5 #[]
  have x1 := Bx.new (w.alloc (.cells #[] 5)) 58 #[.slice (some ⟨w.heap.size, 0, none⟩) 0 0]
  (try simp only [World.size_alloc] at x0 x1)
  replace x0 := (x0.alloc (.cells #[.slice (some ⟨w.heap.size, 0, none⟩) 0 0] 58))
  have hbz : Below w.heap.size w ((w.alloc (.cells #[] 5)).alloc (.cells #[.slice (some ⟨w.heap.size, 0, none⟩) 0 0] 58)) := by
    refine (((Below.refl _ _).alloc ?_ _).alloc ?_ _) <;> (try simp only [World.size_alloc]) <;> omega
  obtain ⟨Z, hZ⟩ : ∃ Z, ((w.alloc (.cells #[] 5)).alloc (.cells #[.slice (some ⟨w.heap.size, 0, none⟩) 0 0] 58)) = Z := ⟨_, rfl⟩
  rw [hZ] at x0 x1 hbz ⊢
  clear hZ
  have hT : RdT Z Z.heap.size (some ⟨w.heap.size + 1, 0, none⟩) [⟨some ⟨w.heap.size, 0, none⟩, 0, []⟩] := by
    refine ⟨Rd.of_bx x1 x1.lt, fun x hx => ?_⟩
    simp only [List.mem_cons, List.not_mem_nil, or_false] at hx
    rcases hx with rfl
    · exact ⟨Rd.nil_, show (0 : Nat) ≤ 8 by decide, show kndOk [] = true by decide⟩
  have hrz : RdB Z Z.heap.size BA ((snB 40).drop 1 |>.take 31) := hrow.up hbz hbz.size
  have hC := build_c (some ⟨w.heap.size + 1, 0, none⟩) BA none [⟨some ⟨w.heap.size, 0, none⟩, 0, []⟩] ((snB 40).drop 1 |>.take 31) [] 1 cap 0 256 Z.heap.size Z (by omega) (by omega) hT (show (1 : Nat) ≤ 8 by decide) hrz Rd.nil_ (show (0 : Nat) ≤ 16 by decide) (Nat.le_refl _) (show (31 : Nat) ≤ 2048 by decide) (fun k hk => snl_fit k hk) (fun k hk => snl_slt k hk)
  refine hC.mono ?_
  intro e w1 h
  exact OwnW.mk_ hbz (show OwnW Z snlL e w1 from h)
def snxL : List Nat := buildL 256 [[3, 1]] [⟨0, 4, 1, 0, false, 0⟩, ⟨0, 4, 1, 0, true, 128⟩] [132]
theorem snx_len : snxL.length = 256 := by decide +kernel
theorem snx_lt : ∀ x ∈ snxL, x < 18446744073709551616 := by decide +kernel
theorem snx_fit : ∀ k, k < 2 → fits 256 [[3, 1]] [⟨0, 4, 1, 0, false, 0⟩, ⟨0, 4, 1, 0, true, 128⟩] k := by decide +kernel
theorem snx_slt : ∀ k, k < 1 → ([132] : List Int)[k]?.getD 0 < 4294967296 ∧ -4294967296 < ([132] : List Int)[k]?.getD 0 := by decide +kernel
set_option maxRecDepth 100000 in
theorem snx_c (w : World) : Calls Try.prog 32 #[.int .i64 256, .slice (some ⟨w.heap.size + 1, 0, none⟩) 1 1, .slice (some ⟨w.heap.size + 1 + 1, 0, none⟩) 2 2, .slice (some ⟨w.heap.size + 1 + 1 + 1, 0, none⟩) 1 1] ((((w.alloc (.cells #[.int .u8 3, .int .u8 1] 5)).alloc (.cells #[.slice (some ⟨w.heap.size, 0, none⟩) 2 2] 58)).alloc (.cells #[.int .i64 0, .int .i64 4, .int .i64 1, .int .i64 0, .bool false, .int .u64 0, .int .i64 0, .int .i64 4, .int .i64 1, .int .i64 0, .bool true, .int .u64 128] 24)).alloc (.cells #[.int .i64 132] 3)) fun e w' => OwnW w snxL e w' := by
  have x0 := Bx.new w 5 #[.int .u8 3, .int .u8 1]
  have x1 := Bx.new (w.alloc (.cells #[.int .u8 3, .int .u8 1] 5)) 58 #[.slice (some ⟨w.heap.size, 0, none⟩) 2 2]
  have x2 := Bx.new ((w.alloc (.cells #[.int .u8 3, .int .u8 1] 5)).alloc (.cells #[.slice (some ⟨w.heap.size, 0, none⟩) 2 2] 58)) 24 #[.int .i64 0, .int .i64 4, .int .i64 1, .int .i64 0, .bool false, .int .u64 0, .int .i64 0, .int .i64 4, .int .i64 1, .int .i64 0, .bool true, .int .u64 128]
  have x3 := Bx.new (((w.alloc (.cells #[.int .u8 3, .int .u8 1] 5)).alloc (.cells #[.slice (some ⟨w.heap.size, 0, none⟩) 2 2] 58)).alloc (.cells #[.int .i64 0, .int .i64 4, .int .i64 1, .int .i64 0, .bool false, .int .u64 0, .int .i64 0, .int .i64 4, .int .i64 1, .int .i64 0, .bool true, .int .u64 128] 24)) 3 #[.int .i64 132]
  (try simp only [World.size_alloc] at x0 x1 x2 x3)
  replace x0 := (((x0.alloc (.cells #[.slice (some ⟨w.heap.size, 0, none⟩) 2 2] 58)).alloc (.cells #[.int .i64 0, .int .i64 4, .int .i64 1, .int .i64 0, .bool false, .int .u64 0, .int .i64 0, .int .i64 4, .int .i64 1, .int .i64 0, .bool true, .int .u64 128] 24)).alloc (.cells #[.int .i64 132] 3))
  replace x1 := ((x1.alloc (.cells #[.int .i64 0, .int .i64 4, .int .i64 1, .int .i64 0, .bool false, .int .u64 0, .int .i64 0, .int .i64 4, .int .i64 1, .int .i64 0, .bool true, .int .u64 128] 24)).alloc (.cells #[.int .i64 132] 3))
  replace x2 := (x2.alloc (.cells #[.int .i64 132] 3))
  have hbz : Below w.heap.size w ((((w.alloc (.cells #[.int .u8 3, .int .u8 1] 5)).alloc (.cells #[.slice (some ⟨w.heap.size, 0, none⟩) 2 2] 58)).alloc (.cells #[.int .i64 0, .int .i64 4, .int .i64 1, .int .i64 0, .bool false, .int .u64 0, .int .i64 0, .int .i64 4, .int .i64 1, .int .i64 0, .bool true, .int .u64 128] 24)).alloc (.cells #[.int .i64 132] 3)) := by
    refine (((((Below.refl _ _).alloc ?_ _).alloc ?_ _).alloc ?_ _).alloc ?_ _) <;> (try simp only [World.size_alloc]) <;> omega
  obtain ⟨Z, hZ⟩ : ∃ Z, ((((w.alloc (.cells #[.int .u8 3, .int .u8 1] 5)).alloc (.cells #[.slice (some ⟨w.heap.size, 0, none⟩) 2 2] 58)).alloc (.cells #[.int .i64 0, .int .i64 4, .int .i64 1, .int .i64 0, .bool false, .int .u64 0, .int .i64 0, .int .i64 4, .int .i64 1, .int .i64 0, .bool true, .int .u64 128] 24)).alloc (.cells #[.int .i64 132] 3)) = Z := ⟨_, rfl⟩
  rw [hZ] at x0 x1 x2 x3 hbz ⊢
  clear hZ
  have hT : RdT Z Z.heap.size (some ⟨w.heap.size + 1, 0, none⟩) [⟨some ⟨w.heap.size, 0, none⟩, 2, [3, 1]⟩] := by
    refine ⟨Rd.of_bx x1 x1.lt, fun x hx => ?_⟩
    simp only [List.mem_cons, List.not_mem_nil, or_false] at hx
    rcases hx with rfl
    · exact ⟨Rd.of_bx x0 x0.lt, show (2 : Nat) ≤ 8 by decide, show kndOk [3, 1] = true by decide⟩
  have hC := build_c (some ⟨w.heap.size + 1, 0, none⟩) (some ⟨w.heap.size + 1 + 1, 0, none⟩) (some ⟨w.heap.size + 1 + 1 + 1, 0, none⟩) [⟨some ⟨w.heap.size, 0, none⟩, 2, [3, 1]⟩] [⟨0, 4, 1, 0, false, 0⟩, ⟨0, 4, 1, 0, true, 128⟩] [132] 1 2 1 256 Z.heap.size Z (by omega) (by omega) hT (show (1 : Nat) ≤ 8 by decide) (show Rd _ _ _ _ from Rd.of_bx x2 x2.lt) (show Rd _ _ _ _ from Rd.of_bx x3 x3.lt) (show (1 : Nat) ≤ 16 by decide) (Nat.le_refl _) (show (2 : Nat) ≤ 2048 by decide) (fun k hk => snx_fit k hk) (fun k hk => snx_slt k hk)
  refine hC.mono ?_
  intro e w1 h
  exact OwnW.mk_ hbz (show OwnW Z snxL e w1 from h)
def snsL : List Nat := buildL 256 [] [] [128]
theorem sns_len : snsL.length = 256 := by decide +kernel
theorem sns_lt : ∀ x ∈ snsL, x < 18446744073709551616 := by decide +kernel
theorem sns_fit : ∀ k, k < 0 → fits 256 [] [] k := by decide +kernel
theorem sns_slt : ∀ k, k < 1 → ([128] : List Int)[k]?.getD 0 < 4294967296 ∧ -4294967296 < ([128] : List Int)[k]?.getD 0 := by decide +kernel
set_option maxRecDepth 100000 in
theorem sns_c (w : World) : Calls Try.prog 32 #[.int .i64 256, .slice none 0 0, .slice none 0 0, .slice (some ⟨w.heap.size, 0, none⟩) 1 1] (w.alloc (.cells #[.int .i64 128] 3)) fun e w' => OwnW w snsL e w' := by
  have x0 := Bx.new w 3 #[.int .i64 128]
  (try simp only [World.size_alloc] at x0)
  have hbz : Below w.heap.size w (w.alloc (.cells #[.int .i64 128] 3)) := by
    refine ((Below.refl _ _).alloc ?_ _) <;> (try simp only [World.size_alloc]) <;> omega
  obtain ⟨Z, hZ⟩ : ∃ Z, (w.alloc (.cells #[.int .i64 128] 3)) = Z := ⟨_, rfl⟩
  rw [hZ] at x0 hbz ⊢
  clear hZ
  have hC := build_c none none (some ⟨w.heap.size, 0, none⟩) [] [] [128] 0 0 1 256 Z.heap.size Z (by omega) (by omega) RdT.nil_ (show (0 : Nat) ≤ 8 by decide) Rd.nil_ (show Rd _ _ _ _ from Rd.of_bx x0 x0.lt) (show (1 : Nat) ≤ 16 by decide) (Nat.le_refl _) (show (0 : Nat) ≤ 2048 by decide) (fun k hk => sns_fit k hk) (fun k hk => sns_slt k hk)
  refine hC.mono ?_
  intro e w1 h
  exact OwnW.mk_ hbz (show OwnW Z snsL e w1 from h)

def snV : Nat := snsL[112]?.getD 0
theorem snV_lt : snV < 18446744073709551616 := by decide +kernel
def snX : List Nat := (snxL.set 134 132).set 135 9
theorem snX_len : snX.length = 256 := by unfold snX; rw [List.length_set, List.length_set, snx_len]
theorem snX_lt : ∀ x ∈ snX, x < 18446744073709551616 := by decide +kernel
def snF : List Nat := putE snX [⟨112, snV⟩, ⟨134, 128⟩]
theorem snF_len : snF.length = 256 := by unfold snF; rw [putE_len, snX_len]
theorem snF_lt : ∀ x ∈ snF, x < 18446744073709551616 := by decide +kernel
theorem sn_lt {l : List Nat} (h : ∀ x ∈ l, x < 18446744073709551616) (p f t : Nat) (hp : p < 18446744073709551616) (hf : f < 18446744073709551616) (ht : t < 18446744073709551616) : ∀ x ∈ putE l (phE p f t), x < 18446744073709551616 := putE_lt _ _ h fun e he => by
  unfold phE at he
  simp only [List.mem_cons, List.not_mem_nil, or_false] at he
  rcases he with rfl | rfl | rfl <;> assumption
theorem sn_0 : sgOneC 60 snwL = some (6, []) ∧ sgOneC 60 (putE snwL (phE 1 0 0)) = some (0, [⟨16, 2⟩]) ∧ sgOneC 60 (putE snwL (phE 2 0 0)) = some (0, [⟨16, 3⟩]) ∧ sgOneC 60 (putE snwL (phE 3 0 0)) = some (0, [⟨17, 128⟩]) ∧ sgOneC 60 (putE snwL (phE 3 128 0)) = some (0, [⟨16, 4⟩, ⟨17, 128⟩, ⟨18, 128⟩]) ∧ sgOneC 60 (putE snwL (phE 4 128 128)) = some (6, []) ∧ sgOneC 60 [] = some (8, []) ∧ sgOneC 60 (List.replicate 256 0) = some (50, []) := by decide +kernel
theorem sn_1 : (sgOneC 100 (putE snmL (phE 1 0 0))).map (fun r => (r.1, r.2.length, (r.2[0]?).map En.a)) = some (0, 31, some 128) := by decide +kernel
theorem sn_2 : (sgAllC 100 5 (putE snmL (phE 1 0 0))).map (fun r => (r.1, r.2.1.length, (r.2.1[1]?).map fun E => (E.length, E[0]?))) = some (0, 2, some (10, some ⟨16, 2⟩)) := by decide +kernel
theorem sn_3 : (sgOneC 100 (putE snlL (phE 1 0 0))).map (fun r => (r.1, r.2.length, r.2[0]?)) = some (0, 32, some ⟨16, 2⟩) := by decide +kernel
theorem sn_4 : sgOneC 60 (putE snX (phE 3 0 0)) = some (0, [⟨17, 128⟩, ⟨112, snV⟩]) ∧ sgOneC 60 (putE snX (phE 3 128 0)) = some (0, [⟨17, 136⟩, ⟨134, 128⟩]) ∧ sgOneC 60 (putE snX (phE 3 136 0)) = some (0, [⟨16, 4⟩, ⟨17, 128⟩, ⟨18, 128⟩]) ∧ sgOneC 60 (putE snF (phE 3 0 0)) = some (50, []) ∧ sgOneC 60 (putE snF (phE 3 132 0)) = some (50, []) := by decide +kernel
theorem sn_5 : (sgOneC 60 (putE snF (phE 4 128 128))).map (fun r => (r.1, r.2.map fun e => (e.a, if e.a = 128 then 0 else e.v))) = some (0, [(17, 136), (18, 132), (128, 0), (129, 0), (130, 128), (131, 9)]) := by decide +kernel
end Go.Proofs.Ytpmfiibndiecpaa
