/- The law StagesNames: phases, limits, errors. -/
import Derived.Test.YtpmfiibndiecpaaSgNP
namespace Go.Proofs.Ytpmfiibndiecpaa
open Go.RowKit

def isW (L : List Nat) (v : Value) (X : World) : Prop := ∃ g c, v = .slice (some ⟨g, 0, none⟩) 256 c ∧ 256 ≤ c ∧ RdW X X.heap.size (some ⟨g, 0, none⟩) L
def isE (m : Nat) (E : List En) (v : Value) (X : World) : Prop := ∃ b, v = .slice (some ⟨b, 0, none⟩) m m ∧ RdE X X.heap.size (some ⟨b, 0, none⟩) E
theorem isW_of {L : List Nat} {W X : World} {g c : Nat} (h : X.ownsRow W.heap.size 22 1 (.slice (some ⟨g, 0, none⟩) 256 c) 256 (L.flatMap wordCells)) : isW L (.slice (some ⟨g, 0, none⟩) 256 c) X := ⟨g, c, rfl, own_capR h, Rd.of_own h⟩
theorem isW_alloc {L : List Nat} {v : Value} {X : World} {o : Obj} (h : isW L v X) : isW L v (X.alloc o) := by
  obtain ⟨g, c, h1, h2, h3⟩ := h
  have hb : Below X.heap.size X (X.alloc o) := (Below.refl _ _).alloc (Nat.le_refl _) _
  exact ⟨g, c, h1, h2, h3.up hb hb.size⟩
theorem isW_up {L : List Nat} {v : Value} {X Y : World} (h : isW L v X) (hb : Below X.heap.size X Y) : isW L v Y := by
  obtain ⟨g, c, h1, h2, h3⟩ := h
  exact ⟨g, c, h1, h2, h3.up hb hb.size⟩
theorem isE_up {m : Nat} {E : List En} {v : Value} {X Y : World} (h : isE m E v X) (hb : Below X.heap.size X Y) : isE m E v Y := by
  obtain ⟨b, h1, h3⟩ := h
  exact ⟨b, h1, h3.up hb hb.size⟩
theorem el_atS {E : List En} {i : Nat} {a : Int} (h : E[i]?.map En.a = some a) : ∃ h : i < E.length, (E[i]'h).a = a := by
  cases hq : E[i]? with
  | none => rw [hq] at h; cases h
  | some x =>
    obtain ⟨h1, h2⟩ := List.getElem?_eq_some_iff.1 hq
    rw [hq] at h
    exact ⟨h1, by rw [h2]; simpa using h⟩
theorem mkstS {w w1 : World} {xs : List Nat} {g c n : Nat} (hown : w1.ownsRow w.heap.size 22 1 (.slice (some ⟨g, 0, none⟩) n c) n (xs.flatMap wordCells)) (hB : Below w.heap.size w w1) (j v : Nat) :
    (w1.setCell ⟨g, j, none⟩ (.int .u64 (v : Int))).ownsRow w.heap.size 22 1 (.slice (some ⟨g, 0, none⟩) n c) n ((xs.set j v).flatMap wordCells) ∧ Below w.heap.size w (w1.setCell ⟨g, j, none⟩ (.int .u64 (v : Int))) := by
  have hs := (hown.stored j (.int .u64 (v : Int))).1
  rw [← words_set] at hs
  exact ⟨hs, hB.setCell (p := ⟨g, j, none⟩) (own_base hown) _⟩
theorem isE_new {m : Nat} {E : List En} {X : World} {cs : Array Value} (h : cs.toList = E.flatMap En.cells) : isE m E (.slice (some ⟨X.heap.size, 0, none⟩) m m) (X.alloc (.cells cs 54)) := by
  have xb := Bx.new X 54 cs
  refine ⟨X.heap.size, rfl, ?_⟩
  have := Rd.of_bx xb xb.lt
  rw [h] at this
  exact this

set_option maxRecDepth 100000 in
set_option maxHeartbeats 16000000 in
theorem stagesNames_walk (w : World) : Calls Try.prog 8 #[] w fun e w' => e = .returned (.bool true) ∧ Below w.heap.size w w' := by
  have HB0 := Lib.hid (Below.refl w.heap.size w)
  obtain ⟨i0, hi, hz0, hz1, hz2⟩ := info_parts infoBlkN
  have HI := Lib.hid hi
  have HZ0 := Lib.hid hz0
  have HZ1 := Lib.hid hz1
  have HZ2 := Lib.hid hz2
  clear hi hz0 hz1 hz2
  have HLw := Lib.hid (fun W => snw_c W)
  unfold OwnW at HLw
  rw [snw_len] at HLw
  have HLx := Lib.hid (fun W => snx_c W)
  unfold OwnW at HLx
  rw [snx_len] at HLx
  have HLs := Lib.hid (fun W => sns_c W)
  unfold OwnW at HLs
  rw [sns_len] at HLs
  have HLm := Lib.hid (fun W BA cap h => snm_c W BA cap h)
  unfold OwnW at HLm
  rw [snm_len] at HLm
  have HLl := Lib.hid (fun W BA cap h => snl_c W BA cap h)
  unfold OwnW at HLl
  rw [snl_len] at HLl
  have O0 := Lib.hid (fun A B c d W (hc : 256 ≤ c) (h : RdW W W.heap.size A snwL) (h2 : RdE W W.heap.size B []) => one31_c A B snwL [] c 256 0 d 6 W snw_len rfl (by omega) hc (by omega) h h2 snw_lt (sgOneC_ok sn_0.1))
  have P1 := Lib.hid (fun A c W (h : RdW W W.heap.size A snwL) => at31_c A snwL c 256 1 0 0 W.heap.size W snw_len (by omega) (by omega) (by omega) (by omega) (by omega) h (Nat.le_refl _))
  unfold OwnW at P1
  rw [putE_len, snw_len] at P1
  (try simp only [Int.cast_ofNat_Int] at P1)
  have O1 := Lib.hid (fun A B c d W (hc : 256 ≤ c) (h : RdW W W.heap.size A (putE snwL (phE 1 0 0))) (h2 : RdE W W.heap.size B [⟨16, 2⟩]) => one31_c A B (putE snwL (phE 1 0 0)) [⟨16, 2⟩] c 256 1 d 0 W (by rw [putE_len]; exact snw_len) rfl (by omega) hc (by omega) h h2 (sn_lt snw_lt 1 0 0 (by omega) (by omega) (by omega)) (sgOneC_ok sn_0.2.1))
  have P2 := Lib.hid (fun A c W (h : RdW W W.heap.size A snwL) => at31_c A snwL c 256 2 0 0 W.heap.size W snw_len (by omega) (by omega) (by omega) (by omega) (by omega) h (Nat.le_refl _))
  unfold OwnW at P2
  rw [putE_len, snw_len] at P2
  (try simp only [Int.cast_ofNat_Int] at P2)
  have O2 := Lib.hid (fun A B c d W (hc : 256 ≤ c) (h : RdW W W.heap.size A (putE snwL (phE 2 0 0))) (h2 : RdE W W.heap.size B [⟨16, 3⟩]) => one31_c A B (putE snwL (phE 2 0 0)) [⟨16, 3⟩] c 256 1 d 0 W (by rw [putE_len]; exact snw_len) rfl (by omega) hc (by omega) h h2 (sn_lt snw_lt 2 0 0 (by omega) (by omega) (by omega)) (sgOneC_ok sn_0.2.2.1))
  have P3 := Lib.hid (fun A c W (h : RdW W W.heap.size A snwL) => at31_c A snwL c 256 3 0 0 W.heap.size W snw_len (by omega) (by omega) (by omega) (by omega) (by omega) h (Nat.le_refl _))
  unfold OwnW at P3
  rw [putE_len, snw_len] at P3
  (try simp only [Int.cast_ofNat_Int] at P3)
  have O3 := Lib.hid (fun A B c d W (hc : 256 ≤ c) (h : RdW W W.heap.size A (putE snwL (phE 3 0 0))) (h2 : RdE W W.heap.size B [⟨17, 128⟩]) => one31_c A B (putE snwL (phE 3 0 0)) [⟨17, 128⟩] c 256 1 d 0 W (by rw [putE_len]; exact snw_len) rfl (by omega) hc (by omega) h h2 (sn_lt snw_lt 3 0 0 (by omega) (by omega) (by omega)) (sgOneC_ok sn_0.2.2.2.1))
  have P4 := Lib.hid (fun A c W (h : RdW W W.heap.size A snwL) => at31_c A snwL c 256 3 128 0 W.heap.size W snw_len (by omega) (by omega) (by omega) (by omega) (by omega) h (Nat.le_refl _))
  unfold OwnW at P4
  rw [putE_len, snw_len] at P4
  (try simp only [Int.cast_ofNat_Int] at P4)
  have O4 := Lib.hid (fun A B c d W (hc : 256 ≤ c) (h : RdW W W.heap.size A (putE snwL (phE 3 128 0))) (h2 : RdE W W.heap.size B [⟨16, 4⟩, ⟨17, 128⟩, ⟨18, 128⟩]) => one31_c A B (putE snwL (phE 3 128 0)) [⟨16, 4⟩, ⟨17, 128⟩, ⟨18, 128⟩] c 256 3 d 0 W (by rw [putE_len]; exact snw_len) rfl (by omega) hc (by omega) h h2 (sn_lt snw_lt 3 128 0 (by omega) (by omega) (by omega)) (sgOneC_ok sn_0.2.2.2.2.1))
  have P5 := Lib.hid (fun A c W (h : RdW W W.heap.size A snwL) => at31_c A snwL c 256 4 128 128 W.heap.size W snw_len (by omega) (by omega) (by omega) (by omega) (by omega) h (Nat.le_refl _))
  unfold OwnW at P5
  rw [putE_len, snw_len] at P5
  (try simp only [Int.cast_ofNat_Int] at P5)
  have O5 := Lib.hid (fun A B c d W (hc : 256 ≤ c) (h : RdW W W.heap.size A (putE snwL (phE 4 128 128))) (h2 : RdE W W.heap.size B []) => one31_c A B (putE snwL (phE 4 128 128)) [] c 256 0 d 6 W (by rw [putE_len]; exact snw_len) rfl (by omega) hc (by omega) h h2 (sn_lt snw_lt 4 128 128 (by omega) (by omega) (by omega)) (sgOneC_ok sn_0.2.2.2.2.2.1))
  have P6 := Lib.hid (fun A c W (h : RdW W W.heap.size A snX) => at31_c A snX c 256 3 0 0 W.heap.size W snX_len (by omega) (by omega) (by omega) (by omega) (by omega) h (Nat.le_refl _))
  unfold OwnW at P6
  rw [putE_len, snX_len] at P6
  (try simp only [Int.cast_ofNat_Int] at P6)
  have O6 := Lib.hid (fun A B c d W (hc : 256 ≤ c) (h : RdW W W.heap.size A (putE snX (phE 3 0 0))) (h2 : RdE W W.heap.size B [⟨17, 128⟩, ⟨112, snV⟩]) => one31_c A B (putE snX (phE 3 0 0)) [⟨17, 128⟩, ⟨112, snV⟩] c 256 2 d 0 W (by rw [putE_len]; exact snX_len) rfl (by omega) hc (by omega) h h2 (sn_lt snX_lt 3 0 0 (by omega) (by omega) (by omega)) (sgOneC_ok sn_4.1))
  have P7 := Lib.hid (fun A c W (h : RdW W W.heap.size A snX) => at31_c A snX c 256 3 128 0 W.heap.size W snX_len (by omega) (by omega) (by omega) (by omega) (by omega) h (Nat.le_refl _))
  unfold OwnW at P7
  rw [putE_len, snX_len] at P7
  (try simp only [Int.cast_ofNat_Int] at P7)
  have O7 := Lib.hid (fun A B c d W (hc : 256 ≤ c) (h : RdW W W.heap.size A (putE snX (phE 3 128 0))) (h2 : RdE W W.heap.size B [⟨17, 136⟩, ⟨134, 128⟩]) => one31_c A B (putE snX (phE 3 128 0)) [⟨17, 136⟩, ⟨134, 128⟩] c 256 2 d 0 W (by rw [putE_len]; exact snX_len) rfl (by omega) hc (by omega) h h2 (sn_lt snX_lt 3 128 0 (by omega) (by omega) (by omega)) (sgOneC_ok sn_4.2.1))
  have P8 := Lib.hid (fun A c W (h : RdW W W.heap.size A snX) => at31_c A snX c 256 3 136 0 W.heap.size W snX_len (by omega) (by omega) (by omega) (by omega) (by omega) h (Nat.le_refl _))
  unfold OwnW at P8
  rw [putE_len, snX_len] at P8
  (try simp only [Int.cast_ofNat_Int] at P8)
  have O8 := Lib.hid (fun A B c d W (hc : 256 ≤ c) (h : RdW W W.heap.size A (putE snX (phE 3 136 0))) (h2 : RdE W W.heap.size B [⟨16, 4⟩, ⟨17, 128⟩, ⟨18, 128⟩]) => one31_c A B (putE snX (phE 3 136 0)) [⟨16, 4⟩, ⟨17, 128⟩, ⟨18, 128⟩] c 256 3 d 0 W (by rw [putE_len]; exact snX_len) rfl (by omega) hc (by omega) h h2 (sn_lt snX_lt 3 136 0 (by omega) (by omega) (by omega)) (sgOneC_ok sn_4.2.2.1))
  have P9 := Lib.hid (fun A c W (h : RdW W W.heap.size A snF) => at31_c A snF c 256 3 0 0 W.heap.size W snF_len (by omega) (by omega) (by omega) (by omega) (by omega) h (Nat.le_refl _))
  unfold OwnW at P9
  rw [putE_len, snF_len] at P9
  (try simp only [Int.cast_ofNat_Int] at P9)
  have O9 := Lib.hid (fun A B c d W (hc : 256 ≤ c) (h : RdW W W.heap.size A (putE snF (phE 3 0 0))) (h2 : RdE W W.heap.size B []) => one31_c A B (putE snF (phE 3 0 0)) [] c 256 0 d 50 W (by rw [putE_len]; exact snF_len) rfl (by omega) hc (by omega) h h2 (sn_lt snF_lt 3 0 0 (by omega) (by omega) (by omega)) (sgOneC_ok sn_4.2.2.2.1))
  have PA := Lib.hid (fun A c W (h : RdW W W.heap.size A snF) => at31_c A snF c 256 3 132 0 W.heap.size W snF_len (by omega) (by omega) (by omega) (by omega) (by omega) h (Nat.le_refl _))
  unfold OwnW at PA
  rw [putE_len, snF_len] at PA
  (try simp only [Int.cast_ofNat_Int] at PA)
  have OA := Lib.hid (fun A B c d W (hc : 256 ≤ c) (h : RdW W W.heap.size A (putE snF (phE 3 132 0))) (h2 : RdE W W.heap.size B []) => one31_c A B (putE snF (phE 3 132 0)) [] c 256 0 d 50 W (by rw [putE_len]; exact snF_len) rfl (by omega) hc (by omega) h h2 (sn_lt snF_lt 3 132 0 (by omega) (by omega) (by omega)) (sgOneC_ok sn_4.2.2.2.2))
  have OB := Lib.hid (fun A B c d W (hc : 0 ≤ c) (h : RdW W W.heap.size A []) (h2 : RdE W W.heap.size B []) => one31_c A B [] [] c 0 0 d 8 W rfl rfl (by omega) hc (by omega) h h2 (fun x hx => by simp at hx) (sgOneC_ok sn_0.2.2.2.2.2.2.1))
  have OC := Lib.hid (fun A B c d W (hc : 256 ≤ c) (h : RdW W W.heap.size A (List.replicate 256 0)) (h2 : RdE W W.heap.size B []) => one31_c A B (List.replicate 256 0) [] c 256 0 d 50 W zero256.2.2 rfl (by omega) hc (by omega) h h2 zero_lt (sgOneC_ok sn_0.2.2.2.2.2.2.2))
  have PM := Lib.hid (fun A c W (h : RdW W W.heap.size A snmL) => at31_c A snmL c 256 1 0 0 W.heap.size W snm_len (by omega) (by omega) (by omega) (by omega) (by omega) h (Nat.le_refl _))
  unfold OwnW at PM
  rw [putE_len, snm_len] at PM
  (try simp only [Int.cast_ofNat_Int] at PM)
  have PL := Lib.hid (fun A c W (h : RdW W W.heap.size A snlL) => at31_c A snlL c 256 1 0 0 W.heap.size W snl_len (by omega) (by omega) (by omega) (by omega) (by omega) h (Nat.le_refl _))
  unfold OwnW at PL
  rw [putE_len, snl_len] at PL
  (try simp only [Int.cast_ofNat_Int] at PL)
  have PF := Lib.hid (fun A c W (h : RdW W W.heap.size A snF) => at31_c A snF c 256 4 128 128 W.heap.size W snF_len (by omega) (by omega) (by omega) (by omega) (by omega) h (Nat.le_refl _))
  unfold OwnW at PF
  rw [putE_len, snF_len] at PF
  (try simp only [Int.cast_ofNat_Int] at PF)
  obtain ⟨E1, m1, m2, m3⟩ : ∃ E, sgOne (putE snmL (phE 1 0 0)) = (0, E) ∧ E.length = 31 ∧ (E[0]?).map En.a = some 128 := by
    have h := sn_1
    cases hr : sgOneC 100 (putE snmL (phE 1 0 0)) with
    | none => rw [hr] at h; cases h
    | some r =>
      rw [hr] at h
      simp only [Option.map_some, Option.some.injEq, Prod.mk.injEq] at h
      exact ⟨r.2, by rw [sgOneC_ok hr, ← h.1], h.2.1, h.2.2⟩
  obtain ⟨L2, yM, a1, a2, a3⟩ : ∃ L y, sgAll (putE snmL (phE 1 0 0)) = (0, L, y) ∧ L.length = 2 ∧ ((L[1]?).map fun E => (E.length, E[0]?)) = some (10, some ⟨16, 2⟩) := by
    have h := sn_2
    cases hr : sgAllC 100 5 (putE snmL (phE 1 0 0)) with
    | none => rw [hr] at h; cases h
    | some r =>
      rw [hr] at h
      simp only [Option.map_some, Option.some.injEq, Prod.mk.injEq] at h
      exact ⟨r.2.1, r.2.2, by rw [sgAllC_ok (sn_lt snm_lt 1 0 0 (by omega) (by omega) (by omega)) hr, ← h.1], h.2.1, h.2.2⟩
  obtain ⟨Ea, Eb, rfl⟩ : ∃ a b, L2 = [a, b] := by
    rcases L2 with _ | ⟨a, _ | ⟨b, _ | ⟨d, l⟩⟩⟩
    · simp at a2
    · simp at a2
    · exact ⟨a, b, rfl⟩
    · simp at a2
  simp only [List.getElem?_cons_succ, List.getElem?_cons_zero, Option.map_some, Option.some.injEq, Prod.mk.injEq] at a3
  obtain ⟨b1, b2⟩ := a3
  obtain ⟨E3, l1, l2, l3⟩ : ∃ E, sgOne (putE snlL (phE 1 0 0)) = (0, E) ∧ E.length = 32 ∧ E[0]? = some ⟨16, 2⟩ := by
    have h := sn_3
    cases hr : sgOneC 100 (putE snlL (phE 1 0 0)) with
    | none => rw [hr] at h; cases h
    | some r =>
      rw [hr] at h
      simp only [Option.map_some, Option.some.injEq, Prod.mk.injEq] at h
      exact ⟨r.2, by rw [sgOneC_ok hr, ← h.1], h.2.1, h.2.2⟩
  obtain ⟨v8, f1⟩ : ∃ v, sgOne (putE snF (phE 4 128 128)) = (0, [⟨17, 136⟩, ⟨18, 132⟩, ⟨128, v⟩, ⟨129, 0⟩, ⟨130, 128⟩, ⟨131, 9⟩]) := by
    have h := sn_5
    cases hr : sgOneC 60 (putE snF (phE 4 128 128)) with
    | none => rw [hr] at h; cases h
    | some r =>
      rw [hr] at h
      simp only [Option.map_some, Option.some.injEq, Prod.mk.injEq] at h
      obtain ⟨h1, h2⟩ := h
      obtain ⟨r1, r2⟩ := r
      dsimp only at h1 h2
      rcases r2 with _ | ⟨⟨a0, u0⟩, _ | ⟨⟨a1, u1⟩, _ | ⟨⟨a2, u2⟩, _ | ⟨⟨a3, u3⟩, _ | ⟨⟨a4, u4⟩, _ | ⟨⟨a5, u5⟩, _ | ⟨x6, l⟩⟩⟩⟩⟩⟩⟩ <;> simp only [List.map_cons, List.map_nil, List.cons.injEq, reduceCtorEq, and_false, Prod.mk.injEq] at h2
      obtain ⟨⟨p0, q0⟩, ⟨p1, q1⟩, ⟨p2, q2⟩, ⟨p3, q3⟩, ⟨p4, q4⟩, ⟨p5, q5⟩, -⟩ := h2
      subst p0 p1 p2 p3 p4 p5
      rw [if_neg (by decide)] at q0 q1 q3 q4 q5
      subst q0 q1 q3 q4 q5
      exact ⟨u2, by rw [sgOneC_ok hr, ← h1]⟩
  have RM := Lib.hid (fun A c W (hc : 256 ≤ c) (h : RdW W W.heap.size A (putE snmL (phE 1 0 0))) => sgOne_c A (putE snmL (phE 1 0 0)) c 256 W (by rw [putE_len]; exact snm_len) (by omega) hc h (sn_lt snm_lt 1 0 0 (by omega) (by omega) (by omega)))
  unfold EnRes at RM
  rw [m1] at RM
  dsimp only at RM
  have RL := Lib.hid (fun A c W (hc : 256 ≤ c) (h : RdW W W.heap.size A (putE snlL (phE 1 0 0))) => sgOne_c A (putE snlL (phE 1 0 0)) c 256 W (by rw [putE_len]; exact snl_len) (by omega) hc h (sn_lt snl_lt 1 0 0 (by omega) (by omega) (by omega)))
  unfold EnRes at RL
  rw [l1] at RL
  dsimp only at RL
  have RF := Lib.hid (fun A c W (hc : 256 ≤ c) (h : RdW W W.heap.size A (putE snF (phE 4 128 128))) => sgOne_c A (putE snF (phE 4 128 128)) c 256 W (by rw [putE_len]; exact snF_len) (by omega) hc h (sn_lt snF_lt 4 128 128 (by omega) (by omega) (by omega)))
  unfold EnRes at RF
  rw [f1] at RF
  dsimp only at RF
  have RA := Lib.hid (fun A c W (hc : 256 ≤ c) (h : RdW W W.heap.size A (putE snmL (phE 1 0 0))) => sgAll_c A (putE snmL (phE 1 0 0)) c 256 W (by rw [putE_len]; exact snm_len) (by omega) hc h (sn_lt snm_lt 1 0 0 (by omega) (by omega) (by omega)))
  unfold AlRes at RA
  rw [a1] at RA
  dsimp only at RA
  rw [m2] at RM
  rw [l2] at RL
  simp only [List.length_cons, List.length_nil, Nat.reduceAdd] at RF
  have HPT := Lib.hid (fun A B c d W (h : RdW W W.heap.size A snX) (h2 : RdE W W.heap.size B [⟨112, snV⟩, ⟨134, 128⟩]) => put25_c A B snX [⟨112, snV⟩, ⟨134, 128⟩] c d 256 2 W.heap.size W snX_len rfl (by omega) (by omega) (by omega) h h2 (Nat.le_refl _))
  unfold OwnW at HPT
  rw [show putE snX [⟨112, snV⟩, ⟨134, 128⟩] = snF from rfl, snF_len] at HPT
  have HVE : Hid (∀ h : 112 < snsL.length, snsL[112] = snV) := Lib.hid fun h => by simp [snV, h]
  have HSLN := Lib.hid sns_len
  have HXLN := Lib.hid snx_len
  have HST : Hid (snX = (snxL.set 134 132).set 135 9) := Lib.hid rfl
  have HM := Lib.hid (And.intro m2 m3)
  have HE2 := Lib.hid (And.intro b1 b2)
  have HE3 := Lib.hid (And.intro l2 l3)
  clear m1 m2 m3 a1 a2 b1 b2 l1 l2 l3 f1
  generalize (putE snwL (phE 1 0 0)) = q0 at *
  generalize (putE snwL (phE 2 0 0)) = q1 at *
  generalize (putE snwL (phE 3 0 0)) = q2 at *
  generalize (putE snwL (phE 3 128 0)) = q3 at *
  generalize (putE snwL (phE 4 128 128)) = q4 at *
  generalize (putE snX (phE 3 0 0)) = q5 at *
  generalize (putE snX (phE 3 128 0)) = q6 at *
  generalize (putE snX (phE 3 136 0)) = q7 at *
  generalize (putE snF (phE 3 0 0)) = q8 at *
  generalize (putE snF (phE 3 132 0)) = q9 at *
  generalize putE snmL (phE 1 0 0) = qm at *
  generalize putE snlL (phE 1 0 0) = ql at *
  generalize putE snF (phE 4 128 128) = qf at *
  generalize snwL = lw at *
  generalize snmL = lm at *
  generalize snlL = ll at *
  generalize snxL = lx at *
  generalize snsL = ls at *
  generalize snX = xX at *
  generalize snF = xF at *
  generalize snV = vv at *
  go_enter Try.func8, Try.ntmps8
  go_wp2_with fail
  refine (HLw.out _).mono ?_
  rintro e w_1 ⟨g1, c1, rfl, hown1, hB1⟩
  have HB1 := Lib.hid (HB0.out.trans (hB1.mono HB0.out.size))
  have W_1 := Lib.hid (show RdW _ _ _ lw from Rd.of_own hown1)
  have CP1 := Lib.hid (own_capR hown1)
  clear hB1 hown1
  have xs := Bx.new w_1 54 #[.int .i64 16, .int .u64 4, .int .i64 17, .int .u64 128, .int .i64 18, .int .u64 128]
  have hz1 : (w_1.alloc (.cells #[.int .i64 16, .int .u64 4, .int .i64 17, .int .u64 128, .int .i64 18, .int .u64 128] 54)).heap.size = w_1.heap.size + 1 := by simp
  have xt := Bx.new (w_1.alloc (.cells #[.int .i64 16, .int .u64 4, .int .i64 17, .int .u64 128, .int .i64 18, .int .u64 128] 54)) 54 #[.int .i64 17, .int .u64 128]
  replace xs := xs.alloc (.cells #[.int .i64 17, .int .u64 128] 54)
  rw [hz1] at xt
  have hba : Below w_1.heap.size w_1 ((w_1.alloc (.cells #[.int .i64 16, .int .u64 4, .int .i64 17, .int .u64 128, .int .i64 18, .int .u64 128] 54)).alloc (.cells #[.int .i64 17, .int .u64 128] 54)) := ((Below.refl _ _).alloc (Nat.le_refl _) _).alloc (by rw [hz1]; omega) _
  have XS := Lib.hid xs
  have XT := Lib.hid xt
  have HBA := Lib.hid hba
  clear xs xt hz1 hba
  go_upto_region 3 with (fail)
  obtain ⟨w_2, hW⟩ : ∃ W, (w_1.alloc (.cells #[.int .i64 16, .int .u64 4, .int .i64 17, .int .u64 128, .int .i64 18, .int .u64 128] 54)).alloc (.cells #[.int .i64 17, .int .u64 128] 54) = W := ⟨_, rfl⟩
  rw [hW] at XS XT HBA ⊢
  clear hW
  have W_2 := Lib.hid (W_1.out.up HBA.out HBA.out.size)
  have HB2 := Lib.hid (HB1.out.trans (HBA.out.mono HB1.out.size))
  have SL_2 := Lib.hid (show RdE w_2 w_2.heap.size (some ⟨w_1.heap.size, 0, none⟩) [⟨16, 4⟩, ⟨17, 128⟩, ⟨18, 128⟩] from Rd.of_bx XS.out XS.out.lt)
  have ST_2 := Lib.hid (show RdE w_2 w_2.heap.size (some ⟨w_1.heap.size + 1, 0, none⟩) [⟨17, 128⟩] from Rd.of_bx XT.out XT.out.lt)
  have ct0 : ∀ g : SW (fun X : World => Below w_2.heap.size w_2 X), g.w.cell? ⟨w_1.heap.size + 1, 0, none⟩ = some (.int .i64 17) := fun g => (g.ok.cell (p := ⟨w_1.heap.size + 1, 0, none⟩) XT.out.lt).trans (XT.out.cell 0)
  have ct1 : ∀ g : SW (fun X : World => Below w_2.heap.size w_2 X), g.w.cell? ⟨w_1.heap.size + 1, 1, none⟩ = some (.int .u64 128) := fun g => (g.ok.cell (p := ⟨w_1.heap.size + 1, 1, none⟩) XT.out.lt).trans (XT.out.cell 1)
  refine wp_region_seq (S := fun X : World => Below w_2.heap.size w_2 X) ((0, 0, 0) :: (1, 1, 0) :: (0, 2, 0) :: (0, 3, 0) :: (0, 5, 0) :: (2, 4, 6) :: (1, 7, 0) :: (0, 8, 0) :: (0, 9, 0) :: (0, 10, 0) :: (0, 12, 0) :: (2, 11, 13) :: (1, 14, 0) :: (0, 15, 0) :: (0, 16, 0) :: (0, 17, 0) :: (0, 19, 0) :: (2, 18, 20) :: (1, 21, 0) :: (0, 22, 0) :: (0, 23, 0) :: (0, 24, 0) :: (0, 26, 0) :: (1, 25, 0) :: (1, 27, 0) :: (0, 28, 0) :: (0, 29, 0) :: (0, 30, 0) :: (1, 31, 0) :: (1, 32, 0) :: (0, 33, 0) :: (0, 34, 0) :: (1, 35, 0) :: (0, 36, 0) :: (0, 37, 0) :: (1, 38, 0) :: (1, 39, 0) :: (0, 40, 0) :: (0, 41, 0) :: []) (.one _ true (none) :: .one _ false (none) :: .one _ true (none) :: .one _ true (some (some 30, true)) :: .one _ true (some (some 30, true)) :: .two _ _ (some (some 30, true)) :: .one _ false (some (some 30, true)) :: .one _ true (none) :: .one _ true (none) :: .one _ true (some (some 37, true)) :: .one _ true (some (some 37, true)) :: .two _ _ (some (some 37, true)) :: .one _ false (some (some 37, true)) :: .one _ true (none) :: .one _ true (none) :: .one _ true (some (some 44, true)) :: .one _ true (some (some 44, true)) :: .two _ _ (some (some 44, true)) :: .one _ false (some (some 44, true)) :: .one _ true (none) :: .one _ true (none) :: .one _ true (some (some 51, true)) :: .one _ true (some (some 51, true)) :: .one _ false (some (some 51, true)) :: .one _ false (some (some 51, true)) :: .one _ true (none) :: .one _ true (none) :: .one _ true (some (some 57, true)) :: .one _ false (some (some 57, true)) :: .one _ false (some (some 57, true)) :: .one _ true (none) :: .one _ true (none) :: .one _ false (some (some 62, true)) :: .one _ true (none) :: .one _ true (none) :: .one _ false (some (some 65, true)) :: .one _ false (some (some 65, true)) :: .one _ true (none) :: .one _ true (none) :: []) (by kernel_rfl) (by kernel_rfl) (by decide) (by kernel_rfl) (by rfl) (fun _ _ d _ _ h => by cases d <;> exact h) (Below.refl _ _).drew ?_
  have HX0 := Lib.hid ((Below.refl w_2.heap.size w_2).drew)
  obtain ⟨X0, hX0⟩ : ∃ X, w_2.drew = X := ⟨_, rfl⟩
  rw [hX0] at HX0 ⊢
  clear hX0
  have hne : Nonempty (SW (fun X : World => Below w_2.heap.size w_2 X)) := ⟨⟨X0, HX0.out⟩⟩
  refine seq_take (by rfl) ?_
  intro K hK
  go_big_quiet_op
  go_big_quiet_on
  refine seq_do (by rfl) ?_
  intro K hK
  go_big_op
  refine (O0.out _ none _ 0 _ CP1.out (W_2.out.up HX0.out HX0.out.size) Rd.nil_).mono ?_
  rintro e X1 ⟨rfl, hb⟩
  have HX1 := Lib.hid (HX0.out.trans (hb.mono HX0.out.size))
  refine hK _ _ HX1.out ?_
  clear hK K hb
  (try simp only [Act.put, List.setIfInBounds_toArray, List.set_cons_zero, List.set_cons_succ])
  refine seq_take (by rfl) ?_
  intro K hK
  go_big_quiet_op
  go_big_quiet_on
  refine seq_take (by rfl) ?_
  intro K hK
  go_big_quiet_op
  go_big_quiet_on
  refine seq_take (by rfl) ?_
  intro K hK
  go_big_quiet_op
  go_big_quiet_on
  refine seq_two (isW q0) (isE 1 [⟨16, 2⟩]) (fun v1 v2 X => isW q0 v1 X ∧ isE 1 [⟨16, 2⟩] v2 X) (by rfl) (fun _ => ⟨by rfl, by rfl⟩) (fun _ _ => by rfl) ?_ ?_ ?_ ?_ ?_
  · intro K hK
    go_big_op
    refine (P1.out _ _ _ (W_2.out.up HX1.out HX1.out.size)).mono ?_
    rintro e Y ⟨g, d, rfl, hown, hb⟩
    exact hK _ _ (HX1.out.trans (hb.mono HX1.out.size)) (isW_of hown)
  · intro v1 Y hS hA K hK
    (try simp only [Act.put, List.setIfInBounds_toArray, List.set_cons_zero, List.set_cons_succ])
    go_big_op
    exact hK _ _ (hS.alloc hS.size _) ⟨isW_alloc hA, isE_new rfl⟩
  · intro K hK
    go_big_op
    exact hK _ _ (HX1.out.alloc HX1.out.size _) (isE_new rfl)
  · intro v2 Y0 hS hA K hK
    (try simp only [Act.put, List.setIfInBounds_toArray, List.set_cons_zero, List.set_cons_succ])
    go_big_op
    refine (P1.out _ _ _ (W_2.out.up hS hS.size)).mono ?_
    rintro e Y ⟨g, d, rfl, hown, hb⟩
    exact hK _ _ (hS.trans (hb.mono hS.size)) ⟨isW_of hown, isE_up hA hb⟩
  rintro v1 v2 X2 hS ⟨⟨gw, cw, rfl, hcw, hrw⟩, ⟨ge, rfl, hre⟩⟩
  have HX2 := Lib.hid hS
  have HW := Lib.hid hrw
  have HE := Lib.hid hre
  clear hS hrw hre
  (try simp only [Act.put, List.setIfInBounds_toArray, List.set_cons_zero, List.set_cons_succ])
  refine seq_do (by rfl) ?_
  intro K hK
  go_big_op
  refine (O1.out _ _ _ _ _ hcw HW.out HE.out).mono ?_
  rintro e X3 ⟨rfl, hb⟩
  have HX3 := Lib.hid (HX2.out.trans (hb.mono HX2.out.size))
  clear HW HE hcw
  refine hK _ _ HX3.out ?_
  clear hK K hb
  (try simp only [Act.put, List.setIfInBounds_toArray, List.set_cons_zero, List.set_cons_succ])
  refine seq_take (by rfl) ?_
  intro K hK
  go_big_quiet_op
  go_big_quiet_on
  refine seq_take (by rfl) ?_
  intro K hK
  go_big_quiet_op
  go_big_quiet_on
  refine seq_take (by rfl) ?_
  intro K hK
  go_big_quiet_op
  go_big_quiet_on
  refine seq_take (by rfl) ?_
  intro K hK
  go_big_quiet_op
  go_big_quiet_on
  refine seq_two (isW q1) (isE 1 [⟨16, 3⟩]) (fun v1 v2 X => isW q1 v1 X ∧ isE 1 [⟨16, 3⟩] v2 X) (by rfl) (fun _ => ⟨by rfl, by rfl⟩) (fun _ _ => by rfl) ?_ ?_ ?_ ?_ ?_
  · intro K hK
    go_big_op
    refine (P2.out _ _ _ (W_2.out.up HX3.out HX3.out.size)).mono ?_
    rintro e Y ⟨g, d, rfl, hown, hb⟩
    exact hK _ _ (HX3.out.trans (hb.mono HX3.out.size)) (isW_of hown)
  · intro v1 Y hS hA K hK
    (try simp only [Act.put, List.setIfInBounds_toArray, List.set_cons_zero, List.set_cons_succ])
    go_big_op
    exact hK _ _ (hS.alloc hS.size _) ⟨isW_alloc hA, isE_new rfl⟩
  · intro K hK
    go_big_op
    exact hK _ _ (HX3.out.alloc HX3.out.size _) (isE_new rfl)
  · intro v2 Y0 hS hA K hK
    (try simp only [Act.put, List.setIfInBounds_toArray, List.set_cons_zero, List.set_cons_succ])
    go_big_op
    refine (P2.out _ _ _ (W_2.out.up hS hS.size)).mono ?_
    rintro e Y ⟨g, d, rfl, hown, hb⟩
    exact hK _ _ (hS.trans (hb.mono hS.size)) ⟨isW_of hown, isE_up hA hb⟩
  rintro v1 v2 X4 hS ⟨⟨gw, cw, rfl, hcw, hrw⟩, ⟨ge, rfl, hre⟩⟩
  have HX4 := Lib.hid hS
  have HW := Lib.hid hrw
  have HE := Lib.hid hre
  clear hS hrw hre
  (try simp only [Act.put, List.setIfInBounds_toArray, List.set_cons_zero, List.set_cons_succ])
  refine seq_do (by rfl) ?_
  intro K hK
  go_big_op
  refine (O2.out _ _ _ _ _ hcw HW.out HE.out).mono ?_
  rintro e X5 ⟨rfl, hb⟩
  have HX5 := Lib.hid (HX4.out.trans (hb.mono HX4.out.size))
  clear HW HE hcw
  refine hK _ _ HX5.out ?_
  clear hK K hb
  (try simp only [Act.put, List.setIfInBounds_toArray, List.set_cons_zero, List.set_cons_succ])
  refine seq_take (by rfl) ?_
  intro K hK
  go_big_quiet_op
  go_big_quiet_on
  refine seq_take (by rfl) ?_
  intro K hK
  go_big_quiet_op
  go_big_quiet_on
  refine seq_take (by rfl) ?_
  intro K hK
  go_big_quiet_op
  go_big_quiet_on
  refine seq_take (by rfl) ?_
  intro K hK
  go_big_quiet_op
  go_big_quiet_on
  refine seq_two (isW q2) (isE 1 [⟨17, 128⟩]) (fun v1 v2 X => isW q2 v1 X ∧ isE 1 [⟨17, 128⟩] v2 X) (by rfl) (fun _ => ⟨by rfl, by rfl⟩) (fun _ _ => by rfl) ?_ ?_ ?_ ?_ ?_
  · intro K hK
    go_big_op
    refine (P3.out _ _ _ (W_2.out.up HX5.out HX5.out.size)).mono ?_
    rintro e Y ⟨g, d, rfl, hown, hb⟩
    exact hK _ _ (HX5.out.trans (hb.mono HX5.out.size)) (isW_of hown)
  · intro v1 Y hS hA K hK
    (try simp only [Act.put, List.setIfInBounds_toArray, List.set_cons_zero, List.set_cons_succ])
    go_big_op
    exact hK _ _ (hS.alloc hS.size _) ⟨isW_alloc hA, isE_new rfl⟩
  · intro K hK
    go_big_op
    exact hK _ _ (HX5.out.alloc HX5.out.size _) (isE_new rfl)
  · intro v2 Y0 hS hA K hK
    (try simp only [Act.put, List.setIfInBounds_toArray, List.set_cons_zero, List.set_cons_succ])
    go_big_op
    refine (P3.out _ _ _ (W_2.out.up hS hS.size)).mono ?_
    rintro e Y ⟨g, d, rfl, hown, hb⟩
    exact hK _ _ (hS.trans (hb.mono hS.size)) ⟨isW_of hown, isE_up hA hb⟩
  rintro v1 v2 X6 hS ⟨⟨gw, cw, rfl, hcw, hrw⟩, ⟨ge, rfl, hre⟩⟩
  have HX6 := Lib.hid hS
  have HW := Lib.hid hrw
  have HE := Lib.hid hre
  clear hS hrw hre
  (try simp only [Act.put, List.setIfInBounds_toArray, List.set_cons_zero, List.set_cons_succ])
  refine seq_do (by rfl) ?_
  intro K hK
  go_big_op
  refine (O3.out _ _ _ _ _ hcw HW.out HE.out).mono ?_
  rintro e X7 ⟨rfl, hb⟩
  have HX7 := Lib.hid (HX6.out.trans (hb.mono HX6.out.size))
  clear HW HE hcw
  refine hK _ _ HX7.out ?_
  clear hK K hb
  (try simp only [Act.put, List.setIfInBounds_toArray, List.set_cons_zero, List.set_cons_succ])
  refine seq_take (by rfl) ?_
  intro K hK
  go_big_quiet_op
  go_big_quiet_on
  refine seq_take (by rfl) ?_
  intro K hK
  go_big_quiet_op
  go_big_quiet_on
  refine seq_take (by rfl) ?_
  intro K hK
  go_big_quiet_op
  go_big_quiet_on
  refine seq_take (by rfl) ?_
  intro K hK
  go_big_quiet_op
  go_big_quiet_on
  refine seq_do (by rfl) ?_
  intro K hK
  go_big_op
  refine (P4.out _ _ _ (W_2.out.up HX7.out HX7.out.size)).mono ?_
  rintro e X8 ⟨gw, cw, rfl, hown, hb⟩
  have HX8 := Lib.hid (HX7.out.trans (hb.mono HX7.out.size))
  have hcw := own_capR hown
  have HW := Lib.hid (show RdW _ _ _ q3 from Rd.of_own hown)
  clear hown
  refine hK _ _ HX8.out ?_
  clear hK K hb
  (try simp only [Act.put, List.setIfInBounds_toArray, List.set_cons_zero, List.set_cons_succ])
  refine seq_do (by rfl) ?_
  intro K hK
  go_big_op
  refine (O4.out _ _ _ _ _ hcw HW.out (SL_2.out.up HX8.out HX8.out.size)).mono ?_
  rintro e X9 ⟨rfl, hb⟩
  have HX9 := Lib.hid (HX8.out.trans (hb.mono HX8.out.size))
  clear HW hcw
  refine hK _ _ HX9.out ?_
  clear hK K hb
  (try simp only [Act.put, List.setIfInBounds_toArray, List.set_cons_zero, List.set_cons_succ])
  refine seq_take (by rfl) ?_
  intro K hK
  go_big_quiet_op
  go_big_quiet_on
  refine seq_take (by rfl) ?_
  intro K hK
  go_big_quiet_op
  go_big_quiet_on
  refine seq_take (by rfl) ?_
  intro K hK
  go_big_quiet_op
  go_big_quiet_on
  refine seq_do (by rfl) ?_
  intro K hK
  go_big_op
  refine (P5.out _ _ _ (W_2.out.up HX9.out HX9.out.size)).mono ?_
  rintro e X10 ⟨gw, cw, rfl, hown, hb⟩
  have HX10 := Lib.hid (HX9.out.trans (hb.mono HX9.out.size))
  have hcw := own_capR hown
  have HW := Lib.hid (show RdW _ _ _ q4 from Rd.of_own hown)
  clear hown
  refine hK _ _ HX10.out ?_
  clear hK K hb
  (try simp only [Act.put, List.setIfInBounds_toArray, List.set_cons_zero, List.set_cons_succ])
  refine seq_do (by rfl) ?_
  intro K hK
  go_big_op
  refine (O5.out _ none _ 0 _ hcw HW.out Rd.nil_).mono ?_
  rintro e X11 ⟨rfl, hb⟩
  have HX11 := Lib.hid (HX10.out.trans (hb.mono HX10.out.size))
  clear HW hcw
  refine hK _ _ HX11.out ?_
  clear hK K hb
  (try simp only [Act.put, List.setIfInBounds_toArray, List.set_cons_zero, List.set_cons_succ])
  refine seq_take (by rfl) ?_
  intro K hK
  go_big_quiet_op
  go_big_quiet_on
  refine seq_take (by rfl) ?_
  intro K hK
  go_big_quiet_op
  go_big_quiet_on
  refine seq_do (by rfl) ?_
  intro K hK
  go_big_op
  refine (OB.out none none 0 0 _ (Nat.le_refl _) Rd.nil_ Rd.nil_).mono ?_
  rintro e X12 ⟨rfl, hb⟩
  have HX12 := Lib.hid (HX11.out.trans (hb.mono HX11.out.size))
  refine hK _ _ HX12.out ?_
  clear hK K hb
  (try simp only [Act.put, List.setIfInBounds_toArray, List.set_cons_zero, List.set_cons_succ])
  refine seq_take (by rfl) ?_
  intro K hK
  go_big_quiet_op
  go_big_quiet_on
  refine seq_take (by rfl) ?_
  intro K hK
  go_big_quiet_op
  go_big_quiet_on
  obtain ⟨X13, hmk, hr, hb⟩ := mk256 X12
  have HX13 := Lib.hid (HX12.out.trans (hb.mono HX12.out.size))
  have HZ := Lib.hid hr
  clear hr hb
  refine seq_do (by rfl) ?_
  intro K hK
  go_big_op
  refine hK _ _ HX13.out ?_
  clear hK K hmk
  (try simp only [Act.put, List.setIfInBounds_toArray, List.set_cons_zero, List.set_cons_succ])
  refine seq_do (by rfl) ?_
  intro K hK
  go_big_op
  refine (OC.out _ none _ 0 _ (Nat.le_refl _) HZ.out Rd.nil_).mono ?_
  rintro e X14 ⟨rfl, hb⟩
  have HX14 := Lib.hid (HX13.out.trans (hb.mono HX13.out.size))
  clear HZ
  refine hK _ _ HX14.out ?_
  clear hK K hb
  (try simp only [Act.put, List.setIfInBounds_toArray, List.set_cons_zero, List.set_cons_succ])
  refine seq_take (by rfl) ?_
  intro K hK
  go_big_quiet_op
  go_big_quiet_on
  refine seq_take (by rfl) ?_
  intro K hK
  go_big_quiet_op
  go_big_quiet_on
  clear hne
  refine seq_nil ?_
  obtain ⟨w_3, hW⟩ : ∃ W, X14 = W := ⟨_, rfl⟩
  rw [hW] at HX14 ⊢
  clear hW
  have W_3 := Lib.hid (W_2.out.up HX14.out HX14.out.size)
  have SL_3 := Lib.hid (SL_2.out.up HX14.out HX14.out.size)
  have ST_3 := Lib.hid (ST_2.out.up HX14.out HX14.out.size)
  have HB3 := Lib.hid (HB2.out.trans (HX14.out.mono HB2.out.size))
  clear ct0 ct1
  go_wp2_with fail
  have HSN := Lib.hid (fun k => snB_snoc k)
  go_loopw [5, 6] (fun v i wr => ∃ k : Nat, k ≤ 40 ∧ i = .int .i64 k ∧ wr.ownsRow w_3.heap.size 24 6 v k ((snB k).flatMap Bk.cells) ∧ Below w_3.heap.size w_3 wr) (fun _ i _ => 40 - (intOf i).toNat)
  case atStart => exact ⟨0, Nat.zero_le _, rfl, World.ownsRow_nil _ _ _ _, Below.refl _ _⟩
  case round =>
    obtain ⟨k, hk, rfl, hown, hB⟩ := hrel
    have hz := hB.size
    by_cases hlt : k < 40
    · have HN := Lib.hid (HSN.out k)
      go_wp2_with (at_builtin; refine wpList_append_own _ rfl _ _ 25 rfl w_3.heap.size 24 i0 _ 6 48 Try.underlying25 HI.out HZ0.out HZ1.out HZ2.out rfl (by decide) _ _ _ rfl (hown.alloc _) ⟨_, 0, none⟩ 1 1 [.int .i64 0, .int .i64 2, .int .i64 1, .int .i64 0, .bool (decide (0 < k)), .int .u64 0] rfl rfl (news_new _ _ _) (by simp [Value.oneCell']) (by unfold maxLen; omega) (by omega) (le_alloc_ hB.size) ?_; intro v1 w2 hown1 hg1 _; have hB2 := below_append hB hB.size hown hg1)
      go_roundw
      case rel => exact ⟨k + 1, by omega, by go_num, by rw [HN.out]; exact hown1, hB2⟩
      case measure => simp [intOf]; omega
    · obtain rfl : k = 40 := by omega
      obtain ⟨g, cap, rfl⟩ := own_some hown (by omega)
      have HCAP := Lib.hid (own_capR hown)
      obtain ⟨w_4, hW⟩ : ∃ W, wr = W := ⟨_, rfl⟩
      subst hW
      have W_4 := Lib.hid (W_3.out.up hB hB.size)
      have SL_4 := Lib.hid (SL_3.out.up hB hB.size)
      have ST_4 := Lib.hid (ST_3.out.up hB hB.size)
      have HB4 := Lib.hid (HB3.out.trans (hB.mono HB3.out.size))
      have G_4 := Lib.hid (show RdB _ _ _ _ from Rd.of_own hown)
      clear hown hB hz hk hlt HSN
      rw [show ((40 : Nat) : Int) = 40 from rfl]
      go_wp2_with fail
      refine (HLm.out _ _ _ G_4.out).mono ?_
      rintro e w_5 ⟨g5, c5, rfl, hown5, hB5⟩
      have W_5 := Lib.hid (W_4.out.up hB5 hB5.size)
      have SL_5 := Lib.hid (SL_4.out.up hB5 hB5.size)
      have ST_5 := Lib.hid (ST_4.out.up hB5 hB5.size)
      have G_5 := Lib.hid (G_4.out.up hB5 hB5.size)
      have HB5 := Lib.hid (HB4.out.trans (hB5.mono HB4.out.size))
      have U_5 := Lib.hid (show RdW _ _ _ lm from Rd.of_own hown5)
      have CP5 := Lib.hid (own_capR hown5)
      clear hB5 hown5
      go_wp2_with fail
      refine (PM.out _ _ _ U_5.out).mono ?_
      rintro e w_6 ⟨g6, c6, rfl, hown6, hB6⟩
      have W_6 := Lib.hid (W_5.out.up hB6 hB6.size)
      have SL_6 := Lib.hid (SL_5.out.up hB6 hB6.size)
      have ST_6 := Lib.hid (ST_5.out.up hB6 hB6.size)
      have G_6 := Lib.hid (G_5.out.up hB6 hB6.size)
      have HB6 := Lib.hid (HB5.out.trans (hB6.mono HB5.out.size))
      have M_6 := Lib.hid (show RdW _ _ _ qm from Rd.of_own hown6)
      have CP6 := Lib.hid (own_capR hown6)
      clear hB6 hown6
      go_wp2_with fail
      refine (RM.out _ _ _ CP6.out M_6.out).mono ?_
      rintro e w_7 ⟨⟨A7, c7, rfl, hown7⟩, hB7⟩
      have W_7 := Lib.hid (W_6.out.up hB7 hB7.size)
      have SL_7 := Lib.hid (SL_6.out.up hB7 hB7.size)
      have ST_7 := Lib.hid (ST_6.out.up hB7 hB7.size)
      have G_7 := Lib.hid (G_6.out.up hB7 hB7.size)
      have M_7 := Lib.hid (M_6.out.up hB7 hB7.size)
      have HB7 := Lib.hid (HB6.out.trans (hB7.mono HB6.out.size))
      have E_7 := Lib.hid (show RdE _ _ _ _ from Rd.of_own hown7)
      clear hB7 hown7
      go_wp2_with fail
      refine (RA.out _ _ _ CP6.out M_7.out).mono ?_
      rintro e w_8 ⟨⟨L, B, d, vx, rfl, hL, ⟨hLo, hLe⟩, hx, -⟩, hB8⟩
      have W_8 := Lib.hid (W_7.out.up hB8 hB8.size)
      have SL_8 := Lib.hid (SL_7.out.up hB8 hB8.size)
      have ST_8 := Lib.hid (ST_7.out.up hB8 hB8.size)
      have G_8 := Lib.hid (G_7.out.up hB8 hB8.size)
      have E_8 := Lib.hid (E_7.out.up hB8 hB8.size)
      have HB8 := Lib.hid (HB7.out.trans (hB8.mono HB7.out.size))
      clear hB8
      obtain ⟨g9, c9, rfl, -, -⟩ := hx trivial
      obtain ⟨ya, yb, rfl⟩ : ∃ a b, L = [a, b] := by
        rcases L with _ | ⟨a, _ | ⟨b, _ | ⟨d, l⟩⟩⟩
        · simp at hL
        · simp at hL
        · exact ⟨a, b, rfl⟩
        · simp at hL
      simp only [List.map_cons, List.map_nil, List.cons.injEq, and_true] at hL
      obtain ⟨-, hyb⟩ := hL
      obtain ⟨bO, oO, rfl, hbO, r0⟩ := RdC.at_ (show RdC _ _ B [ya, yb] from Rd.of_own hLo) (show 1 < 2 by omega)
      have hye := hLe yb (by simp)
      obtain ⟨yA, yc, yl⟩ := yb
      dsimp only at hyb hye
      subst hyb
      simp only [List.getElem_cons_succ, List.getElem_cons_zero, HE2.out.1] at r0
      rw [HE2.out.1] at hye
      obtain ⟨lE, eE⟩ := List.getElem?_eq_some_iff.1 HE2.out.2
      obtain ⟨bE, oE, eA, hbE, s0, s1⟩ := RdE.at_ (show RdE _ _ yA yl from Rd.of_own hye) lE
      cases eA
      rw [eE] at s0 s1
      dsimp only at s0 s1
      simp only [Nat.zero_mul, Nat.add_zero] at s0 s1
      obtain ⟨l0, e0⟩ := el_atS HM.out.2
      obtain ⟨bF, oF, eA, hbF, u0, -⟩ := RdE.at_ E_8.out l0
      cases eA
      rw [e0] at u0
      simp only [Nat.zero_mul, Nat.add_zero] at u0
      simp only [List.length_cons, List.length_nil, Nat.reduceAdd]
      clear hx hLo hLe hye hbO hbE hbF e0 eE
      have hcp := HCAP.out
      have hc1 : (32 : Int) ≤ (cap : Int) := by omega
      have hc2 : ¬ (1 : Int) = (cap : Int) := by omega
      have hc3 : ¬ 1 = cap := by omega
      have hc4 : ¬ cap = 1 := by omega
      clear hcp
      go_wp2_with fail
      clear r0 s0 s1 u0 l0 lE
      refine (HLl.out _ (some ⟨g, 6, none⟩) _ ((show RdB w_8 w_8.heap.size (some ⟨g, 0 + 1 * 6, none⟩) ((snB 40).drop 1) from RdB.from_ (show RdB w_8 w_8.heap.size (some ⟨g, 0, none⟩) (snB 40) from G_8.out) 1).take_ 31)).mono ?_
      rintro e w_9 ⟨g9, c9, rfl, hown9, hB9⟩
      have W_9 := Lib.hid (W_8.out.up hB9 hB9.size)
      have SL_9 := Lib.hid (SL_8.out.up hB9 hB9.size)
      have ST_9 := Lib.hid (ST_8.out.up hB9 hB9.size)
      have HB9 := Lib.hid (HB8.out.trans (hB9.mono HB8.out.size))
      have U_9 := Lib.hid (show RdW _ _ _ ll from Rd.of_own hown9)
      have CP9 := Lib.hid (own_capR hown9)
      clear hB9 hown9
      go_wp2_with fail
      clear hc1 hc2 hc3 hc4
      refine (PL.out _ _ _ U_9.out).mono ?_
      rintro e w_10 ⟨g10, c10, rfl, hown10, hB10⟩
      have W_10 := Lib.hid (W_9.out.up hB10 hB10.size)
      have SL_10 := Lib.hid (SL_9.out.up hB10 hB10.size)
      have ST_10 := Lib.hid (ST_9.out.up hB10 hB10.size)
      have HB10 := Lib.hid (HB9.out.trans (hB10.mono HB9.out.size))
      have M_10 := Lib.hid (show RdW _ _ _ ql from Rd.of_own hown10)
      have CP10 := Lib.hid (own_capR hown10)
      clear hB10 hown10
      go_wp2_with fail
      refine (RL.out _ _ _ CP10.out M_10.out).mono ?_
      rintro e w_11 ⟨⟨A11, c11, rfl, hown11⟩, hB11⟩
      have W_11 := Lib.hid (W_10.out.up hB11 hB11.size)
      have SL_11 := Lib.hid (SL_10.out.up hB11 hB11.size)
      have ST_11 := Lib.hid (ST_10.out.up hB11 hB11.size)
      have HB11 := Lib.hid (HB10.out.trans (hB11.mono HB10.out.size))
      have E_11 := Lib.hid (show RdE _ _ _ _ from Rd.of_own hown11)
      clear hB11 hown11
      obtain ⟨lE, eE⟩ := List.getElem?_eq_some_iff.1 HE3.out.2
      obtain ⟨bE, oE, eA, hbE, s0, s1⟩ := RdE.at_ E_11.out lE
      cases eA
      rw [eE] at s0 s1
      dsimp only at s0 s1
      simp only [Nat.zero_mul, Nat.add_zero] at s0 s1
      go_wp2_with fail
      clear s0 s1 lE eE hbE
      refine (HLx.out _).mono ?_
      rintro e x ⟨gx, dx, rfl, hown, hB⟩
      have c0 := (hown.cellAt 134 (by omega)).trans (words_get lx 134 (by rw [HXLN.out]; omega))
      have c1 := (hown.cellAt 135 (by omega)).trans (words_get lx 135 (by rw [HXLN.out]; omega))
      have f0 := hown.frozenAt 134
      have f1 := hown.frozenAt 135
      have hs1 := mkstS hown hB 134 132
      have hs2 := mkstS hs1.1 hs1.2 135 9
      rw [← HST.out] at hs2
      have HS2 := Lib.hid hs2
      obtain ⟨u6, hu6⟩ : ∃ u, ((lx[134]'(by rw [HXLN.out]; omega) : Nat) : Int) = u := ⟨_, rfl⟩
      rw [hu6] at c0
      obtain ⟨u7, hu7⟩ : ∃ u, ((lx[135]'(by rw [HXLN.out]; omega) : Nat) : Int) = u := ⟨_, rfl⟩
      rw [hu7] at c1
      clear hs1 hs2 hu6 hu7 hown hB
      go_upto_region 20 with (fail)
      obtain ⟨w_12, hW⟩ : ∃ W, (x.setCell ⟨gx, 134, none⟩ (.int .u64 132)).setCell ⟨gx, 135, none⟩ (.int .u64 9) = W := ⟨_, rfl⟩
      obtain ⟨hs1, hs2⟩ := HS2.out
      have hs1 : w_12.ownsRow w_11.heap.size 22 1 (.slice (some ⟨gx, 0, none⟩) 256 dx) 256 (xX.flatMap wordCells) := by rw [← hW]; exact hs1
      have hs2 : Below w_11.heap.size w_11 w_12 := by rw [← hW]; exact hs2
      rw [hW]
      have W_12 := Lib.hid (W_11.out.up hs2 hs2.size)
      have SL_12 := Lib.hid (SL_11.out.up hs2 hs2.size)
      have ST_12 := Lib.hid (ST_11.out.up hs2 hs2.size)
      have HB12 := Lib.hid (HB11.out.trans (hs2.mono HB11.out.size))
      have X_12 := Lib.hid (show RdW _ _ _ xX from Rd.of_own hs1)
      clear hs1 hs2 hW c0 c1 f0 f1 HS2
      go_wp2_with fail
      refine (HLs.out _).mono ?_
      rintro e w_13 ⟨gs, ds, rfl, hown13, hB13⟩
      have W_13 := Lib.hid (W_12.out.up hB13 hB13.size)
      have SL_13 := Lib.hid (SL_12.out.up hB13 hB13.size)
      have ST_13 := Lib.hid (ST_12.out.up hB13 hB13.size)
      have X_13 := Lib.hid (X_12.out.up hB13 hB13.size)
      have HB13 := Lib.hid (HB12.out.trans (hB13.mono HB12.out.size))
      have S_13 := Lib.hid (show RdW _ _ _ ls from Rd.of_own hown13)
      clear hB13 hown13
      obtain ⟨bS, oS, eS, hbS, c0⟩ := RdW.at_ S_13.out (show 112 < ls.length by rw [HSLN.out]; omega)
      cases eS
      rw [HVE.out] at c0
      simp only [Nat.zero_add] at c0
      go_wp2_with fail
      clear c0
      have xb := Bx.new w_13 54 #[.int .i64 112, .int .u64 (vv : Int), .int .i64 134, .int .u64 128]
      have hba : Below w_13.heap.size w_13 (w_13.alloc (.cells #[.int .i64 112, .int .u64 (vv : Int), .int .i64 134, .int .u64 128] 54)) := (Below.refl _ _).alloc (Nat.le_refl _) _
      refine (HPT.out _ _ _ _ _ (X_13.out.up hba hba.size) (show Rd _ _ _ _ from Rd.of_bx xb xb.lt)).mono ?_
      rintro e w_14 ⟨g14, c14, rfl, hown14, hB14⟩
      have hbb := hba.trans (hB14.mono hba.size)
      have W_14 := Lib.hid (W_13.out.up hbb hbb.size)
      have SL_14 := Lib.hid (SL_13.out.up hbb hbb.size)
      have ST_14 := Lib.hid (ST_13.out.up hbb hbb.size)
      have X_14 := Lib.hid (X_13.out.up hbb hbb.size)
      have S_14 := Lib.hid (S_13.out.up hbb hbb.size)
      have HB14 := Lib.hid (HB13.out.trans (hbb.mono HB13.out.size))
      have F_14 := Lib.hid (show RdW _ _ _ xF from Rd.of_own hown14)
      clear hB14 hbb hba hown14
      go_wp2_with fail
      obtain ⟨bS, oS, eS, hbS, c0⟩ := RdW.at_ S_14.out (show 112 < ls.length by rw [HSLN.out]; omega)
      cases eS
      rw [HVE.out] at c0
      simp only [Nat.zero_add] at c0
      obtain ⟨bT, oT, eT, hbT, d0, d1⟩ := RdE.at_ ST_14.out (show 0 < 1 by omega)
      cases eT
      simp only [List.getElem_cons_zero, Nat.zero_mul, Nat.add_zero] at d0 d1
      have ct0 : ∀ g : SW (fun X : World => Below w_14.heap.size w_14 X), g.w.cell? ⟨w_1.heap.size + 1, 0, none⟩ = some (.int .i64 17) := fun g => (g.ok.cell (p := ⟨w_1.heap.size + 1, 0, none⟩) hbT).trans d0
      have ct1 : ∀ g : SW (fun X : World => Below w_14.heap.size w_14 X), g.w.cell? ⟨w_1.heap.size + 1, 1, none⟩ = some (.int .u64 128) := fun g => (g.ok.cell (p := ⟨w_1.heap.size + 1, 1, none⟩) hbT).trans d1
      have ct2 : ∀ g : SW (fun X : World => Below w_14.heap.size w_14 X), g.w.cell? ⟨gs, 112, none⟩ = some (.int .u64 (vv : Int)) := fun g => (g.ok.cell (p := ⟨gs, 112, none⟩) hbS).trans c0
      clear d0 d1 c0 hbT hbS
      refine wp_region_seq (S := fun X : World => Below w_14.heap.size w_14 X) ((0, 0, 0) :: (0, 2, 0) :: (0, 3, 0) :: (0, 4, 0) :: (0, 5, 0) :: (0, 6, 0) :: (2, 1, 7) :: (1, 8, 0) :: (0, 9, 0) :: (0, 10, 0) :: (0, 12, 0) :: (0, 13, 0) :: (2, 11, 14) :: (1, 15, 0) :: (0, 16, 0) :: (0, 17, 0) :: (0, 18, 0) :: (0, 20, 0) :: (1, 19, 0) :: (1, 21, 0) :: (0, 22, 0) :: (0, 23, 0) :: (0, 24, 0) :: (1, 25, 0) :: (1, 26, 0) :: (0, 27, 0) :: (0, 28, 0) :: (0, 29, 0) :: (1, 30, 0) :: (1, 31, 0) :: (0, 32, 0) :: (0, 33, 0) :: []) (.one _ true (none) :: .one _ true (none) :: .one _ true (none) :: .one _ true (none) :: .one _ true (none) :: .one _ true (none) :: .two _ _ (none) :: .one _ false (none) :: .one _ true (none) :: .one _ true (some (some 190, true)) :: .one _ true (some (some 190, true)) :: .one _ true (some (some 190, true)) :: .two _ _ (some (some 190, true)) :: .one _ false (some (some 190, true)) :: .one _ true (none) :: .one _ true (none) :: .one _ true (some (some 198, true)) :: .one _ true (some (some 198, true)) :: .one _ false (some (some 198, true)) :: .one _ false (some (some 198, true)) :: .one _ true (none) :: .one _ true (none) :: .one _ true (some (some 204, true)) :: .one _ false (some (some 204, true)) :: .one _ false (some (some 204, true)) :: .one _ true (none) :: .one _ true (none) :: .one _ true (some (some 209, true)) :: .one _ false (some (some 209, true)) :: .one _ false (some (some 209, true)) :: .one _ true (none) :: .one _ true (none) :: []) (by kernel_rfl) (by kernel_rfl) (by decide) (by kernel_rfl) (by rfl) (fun _ _ d _ _ h => by cases d <;> exact h) (Below.refl _ _).drew ?_
      have HX0 := Lib.hid ((Below.refl w_14.heap.size w_14).drew)
      obtain ⟨X0, hX0⟩ : ∃ X, w_14.drew = X := ⟨_, rfl⟩
      rw [hX0] at HX0 ⊢
      clear hX0
      have hne : Nonempty (SW (fun X : World => Below w_14.heap.size w_14 X)) := ⟨⟨X0, HX0.out⟩⟩
      refine seq_take (by rfl) ?_
      intro K hK
      go_big_quiet_op
      go_big_quiet_on
      refine seq_take (by rfl) ?_
      intro K hK
      go_big_quiet_op
      go_big_quiet_on
      refine seq_take (by rfl) ?_
      intro K hK
      go_big_quiet_op
      go_big_quiet_on
      refine seq_take (by rfl) ?_
      intro K hK
      go_big_quiet_op
      go_big_quiet_on
      refine seq_take (by rfl) ?_
      intro K hK
      go_big_quiet_op
      go_big_quiet_on
      refine seq_take (by rfl) ?_
      intro K hK
      go_big_quiet_op
      go_big_quiet_on
      refine seq_two (isW q5) (isE 2 [⟨17, 128⟩, ⟨112, vv⟩]) (fun v1 v2 X => isW q5 v1 X ∧ isE 2 [⟨17, 128⟩, ⟨112, vv⟩] v2 X) (by rfl) (fun _ => ⟨by rfl, by rfl⟩) (fun _ _ => by rfl) ?_ ?_ ?_ ?_ ?_
      · intro K hK
        go_big_op
        refine (P6.out _ _ _ (X_14.out.up HX0.out HX0.out.size)).mono ?_
        rintro e Y ⟨g, d, rfl, hown, hb⟩
        exact hK _ _ (HX0.out.trans (hb.mono HX0.out.size)) (isW_of hown)
      · intro v1 Y hS hA K hK
        (try simp only [Act.put, List.setIfInBounds_toArray, List.set_cons_zero, List.set_cons_succ])
        go_big_op
        exact hK _ _ (hS.alloc hS.size _) ⟨isW_alloc hA, isE_new rfl⟩
      · intro K hK
        go_big_op
        exact hK _ _ (HX0.out.alloc HX0.out.size _) (isE_new rfl)
      · intro v2 Y0 hS hA K hK
        (try simp only [Act.put, List.setIfInBounds_toArray, List.set_cons_zero, List.set_cons_succ])
        go_big_op
        refine (P6.out _ _ _ (X_14.out.up hS hS.size)).mono ?_
        rintro e Y ⟨g, d, rfl, hown, hb⟩
        exact hK _ _ (hS.trans (hb.mono hS.size)) ⟨isW_of hown, isE_up hA hb⟩
      rintro v1 v2 X1 hS ⟨⟨gw, cw, rfl, hcw, hrw⟩, ⟨ge, rfl, hre⟩⟩
      have HX1 := Lib.hid hS
      have HW := Lib.hid hrw
      have HE := Lib.hid hre
      clear hS hrw hre
      (try simp only [Act.put, List.setIfInBounds_toArray, List.set_cons_zero, List.set_cons_succ])
      refine seq_do (by rfl) ?_
      intro K hK
      go_big_op
      refine (O6.out _ _ _ _ _ hcw HW.out HE.out).mono ?_
      rintro e X2 ⟨rfl, hb⟩
      have HX2 := Lib.hid (HX1.out.trans (hb.mono HX1.out.size))
      clear HW HE hcw
      refine hK _ _ HX2.out ?_
      clear hK K hb
      (try simp only [Act.put, List.setIfInBounds_toArray, List.set_cons_zero, List.set_cons_succ])
      refine seq_take (by rfl) ?_
      intro K hK
      go_big_quiet_op
      go_big_quiet_on
      refine seq_take (by rfl) ?_
      intro K hK
      go_big_quiet_op
      go_big_quiet_on
      refine seq_take (by rfl) ?_
      intro K hK
      go_big_quiet_op
      go_big_quiet_on
      refine seq_take (by rfl) ?_
      intro K hK
      go_big_quiet_op
      go_big_quiet_on
      refine seq_two (isW q6) (isE 2 [⟨17, 136⟩, ⟨134, 128⟩]) (fun v1 v2 X => isW q6 v1 X ∧ isE 2 [⟨17, 136⟩, ⟨134, 128⟩] v2 X) (by rfl) (fun _ => ⟨by rfl, by rfl⟩) (fun _ _ => by rfl) ?_ ?_ ?_ ?_ ?_
      · intro K hK
        go_big_op
        refine (P7.out _ _ _ (X_14.out.up HX2.out HX2.out.size)).mono ?_
        rintro e Y ⟨g, d, rfl, hown, hb⟩
        exact hK _ _ (HX2.out.trans (hb.mono HX2.out.size)) (isW_of hown)
      · intro v1 Y hS hA K hK
        (try simp only [Act.put, List.setIfInBounds_toArray, List.set_cons_zero, List.set_cons_succ])
        go_big_op
        exact hK _ _ (hS.alloc hS.size _) ⟨isW_alloc hA, isE_new rfl⟩
      · intro K hK
        go_big_op
        exact hK _ _ (HX2.out.alloc HX2.out.size _) (isE_new rfl)
      · intro v2 Y0 hS hA K hK
        (try simp only [Act.put, List.setIfInBounds_toArray, List.set_cons_zero, List.set_cons_succ])
        go_big_op
        refine (P7.out _ _ _ (X_14.out.up hS hS.size)).mono ?_
        rintro e Y ⟨g, d, rfl, hown, hb⟩
        exact hK _ _ (hS.trans (hb.mono hS.size)) ⟨isW_of hown, isE_up hA hb⟩
      rintro v1 v2 X3 hS ⟨⟨gw, cw, rfl, hcw, hrw⟩, ⟨ge, rfl, hre⟩⟩
      have HX3 := Lib.hid hS
      have HW := Lib.hid hrw
      have HE := Lib.hid hre
      clear hS hrw hre
      (try simp only [Act.put, List.setIfInBounds_toArray, List.set_cons_zero, List.set_cons_succ])
      refine seq_do (by rfl) ?_
      intro K hK
      go_big_op
      refine (O7.out _ _ _ _ _ hcw HW.out HE.out).mono ?_
      rintro e X4 ⟨rfl, hb⟩
      have HX4 := Lib.hid (HX3.out.trans (hb.mono HX3.out.size))
      clear HW HE hcw
      refine hK _ _ HX4.out ?_
      clear hK K hb
      (try simp only [Act.put, List.setIfInBounds_toArray, List.set_cons_zero, List.set_cons_succ])
      refine seq_take (by rfl) ?_
      intro K hK
      go_big_quiet_op
      go_big_quiet_on
      refine seq_take (by rfl) ?_
      intro K hK
      go_big_quiet_op
      go_big_quiet_on
      refine seq_take (by rfl) ?_
      intro K hK
      go_big_quiet_op
      go_big_quiet_on
      refine seq_take (by rfl) ?_
      intro K hK
      go_big_quiet_op
      go_big_quiet_on
      refine seq_do (by rfl) ?_
      intro K hK
      go_big_op
      refine (P8.out _ _ _ (X_14.out.up HX4.out HX4.out.size)).mono ?_
      rintro e X5 ⟨gw, cw, rfl, hown, hb⟩
      have HX5 := Lib.hid (HX4.out.trans (hb.mono HX4.out.size))
      have hcw := own_capR hown
      have HW := Lib.hid (show RdW _ _ _ q7 from Rd.of_own hown)
      clear hown
      refine hK _ _ HX5.out ?_
      clear hK K hb
      (try simp only [Act.put, List.setIfInBounds_toArray, List.set_cons_zero, List.set_cons_succ])
      refine seq_do (by rfl) ?_
      intro K hK
      go_big_op
      refine (O8.out _ _ _ _ _ hcw HW.out (SL_14.out.up HX5.out HX5.out.size)).mono ?_
      rintro e X6 ⟨rfl, hb⟩
      have HX6 := Lib.hid (HX5.out.trans (hb.mono HX5.out.size))
      clear HW hcw
      refine hK _ _ HX6.out ?_
      clear hK K hb
      (try simp only [Act.put, List.setIfInBounds_toArray, List.set_cons_zero, List.set_cons_succ])
      refine seq_take (by rfl) ?_
      intro K hK
      go_big_quiet_op
      go_big_quiet_on
      refine seq_take (by rfl) ?_
      intro K hK
      go_big_quiet_op
      go_big_quiet_on
      refine seq_take (by rfl) ?_
      intro K hK
      go_big_quiet_op
      go_big_quiet_on
      refine seq_do (by rfl) ?_
      intro K hK
      go_big_op
      refine (P9.out _ _ _ (F_14.out.up HX6.out HX6.out.size)).mono ?_
      rintro e X7 ⟨gw, cw, rfl, hown, hb⟩
      have HX7 := Lib.hid (HX6.out.trans (hb.mono HX6.out.size))
      have hcw := own_capR hown
      have HW := Lib.hid (show RdW _ _ _ q8 from Rd.of_own hown)
      clear hown
      refine hK _ _ HX7.out ?_
      clear hK K hb
      (try simp only [Act.put, List.setIfInBounds_toArray, List.set_cons_zero, List.set_cons_succ])
      refine seq_do (by rfl) ?_
      intro K hK
      go_big_op
      refine (O9.out _ none _ 0 _ hcw HW.out Rd.nil_).mono ?_
      rintro e X8 ⟨rfl, hb⟩
      have HX8 := Lib.hid (HX7.out.trans (hb.mono HX7.out.size))
      clear HW hcw
      refine hK _ _ HX8.out ?_
      clear hK K hb
      (try simp only [Act.put, List.setIfInBounds_toArray, List.set_cons_zero, List.set_cons_succ])
      refine seq_take (by rfl) ?_
      intro K hK
      go_big_quiet_op
      go_big_quiet_on
      refine seq_take (by rfl) ?_
      intro K hK
      go_big_quiet_op
      go_big_quiet_on
      refine seq_take (by rfl) ?_
      intro K hK
      go_big_quiet_op
      go_big_quiet_on
      refine seq_do (by rfl) ?_
      intro K hK
      go_big_op
      refine (PA.out _ _ _ (F_14.out.up HX8.out HX8.out.size)).mono ?_
      rintro e X9 ⟨gw, cw, rfl, hown, hb⟩
      have HX9 := Lib.hid (HX8.out.trans (hb.mono HX8.out.size))
      have hcw := own_capR hown
      have HW := Lib.hid (show RdW _ _ _ q9 from Rd.of_own hown)
      clear hown
      refine hK _ _ HX9.out ?_
      clear hK K hb
      (try simp only [Act.put, List.setIfInBounds_toArray, List.set_cons_zero, List.set_cons_succ])
      refine seq_do (by rfl) ?_
      intro K hK
      go_big_op
      refine (OA.out _ none _ 0 _ hcw HW.out Rd.nil_).mono ?_
      rintro e X10 ⟨rfl, hb⟩
      have HX10 := Lib.hid (HX9.out.trans (hb.mono HX9.out.size))
      clear HW hcw
      refine hK _ _ HX10.out ?_
      clear hK K hb
      (try simp only [Act.put, List.setIfInBounds_toArray, List.set_cons_zero, List.set_cons_succ])
      refine seq_take (by rfl) ?_
      intro K hK
      go_big_quiet_op
      go_big_quiet_on
      refine seq_take (by rfl) ?_
      intro K hK
      go_big_quiet_op
      go_big_quiet_on
      clear hne
      refine seq_nil ?_
      obtain ⟨w_15, hW⟩ : ∃ W, X10 = W := ⟨_, rfl⟩
      rw [hW] at HX10 ⊢
      clear hW
      have W_15 := Lib.hid (W_14.out.up HX10.out HX10.out.size)
      have SL_15 := Lib.hid (SL_14.out.up HX10.out HX10.out.size)
      have ST_15 := Lib.hid (ST_14.out.up HX10.out HX10.out.size)
      have X_15 := Lib.hid (X_14.out.up HX10.out HX10.out.size)
      have S_15 := Lib.hid (S_14.out.up HX10.out HX10.out.size)
      have F_15 := Lib.hid (F_14.out.up HX10.out HX10.out.size)
      have HB15 := Lib.hid (HB14.out.trans (HX10.out.mono HB14.out.size))
      clear ct0 ct1 ct2
      go_wp2_with fail
      refine (PF.out _ _ _ F_15.out).mono ?_
      rintro e w_16 ⟨g16, c16, rfl, hown16, hB16⟩
      have HB16 := Lib.hid (HB15.out.trans (hB16.mono HB15.out.size))
      have M_16 := Lib.hid (show RdW _ _ _ qf from Rd.of_own hown16)
      have CP16 := Lib.hid (own_capR hown16)
      clear hB16 hown16
      go_wp2_with fail
      refine (RF.out _ _ _ CP16.out M_16.out).mono ?_
      rintro e w_17 ⟨⟨A17, c17, rfl, hown17⟩, hB17⟩
      have HB17 := Lib.hid (HB16.out.trans (hB17.mono HB16.out.size))
      have E_17 := Lib.hid (show RdE _ _ _ [⟨17, 136⟩, ⟨18, 132⟩, ⟨128, v8⟩, ⟨129, 0⟩, ⟨130, 128⟩, ⟨131, 9⟩] from Rd.of_own hown17)
      clear hB17 hown17
      go_wp2_with fail
      refine (alive31_c _).mono ?_
      rintro e w_18 ⟨rfl, hB18⟩
      have E_18 := Lib.hid (E_17.out.up hB18 hB18.size)
      have HB18 := Lib.hid (HB17.out.trans (hB18.mono HB17.out.size))
      clear hB18
      obtain ⟨bE, oE, eA, hbE, s0, r0⟩ := RdE.at_ E_18.out (show 0 < 6 by omega)
      cases eA
      obtain ⟨bE, oE, eA, hbE, s1, r1⟩ := RdE.at_ E_18.out (show 1 < 6 by omega)
      cases eA
      obtain ⟨bE, oE, eA, hbE, s2, r2⟩ := RdE.at_ E_18.out (show 2 < 6 by omega)
      cases eA
      obtain ⟨bE, oE, eA, hbE, s3, r3⟩ := RdE.at_ E_18.out (show 3 < 6 by omega)
      cases eA
      obtain ⟨bE, oE, eA, hbE, s4, r4⟩ := RdE.at_ E_18.out (show 4 < 6 by omega)
      cases eA
      obtain ⟨bE, oE, eA, hbE, s5, r5⟩ := RdE.at_ E_18.out (show 5 < 6 by omega)
      cases eA
      simp only [List.getElem_cons_zero, List.getElem_cons_succ, Nat.zero_mul, Nat.add_zero, Nat.one_mul, Nat.reduceMul] at s0 s1 s2 s3 s4 s5 r0 r1 r2 r3 r4 r5
      go_wp2_with fail
      go_ret
      exact ⟨rfl, HB18.out⟩
end Go.Proofs.Ytpmfiibndiecpaa
