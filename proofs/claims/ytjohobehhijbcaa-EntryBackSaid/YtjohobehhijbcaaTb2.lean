/- Contract: the reference's table's bytes (Table). Conditions: those that each theorem states. -/
import Derived.Test.YtjohobehhijbcaaTb1
namespace Go.Proofs.Ytjohobehhijbcaa
open Go.ChangeShapes Go.WideShapes Go.ChangeAt Go.RowKit
set_option linter.unusedSimpArgs false
attribute [local go_sem] zeroV

theorem grown_setCell {w w1 : World} {r : Nat} (h : w.grownBy w1 (some r)) (o : Nat) (v : Value) : w.grownBy (w1.setCell ⟨r, o, none⟩ v) (some r) :=
  ⟨h.os, h.tape, h.output, by simpa using h.size, fun k hk hne => (heap_setCell_other w1 ⟨r, o, none⟩ k v (by simpa using hne)).trans (h.block k hk hne)⟩
theorem grown_setC (w : World) (b i : Nat) (v : Value) : w.grownBy (w.setCell ⟨b, i, none⟩ v) (some b) :=
  grown_setCell (grown_refl _ _) _ _
theorem splice_put (B X : List Int) (a k : Nat) (x : Int) (h : a + k < B.length) (hx : X[k]? = some x) : (splice B a (X.take k)).set (a + k) x = splice B a (X.take (k + 1)) := by
  have hk : k < X.length := (List.getElem?_eq_some_iff.1 hx).1
  have l1 : (X.take k).length = k := by simp; omega
  have l2 : (X.take (k + 1)).length = k + 1 := by simp; omega
  have l4 : (B.take a).length = a := by simp; omega
  have e : X.take (k + 1) = X.take k ++ [x] := by rw [List.take_add_one, hx]; rfl
  simp only [splice, l1, l2]
  rw [e, ← List.append_assoc (B.take a) (X.take k), List.set_append_right _ _ (by simp; omega)]
  rw [List.drop_eq_getElem_cons (by omega)]
  simp only [List.length_append, l1, l4, Nat.sub_self, List.set_cons_zero]
  simp [List.append_assoc, Nat.add_assoc]

set_option maxHeartbeats 4000000 in
set_option maxRecDepth 100000 in
theorem rt_yes (b o c : Nat) (k0 g0 k1 g1 k2 g2 k3 g3 : Int) (w : World) (h : E4 w b o k0 g0 k1 g1 k2 g2 k3 g3) (m0 : mayB k0 g0 = true) (m1 : mayB k1 g1 = true) (m2 : mayB k2 g2 = true) (m3 : mayB k3 g3 = true) :
    Calls Try.prog 34 #[.slice (some ⟨b, o, none⟩) 4 c] w fun e w' => e = .returned (.agg (bytesV (tabN k0 g0 k1 g1 k2 g2 k3 g3 4)).toArray) ∧ Below w.heap.size w w' := by
  have hb2 : Below w.heap.size w ((w.alloc (.cells (bytesV zeroB).toArray 49)).alloc (.cells (bytesV zeroB).toArray 49)) := ((Below.refl _ _).alloc (Nat.le_refl _) _).alloc (by simp) _
  have r1 : BytesAt (w.alloc (.cells (bytesV zeroB).toArray 49)) w.heap.size 49 zeroB := heap_here rfl
  have R2 : Hid (BytesAt ((w.alloc (.cells (bytesV zeroB).toArray 49)).alloc (.cells (bytesV zeroB).toArray 49)) (w.heap.size + 1) 49 zeroB) := heap_here (by simp)
  have R3 : Hid (BytesAt ((w.alloc (.cells (bytesV zeroB).toArray 49)).alloc (.cells (bytesV zeroB).toArray 49)) w.heap.size 49 zeroB) := heap_past (by simp) r1
  have HE := Lib.hid (h.below hb2)
  have HB := Lib.hid hb2
  have hbl := Lib.hid h.lt
  clear r1 h hb2
  go_enter Try.func34, Try.ntmps34
  go_wp2_with fail
  go_loopw [4] (fun i wr => ∃ k : Nat, k ≤ 4 ∧ i = .int .i64 k ∧ E4 wr b o k0 g0 k1 g1 k2 g2 k3 g3 ∧ BytesAt wr (w.heap.size + 1) 49 (tabN k0 g0 k1 g1 k2 g2 k3 g3 k) ∧ BytesAt wr w.heap.size 49 zeroB ∧ Below w.heap.size w wr) (fun i _ => 4 - (intOf i).toNat)
  case atStart => exact ⟨0, Nat.zero_le _, rfl, HE.out, R2.out, R3.out, HB.out⟩
  case round =>
    obtain ⟨k, hk, rfl, hE, hr2, hr3, hB⟩ := hrel
    clear HE R2 R3 HB
    have HE := Lib.hid hE
    have R2 := Lib.hid hr2
    have R3 := Lib.hid hr3
    have HB := Lib.hid hB
    obtain ⟨lt, c0, c1, c2, c3, c4, c5, c6, c7⟩ := hE
    clear hr2 hr3 hB lt
    rcases (show k = 0 ∨ k = 1 ∨ k = 2 ∨ k = 3 ∨ k = 4 by omega) with rfl | rfl | rfl | rfl | rfl
    · go_wp2_with (go_at_call 31; refine (rbytes_yes _ _ _ m0).mono ?_; rintro e w1 ⟨rfl, b1⟩; rw [agg8_ent]; have hst := st8_new w1 k0 g0; have hln := len8 k0 g0)
      have a1 : Below wr.heap.size wr (w1.alloc (.cells (bytesV (ent8 k0 g0)).toArray 22)) := b1.alloc b1.size _
      have I0 : Hid (BytesAt (w1.alloc (.cells (bytesV (ent8 k0 g0)).toArray 22)) (w.heap.size + 1) 49 (splice (tabN k0 g0 k1 g1 k2 g2 k3 g3 0) 0 ((ent8 k0 g0).take 0)) ∧ BytesAt (w1.alloc (.cells (bytesV (ent8 k0 g0)).toArray 22)) w1.heap.size 22 (ent8 k0 g0) ∧ E4 (w1.alloc (.cells (bytesV (ent8 k0 g0)).toArray 22)) b o k0 g0 k1 g1 k2 g2 k3 g3 ∧ BytesAt (w1.alloc (.cells (bytesV (ent8 k0 g0)).toArray 22)) w.heap.size 49 zeroB ∧ Below w.heap.size w (w1.alloc (.cells (bytesV (ent8 k0 g0)).toArray 22))) :=
        ⟨by simpa [splice] using R2.out.below a1, heap_here rfl, HE.out.below a1, R3.out.below a1, HB.out.trans (a1.mono HB.out.size)⟩
      obtain ⟨B8, hB8⟩ : ∃ B8, w1.heap.size = B8 := ⟨_, rfl⟩
      have hB9 : w.heap.size + 1 < B8 := by have := R2.out.lt; have := b1.size; omega
      rw [hB8] at I0 ⊢
      clear a1 b1 hst hln hB8 c0 c1 c2 c3 c4 c5 c6 c7 HE R2 R3 HB
      go_loopw [6] (fun i ws => ∃ j : Nat, j ≤ 8 ∧ i = .int .i64 j ∧ BytesAt ws (w.heap.size + 1) 49 (splice (tabN k0 g0 k1 g1 k2 g2 k3 g3 0) 0 ((ent8 k0 g0).take j)) ∧ BytesAt ws B8 22 (ent8 k0 g0) ∧ E4 ws b o k0 g0 k1 g1 k2 g2 k3 g3 ∧ BytesAt ws w.heap.size 49 zeroB ∧ Below w.heap.size w ws) (fun i _ => 8 - (intOf i).toNat)
      case atStart => exact ⟨0, Nat.zero_le _, rfl, I0.out⟩
      case round =>
        obtain ⟨j, hj, rfl, q1, q2, q3, q4, q5⟩ := hrel
        clear I0
        by_cases hjl : j < 8
        · obtain ⟨y, hy⟩ : ∃ y, (ent8 k0 g0)[j]? = some y := ⟨_, List.getElem?_eq_getElem (by rw [ent8_len]; exact hjl)⟩
          have hl := tabN_len k0 g0 k1 g1 k2 g2 k3 g3 0
          have d0 : wr.cell? ⟨B8, j, none⟩ = some (.int .u8 y) := by rw [q2.cell, hy]; rfl
          have hsl : (splice (tabN k0 g0 k1 g1 k2 g2 k3 g3 0) 0 ((ent8 k0 g0).take j)).length = 128 := by rw [splice_len _ _ _ (by rw [List.length_take, ent8_len, hl]; omega), hl]
          obtain ⟨z, f0⟩ : ∃ z, wr.cell? ⟨w.heap.size + 1, j, none⟩ = some (.int .u8 z) := ⟨_, by rw [q1.cell, List.getElem?_eq_getElem (by omega)]; rfl⟩
          have f1 := q1.froz (j)
          have hfin : Hid (BytesAt (wr.setCell ⟨w.heap.size + 1, j, none⟩ (.int .u8 y)) (w.heap.size + 1) 49 (splice (tabN k0 g0 k1 g1 k2 g2 k3 g3 0) 0 ((ent8 k0 g0).take (j + 1))) ∧ BytesAt (wr.setCell ⟨w.heap.size + 1, j, none⟩ (.int .u8 y)) B8 22 (ent8 k0 g0) ∧ E4 (wr.setCell ⟨w.heap.size + 1, j, none⟩ (.int .u8 y)) b o k0 g0 k1 g1 k2 g2 k3 g3 ∧ BytesAt (wr.setCell ⟨w.heap.size + 1, j, none⟩ (.int .u8 y)) w.heap.size 49 zeroB ∧ Below w.heap.size w (wr.setCell ⟨w.heap.size + 1, j, none⟩ (.int .u8 y))) :=
            ⟨by rw [← splice_put _ _ _ _ _ (by omega) hy]; have := q1.setCell (j) y; simpa using this, q2.grown (grown_setC _ _ _ _) (by simp; omega), q3.grown (grown_setC _ _ _ _) (by have := hbl.out; omega), q4.grown (grown_setC _ _ _ _) (by simp), q5.setCell (p := ⟨w.heap.size + 1, j, none⟩) (by show w.heap.size ≤ w.heap.size + 1; omega) _⟩
          have hw1 : IntKind.i64.wrap 0 = 0 := IntWalk.i64_in _ (by omega)
          clear q1 q2 q3 q4 q5 hy hsl hl
          go_wp2_with fail
          go_roundw
          case rel => exact ⟨j + 1, by omega, by go_num, hfin.out⟩
          case measure => simp [intOf]; omega
        · obtain rfl : j = 8 := by omega
          have hq : Hid (E4 wr b o k0 g0 k1 g1 k2 g2 k3 g3 ∧ BytesAt wr (w.heap.size + 1) 49 (tabN k0 g0 k1 g1 k2 g2 k3 g3 1) ∧ BytesAt wr w.heap.size 49 zeroB ∧ Below w.heap.size w wr) := ⟨q3, q1, q4, q5⟩
          clear q1 q2 q3 q4 q5
          go_wp2_with fail
          go_roundw
          case rel => exact ⟨1, by omega, by go_num, hq.out⟩
          case measure => simp [intOf]
    · go_wp2_with (go_at_call 31; refine (rbytes_yes _ _ _ m1).mono ?_; rintro e w1 ⟨rfl, b1⟩; rw [agg8_ent]; have hst := st8_new w1 k1 g1; have hln := len8 k1 g1)
      have a1 : Below wr.heap.size wr (w1.alloc (.cells (bytesV (ent8 k1 g1)).toArray 22)) := b1.alloc b1.size _
      have I0 : Hid (BytesAt (w1.alloc (.cells (bytesV (ent8 k1 g1)).toArray 22)) (w.heap.size + 1) 49 (splice (tabN k0 g0 k1 g1 k2 g2 k3 g3 1) 8 ((ent8 k1 g1).take 0)) ∧ BytesAt (w1.alloc (.cells (bytesV (ent8 k1 g1)).toArray 22)) w1.heap.size 22 (ent8 k1 g1) ∧ E4 (w1.alloc (.cells (bytesV (ent8 k1 g1)).toArray 22)) b o k0 g0 k1 g1 k2 g2 k3 g3 ∧ BytesAt (w1.alloc (.cells (bytesV (ent8 k1 g1)).toArray 22)) w.heap.size 49 zeroB ∧ Below w.heap.size w (w1.alloc (.cells (bytesV (ent8 k1 g1)).toArray 22))) :=
        ⟨by simpa [splice] using R2.out.below a1, heap_here rfl, HE.out.below a1, R3.out.below a1, HB.out.trans (a1.mono HB.out.size)⟩
      obtain ⟨B8, hB8⟩ : ∃ B8, w1.heap.size = B8 := ⟨_, rfl⟩
      have hB9 : w.heap.size + 1 < B8 := by have := R2.out.lt; have := b1.size; omega
      rw [hB8] at I0 ⊢
      clear a1 b1 hst hln hB8 c0 c1 c2 c3 c4 c5 c6 c7 HE R2 R3 HB
      go_loopw [6] (fun i ws => ∃ j : Nat, j ≤ 8 ∧ i = .int .i64 j ∧ BytesAt ws (w.heap.size + 1) 49 (splice (tabN k0 g0 k1 g1 k2 g2 k3 g3 1) 8 ((ent8 k1 g1).take j)) ∧ BytesAt ws B8 22 (ent8 k1 g1) ∧ E4 ws b o k0 g0 k1 g1 k2 g2 k3 g3 ∧ BytesAt ws w.heap.size 49 zeroB ∧ Below w.heap.size w ws) (fun i _ => 8 - (intOf i).toNat)
      case atStart => exact ⟨0, Nat.zero_le _, rfl, I0.out⟩
      case round =>
        obtain ⟨j, hj, rfl, q1, q2, q3, q4, q5⟩ := hrel
        clear I0
        by_cases hjl : j < 8
        · obtain ⟨y, hy⟩ : ∃ y, (ent8 k1 g1)[j]? = some y := ⟨_, List.getElem?_eq_getElem (by rw [ent8_len]; exact hjl)⟩
          have hl := tabN_len k0 g0 k1 g1 k2 g2 k3 g3 1
          have d0 : wr.cell? ⟨B8, j, none⟩ = some (.int .u8 y) := by rw [q2.cell, hy]; rfl
          have hsl : (splice (tabN k0 g0 k1 g1 k2 g2 k3 g3 1) 8 ((ent8 k1 g1).take j)).length = 128 := by rw [splice_len _ _ _ (by rw [List.length_take, ent8_len, hl]; omega), hl]
          obtain ⟨z, f0⟩ : ∃ z, wr.cell? ⟨w.heap.size + 1, 8 + j, none⟩ = some (.int .u8 z) := ⟨_, by rw [q1.cell, List.getElem?_eq_getElem (by omega)]; rfl⟩
          have f1 := q1.froz (8 + j)
          have hfin : Hid (BytesAt (wr.setCell ⟨w.heap.size + 1, 8 + j, none⟩ (.int .u8 y)) (w.heap.size + 1) 49 (splice (tabN k0 g0 k1 g1 k2 g2 k3 g3 1) 8 ((ent8 k1 g1).take (j + 1))) ∧ BytesAt (wr.setCell ⟨w.heap.size + 1, 8 + j, none⟩ (.int .u8 y)) B8 22 (ent8 k1 g1) ∧ E4 (wr.setCell ⟨w.heap.size + 1, 8 + j, none⟩ (.int .u8 y)) b o k0 g0 k1 g1 k2 g2 k3 g3 ∧ BytesAt (wr.setCell ⟨w.heap.size + 1, 8 + j, none⟩ (.int .u8 y)) w.heap.size 49 zeroB ∧ Below w.heap.size w (wr.setCell ⟨w.heap.size + 1, 8 + j, none⟩ (.int .u8 y))) :=
            ⟨by rw [← splice_put _ _ _ _ _ (by omega) hy]; have := q1.setCell (8 + j) y; simpa using this, q2.grown (grown_setC _ _ _ _) (by simp; omega), q3.grown (grown_setC _ _ _ _) (by have := hbl.out; omega), q4.grown (grown_setC _ _ _ _) (by simp), q5.setCell (p := ⟨w.heap.size + 1, 8 + j, none⟩) (by show w.heap.size ≤ w.heap.size + 1; omega) _⟩
          have hw1 : IntKind.i64.wrap 8 = 8 := IntWalk.i64_in _ (by omega)
          clear q1 q2 q3 q4 q5 hy hsl hl
          go_wp2_with fail
          go_roundw
          case rel => exact ⟨j + 1, by omega, by go_num, hfin.out⟩
          case measure => simp [intOf]; omega
        · obtain rfl : j = 8 := by omega
          have hq : Hid (E4 wr b o k0 g0 k1 g1 k2 g2 k3 g3 ∧ BytesAt wr (w.heap.size + 1) 49 (tabN k0 g0 k1 g1 k2 g2 k3 g3 2) ∧ BytesAt wr w.heap.size 49 zeroB ∧ Below w.heap.size w wr) := ⟨q3, q1, q4, q5⟩
          clear q1 q2 q3 q4 q5
          go_wp2_with fail
          go_roundw
          case rel => exact ⟨2, by omega, by go_num, hq.out⟩
          case measure => simp [intOf]
    · go_wp2_with (go_at_call 31; refine (rbytes_yes _ _ _ m2).mono ?_; rintro e w1 ⟨rfl, b1⟩; rw [agg8_ent]; have hst := st8_new w1 k2 g2; have hln := len8 k2 g2)
      have a1 : Below wr.heap.size wr (w1.alloc (.cells (bytesV (ent8 k2 g2)).toArray 22)) := b1.alloc b1.size _
      have I0 : Hid (BytesAt (w1.alloc (.cells (bytesV (ent8 k2 g2)).toArray 22)) (w.heap.size + 1) 49 (splice (tabN k0 g0 k1 g1 k2 g2 k3 g3 2) 16 ((ent8 k2 g2).take 0)) ∧ BytesAt (w1.alloc (.cells (bytesV (ent8 k2 g2)).toArray 22)) w1.heap.size 22 (ent8 k2 g2) ∧ E4 (w1.alloc (.cells (bytesV (ent8 k2 g2)).toArray 22)) b o k0 g0 k1 g1 k2 g2 k3 g3 ∧ BytesAt (w1.alloc (.cells (bytesV (ent8 k2 g2)).toArray 22)) w.heap.size 49 zeroB ∧ Below w.heap.size w (w1.alloc (.cells (bytesV (ent8 k2 g2)).toArray 22))) :=
        ⟨by simpa [splice] using R2.out.below a1, heap_here rfl, HE.out.below a1, R3.out.below a1, HB.out.trans (a1.mono HB.out.size)⟩
      obtain ⟨B8, hB8⟩ : ∃ B8, w1.heap.size = B8 := ⟨_, rfl⟩
      have hB9 : w.heap.size + 1 < B8 := by have := R2.out.lt; have := b1.size; omega
      rw [hB8] at I0 ⊢
      clear a1 b1 hst hln hB8 c0 c1 c2 c3 c4 c5 c6 c7 HE R2 R3 HB
      go_loopw [6] (fun i ws => ∃ j : Nat, j ≤ 8 ∧ i = .int .i64 j ∧ BytesAt ws (w.heap.size + 1) 49 (splice (tabN k0 g0 k1 g1 k2 g2 k3 g3 2) 16 ((ent8 k2 g2).take j)) ∧ BytesAt ws B8 22 (ent8 k2 g2) ∧ E4 ws b o k0 g0 k1 g1 k2 g2 k3 g3 ∧ BytesAt ws w.heap.size 49 zeroB ∧ Below w.heap.size w ws) (fun i _ => 8 - (intOf i).toNat)
      case atStart => exact ⟨0, Nat.zero_le _, rfl, I0.out⟩
      case round =>
        obtain ⟨j, hj, rfl, q1, q2, q3, q4, q5⟩ := hrel
        clear I0
        by_cases hjl : j < 8
        · obtain ⟨y, hy⟩ : ∃ y, (ent8 k2 g2)[j]? = some y := ⟨_, List.getElem?_eq_getElem (by rw [ent8_len]; exact hjl)⟩
          have hl := tabN_len k0 g0 k1 g1 k2 g2 k3 g3 2
          have d0 : wr.cell? ⟨B8, j, none⟩ = some (.int .u8 y) := by rw [q2.cell, hy]; rfl
          have hsl : (splice (tabN k0 g0 k1 g1 k2 g2 k3 g3 2) 16 ((ent8 k2 g2).take j)).length = 128 := by rw [splice_len _ _ _ (by rw [List.length_take, ent8_len, hl]; omega), hl]
          obtain ⟨z, f0⟩ : ∃ z, wr.cell? ⟨w.heap.size + 1, 16 + j, none⟩ = some (.int .u8 z) := ⟨_, by rw [q1.cell, List.getElem?_eq_getElem (by omega)]; rfl⟩
          have f1 := q1.froz (16 + j)
          have hfin : Hid (BytesAt (wr.setCell ⟨w.heap.size + 1, 16 + j, none⟩ (.int .u8 y)) (w.heap.size + 1) 49 (splice (tabN k0 g0 k1 g1 k2 g2 k3 g3 2) 16 ((ent8 k2 g2).take (j + 1))) ∧ BytesAt (wr.setCell ⟨w.heap.size + 1, 16 + j, none⟩ (.int .u8 y)) B8 22 (ent8 k2 g2) ∧ E4 (wr.setCell ⟨w.heap.size + 1, 16 + j, none⟩ (.int .u8 y)) b o k0 g0 k1 g1 k2 g2 k3 g3 ∧ BytesAt (wr.setCell ⟨w.heap.size + 1, 16 + j, none⟩ (.int .u8 y)) w.heap.size 49 zeroB ∧ Below w.heap.size w (wr.setCell ⟨w.heap.size + 1, 16 + j, none⟩ (.int .u8 y))) :=
            ⟨by rw [← splice_put _ _ _ _ _ (by omega) hy]; have := q1.setCell (16 + j) y; simpa using this, q2.grown (grown_setC _ _ _ _) (by simp; omega), q3.grown (grown_setC _ _ _ _) (by have := hbl.out; omega), q4.grown (grown_setC _ _ _ _) (by simp), q5.setCell (p := ⟨w.heap.size + 1, 16 + j, none⟩) (by show w.heap.size ≤ w.heap.size + 1; omega) _⟩
          have hw1 : IntKind.i64.wrap 16 = 16 := IntWalk.i64_in _ (by omega)
          clear q1 q2 q3 q4 q5 hy hsl hl
          go_wp2_with fail
          go_roundw
          case rel => exact ⟨j + 1, by omega, by go_num, hfin.out⟩
          case measure => simp [intOf]; omega
        · obtain rfl : j = 8 := by omega
          have hq : Hid (E4 wr b o k0 g0 k1 g1 k2 g2 k3 g3 ∧ BytesAt wr (w.heap.size + 1) 49 (tabN k0 g0 k1 g1 k2 g2 k3 g3 3) ∧ BytesAt wr w.heap.size 49 zeroB ∧ Below w.heap.size w wr) := ⟨q3, q1, q4, q5⟩
          clear q1 q2 q3 q4 q5
          go_wp2_with fail
          go_roundw
          case rel => exact ⟨3, by omega, by go_num, hq.out⟩
          case measure => simp [intOf]
    · go_wp2_with (go_at_call 31; refine (rbytes_yes _ _ _ m3).mono ?_; rintro e w1 ⟨rfl, b1⟩; rw [agg8_ent]; have hst := st8_new w1 k3 g3; have hln := len8 k3 g3)
      have a1 : Below wr.heap.size wr (w1.alloc (.cells (bytesV (ent8 k3 g3)).toArray 22)) := b1.alloc b1.size _
      have I0 : Hid (BytesAt (w1.alloc (.cells (bytesV (ent8 k3 g3)).toArray 22)) (w.heap.size + 1) 49 (splice (tabN k0 g0 k1 g1 k2 g2 k3 g3 3) 24 ((ent8 k3 g3).take 0)) ∧ BytesAt (w1.alloc (.cells (bytesV (ent8 k3 g3)).toArray 22)) w1.heap.size 22 (ent8 k3 g3) ∧ E4 (w1.alloc (.cells (bytesV (ent8 k3 g3)).toArray 22)) b o k0 g0 k1 g1 k2 g2 k3 g3 ∧ BytesAt (w1.alloc (.cells (bytesV (ent8 k3 g3)).toArray 22)) w.heap.size 49 zeroB ∧ Below w.heap.size w (w1.alloc (.cells (bytesV (ent8 k3 g3)).toArray 22))) :=
        ⟨by simpa [splice] using R2.out.below a1, heap_here rfl, HE.out.below a1, R3.out.below a1, HB.out.trans (a1.mono HB.out.size)⟩
      obtain ⟨B8, hB8⟩ : ∃ B8, w1.heap.size = B8 := ⟨_, rfl⟩
      have hB9 : w.heap.size + 1 < B8 := by have := R2.out.lt; have := b1.size; omega
      rw [hB8] at I0 ⊢
      clear a1 b1 hst hln hB8 c0 c1 c2 c3 c4 c5 c6 c7 HE R2 R3 HB
      go_loopw [6] (fun i ws => ∃ j : Nat, j ≤ 8 ∧ i = .int .i64 j ∧ BytesAt ws (w.heap.size + 1) 49 (splice (tabN k0 g0 k1 g1 k2 g2 k3 g3 3) 24 ((ent8 k3 g3).take j)) ∧ BytesAt ws B8 22 (ent8 k3 g3) ∧ E4 ws b o k0 g0 k1 g1 k2 g2 k3 g3 ∧ BytesAt ws w.heap.size 49 zeroB ∧ Below w.heap.size w ws) (fun i _ => 8 - (intOf i).toNat)
      case atStart => exact ⟨0, Nat.zero_le _, rfl, I0.out⟩
      case round =>
        obtain ⟨j, hj, rfl, q1, q2, q3, q4, q5⟩ := hrel
        clear I0
        by_cases hjl : j < 8
        · obtain ⟨y, hy⟩ : ∃ y, (ent8 k3 g3)[j]? = some y := ⟨_, List.getElem?_eq_getElem (by rw [ent8_len]; exact hjl)⟩
          have hl := tabN_len k0 g0 k1 g1 k2 g2 k3 g3 3
          have d0 : wr.cell? ⟨B8, j, none⟩ = some (.int .u8 y) := by rw [q2.cell, hy]; rfl
          have hsl : (splice (tabN k0 g0 k1 g1 k2 g2 k3 g3 3) 24 ((ent8 k3 g3).take j)).length = 128 := by rw [splice_len _ _ _ (by rw [List.length_take, ent8_len, hl]; omega), hl]
          obtain ⟨z, f0⟩ : ∃ z, wr.cell? ⟨w.heap.size + 1, 24 + j, none⟩ = some (.int .u8 z) := ⟨_, by rw [q1.cell, List.getElem?_eq_getElem (by omega)]; rfl⟩
          have f1 := q1.froz (24 + j)
          have hfin : Hid (BytesAt (wr.setCell ⟨w.heap.size + 1, 24 + j, none⟩ (.int .u8 y)) (w.heap.size + 1) 49 (splice (tabN k0 g0 k1 g1 k2 g2 k3 g3 3) 24 ((ent8 k3 g3).take (j + 1))) ∧ BytesAt (wr.setCell ⟨w.heap.size + 1, 24 + j, none⟩ (.int .u8 y)) B8 22 (ent8 k3 g3) ∧ E4 (wr.setCell ⟨w.heap.size + 1, 24 + j, none⟩ (.int .u8 y)) b o k0 g0 k1 g1 k2 g2 k3 g3 ∧ BytesAt (wr.setCell ⟨w.heap.size + 1, 24 + j, none⟩ (.int .u8 y)) w.heap.size 49 zeroB ∧ Below w.heap.size w (wr.setCell ⟨w.heap.size + 1, 24 + j, none⟩ (.int .u8 y))) :=
            ⟨by rw [← splice_put _ _ _ _ _ (by omega) hy]; have := q1.setCell (24 + j) y; simpa using this, q2.grown (grown_setC _ _ _ _) (by simp; omega), q3.grown (grown_setC _ _ _ _) (by have := hbl.out; omega), q4.grown (grown_setC _ _ _ _) (by simp), q5.setCell (p := ⟨w.heap.size + 1, 24 + j, none⟩) (by show w.heap.size ≤ w.heap.size + 1; omega) _⟩
          have hw1 : IntKind.i64.wrap 24 = 24 := IntWalk.i64_in _ (by omega)
          clear q1 q2 q3 q4 q5 hy hsl hl
          go_wp2_with fail
          go_roundw
          case rel => exact ⟨j + 1, by omega, by go_num, hfin.out⟩
          case measure => simp [intOf]; omega
        · obtain rfl : j = 8 := by omega
          have hq : Hid (E4 wr b o k0 g0 k1 g1 k2 g2 k3 g3 ∧ BytesAt wr (w.heap.size + 1) 49 (tabN k0 g0 k1 g1 k2 g2 k3 g3 4) ∧ BytesAt wr w.heap.size 49 zeroB ∧ Below w.heap.size w wr) := ⟨q3, q1, q4, q5⟩
          clear q1 q2 q3 q4 q5
          go_wp2_with fail
          go_roundw
          case rel => exact ⟨4, by omega, by go_num, hq.out⟩
          case measure => simp [intOf]
    · have hl := tabN_len k0 g0 k1 g1 k2 g2 k3 g3 4
      have hst := st_mid (X := tabN k0 g0 k1 g1 k2 g2 k3 g3 4) R3.out 0 (by rw [hl, zlen]; omega)
      rw [splice_all _ _ (by rw [hl, zlen])] at hst
      have hln : (bytesV (tabN k0 g0 k1 g1 k2 g2 k3 g3 4)).length = 128 := by rw [bytesV_len, hl]
      have HL := Lib.hid hl
      have HR := Lib.hid (rng_row R2.out)
      have R6 : Hid (BytesAt (wr.setRow w.heap.size (bytesV (tabN k0 g0 k1 g1 k2 g2 k3 g3 4)).toArray) w.heap.size 49 (tabN k0 g0 k1 g1 k2 g2 k3 g3 4)) := setRow_heap _ _ _ _ _ _ R3.out
      have HB' := Lib.hid (below_setRow HB.out (Nat.le_refl _) (bytesV (tabN k0 g0 k1 g1 k2 g2 k3 g3 4)).toArray)
      clear hl c0 c1 c2 c3 c4 c5 c6 c7
      go_wp2_with (first | (refine wpList_ld rfl (.tmp 3) rfl (w.heap.size + 1) 0 (tabN k0 g0 k1 g1 k2 g2 k3 g3 4) rfl HL.out HR.out ?_))
      refine ret_row rfl w.heap.size 49 _ (0, 0) _ Try.underlying49 rfl ?_ rfl R6.out rfl ?_
      · rw [size49, List.size_toArray, hln]
      · exact ⟨rfl, HB'.out⟩
end Go.Proofs.Ytjohobehhijbcaa
