/- Contracts of layer 9's tables: is there a table, slots, entries got. Conditions: those that each theorem states. -/
import Derived.Test.YtfeoaphibkcejaaEn
import Derived.Test.YtfeoaphibkcejaaNew
namespace Go.Proofs.Ytfeoaphibkcejaa
open Go.ChangeShapes Go.WideShapes Go.ChangeAt Go.RowKit
set_option linter.unusedSimpArgs false
set_option maxRecDepth 100000

attribute [local go_sem] zeroV arr8
/-- The entry in a slot of a granule's bytes: what is none is Empty. -/
def getE (G : List Int) (i : Nat) : Int × Int := if okAt G i then (kAt G i, gAt G i) else (0, 0)
/-- Tables over a memory and rows. -/
structure Rt (w : World) (xb mb ab tb rb n : Nat) (B : List Int) (R : List Rw) : Prop where
  x : w.heap[xb]? = some (.cells #[.pointer (some ⟨mb, 0, none⟩), .pointer (some ⟨tb, 0, none⟩)] 25 (0, 0))
  m : Mem w mb ab n B
  a : AllB B
  t : Tab w tb rb R
  len : R.length = n
  n1 : ab ≠ xb
  n2 : ab ≠ tb
  n3 : ab ≠ rb
  n4 : rb ≠ xb
  n5 : rb ≠ mb
theorem Rt.lt {w : World} {xb mb ab tb rb n : Nat} {B : List Int} {R : List Rw} (h : Rt w xb mb ab tb rb n B R) : xb < w.heap.size := (Array.getElem?_eq_some_iff.1 h.x).1
theorem Rt.below {w w' : World} {xb mb ab tb rb n : Nat} {B : List Int} {R : List Rw} (h : Rt w xb mb ab tb rb n B R) (hb : Below w.heap.size w w') : Rt w' xb mb ab tb rb n B R :=
  ⟨(hb.block _ h.lt).trans h.x, h.m.below hb, h.a, h.t.below hb, h.len, h.n1, h.n2, h.n3, h.n4, h.n5⟩
theorem Rt.mem {w w' : World} {xb mb ab tb rb n : Nat} {B B' : List Int} {R : List Rw} (h : Rt w xb mb ab tb rb n B R) (m : Mem w' mb ab n B') (a : AllB B') (g : w.grownBy w' (some ab)) : Rt w' xb mb ab tb rb n B' R :=
  ⟨(g.block _ h.lt (by simp [h.n1.symm])).trans h.x, m, a, ⟨(g.block _ h.t.lt.1 (by simp [h.n2.symm])).trans h.t.tab, h.t.rows.grown g (by simp [h.n3.symm]), h.t.ne⟩, h.len, h.n1, h.n2, h.n3, h.n4, h.n5⟩
theorem Rt.tab {w w' : World} {xb mb ab tb rb n : Nat} {B : List Int} {R R' : List Rw} (h : Rt w xb mb ab tb rb n B R) (u : Upd w w' tb rb R') (hl : R'.length = n) : Rt w' xb mb ab tb rb n B R' :=
  ⟨(u.only.block _ h.lt (by simp [h.n4.symm])).trans h.x, h.m.grown u.only (by simp [h.n5.symm]) (by simp [h.n3]), h.a, u.tab, hl, h.n1, h.n2, h.n3, h.n4, h.n5⟩

theorem there_yes (xb mb ab tb rb n : Nat) (B : List Int) (R : List Rw) (w : World) (h : Rt w xb mb ab tb rb n B R) :
    Calls Try.prog 14 #[.pointer (some ⟨xb, 0, none⟩)] w fun e w' => e = .returned (.bool true) ∧ w = w' := by
  have c0 := cell_of_row _ _ 0 _ _ _ h.x
  have c1 := cell_of_row _ _ 1 _ _ _ h.x
  have hp := h.m.pos
  have hx := h.m.max
  have hl := h.len
  have H := Lib.hid h
  have F := Lib.hid (granules_tab tb rb R w h.t)
  rw [hl] at F
  clear h hl
  go_enter Try.func14, Try.ntmps14
  go_wp2_with (first | (go_at_call 29; refine (gran _ _ _ _ _ H.out.m).mono ?_; rintro e w1 ⟨rfl, rfl⟩) | (go_at_call 30; refine F.out.mono ?_; rintro e w1 ⟨rfl, rfl⟩))
  all_goals first | (exfalso; omega) | skip
  go_ret
  exact ⟨rfl, rfl⟩
theorem table_in (xb mb ab tb rb n : Nat) (B : List Int) (R : List Rw) (g : Nat) (s o k : Int) (w : World) (h : Rt w xb mb ab tb rb n B R) (hg : g < n) (hr : rowD R g = (s, o, k)) :
    Calls Try.prog 15 #[.pointer (some ⟨xb, 0, none⟩), .int .i64 g] w fun e w' => e = .returned (.bool (s == 4)) ∧ Below w.heap.size w w' := by
  have c1 := cell_of_row _ _ 1 _ _ _ h.x
  have F := Lib.hid (Row_in tb rb R g s o k w h.t (by rw [h.len]; exact hg) hr)
  clear h hr
  go_enter Try.func15, Try.ntmps15
  go_wp2_with (first | (go_at_call 22; refine F.out.mono ?_; rintro e w1 ⟨rfl, b1⟩))
  all_goals go_ret
  all_goals exact ⟨rfl, b1.alloc b1.size _⟩
theorem slot_any (p l : Int) (w : World) (h1 : 0 ≤ p) (h2 : p < 256) (h3 : 0 ≤ l) (h4 : l < 4) :
    Calls Try.prog 31 #[.int .i64 p, .int .i64 l] w fun e w' => e = .returned (.int .i64 (slotV p l)) ∧ w = w' := by
  rcases lvl h3 h4 with rfl | rfl | rfl | rfl
  all_goals clear h3 h4
  all_goals go_enter Try.func31, Try.ntmps31
  all_goals go_wp2
  all_goals go_ret
  · exact ⟨ret_int (and3' (by omega) (by omega)), rfl⟩
  · exact ⟨ret_int (and3' (by omega) (by omega)), rfl⟩
  · exact ⟨ret_int (and3' (by omega) (by omega)), rfl⟩
  · exact ⟨ret_int ((and3' (by omega) (by omega)).trans (by simp [slotV, many3])), rfl⟩
set_option maxHeartbeats 4000000 in
theorem get_true0 (xb mb ab tb rb n : Nat) (B : List Int) (R : List Rw) (g : Nat) (w : World) (h : Rt w xb mb ab tb rb n B R) (hg : g < n) (hok : okAt (sub B g) 0 = true) :
    Calls Try.prog 26 #[.pointer (some ⟨xb, 0, none⟩), .int .i64 g, .int .i64 0] w fun e w' => e = .returned (.agg #[.int .i64 (kAt (sub B g) 0), .int .i64 (gAt (sub B g) 0)]) ∧ Below w.heap.size w w' := by
  have c0 := cell_of_row _ _ 0 _ _ _ (h.below ((Below.refl _ _).alloc (Nat.le_refl _) (.cells #[.int .i64 0, .int .i64 0] 31))).x
  have hb0 := (Below.refl w.heap.size w).alloc (Nat.le_refl _) (.cells #[.int .i64 0, .int .i64 0] 31)
  have HS := Lib.hid (sub_len B g n h.m.len hg)
  have HA := Lib.hid (sub_all h.a g)
  have F := Lib.hid (gget_yes mb ab n B g (w.alloc (.cells #[.int .i64 0, .int .i64 0] 31)) (h.m.below hb0) hg)
  have hof := of_at (sub B g) HA.out 0
  rw [hok] at hof
  simp only [Nat.mul_zero, Nat.mul_one, Nat.reduceMul, Nat.reduceAdd, Nat.zero_add, Nat.add_zero, if_true, Bool.false_eq_true, if_false] at hof
  have HOF := Lib.hid hof
  have R0 : Hid ((w.alloc (.cells #[.int .i64 0, .int .i64 0] 31)).heap[w.heap.size]? = some (.cells #[.int .i64 0, .int .i64 0] 31 (0, 0))) := heap_here rfl
  clear h hof hb0 hok
  go_enter Try.func26, Try.ntmps26
  go_wp2_with (first | (go_at_call 34; refine F.out.mono ?_; rintro e w1 ⟨rfl, b1⟩; have hst := st_new w1 (zeroB 1) (sub B g) zlen HS.out; have hln : (bytesV (sub B g)).length = 128 := (by rw [bytesV_len, HS.out]); have R1 : Hid (BytesAt (w1.alloc (.cells (bytesV (sub B g)).toArray 60)) w1.heap.size 60 (sub B g)) := heap_here rfl; have d0 := byD_cell R1.out (8 * 0 + 0) (by rw [HS.out]; omega); have d1 := byD_cell R1.out (8 * 0 + 1) (by rw [HS.out]; omega); have d2 := byD_cell R1.out (8 * 0 + 2) (by rw [HS.out]; omega); have d3 := byD_cell R1.out (8 * 0 + 3) (by rw [HS.out]; omega); have d4 := byD_cell R1.out (8 * 0 + 4) (by rw [HS.out]; omega); have d5 := byD_cell R1.out (8 * 0 + 5) (by rw [HS.out]; omega); have d6 := byD_cell R1.out (8 * 0 + 6) (by rw [HS.out]; omega); have d7 := byD_cell R1.out (8 * 0 + 7) (by rw [HS.out]; omega); simp only [Nat.mul_zero, Nat.mul_one, Nat.reduceMul, Nat.reduceAdd, Nat.zero_add, Nat.add_zero] at d0 d1 d2 d3 d4 d5 d6 d7; have b2 := b1.alloc b1.size (.cells (bytesV (sub B g)).toArray 60); have R2 : Hid ((w1.alloc (.cells (bytesV (sub B g)).toArray 60)).heap[w.heap.size]? = some (.cells #[.int .i64 0, .int .i64 0] 31 (0, 0))) := (b2.block _ (Array.getElem?_eq_some_iff.1 R0.out).1).trans R0.out; have B2 : Hid (Below w.heap.size w (w1.alloc (.cells (bytesV (sub B g)).toArray 60))) := ((Below.refl w.heap.size w).alloc (Nat.le_refl _) _).trans (b2.mono (by simp)); clear b1 b2) | (go_at_call 41; refine (HOF.out _).mono ?_; rintro e w2 ⟨rfl, b3⟩; have R3 : Hid (w2.heap[w.heap.size]? = some (.cells #[.int .i64 0, .int .i64 0] 31 (0, 0))) := (b3.block _ (Array.getElem?_eq_some_iff.1 R2.out).1).trans R2.out; have B3 := Lib.hid (B2.out.trans (b3.mono B2.out.size)); have hz3 : w.heap.size < w2.heap.size := (Array.getElem?_eq_some_iff.1 R3.out).1; have g0 := cell_of_row _ _ 0 _ _ _ R3.out; have g1 := cell_of_row _ _ 1 _ _ _ R3.out; have f0 := frozen_of_row _ _ 0 _ _ R3.out; have f1 := frozen_of_row _ _ 1 _ _ R3.out; clear b3 d0 d1 d2 d3 d4 d5 d6 d7))
  refine ret_row rfl w.heap.size 31 _ (0, 0) _ Try.underlying31 rfl (by kernel_rfl) rfl (heap_past (by simpa [World.setCell] using hz3) (heap_setCell_same _ _ 1 _ _ _ (heap_setCell_same _ _ 0 _ _ _ R3.out))) rfl ?_
  exact ⟨rfl, (((B3.out.setCell (p := ⟨w.heap.size, 0, none⟩) (Nat.le_refl _) _).setCell (p := ⟨w.heap.size, 1, none⟩) (Nat.le_refl _) _)).alloc (by simp [World.setCell]; omega) _⟩
set_option maxHeartbeats 4000000 in
theorem get_false0 (xb mb ab tb rb n : Nat) (B : List Int) (R : List Rw) (g : Nat) (w : World) (h : Rt w xb mb ab tb rb n B R) (hg : g < n) (hok : okAt (sub B g) 0 = false) :
    Calls Try.prog 26 #[.pointer (some ⟨xb, 0, none⟩), .int .i64 g, .int .i64 0] w fun e w' => e = .returned (.agg #[.int .i64 0, .int .i64 0]) ∧ Below w.heap.size w w' := by
  have c0 := cell_of_row _ _ 0 _ _ _ (h.below ((Below.refl _ _).alloc (Nat.le_refl _) (.cells #[.int .i64 0, .int .i64 0] 31))).x
  have hb0 := (Below.refl w.heap.size w).alloc (Nat.le_refl _) (.cells #[.int .i64 0, .int .i64 0] 31)
  have HS := Lib.hid (sub_len B g n h.m.len hg)
  have HA := Lib.hid (sub_all h.a g)
  have F := Lib.hid (gget_yes mb ab n B g (w.alloc (.cells #[.int .i64 0, .int .i64 0] 31)) (h.m.below hb0) hg)
  have hof := of_at (sub B g) HA.out 0
  rw [hok] at hof
  simp only [Nat.mul_zero, Nat.mul_one, Nat.reduceMul, Nat.reduceAdd, Nat.zero_add, Nat.add_zero, if_true, Bool.false_eq_true, if_false] at hof
  have HOF := Lib.hid hof
  have R0 : Hid ((w.alloc (.cells #[.int .i64 0, .int .i64 0] 31)).heap[w.heap.size]? = some (.cells #[.int .i64 0, .int .i64 0] 31 (0, 0))) := heap_here rfl
  clear h hof hb0 hok
  go_enter Try.func26, Try.ntmps26
  go_wp2_with (first | (go_at_call 34; refine F.out.mono ?_; rintro e w1 ⟨rfl, b1⟩; have hst := st_new w1 (zeroB 1) (sub B g) zlen HS.out; have hln : (bytesV (sub B g)).length = 128 := (by rw [bytesV_len, HS.out]); have R1 : Hid (BytesAt (w1.alloc (.cells (bytesV (sub B g)).toArray 60)) w1.heap.size 60 (sub B g)) := heap_here rfl; have d0 := byD_cell R1.out (8 * 0 + 0) (by rw [HS.out]; omega); have d1 := byD_cell R1.out (8 * 0 + 1) (by rw [HS.out]; omega); have d2 := byD_cell R1.out (8 * 0 + 2) (by rw [HS.out]; omega); have d3 := byD_cell R1.out (8 * 0 + 3) (by rw [HS.out]; omega); have d4 := byD_cell R1.out (8 * 0 + 4) (by rw [HS.out]; omega); have d5 := byD_cell R1.out (8 * 0 + 5) (by rw [HS.out]; omega); have d6 := byD_cell R1.out (8 * 0 + 6) (by rw [HS.out]; omega); have d7 := byD_cell R1.out (8 * 0 + 7) (by rw [HS.out]; omega); simp only [Nat.mul_zero, Nat.mul_one, Nat.reduceMul, Nat.reduceAdd, Nat.zero_add, Nat.add_zero] at d0 d1 d2 d3 d4 d5 d6 d7; have b2 := b1.alloc b1.size (.cells (bytesV (sub B g)).toArray 60); have R2 : Hid ((w1.alloc (.cells (bytesV (sub B g)).toArray 60)).heap[w.heap.size]? = some (.cells #[.int .i64 0, .int .i64 0] 31 (0, 0))) := (b2.block _ (Array.getElem?_eq_some_iff.1 R0.out).1).trans R0.out; have B2 : Hid (Below w.heap.size w (w1.alloc (.cells (bytesV (sub B g)).toArray 60))) := ((Below.refl w.heap.size w).alloc (Nat.le_refl _) _).trans (b2.mono (by simp)); clear b1 b2) | (go_at_call 41; refine (HOF.out _).mono ?_; rintro e w2 ⟨rfl, b3⟩; have R3 : Hid (w2.heap[w.heap.size]? = some (.cells #[.int .i64 0, .int .i64 0] 31 (0, 0))) := (b3.block _ (Array.getElem?_eq_some_iff.1 R2.out).1).trans R2.out; have B3 := Lib.hid (B2.out.trans (b3.mono B2.out.size)); have hz3 : w.heap.size < w2.heap.size := (Array.getElem?_eq_some_iff.1 R3.out).1; have g0 := cell_of_row _ _ 0 _ _ _ R3.out; have g1 := cell_of_row _ _ 1 _ _ _ R3.out; have f0 := frozen_of_row _ _ 0 _ _ R3.out; have f1 := frozen_of_row _ _ 1 _ _ R3.out; clear b3 d0 d1 d2 d3 d4 d5 d6 d7))
  refine ret_row rfl w.heap.size 31 _ (0, 0) _ Try.underlying31 rfl (by kernel_rfl) rfl (heap_past (by simpa [World.setCell] using hz3) (heap_setCell_same _ _ 1 _ _ _ (heap_setCell_same _ _ 0 _ _ _ R3.out))) rfl ?_
  exact ⟨rfl, (((B3.out.setCell (p := ⟨w.heap.size, 0, none⟩) (Nat.le_refl _) _).setCell (p := ⟨w.heap.size, 1, none⟩) (Nat.le_refl _) _)).alloc (by simp [World.setCell]; omega) _⟩
set_option maxHeartbeats 4000000 in
theorem get_true1 (xb mb ab tb rb n : Nat) (B : List Int) (R : List Rw) (g : Nat) (w : World) (h : Rt w xb mb ab tb rb n B R) (hg : g < n) (hok : okAt (sub B g) 1 = true) :
    Calls Try.prog 26 #[.pointer (some ⟨xb, 0, none⟩), .int .i64 g, .int .i64 1] w fun e w' => e = .returned (.agg #[.int .i64 (kAt (sub B g) 1), .int .i64 (gAt (sub B g) 1)]) ∧ Below w.heap.size w w' := by
  have c0 := cell_of_row _ _ 0 _ _ _ (h.below ((Below.refl _ _).alloc (Nat.le_refl _) (.cells #[.int .i64 0, .int .i64 0] 31))).x
  have hb0 := (Below.refl w.heap.size w).alloc (Nat.le_refl _) (.cells #[.int .i64 0, .int .i64 0] 31)
  have HS := Lib.hid (sub_len B g n h.m.len hg)
  have HA := Lib.hid (sub_all h.a g)
  have F := Lib.hid (gget_yes mb ab n B g (w.alloc (.cells #[.int .i64 0, .int .i64 0] 31)) (h.m.below hb0) hg)
  have hof := of_at (sub B g) HA.out 1
  rw [hok] at hof
  simp only [Nat.mul_zero, Nat.mul_one, Nat.reduceMul, Nat.reduceAdd, Nat.zero_add, Nat.add_zero, if_true, Bool.false_eq_true, if_false] at hof
  have HOF := Lib.hid hof
  have R0 : Hid ((w.alloc (.cells #[.int .i64 0, .int .i64 0] 31)).heap[w.heap.size]? = some (.cells #[.int .i64 0, .int .i64 0] 31 (0, 0))) := heap_here rfl
  clear h hof hb0 hok
  go_enter Try.func26, Try.ntmps26
  go_wp2_with (first | (go_at_call 34; refine F.out.mono ?_; rintro e w1 ⟨rfl, b1⟩; have hst := st_new w1 (zeroB 1) (sub B g) zlen HS.out; have hln : (bytesV (sub B g)).length = 128 := (by rw [bytesV_len, HS.out]); have R1 : Hid (BytesAt (w1.alloc (.cells (bytesV (sub B g)).toArray 60)) w1.heap.size 60 (sub B g)) := heap_here rfl; have d0 := byD_cell R1.out (8 * 1 + 0) (by rw [HS.out]; omega); have d1 := byD_cell R1.out (8 * 1 + 1) (by rw [HS.out]; omega); have d2 := byD_cell R1.out (8 * 1 + 2) (by rw [HS.out]; omega); have d3 := byD_cell R1.out (8 * 1 + 3) (by rw [HS.out]; omega); have d4 := byD_cell R1.out (8 * 1 + 4) (by rw [HS.out]; omega); have d5 := byD_cell R1.out (8 * 1 + 5) (by rw [HS.out]; omega); have d6 := byD_cell R1.out (8 * 1 + 6) (by rw [HS.out]; omega); have d7 := byD_cell R1.out (8 * 1 + 7) (by rw [HS.out]; omega); simp only [Nat.mul_zero, Nat.mul_one, Nat.reduceMul, Nat.reduceAdd, Nat.zero_add, Nat.add_zero] at d0 d1 d2 d3 d4 d5 d6 d7; have b2 := b1.alloc b1.size (.cells (bytesV (sub B g)).toArray 60); have R2 : Hid ((w1.alloc (.cells (bytesV (sub B g)).toArray 60)).heap[w.heap.size]? = some (.cells #[.int .i64 0, .int .i64 0] 31 (0, 0))) := (b2.block _ (Array.getElem?_eq_some_iff.1 R0.out).1).trans R0.out; have B2 : Hid (Below w.heap.size w (w1.alloc (.cells (bytesV (sub B g)).toArray 60))) := ((Below.refl w.heap.size w).alloc (Nat.le_refl _) _).trans (b2.mono (by simp)); clear b1 b2) | (go_at_call 41; refine (HOF.out _).mono ?_; rintro e w2 ⟨rfl, b3⟩; have R3 : Hid (w2.heap[w.heap.size]? = some (.cells #[.int .i64 0, .int .i64 0] 31 (0, 0))) := (b3.block _ (Array.getElem?_eq_some_iff.1 R2.out).1).trans R2.out; have B3 := Lib.hid (B2.out.trans (b3.mono B2.out.size)); have hz3 : w.heap.size < w2.heap.size := (Array.getElem?_eq_some_iff.1 R3.out).1; have g0 := cell_of_row _ _ 0 _ _ _ R3.out; have g1 := cell_of_row _ _ 1 _ _ _ R3.out; have f0 := frozen_of_row _ _ 0 _ _ R3.out; have f1 := frozen_of_row _ _ 1 _ _ R3.out; clear b3 d0 d1 d2 d3 d4 d5 d6 d7))
  refine ret_row rfl w.heap.size 31 _ (0, 0) _ Try.underlying31 rfl (by kernel_rfl) rfl (heap_past (by simpa [World.setCell] using hz3) (heap_setCell_same _ _ 1 _ _ _ (heap_setCell_same _ _ 0 _ _ _ R3.out))) rfl ?_
  exact ⟨rfl, (((B3.out.setCell (p := ⟨w.heap.size, 0, none⟩) (Nat.le_refl _) _).setCell (p := ⟨w.heap.size, 1, none⟩) (Nat.le_refl _) _)).alloc (by simp [World.setCell]; omega) _⟩
set_option maxHeartbeats 4000000 in
theorem get_false1 (xb mb ab tb rb n : Nat) (B : List Int) (R : List Rw) (g : Nat) (w : World) (h : Rt w xb mb ab tb rb n B R) (hg : g < n) (hok : okAt (sub B g) 1 = false) :
    Calls Try.prog 26 #[.pointer (some ⟨xb, 0, none⟩), .int .i64 g, .int .i64 1] w fun e w' => e = .returned (.agg #[.int .i64 0, .int .i64 0]) ∧ Below w.heap.size w w' := by
  have c0 := cell_of_row _ _ 0 _ _ _ (h.below ((Below.refl _ _).alloc (Nat.le_refl _) (.cells #[.int .i64 0, .int .i64 0] 31))).x
  have hb0 := (Below.refl w.heap.size w).alloc (Nat.le_refl _) (.cells #[.int .i64 0, .int .i64 0] 31)
  have HS := Lib.hid (sub_len B g n h.m.len hg)
  have HA := Lib.hid (sub_all h.a g)
  have F := Lib.hid (gget_yes mb ab n B g (w.alloc (.cells #[.int .i64 0, .int .i64 0] 31)) (h.m.below hb0) hg)
  have hof := of_at (sub B g) HA.out 1
  rw [hok] at hof
  simp only [Nat.mul_zero, Nat.mul_one, Nat.reduceMul, Nat.reduceAdd, Nat.zero_add, Nat.add_zero, if_true, Bool.false_eq_true, if_false] at hof
  have HOF := Lib.hid hof
  have R0 : Hid ((w.alloc (.cells #[.int .i64 0, .int .i64 0] 31)).heap[w.heap.size]? = some (.cells #[.int .i64 0, .int .i64 0] 31 (0, 0))) := heap_here rfl
  clear h hof hb0 hok
  go_enter Try.func26, Try.ntmps26
  go_wp2_with (first | (go_at_call 34; refine F.out.mono ?_; rintro e w1 ⟨rfl, b1⟩; have hst := st_new w1 (zeroB 1) (sub B g) zlen HS.out; have hln : (bytesV (sub B g)).length = 128 := (by rw [bytesV_len, HS.out]); have R1 : Hid (BytesAt (w1.alloc (.cells (bytesV (sub B g)).toArray 60)) w1.heap.size 60 (sub B g)) := heap_here rfl; have d0 := byD_cell R1.out (8 * 1 + 0) (by rw [HS.out]; omega); have d1 := byD_cell R1.out (8 * 1 + 1) (by rw [HS.out]; omega); have d2 := byD_cell R1.out (8 * 1 + 2) (by rw [HS.out]; omega); have d3 := byD_cell R1.out (8 * 1 + 3) (by rw [HS.out]; omega); have d4 := byD_cell R1.out (8 * 1 + 4) (by rw [HS.out]; omega); have d5 := byD_cell R1.out (8 * 1 + 5) (by rw [HS.out]; omega); have d6 := byD_cell R1.out (8 * 1 + 6) (by rw [HS.out]; omega); have d7 := byD_cell R1.out (8 * 1 + 7) (by rw [HS.out]; omega); simp only [Nat.mul_zero, Nat.mul_one, Nat.reduceMul, Nat.reduceAdd, Nat.zero_add, Nat.add_zero] at d0 d1 d2 d3 d4 d5 d6 d7; have b2 := b1.alloc b1.size (.cells (bytesV (sub B g)).toArray 60); have R2 : Hid ((w1.alloc (.cells (bytesV (sub B g)).toArray 60)).heap[w.heap.size]? = some (.cells #[.int .i64 0, .int .i64 0] 31 (0, 0))) := (b2.block _ (Array.getElem?_eq_some_iff.1 R0.out).1).trans R0.out; have B2 : Hid (Below w.heap.size w (w1.alloc (.cells (bytesV (sub B g)).toArray 60))) := ((Below.refl w.heap.size w).alloc (Nat.le_refl _) _).trans (b2.mono (by simp)); clear b1 b2) | (go_at_call 41; refine (HOF.out _).mono ?_; rintro e w2 ⟨rfl, b3⟩; have R3 : Hid (w2.heap[w.heap.size]? = some (.cells #[.int .i64 0, .int .i64 0] 31 (0, 0))) := (b3.block _ (Array.getElem?_eq_some_iff.1 R2.out).1).trans R2.out; have B3 := Lib.hid (B2.out.trans (b3.mono B2.out.size)); have hz3 : w.heap.size < w2.heap.size := (Array.getElem?_eq_some_iff.1 R3.out).1; have g0 := cell_of_row _ _ 0 _ _ _ R3.out; have g1 := cell_of_row _ _ 1 _ _ _ R3.out; have f0 := frozen_of_row _ _ 0 _ _ R3.out; have f1 := frozen_of_row _ _ 1 _ _ R3.out; clear b3 d0 d1 d2 d3 d4 d5 d6 d7))
  refine ret_row rfl w.heap.size 31 _ (0, 0) _ Try.underlying31 rfl (by kernel_rfl) rfl (heap_past (by simpa [World.setCell] using hz3) (heap_setCell_same _ _ 1 _ _ _ (heap_setCell_same _ _ 0 _ _ _ R3.out))) rfl ?_
  exact ⟨rfl, (((B3.out.setCell (p := ⟨w.heap.size, 0, none⟩) (Nat.le_refl _) _).setCell (p := ⟨w.heap.size, 1, none⟩) (Nat.le_refl _) _)).alloc (by simp [World.setCell]; omega) _⟩
set_option maxHeartbeats 4000000 in
theorem get_true2 (xb mb ab tb rb n : Nat) (B : List Int) (R : List Rw) (g : Nat) (w : World) (h : Rt w xb mb ab tb rb n B R) (hg : g < n) (hok : okAt (sub B g) 2 = true) :
    Calls Try.prog 26 #[.pointer (some ⟨xb, 0, none⟩), .int .i64 g, .int .i64 2] w fun e w' => e = .returned (.agg #[.int .i64 (kAt (sub B g) 2), .int .i64 (gAt (sub B g) 2)]) ∧ Below w.heap.size w w' := by
  have c0 := cell_of_row _ _ 0 _ _ _ (h.below ((Below.refl _ _).alloc (Nat.le_refl _) (.cells #[.int .i64 0, .int .i64 0] 31))).x
  have hb0 := (Below.refl w.heap.size w).alloc (Nat.le_refl _) (.cells #[.int .i64 0, .int .i64 0] 31)
  have HS := Lib.hid (sub_len B g n h.m.len hg)
  have HA := Lib.hid (sub_all h.a g)
  have F := Lib.hid (gget_yes mb ab n B g (w.alloc (.cells #[.int .i64 0, .int .i64 0] 31)) (h.m.below hb0) hg)
  have hof := of_at (sub B g) HA.out 2
  rw [hok] at hof
  simp only [Nat.mul_zero, Nat.mul_one, Nat.reduceMul, Nat.reduceAdd, Nat.zero_add, Nat.add_zero, if_true, Bool.false_eq_true, if_false] at hof
  have HOF := Lib.hid hof
  have R0 : Hid ((w.alloc (.cells #[.int .i64 0, .int .i64 0] 31)).heap[w.heap.size]? = some (.cells #[.int .i64 0, .int .i64 0] 31 (0, 0))) := heap_here rfl
  clear h hof hb0 hok
  go_enter Try.func26, Try.ntmps26
  go_wp2_with (first | (go_at_call 34; refine F.out.mono ?_; rintro e w1 ⟨rfl, b1⟩; have hst := st_new w1 (zeroB 1) (sub B g) zlen HS.out; have hln : (bytesV (sub B g)).length = 128 := (by rw [bytesV_len, HS.out]); have R1 : Hid (BytesAt (w1.alloc (.cells (bytesV (sub B g)).toArray 60)) w1.heap.size 60 (sub B g)) := heap_here rfl; have d0 := byD_cell R1.out (8 * 2 + 0) (by rw [HS.out]; omega); have d1 := byD_cell R1.out (8 * 2 + 1) (by rw [HS.out]; omega); have d2 := byD_cell R1.out (8 * 2 + 2) (by rw [HS.out]; omega); have d3 := byD_cell R1.out (8 * 2 + 3) (by rw [HS.out]; omega); have d4 := byD_cell R1.out (8 * 2 + 4) (by rw [HS.out]; omega); have d5 := byD_cell R1.out (8 * 2 + 5) (by rw [HS.out]; omega); have d6 := byD_cell R1.out (8 * 2 + 6) (by rw [HS.out]; omega); have d7 := byD_cell R1.out (8 * 2 + 7) (by rw [HS.out]; omega); simp only [Nat.mul_zero, Nat.mul_one, Nat.reduceMul, Nat.reduceAdd, Nat.zero_add, Nat.add_zero] at d0 d1 d2 d3 d4 d5 d6 d7; have b2 := b1.alloc b1.size (.cells (bytesV (sub B g)).toArray 60); have R2 : Hid ((w1.alloc (.cells (bytesV (sub B g)).toArray 60)).heap[w.heap.size]? = some (.cells #[.int .i64 0, .int .i64 0] 31 (0, 0))) := (b2.block _ (Array.getElem?_eq_some_iff.1 R0.out).1).trans R0.out; have B2 : Hid (Below w.heap.size w (w1.alloc (.cells (bytesV (sub B g)).toArray 60))) := ((Below.refl w.heap.size w).alloc (Nat.le_refl _) _).trans (b2.mono (by simp)); clear b1 b2) | (go_at_call 41; refine (HOF.out _).mono ?_; rintro e w2 ⟨rfl, b3⟩; have R3 : Hid (w2.heap[w.heap.size]? = some (.cells #[.int .i64 0, .int .i64 0] 31 (0, 0))) := (b3.block _ (Array.getElem?_eq_some_iff.1 R2.out).1).trans R2.out; have B3 := Lib.hid (B2.out.trans (b3.mono B2.out.size)); have hz3 : w.heap.size < w2.heap.size := (Array.getElem?_eq_some_iff.1 R3.out).1; have g0 := cell_of_row _ _ 0 _ _ _ R3.out; have g1 := cell_of_row _ _ 1 _ _ _ R3.out; have f0 := frozen_of_row _ _ 0 _ _ R3.out; have f1 := frozen_of_row _ _ 1 _ _ R3.out; clear b3 d0 d1 d2 d3 d4 d5 d6 d7))
  refine ret_row rfl w.heap.size 31 _ (0, 0) _ Try.underlying31 rfl (by kernel_rfl) rfl (heap_past (by simpa [World.setCell] using hz3) (heap_setCell_same _ _ 1 _ _ _ (heap_setCell_same _ _ 0 _ _ _ R3.out))) rfl ?_
  exact ⟨rfl, (((B3.out.setCell (p := ⟨w.heap.size, 0, none⟩) (Nat.le_refl _) _).setCell (p := ⟨w.heap.size, 1, none⟩) (Nat.le_refl _) _)).alloc (by simp [World.setCell]; omega) _⟩
set_option maxHeartbeats 4000000 in
theorem get_false2 (xb mb ab tb rb n : Nat) (B : List Int) (R : List Rw) (g : Nat) (w : World) (h : Rt w xb mb ab tb rb n B R) (hg : g < n) (hok : okAt (sub B g) 2 = false) :
    Calls Try.prog 26 #[.pointer (some ⟨xb, 0, none⟩), .int .i64 g, .int .i64 2] w fun e w' => e = .returned (.agg #[.int .i64 0, .int .i64 0]) ∧ Below w.heap.size w w' := by
  have c0 := cell_of_row _ _ 0 _ _ _ (h.below ((Below.refl _ _).alloc (Nat.le_refl _) (.cells #[.int .i64 0, .int .i64 0] 31))).x
  have hb0 := (Below.refl w.heap.size w).alloc (Nat.le_refl _) (.cells #[.int .i64 0, .int .i64 0] 31)
  have HS := Lib.hid (sub_len B g n h.m.len hg)
  have HA := Lib.hid (sub_all h.a g)
  have F := Lib.hid (gget_yes mb ab n B g (w.alloc (.cells #[.int .i64 0, .int .i64 0] 31)) (h.m.below hb0) hg)
  have hof := of_at (sub B g) HA.out 2
  rw [hok] at hof
  simp only [Nat.mul_zero, Nat.mul_one, Nat.reduceMul, Nat.reduceAdd, Nat.zero_add, Nat.add_zero, if_true, Bool.false_eq_true, if_false] at hof
  have HOF := Lib.hid hof
  have R0 : Hid ((w.alloc (.cells #[.int .i64 0, .int .i64 0] 31)).heap[w.heap.size]? = some (.cells #[.int .i64 0, .int .i64 0] 31 (0, 0))) := heap_here rfl
  clear h hof hb0 hok
  go_enter Try.func26, Try.ntmps26
  go_wp2_with (first | (go_at_call 34; refine F.out.mono ?_; rintro e w1 ⟨rfl, b1⟩; have hst := st_new w1 (zeroB 1) (sub B g) zlen HS.out; have hln : (bytesV (sub B g)).length = 128 := (by rw [bytesV_len, HS.out]); have R1 : Hid (BytesAt (w1.alloc (.cells (bytesV (sub B g)).toArray 60)) w1.heap.size 60 (sub B g)) := heap_here rfl; have d0 := byD_cell R1.out (8 * 2 + 0) (by rw [HS.out]; omega); have d1 := byD_cell R1.out (8 * 2 + 1) (by rw [HS.out]; omega); have d2 := byD_cell R1.out (8 * 2 + 2) (by rw [HS.out]; omega); have d3 := byD_cell R1.out (8 * 2 + 3) (by rw [HS.out]; omega); have d4 := byD_cell R1.out (8 * 2 + 4) (by rw [HS.out]; omega); have d5 := byD_cell R1.out (8 * 2 + 5) (by rw [HS.out]; omega); have d6 := byD_cell R1.out (8 * 2 + 6) (by rw [HS.out]; omega); have d7 := byD_cell R1.out (8 * 2 + 7) (by rw [HS.out]; omega); simp only [Nat.mul_zero, Nat.mul_one, Nat.reduceMul, Nat.reduceAdd, Nat.zero_add, Nat.add_zero] at d0 d1 d2 d3 d4 d5 d6 d7; have b2 := b1.alloc b1.size (.cells (bytesV (sub B g)).toArray 60); have R2 : Hid ((w1.alloc (.cells (bytesV (sub B g)).toArray 60)).heap[w.heap.size]? = some (.cells #[.int .i64 0, .int .i64 0] 31 (0, 0))) := (b2.block _ (Array.getElem?_eq_some_iff.1 R0.out).1).trans R0.out; have B2 : Hid (Below w.heap.size w (w1.alloc (.cells (bytesV (sub B g)).toArray 60))) := ((Below.refl w.heap.size w).alloc (Nat.le_refl _) _).trans (b2.mono (by simp)); clear b1 b2) | (go_at_call 41; refine (HOF.out _).mono ?_; rintro e w2 ⟨rfl, b3⟩; have R3 : Hid (w2.heap[w.heap.size]? = some (.cells #[.int .i64 0, .int .i64 0] 31 (0, 0))) := (b3.block _ (Array.getElem?_eq_some_iff.1 R2.out).1).trans R2.out; have B3 := Lib.hid (B2.out.trans (b3.mono B2.out.size)); have hz3 : w.heap.size < w2.heap.size := (Array.getElem?_eq_some_iff.1 R3.out).1; have g0 := cell_of_row _ _ 0 _ _ _ R3.out; have g1 := cell_of_row _ _ 1 _ _ _ R3.out; have f0 := frozen_of_row _ _ 0 _ _ R3.out; have f1 := frozen_of_row _ _ 1 _ _ R3.out; clear b3 d0 d1 d2 d3 d4 d5 d6 d7))
  refine ret_row rfl w.heap.size 31 _ (0, 0) _ Try.underlying31 rfl (by kernel_rfl) rfl (heap_past (by simpa [World.setCell] using hz3) (heap_setCell_same _ _ 1 _ _ _ (heap_setCell_same _ _ 0 _ _ _ R3.out))) rfl ?_
  exact ⟨rfl, (((B3.out.setCell (p := ⟨w.heap.size, 0, none⟩) (Nat.le_refl _) _).setCell (p := ⟨w.heap.size, 1, none⟩) (Nat.le_refl _) _)).alloc (by simp [World.setCell]; omega) _⟩
set_option maxHeartbeats 4000000 in
theorem get_true3 (xb mb ab tb rb n : Nat) (B : List Int) (R : List Rw) (g : Nat) (w : World) (h : Rt w xb mb ab tb rb n B R) (hg : g < n) (hok : okAt (sub B g) 3 = true) :
    Calls Try.prog 26 #[.pointer (some ⟨xb, 0, none⟩), .int .i64 g, .int .i64 3] w fun e w' => e = .returned (.agg #[.int .i64 (kAt (sub B g) 3), .int .i64 (gAt (sub B g) 3)]) ∧ Below w.heap.size w w' := by
  have c0 := cell_of_row _ _ 0 _ _ _ (h.below ((Below.refl _ _).alloc (Nat.le_refl _) (.cells #[.int .i64 0, .int .i64 0] 31))).x
  have hb0 := (Below.refl w.heap.size w).alloc (Nat.le_refl _) (.cells #[.int .i64 0, .int .i64 0] 31)
  have HS := Lib.hid (sub_len B g n h.m.len hg)
  have HA := Lib.hid (sub_all h.a g)
  have F := Lib.hid (gget_yes mb ab n B g (w.alloc (.cells #[.int .i64 0, .int .i64 0] 31)) (h.m.below hb0) hg)
  have hof := of_at (sub B g) HA.out 3
  rw [hok] at hof
  simp only [Nat.mul_zero, Nat.mul_one, Nat.reduceMul, Nat.reduceAdd, Nat.zero_add, Nat.add_zero, if_true, Bool.false_eq_true, if_false] at hof
  have HOF := Lib.hid hof
  have R0 : Hid ((w.alloc (.cells #[.int .i64 0, .int .i64 0] 31)).heap[w.heap.size]? = some (.cells #[.int .i64 0, .int .i64 0] 31 (0, 0))) := heap_here rfl
  clear h hof hb0 hok
  go_enter Try.func26, Try.ntmps26
  go_wp2_with (first | (go_at_call 34; refine F.out.mono ?_; rintro e w1 ⟨rfl, b1⟩; have hst := st_new w1 (zeroB 1) (sub B g) zlen HS.out; have hln : (bytesV (sub B g)).length = 128 := (by rw [bytesV_len, HS.out]); have R1 : Hid (BytesAt (w1.alloc (.cells (bytesV (sub B g)).toArray 60)) w1.heap.size 60 (sub B g)) := heap_here rfl; have d0 := byD_cell R1.out (8 * 3 + 0) (by rw [HS.out]; omega); have d1 := byD_cell R1.out (8 * 3 + 1) (by rw [HS.out]; omega); have d2 := byD_cell R1.out (8 * 3 + 2) (by rw [HS.out]; omega); have d3 := byD_cell R1.out (8 * 3 + 3) (by rw [HS.out]; omega); have d4 := byD_cell R1.out (8 * 3 + 4) (by rw [HS.out]; omega); have d5 := byD_cell R1.out (8 * 3 + 5) (by rw [HS.out]; omega); have d6 := byD_cell R1.out (8 * 3 + 6) (by rw [HS.out]; omega); have d7 := byD_cell R1.out (8 * 3 + 7) (by rw [HS.out]; omega); simp only [Nat.mul_zero, Nat.mul_one, Nat.reduceMul, Nat.reduceAdd, Nat.zero_add, Nat.add_zero] at d0 d1 d2 d3 d4 d5 d6 d7; have b2 := b1.alloc b1.size (.cells (bytesV (sub B g)).toArray 60); have R2 : Hid ((w1.alloc (.cells (bytesV (sub B g)).toArray 60)).heap[w.heap.size]? = some (.cells #[.int .i64 0, .int .i64 0] 31 (0, 0))) := (b2.block _ (Array.getElem?_eq_some_iff.1 R0.out).1).trans R0.out; have B2 : Hid (Below w.heap.size w (w1.alloc (.cells (bytesV (sub B g)).toArray 60))) := ((Below.refl w.heap.size w).alloc (Nat.le_refl _) _).trans (b2.mono (by simp)); clear b1 b2) | (go_at_call 41; refine (HOF.out _).mono ?_; rintro e w2 ⟨rfl, b3⟩; have R3 : Hid (w2.heap[w.heap.size]? = some (.cells #[.int .i64 0, .int .i64 0] 31 (0, 0))) := (b3.block _ (Array.getElem?_eq_some_iff.1 R2.out).1).trans R2.out; have B3 := Lib.hid (B2.out.trans (b3.mono B2.out.size)); have hz3 : w.heap.size < w2.heap.size := (Array.getElem?_eq_some_iff.1 R3.out).1; have g0 := cell_of_row _ _ 0 _ _ _ R3.out; have g1 := cell_of_row _ _ 1 _ _ _ R3.out; have f0 := frozen_of_row _ _ 0 _ _ R3.out; have f1 := frozen_of_row _ _ 1 _ _ R3.out; clear b3 d0 d1 d2 d3 d4 d5 d6 d7))
  refine ret_row rfl w.heap.size 31 _ (0, 0) _ Try.underlying31 rfl (by kernel_rfl) rfl (heap_past (by simpa [World.setCell] using hz3) (heap_setCell_same _ _ 1 _ _ _ (heap_setCell_same _ _ 0 _ _ _ R3.out))) rfl ?_
  exact ⟨rfl, (((B3.out.setCell (p := ⟨w.heap.size, 0, none⟩) (Nat.le_refl _) _).setCell (p := ⟨w.heap.size, 1, none⟩) (Nat.le_refl _) _)).alloc (by simp [World.setCell]; omega) _⟩
set_option maxHeartbeats 4000000 in
theorem get_false3 (xb mb ab tb rb n : Nat) (B : List Int) (R : List Rw) (g : Nat) (w : World) (h : Rt w xb mb ab tb rb n B R) (hg : g < n) (hok : okAt (sub B g) 3 = false) :
    Calls Try.prog 26 #[.pointer (some ⟨xb, 0, none⟩), .int .i64 g, .int .i64 3] w fun e w' => e = .returned (.agg #[.int .i64 0, .int .i64 0]) ∧ Below w.heap.size w w' := by
  have c0 := cell_of_row _ _ 0 _ _ _ (h.below ((Below.refl _ _).alloc (Nat.le_refl _) (.cells #[.int .i64 0, .int .i64 0] 31))).x
  have hb0 := (Below.refl w.heap.size w).alloc (Nat.le_refl _) (.cells #[.int .i64 0, .int .i64 0] 31)
  have HS := Lib.hid (sub_len B g n h.m.len hg)
  have HA := Lib.hid (sub_all h.a g)
  have F := Lib.hid (gget_yes mb ab n B g (w.alloc (.cells #[.int .i64 0, .int .i64 0] 31)) (h.m.below hb0) hg)
  have hof := of_at (sub B g) HA.out 3
  rw [hok] at hof
  simp only [Nat.mul_zero, Nat.mul_one, Nat.reduceMul, Nat.reduceAdd, Nat.zero_add, Nat.add_zero, if_true, Bool.false_eq_true, if_false] at hof
  have HOF := Lib.hid hof
  have R0 : Hid ((w.alloc (.cells #[.int .i64 0, .int .i64 0] 31)).heap[w.heap.size]? = some (.cells #[.int .i64 0, .int .i64 0] 31 (0, 0))) := heap_here rfl
  clear h hof hb0 hok
  go_enter Try.func26, Try.ntmps26
  go_wp2_with (first | (go_at_call 34; refine F.out.mono ?_; rintro e w1 ⟨rfl, b1⟩; have hst := st_new w1 (zeroB 1) (sub B g) zlen HS.out; have hln : (bytesV (sub B g)).length = 128 := (by rw [bytesV_len, HS.out]); have R1 : Hid (BytesAt (w1.alloc (.cells (bytesV (sub B g)).toArray 60)) w1.heap.size 60 (sub B g)) := heap_here rfl; have d0 := byD_cell R1.out (8 * 3 + 0) (by rw [HS.out]; omega); have d1 := byD_cell R1.out (8 * 3 + 1) (by rw [HS.out]; omega); have d2 := byD_cell R1.out (8 * 3 + 2) (by rw [HS.out]; omega); have d3 := byD_cell R1.out (8 * 3 + 3) (by rw [HS.out]; omega); have d4 := byD_cell R1.out (8 * 3 + 4) (by rw [HS.out]; omega); have d5 := byD_cell R1.out (8 * 3 + 5) (by rw [HS.out]; omega); have d6 := byD_cell R1.out (8 * 3 + 6) (by rw [HS.out]; omega); have d7 := byD_cell R1.out (8 * 3 + 7) (by rw [HS.out]; omega); simp only [Nat.mul_zero, Nat.mul_one, Nat.reduceMul, Nat.reduceAdd, Nat.zero_add, Nat.add_zero] at d0 d1 d2 d3 d4 d5 d6 d7; have b2 := b1.alloc b1.size (.cells (bytesV (sub B g)).toArray 60); have R2 : Hid ((w1.alloc (.cells (bytesV (sub B g)).toArray 60)).heap[w.heap.size]? = some (.cells #[.int .i64 0, .int .i64 0] 31 (0, 0))) := (b2.block _ (Array.getElem?_eq_some_iff.1 R0.out).1).trans R0.out; have B2 : Hid (Below w.heap.size w (w1.alloc (.cells (bytesV (sub B g)).toArray 60))) := ((Below.refl w.heap.size w).alloc (Nat.le_refl _) _).trans (b2.mono (by simp)); clear b1 b2) | (go_at_call 41; refine (HOF.out _).mono ?_; rintro e w2 ⟨rfl, b3⟩; have R3 : Hid (w2.heap[w.heap.size]? = some (.cells #[.int .i64 0, .int .i64 0] 31 (0, 0))) := (b3.block _ (Array.getElem?_eq_some_iff.1 R2.out).1).trans R2.out; have B3 := Lib.hid (B2.out.trans (b3.mono B2.out.size)); have hz3 : w.heap.size < w2.heap.size := (Array.getElem?_eq_some_iff.1 R3.out).1; have g0 := cell_of_row _ _ 0 _ _ _ R3.out; have g1 := cell_of_row _ _ 1 _ _ _ R3.out; have f0 := frozen_of_row _ _ 0 _ _ R3.out; have f1 := frozen_of_row _ _ 1 _ _ R3.out; clear b3 d0 d1 d2 d3 d4 d5 d6 d7))
  refine ret_row rfl w.heap.size 31 _ (0, 0) _ Try.underlying31 rfl (by kernel_rfl) rfl (heap_past (by simpa [World.setCell] using hz3) (heap_setCell_same _ _ 1 _ _ _ (heap_setCell_same _ _ 0 _ _ _ R3.out))) rfl ?_
  exact ⟨rfl, (((B3.out.setCell (p := ⟨w.heap.size, 0, none⟩) (Nat.le_refl _) _).setCell (p := ⟨w.heap.size, 1, none⟩) (Nat.le_refl _) _)).alloc (by simp [World.setCell]; omega) _⟩
theorem get_any (xb mb ab tb rb n : Nat) (B : List Int) (R : List Rw) (g i : Nat) (w : World) (h : Rt w xb mb ab tb rb n B R) (hg : g < n) (hi : i < 4) :
    Calls Try.prog 26 #[.pointer (some ⟨xb, 0, none⟩), .int .i64 g, .int .i64 i] w fun e w' => e = .returned (.agg #[.int .i64 (getE (sub B g) i).1, .int .i64 (getE (sub B g) i).2]) ∧ Below w.heap.size w w' := by
  rcases (show i = 0 ∨ i = 1 ∨ i = 2 ∨ i = 3 by omega) with rfl | rfl | rfl | rfl
  · cases ho : okAt (sub B g) 0
    · have := get_false0 xb mb ab tb rb n B R g w h hg ho
      simpa [getE, ho] using this
    · have := get_true0 xb mb ab tb rb n B R g w h hg ho
      simpa [getE, ho] using this
  · cases ho : okAt (sub B g) 1
    · have := get_false1 xb mb ab tb rb n B R g w h hg ho
      simpa [getE, ho] using this
    · have := get_true1 xb mb ab tb rb n B R g w h hg ho
      simpa [getE, ho] using this
  · cases ho : okAt (sub B g) 2
    · have := get_false2 xb mb ab tb rb n B R g w h hg ho
      simpa [getE, ho] using this
    · have := get_true2 xb mb ab tb rb n B R g w h hg ho
      simpa [getE, ho] using this
  · cases ho : okAt (sub B g) 3
    · have := get_false3 xb mb ab tb rb n B R g w h hg ho
      simpa [getE, ho] using this
    · have := get_true3 xb mb ab tb rb n B R g w h hg ho
      simpa [getE, ho] using this
end Go.Proofs.Ytfeoaphibkcejaa
