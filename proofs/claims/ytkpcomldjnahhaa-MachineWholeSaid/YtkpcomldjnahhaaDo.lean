/- Contract: one act, done by the program's memory and by the reference's, is answered alike, and leaves alike bytes. Conditions: those that each theorem states. -/
import Derived.Test.YtkpcomldjnahhaaRfm
namespace Go.Proofs.Ytkpcomldjnahhaa
open Go.ChangeShapes Go.WideShapes Go.ChangeAt Go.RowKit
set_option linter.unusedSimpArgs false
attribute [local go_sem] zeroV

/-- A memory and the reference's, with the same bytes, in blocks from N on. -/
structure Both (N : Nat) (w : World) (mb ab rb cb n : Nat) (B : List Int) : Prop where
  mem : Mem w mb ab n B
  ref : Ref w rb cb n B
  all : AllB B
  h1 : N ≤ mb
  h2 : N ≤ ab
  h3 : N ≤ rb
  h4 : N ≤ cb
  n1 : ab ≠ rb
  n2 : ab ≠ cb
  n3 : cb ≠ mb
theorem Both.below {N : Nat} {w w' : World} {mb ab rb cb n : Nat} {B : List Int} (h : Both N w mb ab rb cb n B) (hb : Below w.heap.size w w') : Both N w' mb ab rb cb n B :=
  ⟨h.mem.below hb, h.ref.below hb, h.all, h.h1, h.h2, h.h3, h.h4, h.n1, h.n2, h.n3⟩
theorem Both.le {N : Nat} {w : World} {mb ab rb cb n : Nat} {B : List Int} (h : Both N w mb ab rb cb n B) : N ≤ w.heap.size := Nat.le_trans h.h1 (Nat.le_of_lt h.mem.lt.1)
/-- Behind the program's write, the reference still has the old bytes. -/
theorem Both.ref1 {N : Nat} {w w' : World} {mb ab rb cb n : Nat} {B : List Int} (h : Both N w mb ab rb cb n B) (g : w.grownBy w' (some ab)) : Ref w' rb cb n B := h.ref.grown g (by simp [Ne.symm h.n1]) (by simp [Ne.symm h.n2])
theorem Both.next {N : Nat} {w w1 w2 : World} {mb ab rb cb n : Nat} {B B' : List Int} (h : Both N w mb ab rb cb n B) (m : Mem w1 mb ab n B') (r : Ref w2 rb cb n B') (g1 : w.grownBy w1 (some ab)) (g2 : w1.grownBy w2 (some cb)) (ha : AllB B') :
    Both N w2 mb ab rb cb n B' ∧ Below N w w2 :=
  ⟨⟨m.grown g2 (by simp [Ne.symm h.n3]) (by simp [h.n2]), r, ha, h.h1, h.h2, h.h3, h.h4, h.n1, h.n2, h.n3⟩,
    below_grown (below_grown (Below.refl _ _) h.le g1 h.h2) (Nat.le_trans h.le g1.size) g2 h.h4⟩

/-- The act as it lies in its box. -/
def Box (w : World) (b : Nat) (kd g a x : Int) (v : Value) : Prop := w.heap[b]? = some (.cells #[.int .i64 kd, .int .i64 g, .int .u64 a, .int .u64 x, v] 43 (0, 0))
theorem Box.cells {w : World} {b : Nat} {kd g a x : Int} {v : Value} (h : Box w b kd g a x v) : w.cell? ⟨b, 0, none⟩ = some (.int .i64 kd) ∧ w.cell? ⟨b, 1, none⟩ = some (.int .i64 g) ∧ w.cell? ⟨b, 2, none⟩ = some (.int .u64 a) ∧ w.cell? ⟨b, 3, none⟩ = some (.int .u64 x) ∧ w.cell? ⟨b, 4, none⟩ = some v :=
  ⟨cell_of_row _ _ 0 _ _ _ h, cell_of_row _ _ 1 _ _ _ h, cell_of_row _ _ 2 _ _ _ h, cell_of_row _ _ 3 _ _ _ h, cell_of_row _ _ 4 _ _ _ h⟩
theorem Box.lt {w : World} {b : Nat} {kd g a x : Int} {v : Value} (h : Box w b kd g a x v) : b < w.heap.size := (Array.getElem?_eq_some_iff.1 h).1
theorem Box.grown {w w' : World} {b : Nat} {kd g a x : Int} {v : Value} {r : Nat} (h : Box w b kd g a x v) (hg : w.grownBy w' (some r)) (hne : b ≠ r) : Box w' b kd g a x v := (hg.block b h.lt (by simp [hne])).trans h
theorem Box.below {w w' : World} {b : Nat} {kd g a x : Int} {v : Value} (h : Box w b kd g a x v) (hb : Below w.heap.size w w') : Box w' b kd g a x v := (hb.block b h.lt).trans h

set_option maxRecDepth 100000 in
set_option maxHeartbeats 1000000 in
theorem do1_al (N mb ab rb cb n : Nat) (B : List Int) (g a x : Int) (y : Option Addr) (L c : Nat) (w : World) (h : Both N w mb ab rb cb n B) (a0 : 0 ≤ a) (a1 : a < 18446744073709551616) (q : a % 8 ≠ 0) :
    Calls Try.prog 16 #[.pointer (some ⟨mb, 0, none⟩), .pointer (some ⟨rb, 0, none⟩), .agg #[.int .i64 1, .int .i64 g, .int .u64 a, .int .u64 x, .slice y L c]] w fun e w' => e = .returned (.bool true) ∧ ∃ B', Both N w' mb ab rb cb n B' ∧ Below N w w' := by
  have B1 : Below w.heap.size w (w.alloc (.cells #[.int .i64 1, .int .i64 g, .int .u64 a, .int .u64 x, .slice y L c] 43)) := (Below.refl _ _).alloc (Nat.le_refl _) _
  have h1 := h.below B1
  have hpn := h.mem.pos
  have hx := h.mem.max
  have hml := h.mem.lt
  have hrl := h.ref.lt
  have bx : Box (w.alloc (.cells #[.int .i64 1, .int .i64 g, .int .u64 a, .int .u64 x, .slice y L c] 43)) w.heap.size (1) g a x (.slice y L c) := heap_here rfl
  obtain ⟨c0, c1, c2, c3, c4⟩ := bx.cells
  have d0 := cell_of_row _ rb 0 _ _ _ h1.ref.ref
  have hwn : wrap64 (n : Int) = n := by unfold wrap64; omega
  have H := Lib.hid h1
  have BX := Lib.hid bx
  have HB := Lib.hid (B1.mono h.le)
  have HN := Lib.hid h.le
  clear h B1 h1 bx 
  go_enter Try.func16, Try.ntmps16
  go_wp2_with (first | (go_at_call 12; refine (set_al _ _ _ _ _ _ _ H.out.mem a0 a1 q).mono ?_; rintro e w1 ⟨rfl, rfl⟩))
  all_goals first | (exfalso; omega) | skip
  all_goals go_ret
  all_goals exact ⟨rfl, B, H.out, HB.out⟩

set_option maxRecDepth 100000 in
set_option maxHeartbeats 1000000 in
theorem do1_out (N mb ab rb cb n : Nat) (B : List Int) (g a x : Int) (y : Option Addr) (L c : Nat) (w : World) (h : Both N w mb ab rb cb n B) (a0 : 0 ≤ a) (a1 : a < 18446744073709551616) (q : a % 8 = 0) (ho : 128 * n < a + 8) :
    Calls Try.prog 16 #[.pointer (some ⟨mb, 0, none⟩), .pointer (some ⟨rb, 0, none⟩), .agg #[.int .i64 1, .int .i64 g, .int .u64 a, .int .u64 x, .slice y L c]] w fun e w' => e = .returned (.bool true) ∧ ∃ B', Both N w' mb ab rb cb n B' ∧ Below N w w' := by
  have B1 : Below w.heap.size w (w.alloc (.cells #[.int .i64 1, .int .i64 g, .int .u64 a, .int .u64 x, .slice y L c] 43)) := (Below.refl _ _).alloc (Nat.le_refl _) _
  have h1 := h.below B1
  have hpn := h.mem.pos
  have hx := h.mem.max
  have hml := h.mem.lt
  have hrl := h.ref.lt
  have bx : Box (w.alloc (.cells #[.int .i64 1, .int .i64 g, .int .u64 a, .int .u64 x, .slice y L c] 43)) w.heap.size (1) g a x (.slice y L c) := heap_here rfl
  obtain ⟨c0, c1, c2, c3, c4⟩ := bx.cells
  have d0 := cell_of_row _ rb 0 _ _ _ h1.ref.ref
  have hwn : wrap64 (n : Int) = n := by unfold wrap64; omega
  have H := Lib.hid h1
  have BX := Lib.hid bx
  have HB := Lib.hid (B1.mono h.le)
  have HN := Lib.hid h.le
  clear h B1 h1 bx 
  go_enter Try.func16, Try.ntmps16
  go_wp2_with (first | (go_at_call 12; refine (set_out _ _ _ _ _ _ _ H.out.mem a0 a1 q ho).mono ?_; rintro e w1 ⟨rfl, rfl⟩) | (go_at_call 18; refine (rwithin_no _ _ _ _ _ _ _ H.out.ref a0 a1 (by omega) (by omega) (by omega)).mono ?_; rintro e w1 ⟨rfl, rfl⟩))
  all_goals first | (exfalso; omega) | skip
  all_goals go_ret
  all_goals exact ⟨rfl, B, H.out, HB.out⟩

set_option maxRecDepth 100000 in
set_option maxHeartbeats 1000000 in
theorem do1_in (N mb ab rb cb n : Nat) (B : List Int) (g x : Int) (a : Nat) (y : Option Addr) (L c : Nat) (w : World) (h : Both N w mb ab rb cb n B) (q : a % 8 = 0) (ho : a + 8 ≤ 128 * n) (x1 : x < 18446744073709551616) :
    Calls Try.prog 16 #[.pointer (some ⟨mb, 0, none⟩), .pointer (some ⟨rb, 0, none⟩), .agg #[.int .i64 1, .int .i64 g, .int .u64 a, .int .u64 x, .slice y L c]] w fun e w' => e = .returned (.bool true) ∧ ∃ B', Both N w' mb ab rb cb n B' ∧ Below N w w' := by
  have B1 : Below w.heap.size w (w.alloc (.cells #[.int .i64 1, .int .i64 g, .int .u64 a, .int .u64 x, .slice y L c] 43)) := (Below.refl _ _).alloc (Nat.le_refl _) _
  have h1 := h.below B1
  have hpn := h.mem.pos
  have hx := h.mem.max
  have hml := h.mem.lt
  have hrl := h.ref.lt
  have bx : Box (w.alloc (.cells #[.int .i64 1, .int .i64 g, .int .u64 a, .int .u64 x, .slice y L c] 43)) w.heap.size (1) g a x (.slice y L c) := heap_here rfl
  obtain ⟨c0, c1, c2, c3, c4⟩ := bx.cells
  have d0 := cell_of_row _ rb 0 _ _ _ h1.ref.ref
  have hwn : wrap64 (n : Int) = n := by unfold wrap64; omega
  have HX := Lib.hid x1
  have H := Lib.hid h1
  have BX := Lib.hid bx
  have HB := Lib.hid (B1.mono h.le)
  have HN := Lib.hid h.le
  clear h B1 h1 bx x1
  go_enter Try.func16, Try.ntmps16
  go_wp2_with (first | (go_at_call 12; refine (set_in _ _ _ _ _ _ _ H.out.mem q ho HX.out).mono ?_; rintro e w1 ⟨rfl, m1, g1⟩; have bx1 := BX.out.grown g1 (by omega); have r1 := H.out.ref1 g1; obtain ⟨e0, e1, e2, e3, e4⟩ := bx1.cells; have f0 := cell_of_row _ rb 0 _ _ _ r1.ref; have M1 := Lib.hid m1; have G1 := Lib.hid g1; have R1 := Lib.hid r1; have BX1 := Lib.hid bx1; clear m1 g1 r1 bx1) | (go_at_call 18; refine (rwithin_yes _ _ _ _ _ _ _ R1.out (by omega) (by omega) (by omega) (by omega) (by omega)).mono ?_; rintro e w1 ⟨rfl, rfl⟩) | (go_at_call 30; refine (rset _ _ _ _ _ _ _ R1.out ho HX.out).mono ?_; rintro e w2 ⟨rfl, r2, g2⟩; have HF := Lib.hid (H.out.next M1.out r2 G1.out g2 (splice_allB H.out.all (lowB_all _ _) _)); clear r2 g2))
  all_goals first | (exfalso; omega) | skip
  all_goals go_ret
  all_goals exact ⟨rfl, _, HF.out.1, HB.out.trans HF.out.2⟩

set_option maxRecDepth 100000 in
set_option maxHeartbeats 1000000 in
theorem do2_out (N mb ab rb cb n : Nat) (B : List Int) (g a x : Int) (y : Option Addr) (L c : Nat) (w : World) (h : Both N w mb ab rb cb n B) (a0 : 0 ≤ a) (a1 : a < 18446744073709551616) (hL : L ≤ maxLen) (h0 : 0 < L) (ho : 128 * n < a + L) :
    Calls Try.prog 16 #[.pointer (some ⟨mb, 0, none⟩), .pointer (some ⟨rb, 0, none⟩), .agg #[.int .i64 2, .int .i64 g, .int .u64 a, .int .u64 x, .slice y L c]] w fun e w' => e = .returned (.bool true) ∧ ∃ B', Both N w' mb ab rb cb n B' ∧ Below N w w' := by
  have B1 : Below w.heap.size w (w.alloc (.cells #[.int .i64 2, .int .i64 g, .int .u64 a, .int .u64 x, .slice y L c] 43)) := (Below.refl _ _).alloc (Nat.le_refl _) _
  have h1 := h.below B1
  have hpn := h.mem.pos
  have hx := h.mem.max
  have hml := h.mem.lt
  have hrl := h.ref.lt
  have bx : Box (w.alloc (.cells #[.int .i64 2, .int .i64 g, .int .u64 a, .int .u64 x, .slice y L c] 43)) w.heap.size (2) g a x (.slice y L c) := heap_here rfl
  obtain ⟨c0, c1, c2, c3, c4⟩ := bx.cells
  have d0 := cell_of_row _ rb 0 _ _ _ h1.ref.ref
  have hwn : wrap64 (n : Int) = n := by unfold wrap64; omega
  have hLL := hL
  unfold maxLen at hL
  have H := Lib.hid h1
  have BX := Lib.hid bx
  have HB := Lib.hid (B1.mono h.le)
  have HN := Lib.hid h.le
  clear h B1 h1 bx 
  go_enter Try.func16, Try.ntmps16
  go_wp2_with (first | (go_at_call 11; refine (write_out _ _ _ _ _ _ _ _ _ H.out.mem a0 a1 hLL h0 ho).mono ?_; rintro e w1 ⟨rfl, rfl⟩) | (go_at_call 18; refine (rwithin_no _ _ _ _ _ _ _ H.out.ref a0 a1 (by omega) (by omega) (by omega)).mono ?_; rintro e w1 ⟨rfl, rfl⟩))
  all_goals first | (exfalso; omega) | skip
  all_goals go_ret
  all_goals exact ⟨rfl, B, H.out, HB.out⟩

set_option maxRecDepth 100000 in
set_option maxHeartbeats 1000000 in
theorem do2_nil (N mb ab rb cb n : Nat) (B : List Int) (g a x : Int) (y : Option Addr) (c : Nat) (w : World) (h : Both N w mb ab rb cb n B) (a0 : 0 ≤ a) (a1 : a < 18446744073709551616) :
    Calls Try.prog 16 #[.pointer (some ⟨mb, 0, none⟩), .pointer (some ⟨rb, 0, none⟩), .agg #[.int .i64 2, .int .i64 g, .int .u64 a, .int .u64 x, .slice y 0 c]] w fun e w' => e = .returned (.bool true) ∧ ∃ B', Both N w' mb ab rb cb n B' ∧ Below N w w' := by
  have B1 : Below w.heap.size w (w.alloc (.cells #[.int .i64 2, .int .i64 g, .int .u64 a, .int .u64 x, .slice y 0 c] 43)) := (Below.refl _ _).alloc (Nat.le_refl _) _
  have h1 := h.below B1
  have hpn := h.mem.pos
  have hx := h.mem.max
  have hml := h.mem.lt
  have hrl := h.ref.lt
  have bx : Box (w.alloc (.cells #[.int .i64 2, .int .i64 g, .int .u64 a, .int .u64 x, .slice y 0 c] 43)) w.heap.size (2) g a x (.slice y 0 c) := heap_here rfl
  obtain ⟨c0, c1, c2, c3, c4⟩ := bx.cells
  have d0 := cell_of_row _ rb 0 _ _ _ h1.ref.ref
  have hwn : wrap64 (n : Int) = n := by unfold wrap64; omega
  have H := Lib.hid h1
  have BX := Lib.hid bx
  have HB := Lib.hid (B1.mono h.le)
  have HN := Lib.hid h.le
  clear h B1 h1 bx 
  go_enter Try.func16, Try.ntmps16
  go_wp2_with (first | (go_at_call 11; refine (write_nil _ _ _ _ _ _ _ _ H.out.mem a0 a1).mono ?_; rintro e w1 ⟨rfl, rfl⟩) | (go_at_call 18; refine (rwithin_yes _ _ _ _ _ _ _ H.out.ref a0 a1 (by omega) (by omega) (by omega)).mono ?_; rintro e w1 ⟨rfl, rfl⟩))
  all_goals first | (exfalso; omega) | skip
  all_goals go_ret
  all_goals exact ⟨rfl, B, H.out, HB.out⟩

set_option maxRecDepth 100000 in
set_option maxHeartbeats 1000000 in
theorem do5 (N mb ab rb cb n : Nat) (B : List Int) (kd g a x : Int) (y : Option Addr) (L c : Nat) (w : World) (h : Both N w mb ab rb cb n B) (k1 : kd ≠ 1) (k2 : kd ≠ 2) (k3 : kd ≠ 3) (k4 : kd ≠ 4) :
    Calls Try.prog 16 #[.pointer (some ⟨mb, 0, none⟩), .pointer (some ⟨rb, 0, none⟩), .agg #[.int .i64 kd, .int .i64 g, .int .u64 a, .int .u64 x, .slice y L c]] w fun e w' => e = .returned (.bool true) ∧ ∃ B', Both N w' mb ab rb cb n B' ∧ Below N w w' := by
  have B1 : Below w.heap.size w (w.alloc (.cells #[.int .i64 kd, .int .i64 g, .int .u64 a, .int .u64 x, .slice y L c] 43)) := (Below.refl _ _).alloc (Nat.le_refl _) _
  have h1 := h.below B1
  have hpn := h.mem.pos
  have hx := h.mem.max
  have hml := h.mem.lt
  have hrl := h.ref.lt
  have bx : Box (w.alloc (.cells #[.int .i64 kd, .int .i64 g, .int .u64 a, .int .u64 x, .slice y L c] 43)) w.heap.size (kd) g a x (.slice y L c) := heap_here rfl
  obtain ⟨c0, c1, c2, c3, c4⟩ := bx.cells
  have d0 := cell_of_row _ rb 0 _ _ _ h1.ref.ref
  have hwn : wrap64 (n : Int) = n := by unfold wrap64; omega
  have H := Lib.hid h1
  have BX := Lib.hid bx
  have HB := Lib.hid (B1.mono h.le)
  have HN := Lib.hid h.le
  clear h B1 h1 bx 
  go_enter Try.func16, Try.ntmps16
  go_wp2_with (first | fail)
  all_goals first | (exfalso; omega) | skip
  all_goals go_ret
  all_goals exact ⟨rfl, B, H.out, HB.out⟩

end Go.Proofs.Ytkpcomldjnahhaa
