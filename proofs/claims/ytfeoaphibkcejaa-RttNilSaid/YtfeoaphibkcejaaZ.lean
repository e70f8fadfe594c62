/- Contracts of layer 9's tables without memory. Conditions: those that each theorem states. -/
import Derived.Test.YtfeoaphibkcejaaMa
namespace Go.Proofs.Ytfeoaphibkcejaa
open Go.ChangeShapes Go.WideShapes Go.ChangeAt Go.RowKit
set_option linter.unusedSimpArgs false
set_option maxRecDepth 100000

/-- Tables without memory: none, or such whose memory and rows are not there. -/
def Zt (w : World) (p : Option Addr) : Prop := p = none ∨ ∃ b, p = some ⟨b, 0, none⟩ ∧ w.heap[b]? = some (.cells #[.pointer none, .pointer none] 25 (0, 0))
theorem Zt.below {w w' : World} {p : Option Addr} (h : Zt w p) (hb : Below w.heap.size w w') : Zt w' p := by
  rcases h with h | ⟨b, h1, h2⟩
  · exact .inl h
  · exact .inr ⟨b, h1, (hb.block _ (Array.getElem?_eq_some_iff.1 h2).1).trans h2⟩
theorem tgran_nil (w : World) :
    Calls Try.prog 30 #[.pointer none] w fun e w' => e = .returned (.int .i64 0) ∧ w = w' := by
  go_enter Try.func30, Try.ntmps30
  go_wp2
  go_ret
  exact ⟨rfl, rfl⟩
theorem z14 (p : Option Addr) (w : World) (h : Zt w p) : Calls Try.prog 14 #[.pointer p] w fun e w' => e = .returned (.bool false) ∧ w = w' := by
  rcases h with rfl | ⟨b, rfl, h⟩
  · go_enter Try.func14, Try.ntmps14
    go_wp2
    go_ret
    exact ⟨rfl, rfl⟩
  · have c0 := cell_of_row _ _ 0 _ _ _ h
    have c1 := cell_of_row _ _ 1 _ _ _ h
    clear h
    go_enter Try.func14, Try.ntmps14
    go_wp2_with (first | (go_at_call 29; refine (gran_nil _).mono ?_; rintro e w1 ⟨rfl, rfl⟩))
    go_ret
    exact ⟨rfl, rfl⟩
/-- Five cells written anew. -/
theorem set5 {w : World} {b t : Nat} {a0 a1 a2 a3 a4 v0 v1 v2 v3 v4 : Value} (h : w.heap[b]? = some (.cells #[a0, a1, a2, a3, a4] t (0, 0))) :
    (((((w.setCell ⟨b, 0, none⟩ v0).setCell ⟨b, 1, none⟩ v1).setCell ⟨b, 2, none⟩ v2).setCell ⟨b, 3, none⟩ v3).setCell ⟨b, 4, none⟩ v4).heap[b]? = some (.cells #[v0, v1, v2, v3, v4] t (0, 0)) :=
  heap_setCell_same _ _ 4 _ _ v4 (heap_setCell_same _ _ 3 _ _ v3 (heap_setCell_same _ _ 2 _ _ v2 (heap_setCell_same _ _ 1 _ _ v1 (heap_setCell_same _ _ 0 _ _ v0 h))))
theorem below5 {N : Nat} {w w' : World} {b : Nat} (h : Below N w w') (hb : N ≤ b) (v0 v1 v2 v3 v4 : Value) :
    Below N w (((((w'.setCell ⟨b, 0, none⟩ v0).setCell ⟨b, 1, none⟩ v1).setCell ⟨b, 2, none⟩ v2).setCell ⟨b, 3, none⟩ v3).setCell ⟨b, 4, none⟩ v4) :=
  ((((h.setCell (p := ⟨b, 0, none⟩) hb _).setCell (p := ⟨b, 1, none⟩) hb _).setCell (p := ⟨b, 2, none⟩) hb _).setCell (p := ⟨b, 3, none⟩) hb _).setCell (p := ⟨b, 4, none⟩) hb _
def wk0 : Value := .agg #[.int .i64 0, .int .i64 0, .int .i64 0, .int .i64 0, .int .i64 0]
theorem z6 (p : Option Addr) (a b c : Int) (w : World) (h : Zt w p) : Calls Try.prog 6 #[.pointer p, .int .i64 a, .int .i64 b, .int .i64 c] w fun e w' => e = .returned (.tuple #[wk0, .int .i64 1]) ∧ Below w.heap.size w w' := by
  have hb := (Below.refl w.heap.size w).alloc (Nat.le_refl _) (.cells #[.int .i64 0, .int .i64 0, .int .i64 0, .int .i64 0, .int .i64 0] 33)
  have H := Lib.hid (h.below hb)
  clear h
  go_enter Try.func6, Try.ntmps6
  go_wp2_with (first | (go_at_call 14; refine (z14 _ _ H.out).mono ?_; rintro e w1 ⟨rfl, rfl⟩))
  refine ret_row_tmp rfl w.heap.size 33 _ (0, 0) _ Try.underlying33 rfl (by kernel_rfl) rfl (heap_here rfl) rfl ?_
  exact ⟨rfl, (Below.refl _ _).alloc (Nat.le_refl _) _⟩
theorem z5 (p : Option Addr) (a b : Int) (w : World) (h : Zt w p) : Calls Try.prog 5 #[.pointer p, .int .i64 a, .int .i64 b] w fun e w' => e = .returned (.tuple #[wk0, .int .i64 1]) ∧ Below w.heap.size w w' := by
  have hb := (Below.refl w.heap.size w).alloc (Nat.le_refl _) (.cells #[.int .i64 0, .int .i64 0, .int .i64 0, .int .i64 0, .int .i64 0] 33)
  have H := Lib.hid (h.below hb)
  have H0 : Hid ((w.alloc (.cells #[.int .i64 0, .int .i64 0, .int .i64 0, .int .i64 0, .int .i64 0] 33)).heap[w.heap.size]? = some (.cells #[.int .i64 0, .int .i64 0, .int .i64 0, .int .i64 0, .int .i64 0] 33 (0, 0))) := heap_here rfl
  have HB := Lib.hid hb
  clear h hb
  go_enter Try.func5, Try.ntmps5
  go_wp2_with (first | (go_at_call 6; refine (z6 _ _ _ _ _ H.out).mono ?_; rintro e w1 ⟨rfl, b1⟩; unfold wk0; have H1 : Hid (w1.heap[w.heap.size]? = some (.cells #[.int .i64 0, .int .i64 0, .int .i64 0, .int .i64 0, .int .i64 0] 33 (0, 0))) := (b1.block _ (Array.getElem?_eq_some_iff.1 H0.out).1).trans H0.out; have HB1 := Lib.hid (HB.out.trans (b1.mono HB.out.size)); have g0 := cell_of_row _ _ 0 _ _ _ H1.out; have g1 := cell_of_row _ _ 1 _ _ _ H1.out; have g2 := cell_of_row _ _ 2 _ _ _ H1.out; have g3 := cell_of_row _ _ 3 _ _ _ H1.out; have g4 := cell_of_row _ _ 4 _ _ _ H1.out; have f0 := frozen_of_row _ _ 0 _ _ H1.out; have f1 := frozen_of_row _ _ 1 _ _ H1.out; have f2 := frozen_of_row _ _ 2 _ _ H1.out; have f3 := frozen_of_row _ _ 3 _ _ H1.out; have f4 := frozen_of_row _ _ 4 _ _ H1.out; clear b1))
  refine ret_row_tmp rfl w.heap.size 33 _ (0, 0) _ Try.underlying33 rfl (by kernel_rfl) rfl (set5 H1.out) rfl ?_
  exact ⟨rfl, below5 HB1.out (Nat.le_refl _) _ _ _ _ _⟩
theorem z17 (p : Option Addr) (a b c : Int) (f : FuncId) (w : World) (h : Zt w p) : Calls Try.prog 17 #[.pointer p, .int .i64 a, .int .i64 b, .int .i64 c, .func (.func f) #[] #[]] w fun e w' => e = .returned (.tuple #[.int .i64 0, .int .i64 1]) ∧ Below w.heap.size w w' := by
  have H := Lib.hid h
  clear h
  go_enter Try.func17, Try.ntmps17
  go_wp2_with (first | (go_at_call 14; refine (z14 _ _ H.out).mono ?_; rintro e w1 ⟨rfl, rfl⟩))
  go_ret2
  exact ⟨rfl, Below.refl _ _⟩
theorem z7 (p : Option Addr) (a b c : Int) (w : World) (h : Zt w p) : Calls Try.prog 7 #[.pointer p, .int .i64 a, .int .i64 b, .int .i64 c] w fun e w' => e = .returned (.tuple #[.int .i64 0, .int .i64 1]) ∧ Below w.heap.size w w' := by
  have H := Lib.hid h
  clear h
  go_enter Try.func7, Try.ntmps7
  go_wp2_with (first | (go_at_call 17; refine (z17 _ _ _ _ _ _ H.out).mono ?_; rintro e w1 ⟨rfl, b1⟩))
  go_ret2
  exact ⟨rfl, b1⟩
theorem z8 (p : Option Addr) (a b c : Int) (w : World) (h : Zt w p) : Calls Try.prog 8 #[.pointer p, .int .i64 a, .int .i64 b, .int .i64 c] w fun e w' => e = .returned (.tuple #[.int .i64 0, .int .i64 1]) ∧ Below w.heap.size w w' := by
  have H := Lib.hid h
  clear h
  go_enter Try.func8, Try.ntmps8
  go_wp2_with (first | (go_at_call 17; refine (z17 _ _ _ _ _ _ H.out).mono ?_; rintro e w1 ⟨rfl, b1⟩))
  go_ret2
  exact ⟨rfl, b1⟩
theorem z9 (p : Option Addr) (a b k g : Int) (w : World) (h : Zt w p) : Calls Try.prog 9 #[.pointer p, .int .i64 a, .int .i64 b, .agg #[.int .i64 k, .int .i64 g]] w fun e w' => e = .returned (.int .i64 1) ∧ Below w.heap.size w w' := by
  have hb := (Below.refl w.heap.size w).alloc (Nat.le_refl _) (.cells #[.int .i64 k, .int .i64 g] 31)
  have H := Lib.hid (h.below hb)
  have HB := Lib.hid hb
  clear h hb
  go_enter Try.func9, Try.ntmps9
  go_wp2_with (first | (go_at_call 5; refine (z5 _ _ _ _ H.out).mono ?_; rintro e w1 ⟨rfl, b1⟩; unfold wk0; have HB1 := Lib.hid (HB.out.trans (b1.mono HB.out.size)); clear b1))
  go_ret
  exact ⟨rfl, HB1.out.alloc HB1.out.size _⟩
theorem z10 (p : Option Addr) (a o b c d : Int) (w : World) (h : Zt w p) : Calls Try.prog 10 #[.pointer p, .int .i64 a, .int .u64 o, .int .i64 b, .int .i64 c, .int .i64 d] w fun e w' => e = .returned (.int .i64 1) ∧ Below w.heap.size w w' := by
  have H := Lib.hid h
  clear h
  go_enter Try.func10, Try.ntmps10
  go_wp2_with (first | (go_at_call 14; refine (z14 _ _ H.out).mono ?_; rintro e w1 ⟨rfl, rfl⟩))
  go_ret
  exact ⟨rfl, Below.refl _ _⟩
theorem z11 (p : Option Addr) (a : Int) (w : World) (h : Zt w p) : Calls Try.prog 11 #[.pointer p, .int .i64 a] w fun e w' => e = .returned (.bool false) ∧ Below w.heap.size w w' := by
  have H := Lib.hid h
  clear h
  go_enter Try.func11, Try.ntmps11
  go_wp2_with (first | (go_at_call 14; refine (z14 _ _ H.out).mono ?_; rintro e w1 ⟨rfl, rfl⟩))
  go_ret
  exact ⟨rfl, Below.refl _ _⟩
theorem z12 (p : Option Addr) (a : Int) (w : World) (h : Zt w p) : Calls Try.prog 12 #[.pointer p, .int .i64 a] w fun e w' => e = .returned (.func (.func 27) #[] #[.pointer (some ⟨w.heap.size, 0, none⟩)]) ∧ w'.cell? ⟨w.heap.size, 0, none⟩ = some (.slice none 0 0) ∧ Below w.heap.size w w' := by
  have hb := (Below.refl w.heap.size w).alloc (Nat.le_refl _) (.cells #[.slice none 0 0] 66)
  have H := Lib.hid (h.below hb)
  have HB := Lib.hid hb
  clear h hb
  go_enter Try.func12, Try.ntmps12
  go_wp2_with (first | (go_at_call 14; refine (z14 _ _ H.out).mono ?_; rintro e w1 ⟨rfl, rfl⟩))
  go_ret
  exact ⟨rfl, cell_of_row _ _ 0 _ _ _ (heap_here rfl), HB.out⟩
end Go.Proofs.Ytfeoaphibkcejaa
