/- Contracts of layer 7's table: rows. Conditions: those that each theorem states. -/
import Derived.Test.YtfeoaphibkcejaaSt
import Derived.Test.YtfeoaphibkcejaaMa
namespace Go.Proofs.Ytfeoaphibkcejaa
open Go.ChangeShapes Go.WideShapes Go.ChangeAt Go.RowKit
set_option linter.unusedSimpArgs false
set_option maxRecDepth 100000

/-- A row: its state, its owner, how often it is held. -/
abbrev Rw := Int × Int × Int
def rowV (r : Rw) : List Value := [.int .i64 r.1, .int .u64 r.2.1, .int .i64 r.2.2]
def rowsV : List Rw → List Value
  | [] => []
  | r :: R => rowV r ++ rowsV R
def RowsAt (w : World) (b : Nat) (R : List Rw) : Prop := w.heap[b]? = some (.cells (rowsV R).toArray 56 (0, 0))
/-- A table in memory: its struct in block tb, its rows in block rb. -/
structure Tab (w : World) (tb rb : Nat) (R : List Rw) : Prop where
  tab : w.heap[tb]? = some (.cells #[.slice (some ⟨rb, 0, none⟩) R.length R.length] 109 (0, 0))
  rows : RowsAt w rb R
  ne : tb ≠ rb
def rowD (R : List Rw) (g : Nat) : Rw := R.getD g (0, 0, 0)
theorem rowsV_len (R : List Rw) : (rowsV R).length = R.length * 3 := by
  induction R with
  | nil => rfl
  | cons r R ih => simp [rowsV, rowV, ih]; omega
theorem rowsV_get (R : List Rw) (g j : Nat) (hg : g < R.length) (hj : j < 3) : (rowsV R)[g * 3 + j]? = (rowV (rowD R g))[j]? := by
  induction R generalizing g with
  | nil => simp at hg
  | cons r R ih =>
    cases g with
    | zero =>
      simp only [rowsV, rowD, List.getD_cons_zero, Nat.zero_mul, Nat.zero_add]
      rw [List.getElem?_append_left (by simp [rowV]; omega)]
    | succ g =>
      have := ih g (by simpa using hg)
      simp only [rowsV]
      rw [List.getElem?_append_right (by simp [rowV]; omega)]
      rw [show (g + 1) * 3 + j - (rowV r).length = g * 3 + j by simp [rowV]; omega, this]
      rfl
/-- A row written anew. -/
theorem rowsV_set (R : List Rw) (g : Nat) (r : Rw) (hg : g < R.length) : rowsV (R.set g r) = (rowsV R).take (g * 3) ++ rowV r ++ (rowsV R).drop (g * 3 + 3) := by
  induction R generalizing g with
  | nil => simp at hg
  | cons x R ih =>
    cases g with
    | zero => simp [rowsV, rowV]
    | succ g =>
      have := ih g (by simpa using hg)
      simp only [List.set_cons_succ, rowsV, this]
      rw [show (g + 1) * 3 = (rowV x).length + g * 3 by simp [rowV]; omega, show (rowV x).length + g * 3 + 3 = (rowV x).length + (g * 3 + 3) by omega, List.take_length_add_append, List.drop_length_add_append]
      simp
theorem rowsV_set3 (R : List Rw) (g : Nat) (s o h : Int) (hg : g < R.length) :
    (((rowsV R).set (g * 3) (.int .i64 s)).set (g * 3 + 1) (.int .u64 o)).set (g * 3 + 2) (.int .i64 h) = rowsV (R.set g (s, o, h)) := by
  have hl := rowsV_len R
  rw [rowsV_set R g _ hg]
  apply List.ext_getElem?
  intro i
  simp only [List.getElem?_set, List.length_set, hl, List.getElem?_append, List.length_append, List.length_take, List.getElem?_take, List.getElem?_drop, rowV, List.length_cons, List.length_nil]
  have hm : min (g * 3) (R.length * 3) = g * 3 := by omega
  rw [hm]
  have l2 : g * 3 + 2 < R.length * 3 := by omega
  have l1 : g * 3 + 1 < R.length * 3 := by omega
  have l0 : g * 3 < R.length * 3 := by omega
  have n2 : ¬ g * 3 + 2 < g * 3 := by omega
  have n1 : ¬ g * 3 + 1 < g * 3 := by omega
  by_cases h2 : g * 3 + 2 = i
  · subst h2; simp [l2, n2]
  by_cases h1 : g * 3 + 1 = i
  · subst h1; simp [l1, n1]
  by_cases h0 : g * 3 = i
  · subst h0; simp [l0]
  rw [if_neg h2, if_neg h1, if_neg h0]
  by_cases hlt : i < g * 3
  · rw [if_pos (by omega), if_pos (by omega), if_pos (by omega)]
  · rw [if_neg (by omega)]
    congr 1
    omega
theorem rowD_eq {R : List Rw} {g : Nat} {s o h : Int} (hr : rowD R g = (s, o, h)) (hg : g < R.length) : R[g]? = some (s, o, h) := by
  rw [← hr]
  simp [rowD, hg]
/-- A row of which one cell only is written anew. -/
theorem rowsV_set1 (R : List Rw) (g : Nat) (s o h h' : Int) (hg : g < R.length) (hr : rowD R g = (s, o, h)) : (rowsV R).set (g * 3 + 2) (.int .i64 h') = rowsV (R.set g (s, o, h')) := by
  rw [← rowsV_set3 R g s o h' hg]
  have f := fun j hj => rowsV_get R g j hg hj
  rw [hr] at f
  have e0 : (rowsV R).set (g * 3) (.int .i64 s) = rowsV R := by
    have := f 0 (by omega)
    simp [rowV] at this
    apply List.ext_getElem?
    intro i
    rw [List.getElem?_set]
    split
    · rename_i hi; subst hi; rw [this]; simp [rowsV_len]; omega
    · rfl
  have e1 : (rowsV R).set (g * 3 + 1) (.int .u64 o) = rowsV R := by
    have := f 1 (by omega)
    simp [rowV] at this
    apply List.ext_getElem?
    intro i
    rw [List.getElem?_set]
    split
    · rename_i hi; subst hi; rw [this]; simp [rowsV_len]; omega
    · rfl
  rw [e0, e1]
theorem RowsAt.cells {w : World} {b : Nat} {R : List Rw} (h : RowsAt w b R) {g : Nat} {s o k : Int} (hg : g < R.length) (hr : rowD R g = (s, o, k)) :
    w.cell? ⟨b, g * 3, none⟩ = some (.int .i64 s) ∧ w.cell? ⟨b, g * 3 + 1, none⟩ = some (.int .u64 o) ∧ w.cell? ⟨b, g * 3 + 2, none⟩ = some (.int .i64 k) := by
  have f := fun j => cell_of_row w b (g * 3 + j) _ _ _ h
  have k := fun j hj => rowsV_get R g j hg hj
  rw [hr] at k
  refine ⟨?_, ?_, ?_⟩
  · rw [show g * 3 = g * 3 + 0 from rfl, f 0, ← Array.getElem?_toList, k 0 (by omega)]; rfl
  · rw [f 1, ← Array.getElem?_toList, k 1 (by omega)]; rfl
  · rw [f 2, ← Array.getElem?_toList, k 2 (by omega)]; rfl
theorem RowsAt.free {w : World} {b : Nat} {R : List Rw} (h : RowsAt w b R) (o : Nat) : w.frozen? ⟨b, o, none⟩ = false := frozen_of_row _ _ _ _ _ h
/-- One cell of the rows written. -/
theorem rows_setCell {w : World} {b : Nat} {L : List Value} (h : w.heap[b]? = some (.cells L.toArray 56 (0, 0))) (i : Nat) (v : Value) : (w.setCell ⟨b, i, none⟩ v).heap[b]? = some (.cells (L.set i v).toArray 56 (0, 0)) := by
  rw [heap_setCell_same _ _ _ _ _ _ h]; simp
theorem RowsAt.grown {w w' : World} {b : Nat} {R : List Rw} {row : Option Nat} (h : RowsAt w b R) (hg : w.grownBy w' row) (hne : some b ≠ row) : RowsAt w' b R :=
  (hg.block b (Array.getElem?_eq_some_iff.1 h).1 hne).trans h
theorem RowsAt.below {w w' : World} {b : Nat} {R : List Rw} (h : RowsAt w b R) (hg : Below w.heap.size w w') : RowsAt w' b R :=
  (hg.block b (Array.getElem?_eq_some_iff.1 h).1).trans h
theorem Tab.below {w w' : World} {tb rb : Nat} {R : List Rw} (h : Tab w tb rb R) (hg : Below w.heap.size w w') : Tab w' tb rb R :=
  ⟨(hg.block tb (Array.getElem?_eq_some_iff.1 h.tab).1).trans h.tab, h.rows.below hg, h.ne⟩
theorem Tab.lt {w : World} {tb rb : Nat} {R : List Rw} (h : Tab w tb rb R) : tb < w.heap.size ∧ rb < w.heap.size := ⟨(Array.getElem?_eq_some_iff.1 h.tab).1, (Array.getElem?_eq_some_iff.1 h.rows).1⟩
theorem granules_tab (tb rb : Nat) (R : List Rw) (w : World) (h : Tab w tb rb R) :
    Calls Try.prog 30 #[.pointer (some ⟨tb, 0, none⟩)] w fun e w' => e = .returned (.int .i64 R.length) ∧ w = w' := by
  have c0 := cell_of_row _ _ 0 _ _ _ h.tab
  simp at c0
  go_enter Try.func30, Try.ntmps30
  go_wp2
  go_ret
  exact ⟨rfl, rfl⟩
theorem row_in (tb rb : Nat) (R : List Rw) (g : Nat) (w : World) (h : Tab w tb rb R) (h1 : g < R.length) :
    Calls Try.prog 36 #[.pointer (some ⟨tb, 0, none⟩), .int .i64 g] w fun e w' => e = .returned (.tuple #[.pointer (some ⟨rb, g * 3, none⟩), .int .i64 0]) ∧ w = w' := by
  have c0 := cell_of_row _ _ 0 _ _ _ h.tab
  simp at c0
  have hne : ((R.length : Int) == 0) = false := beq_eq_false_iff_ne.2 (by omega)
  have g1 : (g : Int) < (R.length : Int) := by omega
  have HT := Lib.hid h
  clear h
  go_enter Try.func36, Try.ntmps36
  go_wp2_with (go_at_call 30; refine (granules_tab _ _ _ _ HT.out).mono ?_; rintro e w' ⟨rfl, rfl⟩)
  go_ret2
  exact ⟨rfl, rfl⟩
theorem row_out (tb rb : Nat) (R : List Rw) (g : Int) (w : World) (h : Tab w tb rb R) (hR : 0 < R.length) (h1 : g < 0 ∨ (R.length : Int) ≤ g) :
    Calls Try.prog 36 #[.pointer (some ⟨tb, 0, none⟩), .int .i64 g] w fun e w' => e = .returned (.tuple #[.pointer none, .int .i64 2]) ∧ w = w' := by
  have c0 := cell_of_row _ _ 0 _ _ _ h.tab
  simp at c0
  have hne : ((R.length : Int) == 0) = false := beq_eq_false_iff_ne.2 (by omega)
  have HT := Lib.hid h
  clear h
  rcases (show g < 0 ∨ (0 ≤ g ∧ (R.length : Int) ≤ g) by omega) with h2 | ⟨h2, h3⟩
  all_goals clear h1
  all_goals go_enter Try.func36, Try.ntmps36
  all_goals go_wp2_with (go_at_call 30; refine (granules_tab _ _ _ _ HT.out).mono ?_; rintro e w' ⟨rfl, rfl⟩)
  all_goals go_ret2
  all_goals exact ⟨rfl, rfl⟩
theorem Row_in (tb rb : Nat) (R : List Rw) (g : Nat) (s o k : Int) (w : World) (h : Tab w tb rb R) (h1 : g < R.length) (hr : rowD R g = (s, o, k)) :
    Calls Try.prog 22 #[.pointer (some ⟨tb, 0, none⟩), .int .i64 g] w fun e w' => e = .returned (.tuple #[.agg #[.int .i64 s, .int .u64 o, .int .i64 k], .int .i64 0]) ∧ Below w.heap.size w w' := by
  obtain ⟨c0, c1, c2⟩ := h.rows.cells h1 hr
  have hlt := h.lt.2
  have F := Lib.hid (fun W (hb : Below w.heap.size w W) => row_in tb rb R g W (h.below hb) h1)
  clear h hr
  go_enter Try.func22, Try.ntmps22
  go_wp2_with (go_at_call 36; refine (F.out _ ((Below.refl _ _).alloc (by simp) _)).mono ?_; rintro e w' ⟨rfl, rfl⟩)
  refine ret_row_tmp rfl w.heap.size 56 _ (0, 0) _ Try.underlying56 rfl ?_ rfl (heap_here (by simp)) rfl ?_
  · kernel_rfl
  · exact ⟨rfl, (Below.refl _ _).alloc (by simp) _⟩
theorem Row_out (tb rb : Nat) (R : List Rw) (g : Int) (w : World) (h : Tab w tb rb R) (hR : 0 < R.length) (h1 : g < 0 ∨ (R.length : Int) ≤ g) :
    Calls Try.prog 22 #[.pointer (some ⟨tb, 0, none⟩), .int .i64 g] w fun e w' => e = .returned (.tuple #[.agg #[.int .i64 0, .int .u64 0, .int .i64 0], .int .i64 2]) ∧ Below w.heap.size w w' := by
  have F := Lib.hid (fun W (hb : Below w.heap.size w W) => row_out tb rb R g W (h.below hb) hR h1)
  clear h h1
  go_enter Try.func22, Try.ntmps22
  go_wp2_with (go_at_call 36; refine (F.out _ ((Below.refl _ _).alloc (by simp) _)).mono ?_; rintro e w' ⟨rfl, rfl⟩)
  refine ret_row_tmp rfl w.heap.size 56 _ (0, 0) _ Try.underlying56 rfl ?_ rfl (heap_here (by simp)) rfl ?_
  · kernel_rfl
  · exact ⟨rfl, (Below.refl _ _).alloc (by simp) _⟩
end Go.Proofs.Ytfeoaphibkcejaa
