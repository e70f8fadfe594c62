/- Contracts of layer 6's memory that is not there, and of a zero one. Conditions: those that each theorem states. -/
import Derived.Test.YtkpcomldjnahhaaPut
namespace Go.Proofs.Ytkpcomldjnahhaa
open Go.ChangeShapes Go.WideShapes Go.ChangeAt Go.RowKit
set_option linter.unusedSimpArgs false
attribute [local go_sem] zeroV

/-- A memory that is not there, or a zero one. -/
def Nm (w : World) (v : Value) : Prop := v = .pointer none ∨ ∃ b, v = .pointer (some ⟨b, 0, none⟩) ∧ w.heap[b]? = some (.cells #[.slice none 0 0] 65 (0, 0))
theorem Nm.below {w w' : World} {v : Value} (h : Nm w v) (hb : Below w.heap.size w w') : Nm w' v := by
  rcases h with h | ⟨b, h, hr⟩
  · exact .inl h
  · exact .inr ⟨b, h, (hb.block _ (Array.getElem?_eq_some_iff.1 hr).1).trans hr⟩
theorem z15 (v : Value) (w : World) (h : Nm w v) : Calls Try.prog 15 #[v] w fun e w' => e = .returned (.int .i64 0) ∧ w = w' := by
  rcases h with rfl | ⟨b, rfl, hr⟩
  · go_enter Try.func15, Try.ntmps15
    go_wp2
    go_ret
    exact ⟨rfl, rfl⟩
  · have c0 := cell_of_row _ _ 0 _ _ _ hr
    go_enter Try.func15, Try.ntmps15
    go_wp2
    go_ret
    exact ⟨rfl, rfl⟩
theorem z34 (v : Value) (g : Int) (w : World) (h : Nm w v) : Calls Try.prog 34 #[v, .int .i64 g] w fun e w' => e = .returned (.int .i64 1) ∧ w = w' := by
  have H := Lib.hid h
  clear h
  go_enter Try.func34, Try.ntmps34
  go_wp2_with (go_at_call 15; refine (z15 _ _ H.out).mono ?_; rintro e w1 ⟨rfl, rfl⟩)
  go_ret
  exact ⟨rfl, rfl⟩
set_option maxRecDepth 100000 in
theorem z20 (v : Value) (g : Int) (w : World) (h : Nm w v) : Calls Try.prog 20 #[v, .int .i64 g] w fun e w' => e = .returned (.tuple #[.agg (bytesV (zeroB 1)).toArray, .int .i64 1]) ∧ Below w.heap.size w w' := by
  have B1 : Below w.heap.size w (w.alloc (.cells (bytesV (zeroB 1)).toArray 52)) := (Below.refl _ _).alloc (Nat.le_refl _) _
  have H := Lib.hid (h.below B1)
  have hst := st_new w (zeroB 1) (zeroB 1) zlen zlen
  have HB := Lib.hid B1
  have hln : (bytesV (zeroB 1)).length = 128 := by rw [bytesV_len, zlen]
  clear h B1
  go_enter Try.func20, Try.ntmps20
  go_wp2_with (first | (go_at_call 34; refine (z34 _ _ _ H.out).mono ?_; rintro e w1 ⟨rfl, rfl⟩))
  refine ret_row_tmp rfl w.heap.size 52 _ (0, 0) _ Try.underlying52 rfl ?_ rfl (heap_here rfl) rfl ?_
  · rw [size52, List.size_toArray, bytesV_len, zlen]
  · exact ⟨rfl, HB.out⟩
theorem z28 (v : Value) (a : Int) (w : World) (h : Nm w v) : Calls Try.prog 28 #[v, .int .u64 a] w fun e w' => e = .returned (.tuple #[.slice none 0 0, .int .i64 1]) ∧ w = w' := by
  have H := Lib.hid h
  clear h
  go_enter Try.func28, Try.ntmps28
  go_wp2_with (go_at_call 15; refine (z15 _ _ H.out).mono ?_; rintro e w1 ⟨rfl, rfl⟩)
  go_ret2
  exact ⟨rfl, rfl⟩
theorem z17 (v : Value) (a : Int) (w : World) (h : Nm w v) : Calls Try.prog 17 #[v, .int .u64 a] w fun e w' => e = .returned (.tuple #[.int .u64 0, .int .i64 1]) ∧ w = w' := by
  have H := Lib.hid h
  clear h
  go_enter Try.func17, Try.ntmps17
  go_wp2_with (go_at_call 28; refine (z28 _ _ _ H.out).mono ?_; rintro e w1 ⟨rfl, rfl⟩)
  go_ret2
  exact ⟨rfl, rfl⟩
theorem z13 (v : Value) (a k : Int) (w : World) (h : Nm w v) : Calls Try.prog 13 #[v, .int .u64 a, .int .i64 k] w fun e w' => e = .returned (.tuple #[.slice none 0 0, .int .i64 1]) ∧ w = w' := by
  have H := Lib.hid h
  clear h
  go_enter Try.func13, Try.ntmps13
  go_wp2_with (go_at_call 15; refine (z15 _ _ H.out).mono ?_; rintro e w1 ⟨rfl, rfl⟩)
  go_ret2
  exact ⟨rfl, rfl⟩
theorem z12 (v : Value) (a x : Int) (w : World) (h : Nm w v) : Calls Try.prog 12 #[v, .int .u64 a, .int .u64 x] w fun e w' => e = .returned (.int .i64 1) ∧ w = w' := by
  have H := Lib.hid h
  clear h
  go_enter Try.func12, Try.ntmps12
  go_wp2_with (go_at_call 28; refine (z28 _ _ _ H.out).mono ?_; rintro e w1 ⟨rfl, rfl⟩)
  go_ret
  exact ⟨rfl, rfl⟩
theorem z11 (v : Value) (a : Int) (y : Value) (w : World) (h : Nm w v) : Calls Try.prog 11 #[v, .int .u64 a, y] w fun e w' => e = .returned (.int .i64 1) ∧ w = w' := by
  have H := Lib.hid h
  clear h
  go_enter Try.func11, Try.ntmps11
  go_wp2_with (go_at_call 15; refine (z15 _ _ H.out).mono ?_; rintro e w1 ⟨rfl, rfl⟩)
  go_ret
  exact ⟨rfl, rfl⟩
theorem z25 (v : Value) (g : Int) (cs : Array Value) (w : World) (h : Nm w v) : Calls Try.prog 25 #[v, .int .i64 g, .agg cs] w fun e w' => e = .returned (.int .i64 1) ∧ Below w.heap.size w w' := by
  have B1 : Below w.heap.size w (w.alloc (.cells cs 52)) := (Below.refl _ _).alloc (Nat.le_refl _) _
  have H := Lib.hid (h.below B1)
  have HB := Lib.hid B1
  clear h B1
  go_enter Try.func25, Try.ntmps25
  go_wp2_with (first | (go_at_call 34; refine (z34 _ _ _ H.out).mono ?_; rintro e w1 ⟨rfl, rfl⟩))
  go_ret
  exact ⟨rfl, HB.out⟩
theorem z26 (v : Value) (g : Int) (w : World) (h : Nm w v) : Calls Try.prog 26 #[v, .int .i64 g] w fun e w' => e = .returned (.int .i64 1) ∧ Below w.heap.size w w' := by
  have H := Lib.hid h
  clear h
  go_enter Try.func26, Try.ntmps26
  go_wp2_with (first | (go_at_call 25; refine (z25 _ _ _ _ H.out).mono ?_; rintro e w1 ⟨rfl, hb⟩))
  go_ret
  exact ⟨rfl, hb⟩
theorem z22 (v : Value) (w : World) (h : Nm w v) : Calls Try.prog 22 #[v] w fun e w' => e = .returned (.pointer none) ∧ w = w' := by
  have H := Lib.hid h
  clear h
  go_enter Try.func22, Try.ntmps22
  go_wp2_with (go_at_call 15; refine (z15 _ _ H.out).mono ?_; rintro e w1 ⟨rfl, rfl⟩)
  go_ret
  exact ⟨rfl, rfl⟩
theorem z24 (v : Value) (w : World) (h : Nm w v) : Calls Try.prog 24 #[v, .pointer none] w fun e w' => e = .returned (.bool true) ∧ w = w' := by
  have H := Lib.hid h
  have H2 : Hid (Nm w (.pointer none)) := .inl rfl
  clear h
  go_enter Try.func24, Try.ntmps24
  go_wp2_with (first | (go_at_call 15; with_reducible refine (z15 v _ H.out).mono ?_; rintro e w1 ⟨rfl, rfl⟩) | (go_at_call 15; with_reducible refine (z15 (.pointer none) _ H2.out).mono ?_; rintro e w1 ⟨rfl, rfl⟩))
  go_ret
  exact ⟨rfl, rfl⟩
theorem z23 (v : Value) (w : World) (h : Nm w v) : Calls Try.prog 23 #[v] w fun e w' =>
    e = .returned (.func (.func 36) #[] #[.pointer (some ⟨w.heap.size, 0, none⟩)]) ∧ w'.cell? ⟨w.heap.size, 0, none⟩ = some (.pointer none) ∧ Below w.heap.size w w' := by
  have H := Lib.hid h
  clear h
  go_enter Try.func23, Try.ntmps23
  go_wp2_with (go_at_call 22; refine (z22 _ _ H.out).mono ?_; rintro e w1 ⟨rfl, rfl⟩)
  go_ret
  exact ⟨rfl, cell_of_row _ _ 0 _ _ _ (heap_here (by simp)), (Below.refl _ _).alloc (by simp) _⟩
end Go.Proofs.Ytkpcomldjnahhaa
