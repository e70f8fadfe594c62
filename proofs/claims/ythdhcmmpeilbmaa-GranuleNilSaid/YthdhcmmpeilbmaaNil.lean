/- Contracts of layer 7's table that is not there, and of a zero one. Conditions: those that each theorem states. -/
import Derived.Test.YthdhcmmpeilbmaaKno
namespace Go.Proofs.Ythdhcmmpeilbmaa
open Go.ChangeShapes Go.WideShapes Go.ChangeAt Go.RowKit
set_option linter.unusedSimpArgs false

/-- A table that is not there, or a zero one. -/
def Nt (w : World) (v : Value) : Prop := v = .pointer none ∨ ∃ b, v = .pointer (some ⟨b, 0, none⟩) ∧ w.heap[b]? = some (.cells #[.slice none 0 0] 45 (0, 0))
theorem Nt.below {w w' : World} {v : Value} (h : Nt w v) (hb : Below w.heap.size w w') : Nt w' v := by
  rcases h with h | ⟨b, h, hr⟩
  · exact .inl h
  · exact .inr ⟨b, h, (hb.block _ (Array.getElem?_eq_some_iff.1 hr).1).trans hr⟩
theorem n20 (v : Value) (w : World) (h : Nt w v) : Calls Try.prog 20 #[v] w fun e w' => e = .returned (.int .i64 0) ∧ w = w' := by
  rcases h with rfl | ⟨b, rfl, hr⟩
  · go_enter Try.func20, Try.ntmps20
    go_wp2
    go_ret
    exact ⟨rfl, rfl⟩
  · have c0 := cell_of_row _ _ 0 _ _ _ hr
    go_enter Try.func20, Try.ntmps20
    go_wp2
    go_ret
    exact ⟨rfl, rfl⟩
theorem n27 (v : Value) (g : Int) (w : World) (h : Nt w v) : Calls Try.prog 27 #[v, .int .i64 g] w fun e w' => e = .returned (.tuple #[.pointer none, .int .i64 1]) ∧ w = w' := by
  have H := Lib.hid h
  clear h
  go_enter Try.func27, Try.ntmps27
  go_wp2_with (go_at_call 20; refine (n20 _ _ H.out).mono ?_; rintro e w1 ⟨rfl, rfl⟩)
  go_ret2
  exact ⟨rfl, rfl⟩
theorem n11 (v : Value) (g : Int) (w : World) (h : Nt w v) : Calls Try.prog 11 #[v, .int .i64 g] w fun e w' => e = .returned (.tuple #[.agg #[.int .i64 0, .int .u64 0, .int .i64 0], .int .i64 1]) ∧ Below w.heap.size w w' := by
  have H := Lib.hid (h.below ((Below.refl _ _).alloc (Nat.le_refl _) (.cells #[.int .i64 0, .int .u64 0, .int .i64 0] 35)))
  clear h
  go_enter Try.func11, Try.ntmps11
  go_wp2_with (go_at_call 27; refine (n27 _ _ _ H.out).mono ?_; rintro e w1 ⟨rfl, rfl⟩)
  refine ret_row_tmp rfl w.heap.size 35 _ (0, 0) _ Try.underlying35 rfl ?_ rfl (heap_here rfl) rfl ?_
  · kernel_rfl
  · exact ⟨rfl, (Below.refl _ _).alloc (Nat.le_refl _) _⟩
theorem n13 (v : Value) (g f t o : Int) (w : World) (h : Nt w v) : Calls Try.prog 13 #[v, .int .i64 g, .int .i64 f, .int .i64 t, .int .u64 o] w fun e w' => e = .returned (.int .i64 1) ∧ w = w' := by
  have H := Lib.hid h
  clear h
  go_enter Try.func13, Try.ntmps13
  go_wp2_with (go_at_call 27; refine (n27 _ _ _ H.out).mono ?_; rintro e w1 ⟨rfl, rfl⟩)
  go_ret
  exact ⟨rfl, rfl⟩
theorem n12 (v : Value) (g : Int) (w : World) (h : Nt w v) : Calls Try.prog 12 #[v, .int .i64 g] w fun e w' => e = .returned (.int .i64 1) ∧ w = w' := by
  have H := Lib.hid h
  clear h
  go_enter Try.func12, Try.ntmps12
  go_wp2_with (go_at_call 27; refine (n27 _ _ _ H.out).mono ?_; rintro e w1 ⟨rfl, rfl⟩)
  go_ret
  exact ⟨rfl, rfl⟩
theorem n14 (v : Value) (g : Int) (w : World) (h : Nt w v) : Calls Try.prog 14 #[v, .int .i64 g] w fun e w' => e = .returned (.int .i64 1) ∧ w = w' := by
  have H := Lib.hid h
  clear h
  go_enter Try.func14, Try.ntmps14
  go_wp2_with (go_at_call 27; refine (n27 _ _ _ H.out).mono ?_; rintro e w1 ⟨rfl, rfl⟩)
  go_ret
  exact ⟨rfl, rfl⟩
theorem n18 (v : Value) (g : Int) (w : World) (h : Nt w v) : Calls Try.prog 18 #[v, .int .i64 g] w fun e w' => e = .returned (.bool false) ∧ w = w' := by
  have H := Lib.hid h
  clear h
  go_enter Try.func18, Try.ntmps18
  go_wp2_with (go_at_call 27; refine (n27 _ _ _ H.out).mono ?_; rintro e w1 ⟨rfl, rfl⟩)
  go_ret
  exact ⟨rfl, rfl⟩
theorem n19 (v : Value) (s o : Int) (w : World) (h : Nt w v) : Calls Try.prog 19 #[v, .int .i64 s, .int .u64 o] w fun e w' => e = .returned (.int .i64 0) ∧ w = w' := by
  have H := Lib.hid h
  clear h
  go_enter Try.func19, Try.ntmps19
  go_wp2_with (go_at_call 20; refine (n20 _ _ H.out).mono ?_; rintro e w1 ⟨rfl, rfl⟩)
  refine wp_loop_rounds 1 ?_
  rw [rounds_succ]
  go_wp2
  go_ret
  exact ⟨rfl, rfl⟩
theorem n21 (v : Value) (w : World) (h : Nt w v) : Calls Try.prog 21 #[v] w fun e w' => e = .returned (.pointer none) ∧ w = w' := by
  have H := Lib.hid h
  clear h
  go_enter Try.func21, Try.ntmps21
  go_wp2_with (go_at_call 20; refine (n20 _ _ H.out).mono ?_; rintro e w1 ⟨rfl, rfl⟩)
  go_ret
  exact ⟨rfl, rfl⟩
theorem n22 (v : Value) (w : World) (h : Nt w v) : Calls Try.prog 22 #[v, .pointer none] w fun e w' => e = .returned (.bool true) ∧ w = w' := by
  have H := Lib.hid h
  have H2 : Hid (Nt w (.pointer none)) := .inl rfl
  clear h
  go_enter Try.func22, Try.ntmps22
  go_wp2_with (first | (go_at_call 20; with_reducible refine (n20 v _ H.out).mono ?_; rintro e w1 ⟨rfl, rfl⟩) | (go_at_call 20; with_reducible refine (n20 (.pointer none) _ H2.out).mono ?_; rintro e w1 ⟨rfl, rfl⟩))
  go_ret
  exact ⟨rfl, rfl⟩
theorem n23 (v : Value) (o : Int) (w : World) (h : Nt w v) : Calls Try.prog 23 #[v, .int .u64 o] w fun e w' =>
    e = .returned (.func (.func 31) #[] #[.pointer (some ⟨w.heap.size + 1, 0, none⟩), .pointer (some ⟨w.heap.size, 0, none⟩)]) ∧ w' = (w.alloc (.cells #[.int .u64 o] 31)).alloc (.cells #[.pointer none] 24) := by
  have H := Lib.hid (h.below ((Below.refl _ _).alloc (Nat.le_refl _) (.cells #[.int .u64 o] 31)))
  clear h
  go_enter Try.func23, Try.ntmps23
  go_wp2_with (go_at_call 21; refine (n21 _ _ H.out).mono ?_; rintro e w1 ⟨rfl, rfl⟩)
  go_ret
  exact ⟨rfl, rfl⟩
end Go.Proofs.Ythdhcmmpeilbmaa
