/- Contracts: which levels and pages may have an entry, and the kinds' names; of the program and of the reference. No condition. -/
import Derived.Test.YtjohobehhijbcaaOf
namespace Go.Proofs.Ytjohobehhijbcaa
open Go.ChangeShapes Go.WideShapes Go.ChangeAt Go.RowKit
set_option linter.unusedSimpArgs false

def levelB (k g l : Int) : Bool := mayB k g && decide (0 ≤ l ∧ l ≤ 3 ∧ (l = 3 → k ≠ 1) ∧ (l ≠ 3 → k = 0 ∨ k = 1 ∨ k = 3))
def pageB (k g p : Int) : Bool := mayB k g && decide (0 ≤ p ∧ p < 256 ∧ (p < 128 → k ≠ 6 ∧ k ≠ 1) ∧ (128 ≤ p → k = 0 ∨ k = 3 ∨ k = 6))

theorem level_any (k g l : Int) (w : World) :
    Calls Try.prog 25 #[.agg #[.int .i64 k, .int .i64 g], .int .i64 l] w fun e w' => e = .returned (.bool (levelB k g l)) ∧ Below w.heap.size w w' := by
  go_enter Try.func25, Try.ntmps25
  go_wp2_with (first | (go_at_call 21; refine (may_any _ _ _).mono ?_; rintro e w' ⟨rfl, rfl⟩))
  all_goals go_ret
  all_goals refine ⟨ret_bool (Bool.eq_iff_iff.2 ?_), ((Below.refl _ _).alloc (by simp) _).alloc (by simp) _⟩
  all_goals simp_all [levelB, pageB]
  all_goals first | omega | (rw [Bool.eq_iff_iff]; simp; omega)
theorem rlevel_any (k g l : Int) (w : World) :
    Calls Try.prog 26 #[.agg #[.int .i64 k, .int .i64 g], .int .i64 l] w fun e w' => e = .returned (.bool (levelB k g l)) ∧ Below w.heap.size w w' := by
  go_enter Try.func26, Try.ntmps26
  go_wp2_with (first | (go_at_call 22; refine (rmay_any _ _ _).mono ?_; rintro e w' ⟨rfl, rfl⟩))
  all_goals go_ret
  all_goals refine ⟨ret_bool (Bool.eq_iff_iff.2 ?_), ((Below.refl _ _).alloc (by simp) _).alloc (by simp) _⟩
  all_goals simp_all [levelB, pageB]
  all_goals first | omega | (rw [Bool.eq_iff_iff]; simp; omega)
theorem page_any (k g l : Int) (w : World) :
    Calls Try.prog 27 #[.agg #[.int .i64 k, .int .i64 g], .int .i64 l] w fun e w' => e = .returned (.bool (pageB k g l)) ∧ Below w.heap.size w w' := by
  go_enter Try.func27, Try.ntmps27
  go_wp2_with (first | (go_at_call 21; refine (may_any _ _ _).mono ?_; rintro e w' ⟨rfl, rfl⟩))
  all_goals go_ret
  all_goals refine ⟨ret_bool (Bool.eq_iff_iff.2 ?_), ((Below.refl _ _).alloc (by simp) _).alloc (by simp) _⟩
  all_goals simp_all [levelB, pageB]
  all_goals first | omega | (rw [Bool.eq_iff_iff]; simp; omega)
theorem rpage_any (k g l : Int) (w : World) :
    Calls Try.prog 28 #[.agg #[.int .i64 k, .int .i64 g], .int .i64 l] w fun e w' => e = .returned (.bool (pageB k g l)) ∧ Below w.heap.size w w' := by
  go_enter Try.func28, Try.ntmps28
  go_wp2_with (first | (go_at_call 22; refine (rmay_any _ _ _).mono ?_; rintro e w' ⟨rfl, rfl⟩))
  all_goals go_ret
  all_goals refine ⟨ret_bool (Bool.eq_iff_iff.2 ?_), ((Below.refl _ _).alloc (by simp) _).alloc (by simp) _⟩
  all_goals simp_all [levelB, pageB]
  all_goals first | omega | (rw [Bool.eq_iff_iff]; simp; omega)
end Go.Proofs.Ytjohobehhijbcaa
