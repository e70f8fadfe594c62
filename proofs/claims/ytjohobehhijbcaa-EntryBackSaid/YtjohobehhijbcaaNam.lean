/- Contracts: the kinds' names, of the program and of the reference. No condition. -/
import Derived.Test.YtjohobehhijbcaaOf
namespace Go.Proofs.Ytjohobehhijbcaa
open Go.ChangeShapes Go.WideShapes Go.ChangeAt Go.RowKit
set_option linter.unusedSimpArgs false
def nm0 : ByteArray := ⟨#[101, 109, 112, 116, 121]⟩
def nm1 : ByteArray := ⟨#[116, 97, 98, 108, 101]⟩
def nm2 : ByteArray := ⟨#[100, 97, 116, 97]⟩
def nm3 : ByteArray := ⟨#[100, 101, 115, 116, 114, 111, 121, 101, 100]⟩
def nm4 : ByteArray := ⟨#[101, 120, 112, 111, 114, 116, 101, 100]⟩
def nm5 : ByteArray := ⟨#[97, 119, 97, 105, 116, 105, 110, 103]⟩
def nm6 : ByteArray := ⟨#[115, 104, 97, 114, 101, 100]⟩
def nmE : ByteArray := ⟨#[]⟩
def nameS (k : Int) : ByteArray := if k = 0 then nm0 else if k = 1 then nm1 else if k = 2 then nm2 else if k = 3 then nm3 else if k = 4 then nm4 else if k = 5 then nm5 else if k = 6 then nm6 else nmE

theorem names_any (w : World) :
    Calls Try.prog 45 #[] w fun e w' => e = .returned (.agg #[.string nm0, .string nm1, .string nm2, .string nm3, .string nm4, .string nm5, .string nm6]) ∧ Below w.heap.size w w' := by
  go_enter Try.func45, Try.ntmps45
  go_wp2
  refine ret_row rfl w.heap.size 67 _ (0, 0) _ Try.underlying67 rfl ?_ rfl (heap_here (by simp)) rfl ?_
  · kernel_rfl
  · exact ⟨rfl, (Below.refl _ _).alloc (by simp) _⟩

theorem idx0 (w : World) : (Instr.index 67 (.agg #[.string nm0, .string nm1, .string nm2, .string nm3, .string nm4, .string nm5, .string nm6]) (.int .i64 0)).run Try.prog w = .ok (.string nm0) w := by kernel_rfl
theorem idx1 (w : World) : (Instr.index 67 (.agg #[.string nm0, .string nm1, .string nm2, .string nm3, .string nm4, .string nm5, .string nm6]) (.int .i64 1)).run Try.prog w = .ok (.string nm1) w := by kernel_rfl
theorem idx2 (w : World) : (Instr.index 67 (.agg #[.string nm0, .string nm1, .string nm2, .string nm3, .string nm4, .string nm5, .string nm6]) (.int .i64 2)).run Try.prog w = .ok (.string nm2) w := by kernel_rfl
theorem idx3 (w : World) : (Instr.index 67 (.agg #[.string nm0, .string nm1, .string nm2, .string nm3, .string nm4, .string nm5, .string nm6]) (.int .i64 3)).run Try.prog w = .ok (.string nm3) w := by kernel_rfl
theorem idx4 (w : World) : (Instr.index 67 (.agg #[.string nm0, .string nm1, .string nm2, .string nm3, .string nm4, .string nm5, .string nm6]) (.int .i64 4)).run Try.prog w = .ok (.string nm4) w := by kernel_rfl
theorem idx5 (w : World) : (Instr.index 67 (.agg #[.string nm0, .string nm1, .string nm2, .string nm3, .string nm4, .string nm5, .string nm6]) (.int .i64 5)).run Try.prog w = .ok (.string nm5) w := by kernel_rfl
theorem idx6 (w : World) : (Instr.index 67 (.agg #[.string nm0, .string nm1, .string nm2, .string nm3, .string nm4, .string nm5, .string nm6]) (.int .i64 6)).run Try.prog w = .ok (.string nm6) w := by kernel_rfl
attribute [local go_sem] idx0 idx1 idx2 idx3 idx4 idx5 idx6

theorem name_any (k : Int) (w : World) :
    Calls Try.prog 29 #[.int .i64 k] w fun e w' => e = .returned (.string (nameS k)) ∧ Below w.heap.size w w' := by
  by_cases h : 0 ≤ k ∧ k ≤ 6
  · have hk : k = 0 ∨ k = 1 ∨ k = 2 ∨ k = 3 ∨ k = 4 ∨ k = 5 ∨ k = 6 := by omega
    clear h
    rcases hk with rfl | rfl | rfl | rfl | rfl | rfl | rfl
    all_goals go_enter Try.func29, Try.ntmps29
    all_goals go_wp2_with (first | (go_at_call 45; refine (names_any _).mono ?_; rintro e w' ⟨rfl, hb⟩) | (go_at_call 42; refine (kind_any _ _).mono ?_; rintro e w' ⟨rfl, rfl⟩; rw [show kindB _ = true from rfl]))
    all_goals go_ret
    all_goals exact ⟨rfl, hb⟩
  · have hk : Hid (kindB k = false) := by simp [kindB, Hid]; omega
    have hn : Hid (nameS k = nmE) := by
      unfold nameS Hid
      rw [if_neg (by omega), if_neg (by omega), if_neg (by omega), if_neg (by omega), if_neg (by omega), if_neg (by omega), if_neg (by omega)]
    clear h
    go_enter Try.func29, Try.ntmps29
    go_wp2_with (first | (go_at_call 42; refine (kind_any _ _).mono ?_; rintro e w' ⟨rfl, rfl⟩; rw [hk.out]))
    go_ret
    exact ⟨by rw [hn.out]; rfl, Below.refl _ _⟩

theorem rname_any (k : Int) (w : World) :
    Calls Try.prog 30 #[.int .i64 k] w fun e w' => e = .returned (.string (nameS k)) ∧ Below w.heap.size w w' := by
  by_cases h : 0 ≤ k ∧ k ≤ 6
  · have hk : k = 0 ∨ k = 1 ∨ k = 2 ∨ k = 3 ∨ k = 4 ∨ k = 5 ∨ k = 6 := by omega
    clear h
    rcases hk with rfl | rfl | rfl | rfl | rfl | rfl | rfl
    all_goals go_enter Try.func30, Try.ntmps30
    all_goals go_wp2
    all_goals go_ret
    all_goals exact ⟨rfl, (Below.refl _ _).alloc (by simp) _⟩
  · have hn : Hid (nameS k = nmE) := by
      unfold nameS Hid
      rw [if_neg (by omega), if_neg (by omega), if_neg (by omega), if_neg (by omega), if_neg (by omega), if_neg (by omega), if_neg (by omega)]
    rcases (show k < 0 ∨ (0 ≤ k ∧ 6 < k) by omega) with h1 | ⟨h1, h2⟩
    all_goals clear h
    all_goals go_enter Try.func30, Try.ntmps30
    all_goals go_wp2
    all_goals go_ret
    all_goals exact ⟨by rw [hn.out]; rfl, (Below.refl _ _).alloc (by simp) _⟩
end Go.Proofs.Ytjohobehhijbcaa
