/- Contracts of layer 8's functions on one entry: which may be, their bytes, and the entry that has eight bytes; of the program and of the reference. Conditions: those that each theorem states. -/
import Derived.Test.YtjohobehhijbcaaPlaces
namespace Go.Proofs.Ytjohobehhijbcaa
open Go.ChangeShapes Go.WideShapes Go.ChangeAt Go.RowKit
set_option linter.unusedSimpArgs false

def mayB (k g : Int) : Bool := decide (0 ≤ k ∧ k ≤ 6 ∧ 0 ≤ g ∧ g < 4096 ∧ (k = 1 ∨ k = 2 ∨ k = 6 ∨ g = 0))
def kindB (k : Int) : Bool := decide (0 ≤ k ∧ k ≤ 6)
def hasB (k : Int) : Bool := decide (k = 1 ∨ k = 2 ∨ k = 6)
theorem mayB_iff {k g : Int} : mayB k g = true ↔ 0 ≤ k ∧ k ≤ 6 ∧ 0 ≤ g ∧ g < 4096 ∧ (k = 1 ∨ k = 2 ∨ k = 6 ∨ g = 0) := by simp [mayB]

theorem kind_any (k : Int) (w : World) :
    Calls Try.prog 42 #[.int .i64 k] w fun e w' => e = .returned (.bool (kindB k)) ∧ w = w' := by
  go_enter Try.func42, Try.ntmps42
  go_wp2
  all_goals go_ret
  all_goals exact ⟨ret_bool (Bool.eq_iff_iff.2 (by simp [kindB] at *; try omega)), rfl⟩
theorem gran_any (k : Int) (w : World) :
    Calls Try.prog 43 #[.int .i64 k] w fun e w' => e = .returned (.bool (hasB k)) ∧ w = w' := by
  go_enter Try.func43, Try.ntmps43
  go_wp2
  all_goals go_ret
  all_goals exact ⟨ret_bool (Bool.eq_iff_iff.2 (by simp [hasB] at *; try omega)), rfl⟩
theorem has_any (k : Int) (w : World) :
    Calls Try.prog 44 #[.int .i64 k] w fun e w' => e = .returned (.bool (hasB k)) ∧ w = w' := by
  go_enter Try.func44, Try.ntmps44
  go_wp2
  all_goals go_ret
  all_goals exact ⟨ret_bool (Bool.eq_iff_iff.2 (by simp [hasB] at *; try omega)), rfl⟩
theorem may_any (k g : Int) (w : World) :
    Calls Try.prog 21 #[.agg #[.int .i64 k, .int .i64 g]] w fun e w' => e = .returned (.bool (mayB k g)) ∧ w.alloc (.cells #[.int .i64 k, .int .i64 g] 25) = w' := by
  go_enter Try.func21, Try.ntmps21
  go_wp2_with (first | (go_at_call 42; refine (kind_any _ _).mono ?_; rintro e w' ⟨rfl, rfl⟩) | (go_at_call 43; refine (gran_any _ _).mono ?_; rintro e w' ⟨rfl, rfl⟩))
  all_goals go_ret
  all_goals exact ⟨ret_bool (Bool.eq_iff_iff.2 (by simp [kindB, hasB, mayB] at *; try omega)), rfl⟩
theorem rmay_any (k g : Int) (w : World) :
    Calls Try.prog 22 #[.agg #[.int .i64 k, .int .i64 g]] w fun e w' => e = .returned (.bool (mayB k g)) ∧ w.alloc (.cells #[.int .i64 k, .int .i64 g] 25) = w' := by
  go_enter Try.func22, Try.ntmps22
  go_wp2_with (first | (go_at_call 44; refine (has_any _ _).mono ?_; rintro e w' ⟨rfl, rfl⟩))
  all_goals go_ret
  all_goals exact ⟨ret_bool (Bool.eq_iff_iff.2 (by simp [kindB, hasB, mayB] at *; try omega)), rfl⟩
theorem hasp_any (k g : Int) (w : World) :
    Calls Try.prog 23 #[.agg #[.int .i64 k, .int .i64 g]] w fun e w' => e = .returned (.bool (mayB k g && hasB k)) ∧ Below w.heap.size w w' := by
  go_enter Try.func23, Try.ntmps23
  go_wp2_with (first | (go_at_call 21; refine (may_any _ _ _).mono ?_; rintro e w' ⟨rfl, rfl⟩) | (go_at_call 43; refine (gran_any _ _).mono ?_; rintro e w' ⟨rfl, rfl⟩))
  all_goals go_ret
  all_goals exact ⟨ret_bool (by simp_all), ((Below.refl _ _).alloc (by simp) _).alloc (by simp) _⟩
theorem rhasp_any (k g : Int) (w : World) :
    Calls Try.prog 24 #[.agg #[.int .i64 k, .int .i64 g]] w fun e w' => e = .returned (.bool (mayB k g && hasB k)) ∧ Below w.heap.size w w' := by
  go_enter Try.func24, Try.ntmps24
  go_wp2_with (first | (go_at_call 22; refine (rmay_any _ _ _).mono ?_; rintro e w' ⟨rfl, rfl⟩) | (go_at_call 44; refine (has_any _ _).mono ?_; rintro e w' ⟨rfl, rfl⟩))
  all_goals go_ret
  all_goals exact ⟨ret_bool (by simp_all), ((Below.refl _ _).alloc (by simp) _).alloc (by simp) _⟩

theorem or_sum (k g : Int) (h1 : 0 ≤ k) (h2 : k < 256) (h3 : 0 ≤ g) (h4 : g < 1000000) : bits .or .u64 k (g * 256) = k + 256 * g := by
  rw [u64_or k (g * 256) (by omega) (by omega) (by omega) (by omega)]
  have e : (g * 256).toNat = 2 ^ 8 * g.toNat := by omega
  rw [e, Nat.or_comm, ← Nat.two_pow_add_eq_or_of_lt (by omega)]
  omega
theorem or_i64 (k g : Int) (h1 : 0 ≤ k) (h2 : k < 256) (h3 : 0 ≤ g) (h4 : g < 1000000) : bits .or .i64 k (g * 256) = k + 256 * g := by
  obtain ⟨n, rfl⟩ := Int.eq_ofNat_of_zero_le h1
  obtain ⟨m, rfl⟩ := Int.eq_ofNat_of_zero_le h3
  show IntKind.i64.wrap ((BitVec.ofInt 64 (n : Int) ||| BitVec.ofInt 64 ((m : Int) * 256)).toNat : Int) = _
  rw [show ((m : Int) * 256) = ((2 ^ 8 * m : Nat) : Int) by omega]
  rw [BitVec.toNat_or, BitVec.ofInt_natCast, BitVec.ofInt_natCast, BitVec.toNat_ofNat, BitVec.toNat_ofNat, Nat.mod_eq_of_lt (by omega), Nat.mod_eq_of_lt (by omega), IntKind.wrap_i64, Nat.or_comm, ← Nat.two_pow_add_eq_or_of_lt (by omega)]
  omega

def agg8 (a b c d e f g h : Int) : Value := .agg #[.int .u8 a, .int .u8 b, .int .u8 c, .int .u8 d, .int .u8 e, .int .u8 f, .int .u8 g, .int .u8 h]
theorem agg8_eq {a b c d e f g h a' b' c' d' e' f' g' h' : Int} (q : a = a' ∧ b = b' ∧ c = c' ∧ d = d' ∧ e = e' ∧ f = f' ∧ g = g' ∧ h = h') :
    (Value.agg #[.int .u8 a, .int .u8 b, .int .u8 c, .int .u8 d, .int .u8 e, .int .u8 f, .int .u8 g, .int .u8 h]) = agg8 a' b' c' d' e' f' g' h' := by
  obtain ⟨rfl, rfl, rfl, rfl, rfl, rfl, rfl, rfl⟩ := q
  rfl

set_option maxHeartbeats 1000000 in
theorem bytes_yes (k g : Int) (w : World) (h : mayB k g = true) :
    Calls Try.prog 20 #[.agg #[.int .i64 k, .int .i64 g]] w fun e w' => e = .returned (.tuple #[agg8 k (g % 256) (g / 256) 0 0 0 0 0, .int .i64 0]) ∧ Below w.heap.size w w' := by
  have H := Lib.hid h
  obtain ⟨h1, h2, h3, h4, h5⟩ := mayB_iff.1 h
  clear h h5
  have ho := or_sum k g (by omega) (by omega) (by omega) (by omega)
  go_enter Try.func20, Try.ntmps20
  go_wp2_with (first | (go_at_call 21; refine (may_any _ _ _).mono ?_; rintro e w' ⟨rfl, rfl⟩; rw [H.out]))
  refine wp_loop_rounds 9 ?_
  iterate 9 (rw [rounds_succ]; go_wp2)
  refine ret_row_tmp rfl (w.heap.size + 1) 22 _ (0, 0) _ Try.underlying22 rfl ?_ rfl (heap_past (by simp) (heap_here (by simp))) rfl ?_
  · kernel_rfl
  · refine ⟨ret_two (agg8_eq ⟨?_, ?_, ?_, ?_, ?_, ?_, ?_, ?_⟩) rfl, (((Below.refl _ _).alloc (by simp) _).alloc (by simp) _).alloc (by simp <;> omega) _⟩
    all_goals omega

theorem bytes_no (k g : Int) (w : World) (h : mayB k g = false) :
    Calls Try.prog 20 #[.agg #[.int .i64 k, .int .i64 g]] w fun e w' => e = .returned (.tuple #[agg8 0 0 0 0 0 0 0 0, .int .i64 2]) ∧ Below w.heap.size w w' := by
  have H := Lib.hid h
  clear h
  go_enter Try.func20, Try.ntmps20
  go_wp2_with (first | (go_at_call 21; refine (may_any _ _ _).mono ?_; rintro e w' ⟨rfl, rfl⟩; rw [H.out]))
  refine ret_row_tmp rfl (w.heap.size + 1) 22 _ (0, 0) _ Try.underlying22 rfl ?_ rfl (heap_past (by simp) (heap_here (by simp))) rfl ?_
  · kernel_rfl
  · exact ⟨ret_two (agg8_eq ⟨rfl, rfl, rfl, rfl, rfl, rfl, rfl, rfl⟩) rfl, (((Below.refl _ _).alloc (by simp) _).alloc (by simp) _).alloc (by simp <;> omega) _⟩
end Go.Proofs.Ytjohobehhijbcaa
