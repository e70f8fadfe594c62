/- Contracts of the small integer functions of layer 8: the slots, first pages and how many pages an entry is for; of the program and of the reference. Conditions: none beyond those that each theorem states. -/
import Derived.Test.YtjohobehhijbcaaRows
import Derived.Test.YtjohobehhijbcaaKit
namespace Go.Proofs.Ytjohobehhijbcaa
open Go.ChangeShapes Go.WideShapes Go.ChangeAt Go.RowKit

theorem lvl {l : Int} (h3 : 0 ≤ l) (h4 : l < 4) : l = 0 ∨ l = 1 ∨ l = 2 ∨ l = 3 := by omega

/-- 4 to the power of 3 - level. -/
def manyV (l : Int) : Int := 4 ^ (3 - l).toNat
def slotV (p l : Int) : Int := p / manyV l % 4
def firstV (p l : Int) : Int := p - p % (4 * manyV l)

theorem many0 : manyV 0 = 64 := rfl
theorem many1 : manyV 1 = 16 := rfl
theorem many2 : manyV 2 = 4 := rfl
theorem many3 : manyV 3 = 1 := rfl

theorem and3 (n : Fin 256) : bits .and .i64 ((n.val : Nat) : Int) 3 = ((n.val : Nat) : Int) % 4 := by
  revert n; decide +kernel
theorem and3' {p : Int} (h1 : 0 ≤ p) (h2 : p < 256) : bits .and .i64 p 3 = p % 4 := by
  obtain ⟨n, rfl⟩ := Int.eq_ofNat_of_zero_le h1
  exact and3 ⟨n, by omega⟩
theorem not255 (n : Fin 256) : bits .andNot .i64 ((n.val : Nat) : Int) 255 = ((n.val : Nat) : Int) - ((n.val : Nat) : Int) % 256 := by
  revert n; decide +kernel
theorem not63 (n : Fin 256) : bits .andNot .i64 ((n.val : Nat) : Int) 63 = ((n.val : Nat) : Int) - ((n.val : Nat) : Int) % 64 := by
  revert n; decide +kernel
theorem not15 (n : Fin 256) : bits .andNot .i64 ((n.val : Nat) : Int) 15 = ((n.val : Nat) : Int) - ((n.val : Nat) : Int) % 16 := by
  revert n; decide +kernel
theorem not3 (n : Fin 256) : bits .andNot .i64 ((n.val : Nat) : Int) 3 = ((n.val : Nat) : Int) - ((n.val : Nat) : Int) % 4 := by
  revert n; decide +kernel

theorem slot_yes (page level : Int) (w : World) (h1 : 0 ≤ page) (h2 : page < 256) (h3 : 0 ≤ level) (h4 : level < 4) :
    Calls Try.prog 13 #[.int .i64 page, .int .i64 level] w fun e w' => e = .returned (.tuple #[.int .i64 (slotV page level), .int .i64 0]) ∧ w = w' := by
  rcases lvl h3 h4 with rfl | rfl | rfl | rfl
  all_goals clear h3 h4
  all_goals go_enter Try.func13, Try.ntmps13
  all_goals go_wp2
  all_goals go_ret2
  · exact ⟨ret_int2 (and3' (by omega) (by omega)) rfl, rfl⟩
  · exact ⟨ret_int2 (and3' (by omega) (by omega)) rfl, rfl⟩
  · exact ⟨ret_int2 (and3' (by omega) (by omega)) rfl, rfl⟩
  · exact ⟨ret_int2 ((and3' (by omega) (by omega)).trans (by simp [slotV, many3])) rfl, rfl⟩

theorem first_yes (page level : Int) (w : World) (h1 : 0 ≤ page) (h2 : page < 256) (h3 : 0 ≤ level) (h4 : level < 4) :
    Calls Try.prog 14 #[.int .i64 page, .int .i64 level] w fun e w' => e = .returned (.tuple #[.int .i64 (firstV page level), .int .i64 0]) ∧ w = w' := by
  obtain ⟨n, rfl⟩ := Int.eq_ofNat_of_zero_le h1
  rcases lvl h3 h4 with rfl | rfl | rfl | rfl
  all_goals clear h3 h4
  all_goals go_enter Try.func14, Try.ntmps14
  all_goals go_wp2
  all_goals go_ret2
  · exact ⟨ret_int2 (not255 ⟨n, by omega⟩) rfl, rfl⟩
  · exact ⟨ret_int2 (not63 ⟨n, by omega⟩) rfl, rfl⟩
  · exact ⟨ret_int2 (not15 ⟨n, by omega⟩) rfl, rfl⟩
  · exact ⟨ret_int2 (not3 ⟨n, by omega⟩) rfl, rfl⟩

theorem many_yes (level : Int) (w : World) (h3 : 0 ≤ level) (h4 : level < 4) :
    Calls Try.prog 15 #[.int .i64 level] w fun e w' => e = .returned (.tuple #[.int .i64 (manyV level), .int .i64 0]) ∧ w = w' := by
  rcases lvl h3 h4 with rfl | rfl | rfl | rfl
  all_goals clear h3 h4
  all_goals go_enter Try.func15, Try.ntmps15
  all_goals go_wp2
  all_goals go_ret2
  all_goals exact ⟨rfl, rfl⟩

/-- The four ways in which a page, or a level, is not there, each test decided. -/
theorem parts {p l : Int} (h : p < 0 ∨ 256 ≤ p ∨ l < 0 ∨ 4 ≤ l) : p < 0 ∨ (0 ≤ p ∧ 256 ≤ p) ∨ (0 ≤ p ∧ p < 256 ∧ l < 0) ∨ (0 ≤ p ∧ p < 256 ∧ 0 ≤ l ∧ 4 ≤ l) := by omega

theorem th_no (page level : Int) (w : World) (h : page < 0 ∨ 256 ≤ page ∨ level < 0 ∨ 4 ≤ level) :
    Calls Try.prog 40 #[.int .i64 page, .int .i64 level] w fun e w' => e = .returned (.bool false) ∧ w = w' := by
  have g4 : 4 ≤ level → decide (level < 4) = false := fun h4 => by simpa using h4
  rcases parts h with h1 | ⟨h1, h2⟩ | ⟨h1, h2, h3⟩ | ⟨h1, h2, h3, h4⟩
  case inr.inr.inr =>
    have h5 := g4 h4
    clear h g4
    go_enter Try.func40, Try.ntmps40
    go_wp2
    go_ret
    exact ⟨rfl, rfl⟩
  all_goals clear h g4
  all_goals go_enter Try.func40, Try.ntmps40
  all_goals go_wp2
  all_goals go_ret
  all_goals exact ⟨rfl, rfl⟩

theorem slot_no (page level : Int) (w : World) (h : page < 0 ∨ 256 ≤ page ∨ level < 0 ∨ 4 ≤ level) :
    Calls Try.prog 13 #[.int .i64 page, .int .i64 level] w fun e w' => e = .returned (.tuple #[.int .i64 0, .int .i64 2]) ∧ w = w' := by
  have H := Lib.hid h
  clear h
  go_enter Try.func13, Try.ntmps13
  go_wp2_with (go_at_call 40; refine (th_no _ _ _ H.out).mono ?_; rintro e w' ⟨rfl, rfl⟩)
  go_ret2
  exact ⟨rfl, rfl⟩

theorem first_no (page level : Int) (w : World) (h : page < 0 ∨ 256 ≤ page ∨ level < 0 ∨ 4 ≤ level) :
    Calls Try.prog 14 #[.int .i64 page, .int .i64 level] w fun e w' => e = .returned (.tuple #[.int .i64 0, .int .i64 2]) ∧ w = w' := by
  have H := Lib.hid h
  clear h
  go_enter Try.func14, Try.ntmps14
  go_wp2_with (go_at_call 40; refine (th_no _ _ _ H.out).mono ?_; rintro e w' ⟨rfl, rfl⟩)
  go_ret2
  exact ⟨rfl, rfl⟩

theorem many_no (level : Int) (w : World) (h : level < 0 ∨ 4 ≤ level) :
    Calls Try.prog 15 #[.int .i64 level] w fun e w' => e = .returned (.tuple #[.int .i64 0, .int .i64 2]) ∧ w = w' := by
  have H := Lib.hid h
  clear h
  go_enter Try.func15, Try.ntmps15
  go_wp2_with (go_at_call 40; refine (th_no _ _ _ (by have := H.out; omega)).mono ?_; rintro e w' ⟨rfl, rfl⟩)
  go_ret2
  exact ⟨rfl, rfl⟩

theorem there_yes (page level : Int) (w : World) (h1 : 0 ≤ page) (h2 : page < 256) (h3 : 0 ≤ level) (h4 : level < 4) :
    Calls Try.prog 16 #[.int .i64 page, .int .i64 level] w fun e w' => e = .returned (.bool true) ∧ w = w' := by
  have h5 : decide (level ≤ 3) = true := by simp; omega
  go_enter Try.func16, Try.ntmps16
  go_wp2
  go_ret
  exact ⟨rfl, rfl⟩
theorem there_no (page level : Int) (w : World) (h : page < 0 ∨ 256 ≤ page ∨ level < 0 ∨ 4 ≤ level) :
    Calls Try.prog 16 #[.int .i64 page, .int .i64 level] w fun e w' => e = .returned (.bool false) ∧ w = w' := by
  have g4 : 4 ≤ level → decide (level ≤ 3) = false := fun h4 => by simp; omega
  rcases parts h with h1 | ⟨h1, h2⟩ | ⟨h1, h2, h3⟩ | ⟨h1, h2, h3, h4⟩
  case inr.inr.inr =>
    have h5 := g4 h4
    clear h g4
    go_enter Try.func16, Try.ntmps16
    go_wp2
    go_ret
    exact ⟨rfl, rfl⟩
  all_goals clear h g4
  all_goals go_enter Try.func16, Try.ntmps16
  all_goals go_wp2
  all_goals go_ret
  all_goals exact ⟨rfl, rfl⟩

theorem power_any (n : Nat) (w : World) (h : n ≤ 4) :
    Calls Try.prog 41 #[.int .i64 n] w fun e w' => e = .returned (.int .i64 ((4 : Int) ^ n)) ∧ w = w' := by
  go_enter Try.func41, Try.ntmps41
  go_wp2
  go_loop [3, 4] (fun p i => ∃ k : Nat, k ≤ n ∧ i = .int .i64 k ∧ p = .int .i64 ((4 : Int) ^ k)) (fun _ i => n - (intOf i).toNat)
  case atStart => exact ⟨0, Nat.zero_le _, rfl, rfl⟩
  case round =>
    obtain ⟨k, hk, rfl, rfl⟩ := hrel
    by_cases hlt : k < n
    · have hp : (0 : Int) ≤ (4 : Int) ^ k ∧ (4 : Int) ^ k ≤ 256 := by
        have : k = 0 ∨ k = 1 ∨ k = 2 ∨ k = 3 := by omega
        rcases this with rfl | rfl | rfl | rfl <;> decide
      go_wp2
      go_round
      case rel => exact ⟨k + 1, by omega, by go_num, by rw [Int.pow_succ]⟩
      case measure => simp [intOf]; omega
    · go_wp2
      go_ret
      have : k = n := by omega
      exact ⟨ret_int (by rw [this]), rfl⟩

theorem pow_of {l : Int} (h3 : 0 ≤ l) (h4 : l < 4) : (4 : Int) ^ (3 - l).toNat = manyV l ∧ (4 : Int) ^ (4 - l).toNat = 4 * manyV l := by
  rcases lvl h3 h4 with rfl | rfl | rfl | rfl <;> exact ⟨rfl, rfl⟩
theorem many_bd {l : Int} (h3 : 0 ≤ l) (h4 : l < 4) : 1 ≤ manyV l ∧ manyV l ≤ 64 := by
  rcases lvl h3 h4 with rfl | rfl | rfl | rfl <;> decide

theorem power_i (n : Int) (w : World) (h : 0 ≤ n) (h4 : n ≤ 4) :
    Calls Try.prog 41 #[.int .i64 n] w fun e w' => e = .returned (.int .i64 ((4 : Int) ^ n.toNat)) ∧ w = w' := by
  obtain ⟨k, rfl⟩ := Int.eq_ofNat_of_zero_le h
  exact power_any k w (by omega)

theorem rmany (level : Int) (w : World) (h3 : 0 ≤ level) (h4 : level < 4) :
    Calls Try.prog 17 #[.int .i64 level] w fun e w' => e = .returned (.int .i64 (manyV level)) ∧ w = w' := by
  go_enter Try.func17, Try.ntmps17
  go_wp2_with (go_at_call 41; refine (power_i _ _ (by omega) (by omega)).mono ?_; rintro e w' ⟨rfl, rfl⟩)
  go_ret
  exact ⟨ret_int (pow_of h3 h4).1, rfl⟩
theorem rslot (page level : Int) (w : World) (h1 : 0 ≤ page) (h2 : page < 256) (h3 : 0 ≤ level) (h4 : level < 4) :
    Calls Try.prog 18 #[.int .i64 page, .int .i64 level] w fun e w' => e = .returned (.int .i64 (slotV page level)) ∧ w = w' := by
  have B := Lib.hid (many_bd h3 h4)
  have P := Lib.hid (pow_of h3 h4)
  go_enter Try.func18, Try.ntmps18
  go_wp2_with (go_at_call 41; refine (power_i _ _ (by omega) (by omega)).mono ?_; rintro e w' ⟨rfl, rfl⟩; rw [P.out.1]; have b1 := B.out.1; have b2 := B.out.2)
  go_ret
  exact ⟨ret_int (Int.tmod_eq_emod_of_nonneg (Int.ediv_nonneg h1 (by omega))), rfl⟩
theorem rfirst (page level : Int) (w : World) (h1 : 0 ≤ page) (h2 : page < 256) (h3 : 0 ≤ level) (h4 : level < 4) :
    Calls Try.prog 19 #[.int .i64 page, .int .i64 level] w fun e w' => e = .returned (.int .i64 (firstV page level)) ∧ w = w' := by
  have B := Lib.hid (many_bd h3 h4)
  have P := Lib.hid (pow_of h3 h4)
  have m1 := Int.emod_nonneg page (show (4 * manyV level) ≠ 0 by have := B.out; omega)
  have m2 : page % (4 * manyV level) ≤ 256 := by have := Int.emod_lt_of_pos page (show 0 < 4 * manyV level by have := B.out; omega); have := B.out; omega
  go_enter Try.func19, Try.ntmps19
  go_wp2_with (go_at_call 41; refine (power_i _ _ (by omega) (by omega)).mono ?_; rintro e w' ⟨rfl, rfl⟩; rw [P.out.2]; have b1 := B.out.1; have b2 := B.out.2)
  go_ret
  exact ⟨rfl, rfl⟩
end Go.Proofs.Ytjohobehhijbcaa
