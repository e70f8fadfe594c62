/- Contract: layer 6's known rows. No condition. -/
import Derived.Test.YtkpcomldjnahhaaRea
import Derived.Laws.BytesArg
namespace Go.Proofs.Ytkpcomldjnahhaa
open Go.ChangeShapes Go.WideShapes Go.ChangeAt Go.RowKit
set_option linter.unusedSimpArgs false

theorem owns_below {w w' : World} {base n : Nat} {v : Value} {L : List Value} (h : w.ownsRow base 5 1 v n L) (hb : Below w.heap.size w w') : w'.ownsRow base 5 1 v n L := by
  obtain ⟨hl, hn | ⟨b, cap, cur, hv, hge, hrow, hr⟩⟩ := h
  · exact ⟨hl, .inl hn⟩
  · exact ⟨hl, .inr ⟨b, cap, cur, hv, hge, (hb.block _ (Array.getElem?_eq_some_iff.1 hrow).1).trans hrow, hr⟩⟩

/-- 'string(v)' of bytes in a row of one's own. -/
theorem run_str {w : World} {base n : Nat} {v : Value} {L : List Int} (h : w.ownsRow base 5 1 v n (bytesV L)) : (convert 31 9 v).run Try.prog w = .ok (.string (strOfNums L)) w := by
  by_cases h0 : 0 < n
  · obtain ⟨b, cap, rfl, _, _, _, hl, hc⟩ := owns_cells h h0
    refine run_convert_bytes_arg (P := Try.prog) w 31 5 Try.underlying31 Try.underlying5 b 0 n cap L hl (fun i hi => ?_) 9 Try.underlying9
    rw [Nat.zero_add, hc i (L.getD i 0) (by rw [List.getD_eq_getElem?_getD, List.getElem?_eq_getElem (by omega)]; rfl)]
  · obtain ⟨hl, ⟨rfl, hz⟩ | ⟨b, cap, cur, rfl, hge, hrow, hle, _, hsz, htake⟩⟩ := h
    · have : L = [] := List.eq_nil_of_length_eq_zero (by simpa [bytesV, hz] using hl)
      subst this
      exact run_convert_bytes_nil (P := Try.prog) w 31 5 Try.underlying31 Try.underlying5 0 0 9 Try.underlying9
    · have hz : n = 0 := by omega
      subst hz
      have : L = [] := List.eq_nil_of_length_eq_zero (by simpa [bytesV] using hl)
      subst this
      exact run_convert_bytes_arg (P := Try.prog) w 31 5 Try.underlying31 Try.underlying5 b 0 0 cap [] rfl (fun i hi => by omega) 9 Try.underlying9

theorem below_grown {B : Nat} {a w w' : World} {r : Nat} (hb : Below B a w) (hB : B ≤ w.heap.size) (h : w.grownBy w' (some r)) (hr : B ≤ r) : Below B a w' :=
  hb.trans ⟨h.os, h.tape, h.output, h.size, fun k hk => h.block k (by omega) (by simp; omega)⟩

theorem kn_list : ((splice (zeroB 2) 8 (lowB 258 8)).drop 8).take 3 = [2, 1, 0] := by decide +kernel
theorem kn_str : (strOfNums [2, 1, 0]).toList = [2, 1, 0] := by decide +kernel

set_option maxHeartbeats 2000000 in
theorem known (w : World) : Calls Try.prog 9 #[] w fun e w' => e = .returned (.bool true) ∧ Below w.heap.size w w' := by
  go_enter Try.func9, Try.ntmps9
  go_wp2_with fail
  refine (new_no 0 _ (by omega)).mono ?_
  rintro e w1 ⟨rfl, rfl⟩
  go_wp2_with fail
  refine (new_no 4097 _ (by omega)).mono ?_
  rintro e w1 ⟨rfl, rfl⟩
  go_wp2_with fail
  refine (new_yes 2 _ (by omega) (by omega)).mono ?_
  rintro e w1 ⟨rfl, m1, b1⟩
  go_wp2_with fail
  refine (set_in _ _ 2 _ 8 258 _ m1 (by omega) (by omega) (by omega)).mono ?_
  rintro e w2 ⟨rfl, m2, g2⟩
  have b2 := below_grown b1 b1.size g2 (Nat.le_refl _)
  clear m1 b1 g2
  go_wp2_with fail
  refine (read_in _ _ 2 _ 8 3 _ m2 (by omega) (by omega)).mono ?_
  rintro e w3 ⟨v, rfl, o3, b3⟩
  rw [kn_list] at o3
  have hs := run_str o3
  have m3 := m2.below b3
  have B3 := Lib.hid (b2.trans (b3.mono b2.size))
  have M3 := Lib.hid m3
  clear m2 b3 o3 b2 m3
  go_wp2_with fail
  refine (get_al _ _ 2 _ 4 _ M3.out (by omega) (by omega) (by omega)).mono ?_
  rintro e w4 ⟨rfl, rfl⟩
  go_wp2_with fail
  refine (get_out _ _ 2 _ 256 _ M3.out (by omega) (by omega) (by omega) (by omega)).mono ?_
  rintro e w4 ⟨rfl, rfl⟩
  go_wp2_with fail
  refine (read_out _ _ 2 _ 250 7 _ M3.out (by omega) (by omega) (by omega) (by omega) (by omega)).mono ?_
  rintro e w4 ⟨rfl, rfl⟩
  have hq := kn_str
  go_wp2_with (go_at_call 15; refine (gran _ _ _ _ _ M3.out).mono ?_; rintro e w4 ⟨rfl, rfl⟩)
  go_ret
  exact ⟨rfl, B3.out⟩

set_option maxHeartbeats 1000000 in
/-- MachinePlaces, walked. -/
theorem places_walk (a : Int) (w : World) (h0 : 0 ≤ a) (h1 : a < 18446744073709551616) : Calls Try.prog 3 #[.int .u64 a] w fun e w' => e = .returned (.bool true) ∧ Below w.heap.size w w' := by
  have q1 : 0 ≤ a / 128 := by omega
  have q2 : a / 128 < 144115188075855872 := by omega
  have q3 : 0 ≤ a % 128 := by omega
  have q4 : a % 128 < 128 := by omega
  have q5 : a / 128 * 128 + a % 128 = a := by omega
  go_enter Try.func3, Try.ntmps3
  go_wp2_with (first | (go_at_call 8; refine (of_any _ _ h0 h1).mono ?_; rintro e w1 ⟨rfl, rfl⟩) | (go_at_call 9; refine (known _).mono ?_; rintro e w2 ⟨rfl, hb⟩))
  all_goals go_ret
  all_goals exact ⟨rfl, hb⟩
end Go.Proofs.Ytkpcomldjnahhaa
