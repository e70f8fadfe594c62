/- Contract: the chapter's rows ('known') are true, in whatever memory. No condition. -/
import Derived.Test.YtjohobehhijbcaaLev
namespace Go.Proofs.Ytjohobehhijbcaa
open Go.ChangeShapes Go.WideShapes Go.ChangeAt Go.RowKit
set_option linter.unusedSimpArgs false

/-- What 'entry.Of' answers to eight bytes. -/
def ofV (a b c d e f g h : Int) : Value := if okB a b c d e f g h then .tuple #[.agg #[.int .i64 a, .int .i64 (b + 256 * c)], .int .i64 0] else .tuple #[.agg #[.int .i64 0, .int .i64 0], .int .i64 4]

theorem of_any (a b c d e f g h : Int) (w : World) (ha : 0 ≤ a ∧ a < 256) (hb : 0 ≤ b ∧ b < 256) (hc : 0 ≤ c ∧ c < 256) :
    Calls Try.prog 9 #[.agg #[.int .u8 a, .int .u8 b, .int .u8 c, .int .u8 d, .int .u8 e, .int .u8 f, .int .u8 g, .int .u8 h]] w fun e' w' => e' = .returned (ofV a b c d e f g h) ∧ Below w.heap.size w w' := by
  unfold ofV
  cases ho : okB a b c d e f g h
  · exact of_no a b c d e f g h w ha hb hc ho
  · exact of_yes a b c d e f g h w hb hc ho

theorem ofV1 : ofV 2 5 0 0 0 0 0 0 = .tuple #[.agg #[.int .i64 2, .int .i64 5], .int .i64 0] := rfl
theorem ofV2 : ofV 0 5 0 0 0 0 0 0 = .tuple #[.agg #[.int .i64 0, .int .i64 0], .int .i64 4] := rfl
theorem ofV3 : ofV 7 0 0 0 0 0 0 0 = .tuple #[.agg #[.int .i64 0, .int .i64 0], .int .i64 4] := rfl

theorem slot27 (l : Int) (w : World) (h3 : 0 ≤ l) (h4 : l < 4) :
    Calls Try.prog 13 #[.int .i64 27, .int .i64 l] w fun e w' => e = .returned (.tuple #[.int .i64 l, .int .i64 0]) ∧ w = w' := by
  refine (slot_yes 27 l w (by omega) (by omega) h3 h4).mono fun e w' ⟨he, hw⟩ => ⟨?_, hw⟩
  rw [he]
  rcases lvl h3 h4 with rfl | rfl | rfl | rfl <;> rfl
theorem first27 (w : World) :
    Calls Try.prog 14 #[.int .i64 27, .int .i64 1] w fun e w' => e = .returned (.tuple #[.int .i64 0, .int .i64 0]) ∧ w = w' :=
  (first_yes 27 1 w (by omega) (by omega) (by omega) (by omega)).mono fun e w' ⟨he, hw⟩ => ⟨by rw [he]; rfl, hw⟩
theorem many_1 (w : World) :
    Calls Try.prog 15 #[.int .i64 1] w fun e w' => e = .returned (.tuple #[.int .i64 16, .int .i64 0]) ∧ w = w' :=
  (many_yes 1 w (by omega) (by omega)).mono fun e w' ⟨he, hw⟩ => ⟨by rw [he]; rfl, hw⟩
theorem bytes25 (w : World) :
    Calls Try.prog 20 #[.agg #[.int .i64 2, .int .i64 5]] w fun e w' => e = .returned (.tuple #[.agg #[.int .u8 2, .int .u8 5, .int .u8 0, .int .u8 0, .int .u8 0, .int .u8 0, .int .u8 0, .int .u8 0], .int .i64 0]) ∧ Below w.heap.size w w' :=
  (bytes_yes 2 5 w rfl).mono fun e w' ⟨he, hw⟩ => ⟨by rw [he]; rfl, hw⟩
theorem level13 (w : World) :
    Calls Try.prog 25 #[.agg #[.int .i64 1, .int .i64 1], .int .i64 3] w fun e w' => e = .returned (.bool false) ∧ Below w.heap.size w w' :=
  (level_any 1 1 3 w).mono fun e w' ⟨he, hw⟩ => ⟨by rw [he]; rfl, hw⟩
theorem page61 (w : World) :
    Calls Try.prog 27 #[.agg #[.int .i64 6, .int .i64 1], .int .i64 5] w fun e w' => e = .returned (.bool false) ∧ Below w.heap.size w w' :=
  (page_any 6 1 5 w).mono fun e w' ⟨he, hw⟩ => ⟨by rw [he]; rfl, hw⟩
attribute [local go_sem] run_eq8

set_option maxRecDepth 100000 in
set_option maxHeartbeats 1000000 in
theorem known_any (w : World) :
    Calls Try.prog 12 #[] w fun e w' => e = .returned (.bool true) ∧ Below w.heap.size w w' := by
  go_enter Try.func12, Try.ntmps12
  go_wp2_with fail
  refine (bytes25 _).mono ?_
  rintro e w1 ⟨rfl, hb1⟩
  have hz1 := bsize hb1
  simp at hz1
  have r1 : w1.heap[w.heap.size]? = some (.cells #[.int .i64 2, .int .i64 5] 25 (0, 0)) := (hb1.block _ (by simp)).trans (heap_here rfl)
  have b1 : Below w.heap.size w w1 := ((Below.refl _ _).alloc (by simp) _).trans (hb1.mono (by simp))
  clear hb1
  go_wp2_with fail
  refine (of_any _ _ _ _ _ _ _ _ _ (by omega) (by omega) (by omega)).mono ?_
  rintro e w2 ⟨rfl, hb2⟩
  rw [ofV1]
  have hz2 := bsize hb2
  simp at hz2
  have r2 : w2.heap[w.heap.size]? = some (.cells #[.int .i64 2, .int .i64 5] 25 (0, 0)) := (hb2.block _ (by simp; omega)).trans (heap_past (by omega) r1)
  have s2 : w2.heap[w1.heap.size]? = some (.cells #[.int .u8 2, .int .u8 5, .int .u8 0, .int .u8 0, .int .u8 0, .int .u8 0, .int .u8 0, .int .u8 0] 22 (0, 0)) := (hb2.block _ (by simp)).trans (heap_here rfl)
  have b2 : Below w.heap.size w w2 := (b1.alloc (by omega) _).trans (hb2.mono (by simp; omega))
  clear hb2 r1 b1
  go_wp2_with fail
  refine (of_any _ _ _ _ _ _ _ _ _ (by omega) (by omega) (by omega)).mono ?_
  rintro e w3 ⟨rfl, hb3⟩
  rw [ofV2]
  have hz3 := bsize hb3
  simp at hz3
  have r3 : w3.heap[w.heap.size]? = some (.cells #[.int .i64 2, .int .i64 5] 25 (0, 0)) := (hb3.block _ (by simp; omega)).trans (heap_past (by omega) r2)
  have s3 : w3.heap[w1.heap.size]? = some (.cells #[.int .u8 2, .int .u8 5, .int .u8 0, .int .u8 0, .int .u8 0, .int .u8 0, .int .u8 0, .int .u8 0] 22 (0, 0)) := (hb3.block _ (by simp; omega)).trans (heap_past (by omega) s2)
  have q3 : w3.heap[w2.heap.size]? = some (.cells #[.int .i64 2, .int .i64 5] 25 (0, 0)) := (hb3.block _ (by simp)).trans (heap_here rfl)
  have b3 : Below w.heap.size w w3 := (b2.alloc (by omega) _).trans (hb3.mono (by simp; omega))
  clear hb3 r2 s2 b2
  go_wp2_with fail
  refine (of_any _ _ _ _ _ _ _ _ _ (by omega) (by omega) (by omega)).mono ?_
  rintro e w4 ⟨rfl, hb4⟩
  rw [ofV3]
  have hz4 := bsize hb4
  simp at hz4
  have r4 : w4.heap[w.heap.size]? = some (.cells #[.int .i64 2, .int .i64 5] 25 (0, 0)) := (hb4.block _ (by simp; omega)).trans (heap_past (by omega) r3)
  have s4 : w4.heap[w1.heap.size]? = some (.cells #[.int .u8 2, .int .u8 5, .int .u8 0, .int .u8 0, .int .u8 0, .int .u8 0, .int .u8 0, .int .u8 0] 22 (0, 0)) := (hb4.block _ (by simp; omega)).trans (heap_past (by omega) s3)
  have q4 : w4.heap[w2.heap.size]? = some (.cells #[.int .i64 2, .int .i64 5] 25 (0, 0)) := (hb4.block _ (by simp; omega)).trans (heap_past (by omega) q3)
  have b4 : Below w.heap.size w w4 := (b3.alloc (by omega) _).trans (hb4.mono (by simp; omega))
  clear hb4 r3 s3 q3 b3
  have c0 := cell_of_row _ _ 0 _ _ _ r4
  have c1 := cell_of_row _ _ 1 _ _ _ r4
  have d0 := cell_of_row _ _ 0 _ _ _ s4
  have d1 := cell_of_row _ _ 1 _ _ _ s4
  have d2 := cell_of_row _ _ 2 _ _ _ s4
  have d3 := cell_of_row _ _ 3 _ _ _ s4
  have d4 := cell_of_row _ _ 4 _ _ _ s4
  have d5 := cell_of_row _ _ 5 _ _ _ s4
  have d6 := cell_of_row _ _ 6 _ _ _ s4
  have d7 := cell_of_row _ _ 7 _ _ _ s4
  have e0 := cell_of_row _ _ 0 _ _ _ q4
  have e1 := cell_of_row _ _ 1 _ _ _ q4
  simp at c0 c1 d0 d1 d2 d3 d4 d5 d6 d7 e0 e1
  clear r4 s4 q4
  have y0 : w.heap.size < w4.heap.size := by omega
  have y1 : w1.heap.size < w4.heap.size := by omega
  have y2 : w2.heap.size < w4.heap.size := by omega
  go_wp2_with (first | (go_at_call 13; refine (slot27 _ _ (by omega) (by omega)).mono ?_; rintro e w' ⟨rfl, rfl⟩) | (go_at_call 14; refine (first27 _).mono ?_; rintro e w' ⟨rfl, rfl⟩) | (go_at_call 15; refine (many_1 _).mono ?_; rintro e w' ⟨rfl, rfl⟩) | (go_at_call 11; refine (num_any _ _).mono ?_; rintro e w' ⟨rfl, rfl⟩) | (go_at_call 39; refine (is_any _ _ _ _).mono ?_; rintro e w' ⟨rfl, rfl⟩) | (go_at_call 25; refine (level13 _).mono ?_; rintro e w5 ⟨rfl, hb5⟩) | (go_at_call 27; refine (page61 _).mono ?_; rintro e w6 ⟨rfl, hb6⟩))
  go_ret
  have hz5 := bsize hb5
  simp at hz5
  exact ⟨rfl, ((b4.alloc (by omega) _).trans (hb5.mono (by simp; omega))).trans (hb6.mono (by omega))⟩
end Go.Proofs.Ytjohobehhijbcaa
