/- Contracts: the entry that has eight bytes, of the program and of the reference; and the chapter's rows ('known'). Conditions: those that each theorem states. -/
import Derived.Test.YtjohobehhijbcaaEntry
namespace Go.Proofs.Ytjohobehhijbcaa
open Go.ChangeShapes Go.WideShapes Go.ChangeAt Go.RowKit
set_option linter.unusedSimpArgs false

/-- Eight bytes. -/
def Byt (a : Int) : Prop := 0 ≤ a ∧ a < 256

theorem num_any (n : Int) (w : World) :
    Calls Try.prog 11 #[.int .i64 n] w fun e w' => e = .returned (.int .i64 n) ∧ w = w' := by
  go_enter Try.func11, Try.ntmps11
  go_wp2
  go_ret
  exact ⟨rfl, rfl⟩
theorem is_any (n e want : Int) (w : World) :
    Calls Try.prog 39 #[.int .i64 n, .int .i64 e, .int .i64 want] w fun e' w' => e' = .returned (.bool (n == want && e == 0)) ∧ w = w' := by
  go_enter Try.func39, Try.ntmps39
  go_wp2_with (go_at_call 11; refine (num_any _ _).mono ?_; rintro e w' ⟨rfl, rfl⟩)
  all_goals go_ret
  all_goals exact ⟨ret_bool (by simp_all), rfl⟩

theorem info5 : ∃ i, Try.prog.info? 5 = some i := by
  have h : (Try.prog.info? 5).isSome = true := by kernel_rfl
  exact Option.isSome_iff_exists.1 h
theorem cells5 : Try.prog.cellsOf 5 = 1 := by kernel_rfl

/-- '==' on two arrays of eight bytes, as the walk meets it. -/
theorem run_eq8 (w : World) (a b c d e f g h a' b' c' d' e' f' g' h' : Int) :
    (Op.equalIn 10000 22 (.agg #[.int .u8 a, .int .u8 b, .int .u8 c, .int .u8 d, .int .u8 e, .int .u8 f, .int .u8 g, .int .u8 h]) (.agg #[.int .u8 a', .int .u8 b', .int .u8 c', .int .u8 d', .int .u8 e', .int .u8 f', .int .u8 g', .int .u8 h'])).run Try.prog w =
      .ok (decide ([a, b, c, d, e, f, g, h] = [a', b', c', d', e', f', g', h'])) w := by
  obtain ⟨i, hi⟩ := info5
  exact run_equalIn_ints w 9998 Try.underlying22 hi cells5 Try.underlying5 [a, b, c, d, e, f, g, h] [a', b', c', d', e', f', g', h'] rfl rfl
attribute [local go_sem] run_eq8

/-- Are these eight bytes an entry's? -/
def okB (a b c d e f g h : Int) : Bool := mayB a (b + 256 * c) && (d == 0 && e == 0 && f == 0 && g == 0 && h == 0)
theorem okB_iff {a b c d e f g h : Int} : okB a b c d e f g h = true ↔ (0 ≤ a ∧ a ≤ 6 ∧ 0 ≤ b + 256 * c ∧ b + 256 * c < 4096 ∧ (a = 1 ∨ a = 2 ∨ a = 6 ∨ b + 256 * c = 0)) ∧ d = 0 ∧ e = 0 ∧ f = 0 ∧ g = 0 ∧ h = 0 := by
  simp [okB, mayB, and_assoc]

theorem of_yes (a b c d e f g h : Int) (w : World) (hb : 0 ≤ b ∧ b < 256) (hc : 0 ≤ c ∧ c < 256) (ho : okB a b c d e f g h = true) :
    Calls Try.prog 9 #[agg8 a b c d e f g h] w fun e w' => e = .returned (.tuple #[.agg #[.int .i64 a, .int .i64 (b + 256 * c)], .int .i64 0]) ∧ Below w.heap.size w w' := by
  obtain ⟨⟨o1, o2, o3, o4, o5⟩, rfl, rfl, rfl, rfl, rfl⟩ := okB_iff.1 ho
  have hm : Hid (mayB a (b + 256 * c) = true) := mayB_iff.2 ⟨o1, o2, o3, o4, o5⟩
  have h1 := or_i64 b c (by omega) (by omega) (by omega) (by omega)
  obtain ⟨hb1, hb2⟩ := hb
  obtain ⟨hc1, hc2⟩ := hc
  have e1 : b % 256 = b := by omega
  have e2 : (b + 256 * c) / 256 = c := by omega
  clear ho o5
  unfold agg8
  go_enter Try.func9, Try.ntmps9
  go_wp2_with (first | (go_at_call 20; (refine (bytes_yes _ _ _ hm.out).mono ?_; rintro e w' ⟨rfl, hb⟩; unfold agg8; obtain ⟨hq1, hq2⟩ := bcell hb; have hz := bsize hb; simp at hz; have z0 : w.heap.size < w'.heap.size := (by omega); have z1 : w.heap.size + 1 < w'.heap.size := (by omega); have z2 : w.heap.size + 1 + 1 < w'.heap.size := (by omega))))
  refine ret_row_tmp rfl (w.heap.size + 1) 25 _ (0, 0) _ Try.underlying25 rfl ?_ rfl (heap_past (by simp; omega) (heap_setCell_same _ _ _ _ _ _ (heap_setCell_same _ _ _ _ _ _ ((hb.block _ (by simp)).trans (heap_past (by simp) (heap_here (by simp))))))) rfl ?_
  · kernel_rfl
  · exact ⟨rfl, (((((((Below.refl _ _).alloc (by simp) _).alloc (by simp) _).alloc (by simp <;> omega) _).trans (hb.mono (by simp <;> omega))).setCell (by simp) _).setCell (by simp) _).alloc (by simp; omega) _⟩

theorem of_no (a b c d e f g h : Int) (w : World) (ha : 0 ≤ a ∧ a < 256) (hb : 0 ≤ b ∧ b < 256) (hc : 0 ≤ c ∧ c < 256) (ho : okB a b c d e f g h = false) :
    Calls Try.prog 9 #[agg8 a b c d e f g h] w fun e w' => e = .returned (.tuple #[.agg #[.int .i64 0, .int .i64 0], .int .i64 4]) ∧ Below w.heap.size w w' := by
  have h1 := or_i64 b c (by omega) (by omega) (by omega) (by omega)
  obtain ⟨ha1, ha2⟩ := ha
  obtain ⟨hb1, hb2⟩ := hb
  obtain ⟨hc1, hc2⟩ := hc
  cases hm0 : mayB a (b + 256 * c)
  · have hm := Lib.hid hm0
    clear ho hm0
    unfold agg8
    go_enter Try.func9, Try.ntmps9
    go_wp2_with (first | (go_at_call 20; (refine (bytes_no _ _ _ hm.out).mono ?_; rintro e w' ⟨rfl, hb⟩; unfold agg8; obtain ⟨hq1, hq2⟩ := bcell hb; have hz := bsize hb; simp at hz; have z0 : w.heap.size < w'.heap.size := (by omega); have z1 : w.heap.size + 1 < w'.heap.size := (by omega); have z2 : w.heap.size + 1 + 1 < w'.heap.size := (by omega))))
    refine ret_row_tmp rfl (w.heap.size + 1) 25 _ (0, 0) _ Try.underlying25 rfl ?_ rfl (heap_past (by simp; omega) (heap_setCell_same _ _ _ _ _ _ (heap_setCell_same _ _ _ _ _ _ ((hb.block _ (by simp)).trans (heap_past (by simp) (heap_here (by simp))))))) rfl ?_
    · kernel_rfl
    · exact ⟨rfl, (((((((Below.refl _ _).alloc (by simp) _).alloc (by simp) _).alloc (by simp <;> omega) _).trans (hb.mono (by simp <;> omega))).setCell (by simp) _).setCell (by simp) _).alloc (by simp; omega) _⟩
  · have hm := Lib.hid hm0
    obtain ⟨o1, o2, o3, o4, _⟩ := mayB_iff.1 hm0
    have e1 : b % 256 = b := by omega
    have e2 : (b + 256 * c) / 256 = c := by omega
    have e3 : Hid (¬ (d = 0 ∧ e = 0 ∧ f = 0 ∧ g = 0 ∧ h = 0)) := by
      intro hq
      rw [okB, hm0] at ho
      simp at ho
      exact ho hq.1 hq.2.1 hq.2.2.1 hq.2.2.2.1 hq.2.2.2.2
    clear ho hm0
    unfold agg8
    go_enter Try.func9, Try.ntmps9
    go_wp2_with (first | (go_at_call 20; (refine (bytes_yes _ _ _ hm.out).mono ?_; rintro e w' ⟨rfl, hb⟩; unfold agg8; obtain ⟨hq1, hq2⟩ := bcell hb; have hz := bsize hb; simp at hz; have z0 : w.heap.size < w'.heap.size := (by omega); have z1 : w.heap.size + 1 < w'.heap.size := (by omega); have z2 : w.heap.size + 1 + 1 < w'.heap.size := (by omega))))
    all_goals first | (exfalso; rename_i hx; simp at hx; exact e3.out (by omega)) | skip
    refine ret_row_tmp rfl (w.heap.size + 1) 25 _ (0, 0) _ Try.underlying25 rfl ?_ rfl (heap_past (by simp; omega) (heap_setCell_same _ _ _ _ _ _ (heap_setCell_same _ _ _ _ _ _ ((hb.block _ (by simp)).trans (heap_past (by simp) (heap_here (by simp))))))) rfl ?_
    · kernel_rfl
    · exact ⟨rfl, (((((((Below.refl _ _).alloc (by simp) _).alloc (by simp) _).alloc (by simp <;> omega) _).trans (hb.mono (by simp <;> omega))).setCell (by simp) _).setCell (by simp) _).alloc (by simp; omega) _⟩

/-- Eight bytes' number, the lowest first. -/
def num8 (a b c d e f g h : Int) : Int := a + 256 * (b + 256 * (c + 256 * (d + 256 * (e + 256 * (f + 256 * (g + 256 * h))))))

theorem get8 (B : Nat) (a b c d e f g h : Int) (w : World) (ha : 0 ≤ a ∧ a < 256) (hb : 0 ≤ b ∧ b < 256) (hc : 0 ≤ c ∧ c < 256) (hd : 0 ≤ d ∧ d < 256) (he : 0 ≤ e ∧ e < 256) (hf : 0 ≤ f ∧ f < 256) (hg : 0 ≤ g ∧ g < 256) (hh : 0 ≤ h ∧ h < 256)
    (c0 : w.cell? ⟨B, 0, none⟩ = some (.int .u8 a)) (c1 : w.cell? ⟨B, 1, none⟩ = some (.int .u8 b)) (c2 : w.cell? ⟨B, 2, none⟩ = some (.int .u8 c)) (c3 : w.cell? ⟨B, 3, none⟩ = some (.int .u8 d))
    (c4 : w.cell? ⟨B, 4, none⟩ = some (.int .u8 e)) (c5 : w.cell? ⟨B, 5, none⟩ = some (.int .u8 f)) (c6 : w.cell? ⟨B, 6, none⟩ = some (.int .u8 g)) (c7 : w.cell? ⟨B, 7, none⟩ = some (.int .u8 h)) :
    Calls Try.prog 38 #[.slice (some ⟨B, 0, none⟩) 8 8] w fun e' w' => e' = .returned (.int .u64 (num8 a b c d e f g h)) ∧ w = w' := by
  obtain ⟨ha1, ha2⟩ := ha
  obtain ⟨hb1, hb2⟩ := hb
  obtain ⟨hc1, hc2⟩ := hc
  obtain ⟨hd1, hd2⟩ := hd
  obtain ⟨he1, he2⟩ := he
  obtain ⟨hf1, hf2⟩ := hf
  obtain ⟨hg1, hg2⟩ := hg
  obtain ⟨hh1, hh2⟩ := hh
  go_enter Try.func38, Try.ntmps38
  go_wp2
  refine wp_loop_rounds 9 ?_
  iterate 9 (rw [rounds_succ]; go_wp2)
  go_ret
  refine ⟨ret_int ?_, rfl⟩
  unfold num8
  omega

theorem rof_any (a b c d e f g h : Int) (w : World) (ha : 0 ≤ a ∧ a < 256) (hb : 0 ≤ b ∧ b < 256) (hc : 0 ≤ c ∧ c < 256) (hd : 0 ≤ d ∧ d < 256) (he : 0 ≤ e ∧ e < 256) (hf : 0 ≤ f ∧ f < 256) (hg : 0 ≤ g ∧ g < 256) (hh : 0 ≤ h ∧ h < 256) (M : Int)
    (hM0 : 0 ≤ M) (hM1 : M < 72057594037927936) (hN : num8 a b c d e f g h = a + 256 * M) :
    Calls Try.prog 10 #[agg8 a b c d e f g h] w fun e' w' => e' = .returned (.tuple #[if mayB a M then .agg #[.int .i64 a, .int .i64 M] else .agg #[.int .i64 0, .int .i64 0], .bool (mayB a M)]) ∧ Below w.heap.size w w' := by
  have G := fun W (hr : W.heap[w.heap.size]? = some (.cells #[.int .u8 a, .int .u8 b, .int .u8 c, .int .u8 d, .int .u8 e, .int .u8 f, .int .u8 g, .int .u8 h] 22 (0, 0))) => get8 w.heap.size a b c d e f g h W ha hb hc hd he hf hg hh (cell_of_row W _ 0 _ _ _ hr) (cell_of_row W _ 1 _ _ _ hr) (cell_of_row W _ 2 _ _ _ hr) (cell_of_row W _ 3 _ _ _ hr) (cell_of_row W _ 4 _ _ _ hr) (cell_of_row W _ 5 _ _ _ hr) (cell_of_row W _ 6 _ _ _ hr) (cell_of_row W _ 7 _ _ _ hr)
  rw [hN] at G
  have G' := Lib.hid G
  obtain ⟨ha1, ha2⟩ := ha
  clear hN hb hc hd he hf hg hh G
  unfold agg8
  have e1 : (a + 256 * M) / 256 = M := by omega
  have e2 : a % 256 = a := by omega
  cases hm : mayB a M
  · have H := Lib.hid hm
    clear hm
    by_cases q1 : 4096 ≤ M
    · go_enter Try.func10, Try.ntmps10
      go_wp2_with (first | (go_at_call 38; refine (G'.out _ (heap_past (by simp) (heap_here (by simp)))).mono ?_; rintro e' w' ⟨rfl, rfl⟩) | (go_at_call 22; refine (rmay_any _ _ _).mono ?_; rintro e' w' ⟨rfl, rfl⟩; rw [H.out]))
      refine ret_row_tmp rfl (w.heap.size + 1) 25 _ (0, 0) _ Try.underlying25 rfl ?_ rfl (heap_here (by simp)) rfl ?_
      · kernel_rfl
      · exact ⟨rfl, ((Below.refl _ _).alloc (by simp) _).alloc (by simp) _⟩
    · by_cases q2 : 6 < a
      · go_enter Try.func10, Try.ntmps10
        go_wp2_with (first | (go_at_call 38; refine (G'.out _ (heap_past (by simp) (heap_here (by simp)))).mono ?_; rintro e' w' ⟨rfl, rfl⟩) | (go_at_call 22; refine (rmay_any _ _ _).mono ?_; rintro e' w' ⟨rfl, rfl⟩; rw [H.out]))
        refine ret_row_tmp rfl (w.heap.size + 1) 25 _ (0, 0) _ Try.underlying25 rfl ?_ rfl (heap_here (by simp)) rfl ?_
        · kernel_rfl
        · exact ⟨rfl, ((Below.refl _ _).alloc (by simp) _).alloc (by simp) _⟩
      · have q3 : M < 4096 := by omega
        have q4 : a ≤ 6 := by omega
        clear q1 q2
        go_enter Try.func10, Try.ntmps10
        go_wp2_with (first | (go_at_call 38; refine (G'.out _ (heap_past (by simp) (heap_here (by simp)))).mono ?_; rintro e' w' ⟨rfl, rfl⟩) | (go_at_call 22; refine (rmay_any _ _ _).mono ?_; rintro e' w' ⟨rfl, rfl⟩; rw [H.out]))
        refine ret_row_tmp rfl (w.heap.size + 1) 25 _ (0, 0) _ Try.underlying25 rfl ?_ rfl (heap_past (by simp) (heap_past (by simp) (heap_here (by simp)))) rfl ?_
        · kernel_rfl
        · exact ⟨rfl, ((((Below.refl _ _).alloc (by simp) _).alloc (by simp) _).alloc (by simp <;> omega) _).alloc (by simp <;> omega) _⟩
  · have H := Lib.hid hm
    obtain ⟨o1, o2, o3, o4, _⟩ := mayB_iff.1 hm
    clear hm
    go_enter Try.func10, Try.ntmps10
    go_wp2_with (first | (go_at_call 38; refine (G'.out _ (heap_past (by simp) (heap_here (by simp)))).mono ?_; rintro e' w' ⟨rfl, rfl⟩) | (go_at_call 22; refine (rmay_any _ _ _).mono ?_; rintro e' w' ⟨rfl, rfl⟩; rw [H.out]))
    refine ret_row_tmp rfl (w.heap.size + 1) 25 _ (0, 0) _ Try.underlying25 rfl ?_ rfl (heap_past (by simp) (heap_past (by simp) (heap_here (by simp)))) rfl ?_
    · kernel_rfl
    · exact ⟨rfl, ((((Below.refl _ _).alloc (by simp) _).alloc (by simp) _).alloc (by simp <;> omega) _).alloc (by simp <;> omega) _⟩
end Go.Proofs.Ytjohobehhijbcaa
