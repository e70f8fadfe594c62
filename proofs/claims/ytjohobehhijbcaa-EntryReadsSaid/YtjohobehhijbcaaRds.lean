/- The statement EntryReads: whatever eight bytes, entry.Of and the reference answer alike. -/
import Derived.Test.YtjohobehhijbcaaKno
namespace Go.Proofs.Ytjohobehhijbcaa
open Go.ChangeShapes Go.WideShapes Go.ChangeAt Go.RowKit
set_option linter.unusedSimpArgs false
namespace EntryReads

def arr8 (a b c d e f g h : Int) : Value := .agg #[.int .u8 a, .int .u8 b, .int .u8 c, .int .u8 d, .int .u8 e, .int .u8 f, .int .u8 g, .int .u8 h]

set_option maxHeartbeats 1000000 in
/-- Both answer the same entry, and the error tells what the flag tells: then the law is true. -/
theorem core (a b c d e f g h p q n : Int) (ok : Bool) (hn : (n = 0 ∧ ok = true) ∨ (n = 4 ∧ ok = false)) (w : World)
    (O : Hid (∀ W, Calls Try.prog 9 #[.agg #[.int .u8 a, .int .u8 b, .int .u8 c, .int .u8 d, .int .u8 e, .int .u8 f, .int .u8 g, .int .u8 h]] W fun e' w' => e' = .returned (.tuple #[.agg #[.int .i64 p, .int .i64 q], .int .i64 n]) ∧ Below W.heap.size W w'))
    (R : Hid (∀ W, Calls Try.prog 10 #[.agg #[.int .u8 a, .int .u8 b, .int .u8 c, .int .u8 d, .int .u8 e, .int .u8 f, .int .u8 g, .int .u8 h]] W fun e' w' => e' = .returned (.tuple #[.agg #[.int .i64 p, .int .i64 q], .bool ok]) ∧ Below W.heap.size W w')) :
    Calls Try.prog 3 #[.agg #[.int .u8 a, .int .u8 b, .int .u8 c, .int .u8 d, .int .u8 e, .int .u8 f, .int .u8 g, .int .u8 h]] w fun e' w' => e' = .returned (.bool true) ∧ Below w.heap.size w w' := by
  rcases hn with ⟨rfl, rfl⟩ | ⟨rfl, rfl⟩
  all_goals
    go_enter Try.func3, Try.ntmps3
    go_wp2_with fail
    refine (O.out _).mono ?_
    rintro e' w1 ⟨rfl, hb1⟩
    have hz1 := bsize hb1
    simp at hz1
    have b1 : Below w.heap.size w w1 := ((Below.refl _ _).alloc (by simp) _).trans (hb1.mono (by simp))
    have y1 : w.heap.size < w1.heap.size := by omega
    obtain ⟨f1, f2⟩ := bcell hb1
    clear hb1
    go_wp2_with fail
    refine (R.out _).mono ?_
    rintro e' w2 ⟨rfl, hb2⟩
    have hz2 := bsize hb2
    simp at hz2
    have b2 : Below w.heap.size w w2 := (b1.alloc (by omega) _).trans (hb2.mono (by simp; omega))
    have c1 : w2.cell? ⟨w1.heap.size, 0, none⟩ = some (.int .i64 p) := cell_of_row _ _ 0 _ _ (0, 0) ((hb2.block _ (by simp)).trans (heap_here rfl))
    have c2 : w2.cell? ⟨w1.heap.size, 1, none⟩ = some (.int .i64 q) := cell_of_row _ _ 1 _ _ (0, 0) ((hb2.block _ (by simp)).trans (heap_here rfl))
    have y2 : w1.heap.size < w2.heap.size := by omega
    clear hb2 f1 f2 O R
    go_wp2_with (first | (go_at_call 11; refine (num_any _ _).mono ?_; rintro e w' ⟨rfl, rfl⟩) | (go_at_call 12; refine (known_any _).mono ?_; rintro e w3 ⟨rfl, hb3⟩))
    go_ret
    exact ⟨rfl, (b2.alloc (by omega) _).trans (hb3.mono (by simp; omega))⟩

theorem walk (a b c d e f g h : Int) (w : World) (ha : 0 ≤ a ∧ a < 256) (hb : 0 ≤ b ∧ b < 256) (hc : 0 ≤ c ∧ c < 256) (hd : 0 ≤ d ∧ d < 256) (he : 0 ≤ e ∧ e < 256) (hf : 0 ≤ f ∧ f < 256) (hg : 0 ≤ g ∧ g < 256) (hh : 0 ≤ h ∧ h < 256) :
    Calls Try.prog 3 #[.agg #[.int .u8 a, .int .u8 b, .int .u8 c, .int .u8 d, .int .u8 e, .int .u8 f, .int .u8 g, .int .u8 h]] w fun e' w' => e' = .returned (.bool true) ∧ Below w.heap.size w w' := by
  have O := fun W => of_any a b c d e f g h W ha hb hc
  have R := fun W => rof_any a b c d e f g h W ha hb hc hd he hf hg hh _ (by omega) (by omega) (show num8 a b c d e f g h = a + 256 * (b + 256 * (c + 256 * (d + 256 * (e + 256 * (f + 256 * (g + 256 * h)))))) from rfl)
  have key : (okB a b c d e f g h = true ∧ mayB a (b + 256 * (c + 256 * (d + 256 * (e + 256 * (f + 256 * (g + 256 * h)))))) = true ∧ (b + 256 * (c + 256 * (d + 256 * (e + 256 * (f + 256 * (g + 256 * h)))))) = b + 256 * c) ∨
      (okB a b c d e f g h = false ∧ mayB a (b + 256 * (c + 256 * (d + 256 * (e + 256 * (f + 256 * (g + 256 * h)))))) = false) := by
    cases ho : okB a b c d e f g h
    · refine .inr ⟨rfl, ?_⟩
      rw [Bool.eq_false_iff] at ho ⊢
      intro hm
      apply ho
      rw [okB_iff]
      have := mayB_iff.1 hm
      omega
    · refine .inl ⟨rfl, ?_⟩
      have := okB_iff.1 ho
      rw [mayB_iff]
      omega
  rcases key with ⟨k1, k2, k3⟩ | ⟨k1, k2⟩
  · unfold ofV at O
    rw [k1] at O
    rw [k2, k3] at R
    exact core a b c d e f g h a (b + 256 * c) 0 true (.inl ⟨rfl, rfl⟩) w O R
  · unfold ofV at O
    rw [k1] at O
    rw [k2] at R
    exact core a b c d e f g h 0 0 4 false (.inr ⟨rfl, rfl⟩) w O R

theorem own : ownKnob Try.prog.godebug = none := by kernel_rfl
theorem list8 {zs : List Int} (h : zs.length = 8) : ∃ a b c d e f g h, zs = [a, b, c, d, e, f, g, h] := by
  match zs, h with
  | [a, b, c, d, e, f, g, h], _ => exact ⟨a, b, c, d, e, f, g, h, rfl⟩
theorem hread : ∀ t ∈ Try.f3.params.toList, Try.prog.readableRec t = true ∧ t < Try.prog.types.size := by
  rw [Try.params3]
  intro t ht
  simp at ht
  subst ht
  exact ⟨by kernel_rfl, of_decide_eq_true (by kernel_rfl)⟩
theorem laidOut : laidOutB Try.prog = true := by kernel_rfl

set_option maxRecDepth 100000 in
theorem lifted (os : Os) (started : os.Started) (H : Type) (enc : TypeId × Value → H) :
    ReturnsInHanded {} Try.checked os 3 .any (Rows.entryReadsSpec.pre6 enc Try.prog Try.f3 Rows.entryReadsRow.domain false) (Rows.entryReadsSpec.post enc Try.prog Try.f3 false true false false) := by
  refine returnsInHanded_of_change (C := Try.checked) own started (by kernel_rfl) Try.func3
    (ChangeSpec.witness6 (enc := enc) (C := Try.checked) false ⟨#[], #[.agg #[.int .u8 0, .int .u8 0, .int .u8 0, .int .u8 0, .int .u8 0, .int .u8 0, .int .u8 0, .int .u8 0]], []⟩ 8 (by kernel_rfl) (by kernel_rfl) (by kernel_rfl) (by kernel_rfl)) ?_
  intro W base args ds gs before hval0 hW hcnd _
  have hval : ∀ (j : Nat) t v, Try.f3.params[j]? = some t → args[j]? = some v → Value.okWide Try.prog W .any base t v := hval0
  have hW' := hW
  obtain ⟨p, q, hA0, hV, rfl, hfz, hnd⟩ := hW
  have hA : DataW.TrodAll enc Try.prog W 0 (fun _ => true) true Try.f3.params.toList args.toList ds p := hA0
  have hA1 := hA
  rw [Try.params3] at hA hval
  obtain ⟨v0, vs0, d0, ds0, p0, q0, hargs, rfl, rfl, h0, r0⟩ := trodAll_cons hA
  obtain ⟨rfl, rfl, rfl⟩ := trodAll_nil r0
  obtain rfl : args = #[v0] := by cases args; simp_all
  obtain ⟨rfl, rfl⟩ := trodVars_none hV
  obtain ⟨zs, rfl, hl, hw⟩ := open_int_array Try.underlying22 Try.underlying5 cells5 (by kernel_rfl) (hval 0 22 v0 rfl rfl) h0
  obtain ⟨a, b, c, d, e, f, g, h, rfl⟩ := list8 hl
  have bd : ∀ z ∈ [a, b, c, d, e, f, g, h], 0 ≤ z ∧ z < 256 := fun z hz => by have := bounds_u8 (hw z hz); omega
  clear hA0 hval0
  simp only [List.append_nil] at hW' hA1
  refine (walk a b c d e f g h W (bd a (by simp)) (bd b (by simp)) (bd c (by simp)) (bd d (by simp)) (bd e (by simp)) (bd f (by simp)) (bd g (by simp)) (bd h (by simp))).mono fun e W' ⟨he, hg⟩ => ?_
  subst he
  exact ⟨_, rfl, post_true hW' hA1 rfl rfl (fun _ => rfl) rfl Try.underlying4 laidOut hread hg⟩

theorem over : Rows.entryReadsRow.holds Try.pinned (OpenSpec.ofChange Rows.entryReadsSpec) :=
  OpenClaim.holds_of_wide 3 Try.f3 rfl rfl rfl rfl rfl rfl rfl ⟨rfl, rfl, rfl, rfl, rfl⟩ rfl rfl rfl rfl rfl (by kernel_rfl) Try.func3 (by kernel_rfl)
    (of_decide_eq_true (by kernel_rfl)) (by unfold Func.isWrapper; first | (rw [if_pos (by decide +kernel)]; kernel_rfl) | (rw [if_neg (by decide +kernel)]; exact ⟨rfl, rfl⟩))
    (fun os started H enc _ => lifted os started H enc)

/-- The statement. -/
theorem proved : Rows.EntryReadsSaid :=
  over
end EntryReads
end Go.Proofs.Ytjohobehhijbcaa
