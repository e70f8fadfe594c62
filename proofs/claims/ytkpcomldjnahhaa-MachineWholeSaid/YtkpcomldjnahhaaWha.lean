/- The statement MachineWhole: all granules that are not noughts are gone over, rising; a copy goes on apart; which are the same. For every input. -/
import Derived.Test.YtkpcomldjnahhaaWhl
namespace Go.Proofs.Ytkpcomldjnahhaa
open Go.ChangeShapes Go.WideShapes Go.ChangeAt Go.RowKit Go.Shelf
set_option linter.unusedSimpArgs false
attribute [local go_sem] Oper.semAt_some
namespace MachineWhole
set_option maxRecDepth 100000 in
set_option maxHeartbeats 4000000 in
theorem walk_out (n : Int) (x : Option Addr) (len cap : Nat) (x2 : Option Addr) (len2 cap2 : Nat) (w : World) (hl : len ≤ maxLen) (hl2 : len2 ≤ maxLen) (h : ¬ (1 ≤ n ∧ n ≤ 64 ∧ len ≤ 40 ∧ len2 ≤ 40)) :
    Calls Try.prog 6 #[.int .i64 n, .slice x len cap, .slice x2 len2 cap2] w fun e w' => e = .returned (.bool true) ∧ Below w.heap.size w w' := by
  unfold maxLen at hl hl2
  rcases (show n < 1 ∨ (1 ≤ n ∧ 64 < n) ∨ (1 ≤ n ∧ n ≤ 64 ∧ 40 < len) ∨ (1 ≤ n ∧ n ≤ 64 ∧ len ≤ 40 ∧ 40 < len2) by omega) with q | ⟨q1, q2⟩ | ⟨q1, q2, q3⟩ | ⟨q1, q2, q3, q4⟩
  all_goals clear h hl hl2
  all_goals refine (callsIn_wide (n := 9)).1 ?_
  all_goals refine callsIn_of_wp_marks Try.func6 rfl trivial ?_ rfl
  all_goals simp only [Try.ntmps6, List.size_toArray, List.length_cons, List.length_nil, Nat.reduceAdd, Nat.reduceSub, Array.replicate_succ, Array.replicate_zero, List.push_toArray, List.append_toArray, List.nil_append, List.cons_append]
  all_goals
    obtain ⟨W0, hW0⟩ : ∃ W0, W0 = (w.alloc (.cells #[.int .i64 n] 3)).alloc (.cells #[.bool false] 4) := ⟨_, rfl⟩
    have hR0 : Hid (W0.heap[w.heap.size + 1]? = some (.cells #[.bool false] 4 (0, 0)) ∧ Below w.heap.size w W0) := by
      rw [hW0]
      exact ⟨heap_here (by simp), ((Below.refl _ _).alloc (by simp) _).alloc (by simp) _⟩
    have HW0 := Lib.hid hW0
    clear hW0
    gi_wp2_with (refine ⟨trivial, ?_⟩; gi_at_call 9; refine (callsIn_wide.2 (known _)).mono ?_; rintro e w6 ⟨rfl, b6⟩; rw [← HW0.out] at b6; have R6 : Hid (w6.heap[w.heap.size + 1]? = some (.cells #[.bool false] 4 (0, 0)) ∧ Below w.heap.size w w6) := ⟨(b6.block _ (Array.getElem?_eq_some_iff.1 hR0.out.1).1).trans hR0.out.1, hR0.out.2.trans (b6.mono hR0.out.2.size)⟩; have cr6 := cell_of_row _ _ 0 _ _ _ R6.out.1; have fr6 := frozen_of_row _ _ 0 _ _ R6.out.1; clear b6)
  all_goals first | (exfalso; omega) | skip
  all_goals
    refine ⟨_, results_bool rfl _ _ (w.heap.size + 1) (.bool true) rfl ?_, rfl, R6.out.2.setCell (p := ⟨w.heap.size + 1, 0, none⟩) (Nat.le_succ _) _⟩
    exact cell_of_row _ _ 0 _ _ _ (heap_setCell_same w6 (w.heap.size + 1) 0 _ _ (.bool true) R6.out.1)
theorem walk (n : Int) (x : Option Addr) (len cap b off : Nat) (x2 : Option Addr) (len2 cap2 b2 off2 : Nat) (w : World) (hl : len ≤ maxLen) (hl2 : len2 ≤ maxLen) (hA : La w x len b off) (hA2 : La w x2 len2 b2 off2) :
    Calls Try.prog 6 #[.int .i64 n, .slice x len cap, .slice x2 len2 cap2] w fun e w' => e = .returned (.bool true) ∧ Below w.heap.size w w' := by
  by_cases h : 1 ≤ n ∧ n ≤ 64 ∧ len ≤ 40 ∧ len2 ≤ 40
  · obtain ⟨n', rfl⟩ := Int.eq_ofNat_of_zero_le (show 0 ≤ n by omega)
    exact walkin n' x len cap b off x2 len2 cap2 b2 off2 w (by omega) (by omega) h.2.2.1 h.2.2.2 hA hA2
  · exact walk_out n x len cap x2 len2 cap2 w hl hl2 h
theorem read38 : Try.prog.readableRec 38 = true ∧ 38 < Try.prog.types.size := ⟨by kernel_rfl, of_decide_eq_true (by kernel_rfl)⟩
theorem hread : ∀ t ∈ Try.f6.params.toList, Try.prog.readableRec t = true ∧ t < Try.prog.types.size := by
  rw [Try.params6]
  intro t ht
  simp at ht
  rcases ht with rfl | rfl | rfl
  all_goals first | exact read3 | exact read38

set_option maxRecDepth 100000 in
theorem lifted (os : Os) (started : os.Started) (H : Type) (enc : TypeId × Value → H) :
    ReturnsInHanded {} Try.checked os 6 .any (Rows.machineWholeSpec.pre6 enc Try.prog Try.f6 Rows.machineWholeRow.domain false) (Rows.machineWholeSpec.post enc Try.prog Try.f6 false true false false) := by
  refine returnsInHanded_of_change (C := Try.checked) own started (by kernel_rfl) Try.func6
    (ChangeSpec.witness6 (enc := enc) (C := Try.checked) false ⟨#[], #[.int .i64 0, .slice none 0 0, .slice none 0 0], []⟩ 8 (by kernel_rfl) (by kernel_rfl) (by kernel_rfl) (by kernel_rfl)) ?_
  intro W base args ds gs before hval0 hW hcnd _
  have hval : ∀ (j : Nat) t v, Try.f6.params[j]? = some t → args[j]? = some v → Value.okWide Try.prog W .any base t v := hval0
  have hW' := hW
  obtain ⟨p, q, hA0, hV, rfl, hfz, hnd⟩ := hW
  have hA : DataW.TrodAll enc Try.prog W 0 (fun _ => true) true Try.f6.params.toList args.toList ds p := hA0
  have hA1 := hA
  rw [Try.params6] at hA hval
  obtain ⟨v0, vs0, d0, ds0, p0, q0, hargs, rfl, rfl, h0, r0⟩ := trodAll_cons hA
  obtain ⟨v1, vs1, d1, ds1, p1, q1, rfl, rfl, rfl, h1, r1⟩ := trodAll_cons r0
  obtain ⟨v2, vs2, d2, ds2, p2, q2, rfl, rfl, rfl, h2, r2⟩ := trodAll_cons r1
  obtain ⟨rfl, rfl, rfl⟩ := trodAll_nil r2
  obtain rfl : args = #[v0, v1, v2] := by cases args; simp_all
  obtain ⟨rfl, rfl⟩ := trodVars_none hV
  obtain ⟨a0, rfl, rfl, rfl, w0⟩ := open_int Try.underlying3 (hval 0 3 v0 rfl rfl) h0
  obtain ⟨x, len, cap, b, off, rfl, hlen, hloc, hacts⟩ := open_acts (hval 1 38 v1 rfl rfl) h1
  obtain ⟨x2, len2, cap2, b2, off2, rfl, hlen2, hloc2, hacts2⟩ := open_acts (hval 2 38 v2 rfl rfl) h2
  clear hA0 hval0
  simp only [List.append_nil] at hW' hA1
  refine (walk a0 x len cap b off x2 len2 cap2 b2 off2 W hlen hlen2 ⟨hloc, hacts⟩ ⟨hloc2, hacts2⟩).mono fun e W' ⟨he, hg⟩ => ?_
  subst he
  exact ⟨_, rfl, post_true hW' hA1 rfl rfl (fun _ => rfl) rfl Try.underlying4 laidOut hread hg⟩

theorem over : Rows.machineWholeRow.holds Try.pinned (OpenSpec.ofChange Rows.machineWholeSpec) :=
  OpenClaim.holds_of_wide 6 Try.f6 rfl rfl rfl rfl rfl rfl rfl ⟨rfl, rfl, rfl, rfl, rfl⟩ rfl rfl rfl rfl rfl (by kernel_rfl) Try.func6 (by kernel_rfl)
    (of_decide_eq_true (by kernel_rfl)) (by unfold Func.isWrapper; first | (rw [if_pos (by decide +kernel)]; kernel_rfl) | (rw [if_neg (by decide +kernel)]; exact ⟨rfl, rfl⟩))
    (fun os started H enc _ => lifted os started H enc)

/-- The statement. -/
theorem proved : Rows.MachineWholeSaid := over
end MachineWhole
end Go.Proofs.Ytkpcomldjnahhaa
