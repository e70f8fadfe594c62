/- Contracts of layer 6's memory that is only read: Same, Whole, and the reference's Get. Conditions: those that each theorem states. -/
import Derived.Test.YtkpcomldjnahhaaWho
namespace Go.Proofs.Ytkpcomldjnahhaa
open Go.ChangeShapes Go.WideShapes Go.ChangeAt Go.RowKit
set_option linter.unusedSimpArgs false
attribute [local go_sem] zeroV sl_ne bs0

/-- A region that draws its order and leaves what lay as it lay: one walk serves. -/
theorem wp_region_below {id : Nat} {Q : Exit → Act → World → Prop} {a : Act} {w : World} {l : List Oper} (hB : Region.lexB .any l.toArray = true)
    (h : wpQuiet Try.prog l.toArray (fun w' => Below w.heap.size w w') (fun a' => ∀ w', Below w.heap.size w w' → Q .normal a' w') l a) : (Code.region id l.toArray true).wp Try.prog Q a w :=
  wp_region_quiet (C := fun w' => Below w.heap.size w w') (by kernel_rfl) hB ((Below.refl _ w).drew) (by simpa using h)
/-- A value of one cell is read, in a quiet region. -/
theorem wpQuiet_cell {ops : Array Oper} {C : World → Prop} {Q : Act → Prop} {op : Oper} {rest : List Oper} {a : Act} (hw : Region.wanted op (yielded ops a.tmps) = true) (ty : TypeId) (x : Operand) (ho : op.op = .load ty x)
    (b o : Nat) (v : Value) (hx : a.eval x = .pointer (some ⟨b, o, none⟩)) (hty : ∀ w, (isAgg ty).run Try.prog w = .ok false w) (hr : ∀ w, C w → w.cell? ⟨b, o, none⟩ = some v)
    (h : wpQuiet Try.prog ops C Q rest (a.put op.dst v)) : wpQuiet Try.prog ops C Q (op :: rest) a := by
  unfold wpQuiet
  rw [if_pos hw]
  refine ⟨v, fun w hC => ?_, h⟩
  unfold Oper.quietAt execOp
  simp [ho, hx, Instr.loadAt, Instr.sureAddr, Sem.run_bind, Sem.run_pure, loadVar, hty, load, Sem.run, hr w hC, Oper.quietUpon, Result.andThen]
/-- An operation that only reckons, in a quiet region. -/
theorem wpQuiet_pure {ops : Array Oper} {C : World → Prop} {Q : Act → Prop} {op : Oper} {rest : List Oper} {a : Act} {v : Value} (hw : Region.wanted op (yielded ops a.tmps) = true)
    (hv : ∀ w, (execOp a.eval op).run Try.prog w = .ok (.value v) w) (h : wpQuiet Try.prog ops C Q rest (a.put op.dst v)) : wpQuiet Try.prog ops C Q (op :: rest) a := by
  unfold wpQuiet
  rw [if_pos hw]
  refine ⟨v, fun w hC => ?_, h⟩
  unfold Oper.quietAt
  rw [hv]
  exact ⟨rfl, rfl⟩
/-- A call, in a quiet region. -/
theorem wpQuiet_call {ops : Array Oper} {C : World → Prop} {Q : Act → Prop} {op : Oper} {rest : List Oper} {a : Act} (hw : Region.wanted op (yielded ops a.tmps) = true) (f : FuncId) (args : Array Value) (v : Value)
    (hv : ∀ w, (execOp a.eval op).run Try.prog w = .ok (.enter f args) w) (hc : ∀ w, C w → Calls Try.prog f args w (fun e w'' => e = .returned v ∧ C w'')) (h : wpQuiet Try.prog ops C Q rest (a.put op.dst v)) : wpQuiet Try.prog ops C Q (op :: rest) a := by
  unfold wpQuiet
  rw [if_pos hw]
  refine ⟨v, fun w hC => ?_, h⟩
  unfold Oper.quietAt
  rw [hv]
  exact ⟨rfl, hc w hC⟩
theorem agg63 (w : World) : (isAgg 63).run Try.prog w = .ok false w := by simp [isAgg, underlying, Try.underlying63, Result.andThen]
theorem agg31 (w : World) : (isAgg 31).run Try.prog w = .ok false w := by simp [isAgg, underlying, Try.underlying31, Result.andThen]
theorem agg3 (w : World) : (isAgg 3).run Try.prog w = .ok false w := by simp [isAgg, underlying, Try.underlying3, Result.andThen]

theorem same (m k a b n ca cb : Nat) (X Y : List Int) (w : World) (hm : Rm w m a n ca X) (hk : Rm w k b n cb Y) :
    Calls Try.prog 24 #[.pointer (some ⟨m, 0, none⟩), .pointer (some ⟨k, 0, none⟩)] w fun e w' => e = .returned (.bool (decide (X = Y))) ∧ Below w.heap.size w w' := by
  have hp := hm.pos
  have hx := hm.max
  have H1 := Lib.hid hm
  have H2 := Lib.hid hk
  clear hm hk
  go_enter Try.func24, Try.ntmps24
  go_wp2_with (first | (go_at_call 15; with_reducible refine (rgran m a n ca X _ H1.out).mono ?_; rintro e w1 ⟨rfl, rfl⟩) | (go_at_call 15; with_reducible refine (rgran k b n cb Y _ H2.out).mono ?_; rintro e w1 ⟨rfl, rfl⟩))
  all_goals first | (exfalso; omega) | skip
  refine wp_region_below (by kernel_rfl) ?_
  refine wpQuiet_pure (v := (.pointer (some ⟨m, 0, none⟩))) rfl (fun w => rfl) ?_
  simp only [Act.put, List.setIfInBounds_toArray, List.set_cons_zero, List.set_cons_succ]
  refine wpQuiet_pure (v := (.pointer (some ⟨m, 0, none⟩))) rfl (fun w => rfl) ?_
  simp only [Act.put, List.setIfInBounds_toArray, List.set_cons_zero, List.set_cons_succ]
  refine wpQuiet_pure (v := (.pointer (some ⟨m, 0, none⟩))) rfl (fun w => rfl) ?_
  simp only [Act.put, List.setIfInBounds_toArray, List.set_cons_zero, List.set_cons_succ]
  refine wpQuiet_cell rfl 63 (.tmp 20) rfl m 0 (.slice (some ⟨a, 0, none⟩) n ca) rfl agg63 (fun w' hw' => cell_of_row _ _ 0 _ _ _ (H1.out.below hw').mem) ?_
  simp only [Act.put, List.setIfInBounds_toArray, List.set_cons_zero, List.set_cons_succ]
  refine wpQuiet_pure (v := (.pointer (some ⟨k, 0, none⟩))) rfl (fun w => rfl) ?_
  simp only [Act.put, List.setIfInBounds_toArray, List.set_cons_zero, List.set_cons_succ]
  refine wpQuiet_pure (v := (.pointer (some ⟨k, 0, none⟩))) rfl (fun w => rfl) ?_
  simp only [Act.put, List.setIfInBounds_toArray, List.set_cons_zero, List.set_cons_succ]
  refine wpQuiet_pure (v := (.pointer (some ⟨k, 0, none⟩))) rfl (fun w => rfl) ?_
  simp only [Act.put, List.setIfInBounds_toArray, List.set_cons_zero, List.set_cons_succ]
  refine wpQuiet_cell rfl 63 (.tmp 24) rfl k 0 (.slice (some ⟨b, 0, none⟩) n cb) rfl agg63 (fun w' hw' => cell_of_row _ _ 0 _ _ _ (H2.out.below hw').mem) ?_
  simp only [Act.put, List.setIfInBounds_toArray, List.set_cons_zero, List.set_cons_succ]
  refine wpQuiet_call rfl 37 #[.slice (some ⟨a, 0, none⟩) n ca, .slice (some ⟨b, 0, none⟩) n cb] (.bool (decide (X = Y))) (fun w => by go_simp) (fun w' hw' => ?_) ?_
  · have q1 := H1.out.below hw'
    have q2 := H2.out.below hw'
    refine (equal a b n ca cb X Y w' q1.cells q2.cells q1.len q2.len hx).mono ?_
    rintro e w2 ⟨rfl, b2⟩
    exact ⟨rfl, hw'.trans (b2.mono hw'.size)⟩
  simp only [Act.put, List.setIfInBounds_toArray, List.set_cons_zero, List.set_cons_succ]
  refine wpQuiet_pure (v := (.bool (decide (X = Y)))) rfl (fun w => rfl) ?_
  simp only [Act.put, List.setIfInBounds_toArray, List.set_cons_zero, List.set_cons_succ]
  refine wpQuiet_nil ?_
  intro w2 hw2
  go_wp2
  go_ret
  exact ⟨rfl, hw2⟩
/-- The reference's bytes, to be read, whatever their capacity. -/
structure Rr (w : World) (rb cb n cap : Nat) (B : List Int) : Prop where
  ref : w.heap[rb]? = some (.cells #[.slice (some ⟨cb, 0, none⟩) (128 * n) cap] 50 (0, 0))
  cells : ∀ i x, B[i]? = some x → w.cell? ⟨cb, i, none⟩ = some (.int .u8 x)
  lt : cb < w.heap.size
  len : B.length = 128 * n
  max : n ≤ 4096
  cap : 128 * n ≤ cap
theorem Rr.rlt {w : World} {rb cb n cap : Nat} {B : List Int} (h : Rr w rb cb n cap B) : rb < w.heap.size := (Array.getElem?_eq_some_iff.1 h.ref).1
theorem Rr.keep {w w' : World} {rb cb n cap : Nat} {B : List Int} (h : Rr w rb cb n cap B) (h1 : w'.heap[rb]? = w.heap[rb]?) (h2 : w'.heap[cb]? = w.heap[cb]?) (hs : w.heap.size ≤ w'.heap.size) : Rr w' rb cb n cap B :=
  ⟨h1.trans h.ref, fun i x hi => (World.cell?_of_block (a := ⟨cb, i, none⟩) h2).trans (h.cells i x hi), Nat.lt_of_lt_of_le h.lt hs, h.len, h.max, h.cap⟩
theorem Rr.below {w w' : World} {rb cb n cap : Nat} {B : List Int} (h : Rr w rb cb n cap B) (hb : Below w.heap.size w w') : Rr w' rb cb n cap B :=
  h.keep (hb.block _ h.rlt) (hb.block _ h.lt) hb.size
theorem Rr.of {w : World} {rb cb n : Nat} {B : List Int} (h : Ref w rb cb n B) : Rr w rb cb n (128 * n) B :=
  ⟨h.ref, fun i x hi => by rw [h.all.cell, hi]; rfl, h.lt.2, h.len, h.max, Nat.le_refl _⟩
set_option maxHeartbeats 1000000 in
set_option maxRecDepth 100000 in
theorem rgetc (rb cb n cap : Nat) (B : List Int) (g : Nat) (w : World) (h : Rr w rb cb n cap B) (hg : g < n) :
    Calls Try.prog 21 #[.pointer (some ⟨rb, 0, none⟩), .int .i64 g] w fun e w' => e = .returned (.agg (bytesV (sub B g)).toArray) ∧ Below w.heap.size w w' := by
  have hx := h.max
  have hcap := h.cap
  have hl := h.len
  obtain ⟨W, hW⟩ : ∃ W, W = ((w.alloc (.cells (bytesV (zeroB 1)).toArray 52)).alloc (.cells (bytesV (zeroB 1)).toArray 52)).drew := ⟨_, rfl⟩
  have r1 : BytesAt (w.alloc (.cells (bytesV (zeroB 1)).toArray 52)) w.heap.size 52 (zeroB 1) := heap_here rfl
  have r2 : BytesAt W (w.heap.size + 1) 52 (zeroB 1) := by rw [hW]; exact heap_here (by simp)
  have r3 : BytesAt W w.heap.size 52 (zeroB 1) := by rw [hW]; exact heap_past (by simp) r1
  have b1 : Below w.heap.size w W := by rw [hW]; exact (((Below.refl _ _).alloc (Nat.le_refl _) _).alloc (by simp) _).drew
  have h1 := h.below b1
  have hlt := h.lt
  have hsl := sub_len B g n hl hg
  obtain ⟨W3, hW3⟩ : ∃ W3, W3 = W.setRow (w.heap.size + 1) (bytesV (sub B g)).toArray := ⟨_, rfl⟩
  have r4 : BytesAt W3 (w.heap.size + 1) 52 (sub B g) := by rw [hW3]; exact setRow_heap _ _ _ _ _ _ r2
  have r5 : BytesAt W3 w.heap.size 52 (zeroB 1) := by rw [hW3]; exact (setRow_other _ _ _ _ (by omega)).trans r3
  have b3 : Below w.heap.size w W3 := by rw [hW3]; exact below_setRow b1 (by omega) _
  have S0 : W.cell? ⟨rb, 0, none⟩ = some (.slice (some ⟨cb, 0, none⟩) (128 * n) cap) := cell_of_row _ _ 0 _ _ _ h1.ref
  have S1 : W3.cell? ⟨rb, 0, none⟩ = some (.slice (some ⟨cb, 0, none⟩) (128 * n) cap) := cell_of_row _ _ 0 _ _ _ (h.below b3).ref
  have hrc : Hid ((Builtin.copy_ #[31, 31] 3 #[.slice (some ⟨w.heap.size + 1, 0, none⟩) 128 128, .slice (some ⟨cb, 128 * g, none⟩) (128 * n - 128 * g) (cap - 128 * g)]).run Try.prog W = .ok (.int .i64 (128 : Nat)) W3) := by
    show _ = _
    rw [run_cp W (w.heap.size + 1) 0 128 128 cb (128 * g) _ _ (zeroB 1) (sub B g) 52 r2 (fun j y hj => by
      rw [sub, List.getElem?_take] at hj
      split at hj
      · rw [List.getElem?_drop] at hj
        exact h1.cells _ _ hj
      · cases hj) (by rw [hsl]; simp only [Nat.min_def]; split <;> omega) (by rw [hsl, zlen]; omega), hsl, splice_all _ _ (by rw [hsl, zlen]), hW3]
  have hst := st_mid (X := sub B g) r5 0 (by rw [hsl, zlen]; omega)
  rw [splice_all _ _ (by rw [hsl, zlen])] at hst
  have hln : (bytesV (sub B g)).length = 128 := by rw [bytesV_len, hsl]
  have R6 : Hid (BytesAt (W3.setRow w.heap.size (bytesV (sub B g)).toArray) w.heap.size 52 (sub B g)) := setRow_heap _ _ _ _ _ _ r5
  have HB : Hid (Below w.heap.size w (W3.setRow w.heap.size (bytesV (sub B g)).toArray)) := below_setRow b3 (Nat.le_refl _) _
  have HR := Lib.hid (rng_row r4)
  have hgn : g ≤ n := by omega
  have hng : ¬ n = g := by omega
  have htn : ((128 : Int) * (g : Int)).toNat = 128 * g := by omega
  have hng2 : ¬ 128 * n = 128 * g := by omega
  have hw64 : IntKind.i64.wrap (128 * (g : Int)) = 128 * (g : Int) := IntWalk.i64_in _ (by omega)
  have hg1 : (128 : Int) * (g : Int) ≤ 128 * n := by omega
  have hg2 : 0 ≤ (128 : Int) * (g : Int) := by omega
  have hc1 : (128 : Int) * (n : Int) ≤ cap := by omega
  have hc2 : 128 * n ≤ cap := hcap
  have hc4 : ¬ cap = 128 * g := by omega
  have hc3 : (128 : Int) * (g : Int) ≤ cap := by omega
  have HS0 := Lib.hid S0
  have HS1 := Lib.hid S1
  have HL := Lib.hid hsl
  have HW := Lib.hid hW
  clear h r1 r2 r3 r4 r5 b1 b3 h1 hlt S0 S1 hsl hW3 hW
  go_enter Try.func21, Try.ntmps21
  go_wp2_with fail
  go_region_held3 (fun w' => w'.cell? ⟨rb, 0, none⟩ = some (.slice (some ⟨cb, 0, none⟩) (128 * n) cap)) ((first | (rw [← HW.out]; exact HS0.out) | exact HS1.out)) ((first | (rw [← HW.out]; refine step_copy_run rfl (.tmp 6) (.tmp 13) 31 31 rfl _ _ _ rfl rfl hrc.out ?_)))
  go_wp2_with (first | (refine wpList_ld rfl (.tmp 5) rfl (w.heap.size + 1) 0 (sub B g) rfl HL.out HR.out ?_))
  refine ret_row rfl w.heap.size 52 _ (0, 0) _ Try.underlying52 rfl ?_ rfl R6.out rfl ?_
  · rw [size52, List.size_toArray, hln]
  · exact ⟨rfl, HB.out⟩
/-- The memory gone over: a copy of it, in a cell that the iterator holds. -/
theorem whole (mb ab n cap : Nat) (B : List Int) (w : World) (h : Rm w mb ab n cap B) :
    Calls Try.prog 23 #[.pointer (some ⟨mb, 0, none⟩)] w fun e w' => ∃ g k c q, e = .returned (.func (.func 36) #[] #[.pointer (some ⟨q, 0, none⟩)]) ∧ w'.heap[q]? = some (.cells #[.pointer (some ⟨k, 0, none⟩)] 27 (0, 0)) ∧ Rm w' k g n c B ∧ w.heap.size ≤ g ∧ w.heap.size ≤ k ∧ w.heap.size ≤ q ∧ Below w.heap.size w w' := by
  have H := Lib.hid h
  clear h
  go_enter Try.func23, Try.ntmps23
  go_wp2_with (go_at_call 22; refine (copy _ _ _ _ _ _ H.out).mono ?_; rintro e w1 ⟨g, k, c, rfl, hg, hk, hne, hr, hb⟩)
  go_ret
  refine ⟨g, k, c, w1.heap.size, rfl, heap_here (by simp), ?_, hg, hk, hb.size, hb.alloc hb.size _⟩
  exact hr.below ((Below.refl _ _).alloc (Nat.le_refl _) _)
theorem str_cap {w : World} {b n c : Nat} {L : List Int} (h : ∀ i x, L[i]? = some x → w.cell? ⟨b, i, none⟩ = some (.int .u8 x)) (hl : L.length = n) : (convert 31 9 (.slice (some ⟨b, 0, none⟩) n c)).run Try.prog w = .ok (.string (strOfNums L)) w := by
  refine run_convert_bytes_arg (P := Try.prog) w 31 5 Try.underlying31 Try.underlying5 b 0 n c L hl (fun i hi => ?_) 9 Try.underlying9
  rw [Nat.zero_add]
  rw [h i (L.getD i 0) (by simp [List.getD_eq_getElem?_getD, List.getElem?_eq_getElem (show i < L.length by omega)])]
end Go.Proofs.Ytkpcomldjnahhaa
