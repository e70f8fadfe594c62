/- Layer 6's Whole: its iterator, for every loop body; and a quiet region inside a round of a loop over a function. Conditions: those that each theorem states. -/
import Derived.RangeFuncNested
import Derived.RangeFuncBound
import Derived.RangeFuncCalls
import Derived.RangeFuncLeaves
import Derived.RangeFuncMany
import Derived.Shelf.Abstract
import Derived.Shelf.RegionOpen
import Derived.WalkKit
import Derived.OwnWalkIn
import Derived.TacticsInMore
import Derived.LoopNIn
import Derived.LoopIn
import Derived.Test.YtkpcomldjnahhaaWhp
namespace Go.Proofs.Ytkpcomldjnahhaa
open Go.ChangeShapes Go.WideShapes Go.ChangeAt Go.RowKit Go.Shelf
set_option linter.unusedSimpArgs false
attribute [local go_sem] zeroV

section
variable {P : Program}
/-- An operation that yields a value, inside a fence that lets every function in. -/
theorem wpIn_value {F : Fence} {n : Nat} (hF : ∀ f, F.fn f) {o : Oper} {a : Act} {w w' : World} {K : Act → World → Prop} {Q : Exit → Act → World → Prop} {v : Value} (hnd : ∀ c, o.op ≠ .defer c)
    (h : (execOp a.eval o).run P w = .ok (.value v) w') (hk : K (a.put o.dst v) w') : o.wpIn F n P a w K Q := by
  unfold Oper.wpIn
  rw [Oper.semAt_eq _ _ _ hnd, h]
  exact ⟨fun _ _ => hF _, hk⟩
/-- A fence that lets all in. -/
structure Open0 (F : Fence) : Prop where
  fn : ∀ f, F.fn f
  deep : F.depth = none
  calls : ∀ (n : Nat) (P : Program) (f : FuncId) (args : Array Value) (w : World) (R : Ending → World → Prop), CallsIn F n P f args w R ↔ Calls P f args w R
theorem open0_wide : Open0 Fence.wide := ⟨fun _ => trivial, rfl, fun _ _ _ _ _ _ => callsIn_wide⟩
theorem open0_round (l : Nat) : Open0 (Fence.wide.inRound l) := ⟨fun _ => trivial, rfl, fun n _ _ _ _ _ => callsIn_wide (n := n)⟩
theorem wpIn_of_quiet {F : Fence} (O : Open0 F) {n : Nat} {C : World → Prop} {o : Oper} {a : Act} {K : Act → Prop} {K' : Act → World → Prop} {Q' : Exit → Act → World → Prop} {w : World} (hnd : ∀ c, o.op ≠ .defer c) (hw : C w) (h : ∀ a w', C w' → K a → K' a w')
    (hh : o.quiet P a C K) : o.wpIn F n P a w K' Q' := by
  obtain ⟨v, h1, h2⟩ := hh
  have h3 := h1 w hw
  unfold Oper.quietAt at h3
  unfold Oper.wpIn
  rw [Oper.semAt_eq _ _ _ hnd]
  refine ⟨fun _ _ => O.fn _, ?_⟩
  generalize (execOp a.eval o).run P w = r at h3 ⊢
  match r, h3 with
  | .ok (.value u) w', ⟨e1, e2⟩ => subst e1 e2; exact h _ _ hw h2
  | .ok .skip w', ⟨e1, e2⟩ => subst e1 e2; exact h _ _ hw h2
  | .ok (.enter f args) w', ⟨e1, hc⟩ =>
    subst e1
    refine ⟨fun hh => (by rw [O.deep] at hh; cases hh), (O.calls _ _ _ _ _ _).2 (hc.mono ?_)⟩
    rintro e w2 ⟨rfl, hw2⟩
    exact h _ _ hw2 h2
theorem wpOpIn_of_qOp {F : Fence} (O : Open0 F) {n : Nat} {ops : Array Oper} {C : World → Prop} (hnd : ∀ o ∈ ops, ∀ c, o.op ≠ .defer c) {i : Nat} {a : Act} {K : Act → Prop} {K' : Act → World → Prop} {Q' : Exit → Act → World → Prop} {w : World} (hC : C w) (h : ∀ a w', C w' → K a → K' a w')
    (hh : qOp P ops C i K a) : wpOpIn F n P ops Q' i K' a w := by
  unfold qOp at hh
  unfold wpOpIn
  cases ho : ops[i]? with
  | none => simp only [ho] at hh ⊢; exact h _ _ hC hh
  | some o =>
    simp only [ho] at hh ⊢
    cases hw : Region.wanted o (yielded ops a.tmps) with
    | true => simp only [hw, if_true] at hh ⊢; exact wpIn_of_quiet O (hnd o (Array.mem_of_getElem? ho)) hC h hh
    | false => simp only [hw, Bool.false_eq_true, if_false] at hh ⊢; exact ⟨fun _ _ => O.fn _, h _ _ hC hh⟩
theorem wpAnyIn_of_quiet {F : Fence} (O : Open0 F) {n : Nat} {md : Region.Mode} {ops : Array Oper} {C : World → Prop} (hnd : ∀ o ∈ ops, ∀ c, o.op ≠ .defer c) {Q : Act → Prop} {Q' : Exit → Act → World → Prop} (hQ : ∀ a w, C w → Q a → Q' .normal a w) :
    ∀ (fuel : Nat) (listed : Array Bool) (a : Act) (w : World), C w → wpAnyQ P md ops C Q fuel listed a → wpAnyIn F n P md ops Q' fuel listed a w
  | 0, _, _, _, hw, h => ⟨h.1, hQ _ _ hw h.2⟩
  | fuel + 1, _, _, _, hw, h => ⟨fun h0 => hQ _ _ hw (h.1 h0), fun i hi => wpOpIn_of_qOp O hnd hw (fun a' w' hw' => wpAnyIn_of_quiet O hnd hQ fuel _ a' w' hw') (h.2 i hi)⟩
end
/-- A region that draws its order, under such a fence, and leaves what lay as it lay. -/
theorem wpIn_region_fence {F : Fence} (O : Open0 F) {id n : Nat} {Q : Exit → Act → World → Prop} {a : Act} {w : World} {l : List Oper} (hnd : ∀ o ∈ l.toArray, ∀ c, o.op ≠ .defer c) (hB : Region.lexB .any l.toArray = true)
    (h : wpQuiet Try.prog l.toArray (fun w' => Below w.heap.size w w') (fun a' => ∀ w', Below w.heap.size w w' → Q .normal a' w') l a) : (Code.region id l.toArray true).wpIn F n Try.prog Q a w := by
  simp only [Region.lexB, Bool.and_eq_true] at hB
  refine wpIn_region_any (by kernel_rfl) (wpAnyIn_of_quiet O (C := fun w' => Below w.heap.size w w') (Q := fun a' => ∀ w', Below w.heap.size w w' → Q .normal a' w') hnd (fun _ w' hw' h => h w' hw') _ _ _ _ ((Below.refl _ w).drew) ?_)
  have := wpAnyQ_lex (C := fun w' => Below w.heap.size w w') (md := .any) hB.1 l 0 (Array.replicate l.length false) a (by simp) (by simpa using hB.2) h
  simpa using this
/-- A granule is read, inside a fence. -/
theorem wpListIn_ld {F : Fence} {n : Nat} (hF : ∀ f, F.fn f) {ops : Array Oper} {rest : List Oper} {op : Oper} {a : Act} {w : World} {Q : Exit → Act → World → Prop} (hw : Region.wanted op (yielded ops a.tmps) = true) (x : Operand) (ho : op.op = .load 52 x)
    (b o : Nat) (X : List Int) (hx : a.eval x = .pointer (some ⟨b, o, none⟩)) (hl : X.length = 128) (hr : w.rangeAt b o (bytesV X))
    (h : wpListIn F n Try.prog ops Q rest (a.put op.dst (.agg (bytesV X).toArray)) w) : wpListIn F n Try.prog ops Q (op :: rest) a w := by
  unfold wpListIn
  rw [if_pos hw]
  refine wpIn_value hF (fun c hc => by rw [ho] at hc; cases hc) (v := .agg (bytesV X).toArray) (w' := w) ?_ h
  unfold execOp
  simp only [ho, hx, Instr.loadAt, Instr.sureAddr, Sem.run_bind, Sem.run_pure, Result.andThen_ok, run_loadVar_mid w b o 52 (bytesV X) _ hr Try.underlying52 rfl (by rw [size52, bytesV_len, hl])]

theorem wpListIn_skipw {F : Fence} {n : Nat} (hF : ∀ f, F.fn f) {ops : Array Oper} {rest : List Oper} {op : Oper} {a : Act} {w : World} {Q : Exit → Act → World → Prop} (hw : Region.wanted op (yielded ops a.tmps) = false)
    (h : wpListIn F n Try.prog ops Q rest (a.put op.dst undef) w) : wpListIn F n Try.prog ops Q (op :: rest) a w := by
  unfold wpListIn
  rw [if_neg (by simp [hw])]
  exact ⟨fun _ _ => hF _, h⟩
/-- The granules that are not noughts, of the first j. -/
def nz (B : List Int) (j : Nat) : List Nat := (List.range j).filter (fun g => decide (sub B g ≠ zeroB 1))
theorem nz_len (B : List Int) (j : Nat) : (nz B j).length ≤ j := by
  have := List.length_filter_le (fun g => decide (sub B g ≠ zeroB 1)) (List.range j)
  rwa [List.length_range] at this
theorem nz_yes {B : List Int} {j : Nat} (h : sub B j ≠ zeroB 1) : nz B (j + 1) = nz B j ++ [j] := by simp [nz, List.range_succ, List.filter_append, h]
theorem nz_no {B : List Int} {j : Nat} (h : sub B j = zeroB 1) : nz B (j + 1) = nz B j := by simp [nz, List.range_succ, List.filter_append, h]
/-- What is told of a granule. -/
def subT (B : List Int) (g : Nat) : List Int := if 128 * g + 128 ≤ B.length then sub B g else zeroB 1
theorem subT_len (B : List Int) (g : Nat) : (subT B g).length = 128 := by
  unfold subT
  split
  · simp [sub]; omega
  · exact zlen
theorem subT_of {B : List Int} {n g : Nat} (h : B.length = 128 * n) (hg : g < n) : subT B g = sub B g := if_pos (by omega)
def told (B : List Int) (g : Nat) : Array Value := #[.int .i64 (g : Int), .agg (bytesV (subT B g)).toArray]
/-- What a loop's body must keep. -/
def Kq (N : Nat) (A B : World) : Prop := KeepsWalks A B ∧ ∀ k, k < N → B.heap[k]? = A.heap[k]?
theorem Kq.trans {N : Nat} {A B C : World} (h : Kq N A B) (k : Kq N B C) : Kq N A C := ⟨h.1.trans k.1, fun i hi => (k.2 i hi).trans (h.2 i hi)⟩
/-- What the iterator stands on. -/
structure It (W : World) (q k g c n : Nat) (B : List Int) : Prop where
  cell : W.heap[q]? = some (.cells #[.pointer (some ⟨k, 0, none⟩)] 27 (0, 0))
  mem : Rm W k g n c B
theorem It.keep {W W' : World} {q k g c n N : Nat} {B : List Int} (h : It W q k g c n B) (hq : q < N) (hk : k < N) (hg : g < N) (hs : W.heap.size ≤ W'.heap.size) (hb : ∀ i, i < N → W'.heap[i]? = W.heap[i]?) : It W' q k g c n B :=
  ⟨(hb q hq).trans h.cell, h.mem.keep (hb k hk) (hb g hg) hs⟩

set_option maxHeartbeats 2000000 in
set_option maxRecDepth 100000 in
theorem whole_stops (q k g c n : Nat) (B : List Int) (w : World) (h : It w q k g c n B) :
    SeqStopsK Fence.wide 8 Try.prog 36 #[.pointer (some ⟨q, 0, none⟩)] (told B) (Kq w.heap.size) (fun xs => xs = nz B n) (fun xs => ∃ j, j < n ∧ xs = nz B (j + 1)) n w := fun l J Jx W hW hJ hJx hY h0 => by
  have hq : q < w.heap.size := (Array.getElem?_eq_some_iff.1 h.cell).1
  have hk := h.mem.mlt
  have hg := h.mem.lt
  have hmax := h.mem.max
  have hWs := hW.size
  have H := Lib.hid (h.keep hq hk hg hWs hW.block)
  have hcq := cell_of_row _ _ 0 _ _ _ H.out.cell
  have H0 := Lib.hid h0
  have HJ := Lib.hid hY
  clear hY hJ hJx h0 h
  refine callsIn_of_wp Try.func36 rfl trivial ?_ rfl
  simp only [Try.ntmps36, List.size_toArray, List.length_cons, List.length_nil, Nat.reduceAdd, Nat.reduceSub, Array.replicate_succ, Array.replicate_zero, List.push_toArray, List.append_toArray, List.nil_append, List.cons_append]
  gi_wp2_with (first | (refine ⟨trivial, ?_⟩; gi_at_call 15; refine (callsIn_wide.2 (rgran _ _ _ _ _ _ H.out.mem)).mono ?_; rintro e w1 ⟨rfl, rfl⟩))
  gi_loopw [6] (fun v wr => ∃ j : Nat, v = .int .i64 j ∧ j ≤ n ∧ J (nz B j) wr ∧ It wr q k g c n B ∧ w.heap.size ≤ wr.heap.size) (fun v _ => n - (match v with | .int _ j => j.toNat | _ => 0))
  case atStart => exact ⟨0, rfl, Nat.zero_le _, H0.out, H.out, hWs⟩
  case round =>
    obtain ⟨j, rfl, hj, hJj, hIt, hsz⟩ := hrel
    have HI := Lib.hid hIt
    have HJj := Lib.hid hJj
    clear hJj hIt hcq H H0
    have cq := cell_of_row _ _ 0 _ _ _ HI.out.cell
    have cm := cell_of_row _ _ 0 _ _ _ HI.out.mem.mem
    by_cases hjn : j < n
    · have hsl := sub_len B j n HI.out.mem.len hjn
      have HR := Lib.hid (rng_cells HI.out.mem.cells j (j * 128) rfl)
      have heq := eqB (sub B j) (zeroB 1) hsl zlen
      by_cases he : sub B j = zeroB 1
      · simp only [he, decide_true] at heq
        gi_wp2_with (first | (refine wpListIn_skipw (fun _ => trivial) rfl ?_) | (refine wpListIn_ld (fun _ => trivial) rfl (.tmp 14) rfl g (j * 128) (sub B j) rfl hsl HR.out ?_))
        go_roundw
        case rel => exact ⟨j + 1, by simp, by omega, by rw [nz_no he]; exact HJj.out, HI.out, hsz⟩
        case measure => simp; omega
      · simp only [he, decide_false] at heq
        have hlen : (nz B j).length < n := by have := nz_len B j; omega
        gi_wp2_with (first | (refine wpListIn_ld (fun _ => trivial) rfl (.tmp 14) rfl g (j * 128) (sub B j) rfl hsl HR.out ?_) | (refine wpListIn_ld (fun _ => trivial) rfl (.tmp 26) rfl g (j * 128) (sub B j) rfl hsl HR.out ?_))
        obtain ⟨fn, tmps, assign, body, hy, hR⟩ := HJ.out (nz B j) j wr HJj.out hlen
        have hy' : (Instr.yield l #[Value.int IntKind.i64 (j : Int), Value.agg (bytesV (sub B j)).toArray]).run Try.prog wr = .ok (.round l fn tmps assign body) wr := by rw [← subT_of HI.out.mem.len hjn]; exact hy
        clear hy HJj
        rw [hy']
        refine ⟨fun hh => (by omega), hR.mono ?_⟩
        rintro e W3 (⟨rfl, hJ3, hk3⟩ | ⟨rfl, hJx3⟩)
        · have HI3 := Lib.hid (HI.out.keep hq hk hg hk3.1.size hk3.2)
          have HJ3 := Lib.hid hJ3
          have hs3 : w.heap.size ≤ W3.heap.size := Nat.le_trans hsz hk3.1.size
          clear hJ3 hk3 HI hR cq cm HR
          gi_wp2
          go_roundw
          case rel => exact ⟨j + 1, by simp, by omega, by rw [nz_yes he]; exact HJ3.out, HI3.out, hs3⟩
          case measure => simp; omega
        · have HJ3 := Lib.hid hJx3
          clear hJx3 HI hR cq cm HR
          gi_wp2
          refine bodyPost_ret (results_none rfl _ _ _) rfl ?_
          exact ⟨⟨_, rfl⟩, .inr ⟨_, ⟨j, hjn, (nz_yes he).symm⟩, HJ3.out⟩⟩
    · have hjn' : j = n := by omega
      subst hjn'
      gi_wp2
      go_end0
      exact ⟨⟨_, rfl⟩, .inl ⟨_, rfl, HJj.out⟩⟩
end Go.Proofs.Ytkpcomldjnahhaa
