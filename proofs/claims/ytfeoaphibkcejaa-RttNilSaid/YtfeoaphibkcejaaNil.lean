/- The statement RttNil: what tables that are not there, and such without memory, answer. A closed sentence. -/
import Derived.RangeFuncNested
import Derived.RangeFuncBound
import Derived.RangeFuncCalls
import Derived.RangeFuncLeaves
import Derived.RangeFuncMany
import Derived.Shelf.Abstract
import Derived.Shelf.RegionOpen
import Derived.WalkKit
import Derived.OwnWalkIn
import Derived.TacticsInMore
import Derived.LoopNIn
import Derived.LoopIn
import Derived.Test.YtfeoaphibkcejaaZ
import Derived.Test.YtfeoaphibkcejaaKn
namespace Go.Proofs.Ytfeoaphibkcejaa
open Go.ChangeShapes Go.WideShapes Go.ChangeAt Go.RowKit Go.Shelf
set_option linter.unusedSimpArgs false
attribute [local go_sem] Oper.semAt_some
namespace RttNil

set_option maxRecDepth 100000 in
theorem fn_ne (a : Value) (w : World) : (binOp .eql 45 (.func (.func 27) #[] #[a]) Value.nilFunc).run Try.prog w = .ok (.bool false) w := by rfl
attribute [local go_sem] fn_ne
def encs (x : Empty) : Array Value := x.elim
set_option maxHeartbeats 1000000 in
theorem it_stops (n c : Nat) (w : World) (hc : w.cell? ⟨c, 0, none⟩ = some (.slice none 0 0)) :
    SeqStopsA Fence.wide n Try.prog 27 #[.pointer (some ⟨c, 0, none⟩)] encs (fun _ => True) (fun _ => False) 0 w := fun l J Jx W hW hJ hJx hY h0 => by
  have hlt := World.block_lt_of_cell? w _ hc
  have hc' : W.cell? ⟨c, 0, none⟩ = some (.slice none 0 0) := (hW.cell (p := ⟨c, 0, none⟩) hlt).trans hc
  have H0 := Lib.hid h0
  refine callsIn_wide.2 ?_
  clear hY hJ hJx h0 hc hW
  show Calls Try.prog 27 #[.func (.yield l) #[] #[], .pointer (some ⟨c, 0, none⟩)] W _
  go_enter Try.func27, Try.ntmps27
  go_wp2
  refine wp_loop_rounds 1 ?_
  rw [rounds_succ]
  go_wp2
  go_end0
  exact ⟨⟨_, rfl⟩, .inl ⟨[], trivial, H0.out⟩⟩
theorem it_stopsK (n c : Nat) (w : World) (hc : w.cell? ⟨c, 0, none⟩ = some (.slice none 0 0)) :
    SeqStopsK Fence.wide n Try.prog 27 #[.pointer (some ⟨c, 0, none⟩)] encs KeepsWalks (fun _ => True) (fun _ => False) 0 w := it_stops n c w hc
theorem rnewx (a b : Option Addr) (w : World) : Calls Try.prog 4 #[.pointer a, .pointer b] w fun e w' => e = .returned (.pointer (some ⟨w.heap.size, 0, none⟩)) ∧ w.alloc (.cells #[.pointer a, .pointer b] 25) = w' := by
  go_enter Try.func4, Try.ntmps4
  go_wp2
  go_ret
  exact ⟨rfl, rfl⟩
/-- What the law keeps in its own blocks. -/
structure Gst (w W : World) (Ds : List Nat) : Prop where
  res : W.heap[w.heap.size]? = some (.cells #[.bool false] 4 (0, 0))
  zero : W.heap[w.heap.size + 1]? = some (.cells #[.pointer none, .pointer none] 25 (0, 0))
  third : W.heap[w.heap.size + 2]? = some (.cells #[.pointer none, .pointer none] 25 (0, 0))
  arr : W.heap[w.heap.size + 3]? = some (.cells #[.pointer none, .pointer (some ⟨w.heap.size + 1, 0, none⟩), .pointer (some ⟨w.heap.size + 2, 0, none⟩)] 26 (0, 0))
  b : Below w.heap.size w W
  d : ∀ D ∈ Ds, W.heap[D]? = some (.deferred (some []))
  ge : ∀ D ∈ Ds, w.heap.size < D
  pw : Ds.Pairwise (fun a b => b < a)
theorem Gst.lt {w W : World} {Ds : List Nat} (h : Gst w W Ds) : w.heap.size + 3 < W.heap.size := (Array.getElem?_eq_some_iff.1 h.arr).1
theorem Gst.below {w W W' : World} {Ds : List Nat} (h : Gst w W Ds) (hb : Below W.heap.size W W') : Gst w W' Ds :=
  have l := h.lt
  ⟨(hb.block _ (by omega)).trans h.res, (hb.block _ (by omega)).trans h.zero, (hb.block _ (by omega)).trans h.third, (hb.block _ (by omega)).trans h.arr, h.b.trans (hb.mono h.b.size),
   fun D hD => (hb.block _ (Array.getElem?_eq_some_iff.1 (h.d D hD)).1).trans (h.d D hD), h.ge, h.pw⟩
theorem Gst.more {w W W' : World} {Ds : List Nat} {D : Nat} (h : Gst w W Ds) (hb : Below W.heap.size W W') (hD : W.heap.size ≤ D) (hK : W'.heap[D]? = some (.deferred (some []))) : Gst w W' (D :: Ds) :=
  have k := h.below hb
  have l := h.lt
  ⟨k.res, k.zero, k.third, k.arr, k.b, fun E hE => by
    rcases List.mem_cons.1 hE with rfl | hE
    · exact hK
    · exact k.d E hE, fun E hE => by
    rcases List.mem_cons.1 hE with rfl | hE
    · omega
    · exact h.ge E hE, List.Pairwise.cons (fun E hE => Nat.lt_of_lt_of_le (Array.getElem?_eq_some_iff.1 (h.d E hE)).1 hD) h.pw⟩
theorem results_bool {fn : Func} {p : Tmp} (h : fn.results = #[.cell p 4]) (tmps : Array Value) (w : World) (b : Nat) (v : Value)
    (hp : tmps.getD p undef = .pointer (some ⟨b, 0, none⟩)) (hc : w.cell? ⟨b, 0, none⟩ = some v) : (results fn tmps).run Try.prog w = .ok v w := by
  have hp' : tmps[p]?.getD undef = .pointer (some ⟨b, 0, none⟩) := by simpa using hp
  simp [results, h, hp', asAddr, loadVar, isAgg, underlying, Try.underlying4, load, Sem.run, hc, Result.andThen]

set_option maxHeartbeats 8000000 in
set_option maxRecDepth 100000 in
theorem walk (w : World) : Calls Try.prog 3 #[] w fun e w' => e = .returned (.bool true) ∧ Below w.heap.size w w' := by
  refine (callsIn_wide (n := 9)).1 ?_
  refine callsIn_of_wp_marks Try.func3 rfl trivial ?_ rfl
  simp only [Try.ntmps3, List.size_toArray, List.length_cons, List.length_nil, Nat.reduceAdd, Nat.reduceSub, Array.replicate_succ, Array.replicate_zero, List.push_toArray, List.append_toArray, List.nil_append, List.cons_append]
  gi_wp2_with (refine ⟨trivial, ?_⟩; gi_at_call 4; refine (callsIn_wide.2 (rnewx _ _ _)).mono ?_; rintro e w1 ⟨rfl, rfl⟩)
  obtain ⟨W0, hW0⟩ : ∃ W0, W0 = (((w.alloc (.cells #[.bool false] 4)).alloc (.cells #[.pointer none, .pointer none] 25)).alloc (.cells #[.pointer none, .pointer none] 25)).alloc (.cells #[.pointer none, .pointer (some ⟨w.heap.size + 1, 0, none⟩), .pointer (some ⟨w.heap.size + 2, 0, none⟩)] 26) := ⟨_, rfl⟩
  have hG : Gst w W0 [] := by
    rw [hW0]
    exact ⟨heap_past (by simp <;> omega) (heap_past (by simp <;> omega) (heap_past (by simp) (heap_here rfl))), heap_past (by simp <;> omega) (heap_past (by simp) (heap_here (by simp))), heap_past (by simp) (heap_here (by simp)), heap_here (by simp), ((((Below.refl _ _).alloc (by simp) _).alloc (by simp) _).alloc (by simp <;> omega) _).alloc (by simp <;> omega) _, fun D hD => (by cases hD), fun D hD => (by cases hD), List.Pairwise.nil⟩
  rw [← hW0]
  have HG := Lib.hid hG
  have cr := cell_of_row _ _ 0 _ _ _ hG.res
  have ca := cell_of_row _ _ 0 _ _ _ hG.arr
  have cb := cell_of_row _ _ 1 _ _ _ hG.arr
  have cc := cell_of_row _ _ 2 _ _ _ hG.arr
  clear hG hW0
  refine wpIn_loop_rounds 4 ?_
  rw [roundsIn_succ]
  gi_wp2_with (first | (refine ⟨trivial, ?_⟩; gi_at_call 5; refine (callsIn_wide.2 (z5 _ _ _ _ (.inl rfl))).mono ?_; rintro e w1 ⟨rfl, b1⟩; unfold wk0; have a1 := Below.alloc b1 b1.size (.cells #[.int .i64 0, .int .i64 0, .int .i64 0, .int .i64 0, .int .i64 0] 33); replace HG := Lib.hid (HG.out.below a1); clear a1 b1; (try clear cr ca cb cc)) | (refine ⟨trivial, ?_⟩; gi_at_call 6; refine (callsIn_wide.2 (z6 _ _ _ _ _ (.inl rfl))).mono ?_; rintro e w1 ⟨rfl, b1⟩; unfold wk0; have a1 := Below.alloc b1 b1.size (.cells #[.int .i64 0, .int .i64 0, .int .i64 0, .int .i64 0, .int .i64 0] 33); replace HG := Lib.hid (HG.out.below a1); clear a1 b1; (try clear cr ca cb cc)) | (refine ⟨trivial, ?_⟩; gi_at_call 7; refine (callsIn_wide.2 (z7 _ _ _ _ _ (.inl rfl))).mono ?_; rintro e w2 ⟨rfl, b2⟩; replace HG := Lib.hid (HG.out.below b2); clear b2; (try clear cr ca cb cc)) | (refine ⟨trivial, ?_⟩; gi_at_call 8; refine (callsIn_wide.2 (z8 _ _ _ _ _ (.inl rfl))).mono ?_; rintro e w2 ⟨rfl, b2⟩; replace HG := Lib.hid (HG.out.below b2); clear b2; (try clear cr ca cb cc)) | (refine ⟨trivial, ?_⟩; gi_at_call 9; refine (callsIn_wide.2 (z9 _ _ _ _ _ _ (.inl rfl))).mono ?_; rintro e w2 ⟨rfl, b2⟩; replace HG := Lib.hid (HG.out.below b2); clear b2; (try clear cr ca cb cc)) | (refine ⟨trivial, ?_⟩; gi_at_call 10; refine (callsIn_wide.2 (z10 _ _ _ _ _ _ _ (.inl rfl))).mono ?_; rintro e w2 ⟨rfl, b2⟩; replace HG := Lib.hid (HG.out.below b2); clear b2; (try clear cr ca cb cc)) | (refine ⟨trivial, ?_⟩; gi_at_call 11; refine (callsIn_wide.2 (z11 _ _ _ (.inl rfl))).mono ?_; rintro e w2 ⟨rfl, b2⟩; replace HG := Lib.hid (HG.out.below b2); clear b2; (try clear cr ca cb cc)) | (refine ⟨trivial, ?_⟩; gi_at_call 12; refine (callsIn_wide.2 (z12 _ _ _ (.inl rfl))).mono ?_; rintro e w3 ⟨rfl, hc, b3⟩; have HC := Lib.hid hc; replace HG := Lib.hid (HG.out.below b3); clear hc b3))
  refine wpIn_rangeFunc_ownF (F := Fence.wide) (n := 9) (α := Empty) (encs := encs) (Kp := KeepsWalks) (S := fun _ => True) (Sp := fun _ => False) (N := 0) rfl (by omega) (gf := 27) (lb := #[.pointer (some ⟨_, 0, none⟩)]) rfl trivial (enters_of Try.func27 (by kernel_rfl) rfl)
    (it_stopsK (9 - 1) _ w3 HC.out) walksK_t walksK_b (Below.refl _ _) (fun x => x.elim) (fun _ W' => Below w3.heap.size w3 W') (fun _ _ _ => False) (ownFrom_below (Nat.le_refl _) (Nat.le_refl _)) (fun _ => fun s A B row h _ _ => h) (Below.refl _ _) (fun x => x.elim) ?assign ?body ?done ?stop
  case assign => intro l x; exact x.elim
  case body => intro l pre x; exact x.elim
  case stop => rintro D c pre W hD h; exact h.elim
  case done =>
    rintro D0 ys W hD _ hb hK
    have HGD := Lib.hid (HG.out.more hb hD hK)
    clear HG hb hK hD HC
    have HG := HGD
    clear HGD
    have cr := cell_of_row _ _ 0 _ _ _ HG.out.res
    have ca := cell_of_row _ _ 0 _ _ _ HG.out.arr
    have cb := cell_of_row _ _ 1 _ _ _ HG.out.arr
    have cc := cell_of_row _ _ 2 _ _ _ HG.out.arr
    gi_wp2
    rw [roundsIn_succ]
    gi_wp2_with (first | (refine ⟨trivial, ?_⟩; gi_at_call 5; refine (callsIn_wide.2 (z5 _ _ _ _ (.inr ⟨_, rfl, HG.out.zero⟩))).mono ?_; rintro e w1 ⟨rfl, b1⟩; unfold wk0; have a1 := Below.alloc b1 b1.size (.cells #[.int .i64 0, .int .i64 0, .int .i64 0, .int .i64 0, .int .i64 0] 33); replace HG := Lib.hid (HG.out.below a1); clear a1 b1; (try clear cr ca cb cc)) | (refine ⟨trivial, ?_⟩; gi_at_call 6; refine (callsIn_wide.2 (z6 _ _ _ _ _ (.inr ⟨_, rfl, HG.out.zero⟩))).mono ?_; rintro e w1 ⟨rfl, b1⟩; unfold wk0; have a1 := Below.alloc b1 b1.size (.cells #[.int .i64 0, .int .i64 0, .int .i64 0, .int .i64 0, .int .i64 0] 33); replace HG := Lib.hid (HG.out.below a1); clear a1 b1; (try clear cr ca cb cc)) | (refine ⟨trivial, ?_⟩; gi_at_call 7; refine (callsIn_wide.2 (z7 _ _ _ _ _ (.inr ⟨_, rfl, HG.out.zero⟩))).mono ?_; rintro e w2 ⟨rfl, b2⟩; replace HG := Lib.hid (HG.out.below b2); clear b2; (try clear cr ca cb cc)) | (refine ⟨trivial, ?_⟩; gi_at_call 8; refine (callsIn_wide.2 (z8 _ _ _ _ _ (.inr ⟨_, rfl, HG.out.zero⟩))).mono ?_; rintro e w2 ⟨rfl, b2⟩; replace HG := Lib.hid (HG.out.below b2); clear b2; (try clear cr ca cb cc)) | (refine ⟨trivial, ?_⟩; gi_at_call 9; refine (callsIn_wide.2 (z9 _ _ _ _ _ _ (.inr ⟨_, rfl, HG.out.zero⟩))).mono ?_; rintro e w2 ⟨rfl, b2⟩; replace HG := Lib.hid (HG.out.below b2); clear b2; (try clear cr ca cb cc)) | (refine ⟨trivial, ?_⟩; gi_at_call 10; refine (callsIn_wide.2 (z10 _ _ _ _ _ _ _ (.inr ⟨_, rfl, HG.out.zero⟩))).mono ?_; rintro e w2 ⟨rfl, b2⟩; replace HG := Lib.hid (HG.out.below b2); clear b2; (try clear cr ca cb cc)) | (refine ⟨trivial, ?_⟩; gi_at_call 11; refine (callsIn_wide.2 (z11 _ _ _ (.inr ⟨_, rfl, HG.out.zero⟩))).mono ?_; rintro e w2 ⟨rfl, b2⟩; replace HG := Lib.hid (HG.out.below b2); clear b2; (try clear cr ca cb cc)) | (refine ⟨trivial, ?_⟩; gi_at_call 12; refine (callsIn_wide.2 (z12 _ _ _ (.inr ⟨_, rfl, HG.out.zero⟩))).mono ?_; rintro e w3 ⟨rfl, hc, b3⟩; have HC := Lib.hid hc; replace HG := Lib.hid (HG.out.below b3); clear hc b3))
    refine wpIn_rangeFunc_ownF (F := Fence.wide) (n := 9) (α := Empty) (encs := encs) (Kp := KeepsWalks) (S := fun _ => True) (Sp := fun _ => False) (N := 0) rfl (by omega) (gf := 27) (lb := #[.pointer (some ⟨_, 0, none⟩)]) rfl trivial (enters_of Try.func27 (by kernel_rfl) rfl)
      (it_stopsK (9 - 1) _ w3 HC.out) walksK_t walksK_b (Below.refl _ _) (fun x => x.elim) (fun _ W' => Below w3.heap.size w3 W') (fun _ _ _ => False) (ownFrom_below (Nat.le_refl _) (Nat.le_refl _)) (fun _ => fun s A B row h _ _ => h) (Below.refl _ _) (fun x => x.elim) ?assign ?body ?done ?stop
    case assign => intro l x; exact x.elim
    case body => intro l pre x; exact x.elim
    case stop => rintro D c pre W hD h; exact h.elim
    case done =>
      rintro D1 ys W hD _ hb hK
      have HGD := Lib.hid (HG.out.more hb hD hK)
      clear HG hb hK hD HC
      have HG := HGD
      clear HGD
      have cr := cell_of_row _ _ 0 _ _ _ HG.out.res
      have ca := cell_of_row _ _ 0 _ _ _ HG.out.arr
      have cb := cell_of_row _ _ 1 _ _ _ HG.out.arr
      have cc := cell_of_row _ _ 2 _ _ _ HG.out.arr
      gi_wp2
      rw [roundsIn_succ]
      gi_wp2_with (first | (refine ⟨trivial, ?_⟩; gi_at_call 5; refine (callsIn_wide.2 (z5 _ _ _ _ (.inr ⟨_, rfl, HG.out.third⟩))).mono ?_; rintro e w1 ⟨rfl, b1⟩; unfold wk0; have a1 := Below.alloc b1 b1.size (.cells #[.int .i64 0, .int .i64 0, .int .i64 0, .int .i64 0, .int .i64 0] 33); replace HG := Lib.hid (HG.out.below a1); clear a1 b1; (try clear cr ca cb cc)) | (refine ⟨trivial, ?_⟩; gi_at_call 6; refine (callsIn_wide.2 (z6 _ _ _ _ _ (.inr ⟨_, rfl, HG.out.third⟩))).mono ?_; rintro e w1 ⟨rfl, b1⟩; unfold wk0; have a1 := Below.alloc b1 b1.size (.cells #[.int .i64 0, .int .i64 0, .int .i64 0, .int .i64 0, .int .i64 0] 33); replace HG := Lib.hid (HG.out.below a1); clear a1 b1; (try clear cr ca cb cc)) | (refine ⟨trivial, ?_⟩; gi_at_call 7; refine (callsIn_wide.2 (z7 _ _ _ _ _ (.inr ⟨_, rfl, HG.out.third⟩))).mono ?_; rintro e w2 ⟨rfl, b2⟩; replace HG := Lib.hid (HG.out.below b2); clear b2; (try clear cr ca cb cc)) | (refine ⟨trivial, ?_⟩; gi_at_call 8; refine (callsIn_wide.2 (z8 _ _ _ _ _ (.inr ⟨_, rfl, HG.out.third⟩))).mono ?_; rintro e w2 ⟨rfl, b2⟩; replace HG := Lib.hid (HG.out.below b2); clear b2; (try clear cr ca cb cc)) | (refine ⟨trivial, ?_⟩; gi_at_call 9; refine (callsIn_wide.2 (z9 _ _ _ _ _ _ (.inr ⟨_, rfl, HG.out.third⟩))).mono ?_; rintro e w2 ⟨rfl, b2⟩; replace HG := Lib.hid (HG.out.below b2); clear b2; (try clear cr ca cb cc)) | (refine ⟨trivial, ?_⟩; gi_at_call 10; refine (callsIn_wide.2 (z10 _ _ _ _ _ _ _ (.inr ⟨_, rfl, HG.out.third⟩))).mono ?_; rintro e w2 ⟨rfl, b2⟩; replace HG := Lib.hid (HG.out.below b2); clear b2; (try clear cr ca cb cc)) | (refine ⟨trivial, ?_⟩; gi_at_call 11; refine (callsIn_wide.2 (z11 _ _ _ (.inr ⟨_, rfl, HG.out.third⟩))).mono ?_; rintro e w2 ⟨rfl, b2⟩; replace HG := Lib.hid (HG.out.below b2); clear b2; (try clear cr ca cb cc)) | (refine ⟨trivial, ?_⟩; gi_at_call 12; refine (callsIn_wide.2 (z12 _ _ _ (.inr ⟨_, rfl, HG.out.third⟩))).mono ?_; rintro e w3 ⟨rfl, hc, b3⟩; have HC := Lib.hid hc; replace HG := Lib.hid (HG.out.below b3); clear hc b3))
      refine wpIn_rangeFunc_ownF (F := Fence.wide) (n := 9) (α := Empty) (encs := encs) (Kp := KeepsWalks) (S := fun _ => True) (Sp := fun _ => False) (N := 0) rfl (by omega) (gf := 27) (lb := #[.pointer (some ⟨_, 0, none⟩)]) rfl trivial (enters_of Try.func27 (by kernel_rfl) rfl)
        (it_stopsK (9 - 1) _ w3 HC.out) walksK_t walksK_b (Below.refl _ _) (fun x => x.elim) (fun _ W' => Below w3.heap.size w3 W') (fun _ _ _ => False) (ownFrom_below (Nat.le_refl _) (Nat.le_refl _)) (fun _ => fun s A B row h _ _ => h) (Below.refl _ _) (fun x => x.elim) ?assign ?body ?done ?stop
      case assign => intro l x; exact x.elim
      case body => intro l pre x; exact x.elim
      case stop => rintro D c pre W hD h; exact h.elim
      case done =>
        rintro D2 ys W hD _ hb hK
        have HGD := Lib.hid (HG.out.more hb hD hK)
        clear HG hb hK hD HC
        have HG := HGD
        clear HGD
        have cr := cell_of_row _ _ 0 _ _ _ HG.out.res
        have ca := cell_of_row _ _ 0 _ _ _ HG.out.arr
        have cb := cell_of_row _ _ 1 _ _ _ HG.out.arr
        have cc := cell_of_row _ _ 2 _ _ _ HG.out.arr
        gi_wp2
        rw [roundsIn_succ]
        clear ca cb cc
        gi_wp2_with (refine ⟨trivial, ?_⟩; gi_at_call 13; refine (callsIn_wide.2 (known _)).mono ?_; rintro e w6 ⟨rfl, b6⟩; have HG6 := Lib.hid (HG.out.below b6); have cr6 := cell_of_row _ _ 0 _ _ _ HG6.out.res; have fr6 := frozen_of_row _ _ 0 _ _ HG6.out.res; clear b6 cr)
        have g6 := HG6.out
        clear HG6 cr6 fr6 HG
        have hb := g6.b.setCell (p := ⟨w.heap.size, 0, none⟩) (Nat.le_refl _) (.bool true)
        have hr := heap_setCell_same w6 w.heap.size 0 _ _ (.bool true) g6.res
        have e0 := g6.d D0 (by simp)
        have e1 := g6.d D1 (by simp)
        have e2 := g6.d D2 (by simp)
        have o0 := g6.ge D0 (by simp)
        have o1 := g6.ge D1 (by simp)
        have o2 := g6.ge D2 (by simp)
        have hpw := g6.pw
        simp only [List.pairwise_cons, List.mem_cons, List.not_mem_nil, or_false, forall_eq_or_imp, forall_eq] at hpw
        obtain ⟨⟨q1, q2⟩, ⟨q3, _⟩⟩ := hpw
        have hK2 : (w6.setCell ⟨w.heap.size, 0, none⟩ (.bool true)).heap[D2]? = some (.deferred (some [])) := (heap_setCell_other _ _ _ _ (by show D2 ≠ w.heap.size; omega)).trans e2
        have hK1 : ((w6.setCell ⟨w.heap.size, 0, none⟩ (.bool true)).putObj D2 (.deferred none)).heap[D1]? = some (.deferred (some [])) := (World.putObj_heap_other (by omega)).trans ((heap_setCell_other _ _ _ _ (by show D1 ≠ w.heap.size; omega)).trans e1)
        have hK0 : (((w6.setCell ⟨w.heap.size, 0, none⟩ (.bool true)).putObj D2 (.deferred none)).putObj D1 (.deferred none)).heap[D0]? = some (.deferred (some [])) := (World.putObj_heap_other (by omega)).trans ((World.putObj_heap_other (by omega)).trans ((heap_setCell_other _ _ _ _ (by show D0 ≠ w.heap.size; omega)).trans e0))
        refine ⟨by simp, .inl ⟨_, _, rfl, run_takeDeferred hK2, ⟨by simp, .inl ⟨_, _, rfl, run_takeDeferred hK1, ⟨by simp, .inl ⟨_, _, rfl, run_takeDeferred hK0, ?_⟩⟩⟩⟩⟩⟩
        have hr1 := ((World.putObj_heap_other (o := .deferred none) (show w.heap.size ≠ D2 by omega)).trans hr)
        have hr2 := ((World.putObj_heap_other (o := .deferred none) (show w.heap.size ≠ D1 by omega)).trans hr1)
        have hr3 := ((World.putObj_heap_other (o := .deferred none) (show w.heap.size ≠ D0 by omega)).trans hr2)
        refine ⟨_, results_bool rfl _ _ w.heap.size (.bool true) rfl ?_, rfl, ?_⟩
        · exact cell_of_row _ _ 0 _ _ _ hr3
        · have sz := g6.b.size
          exact ((hb.grown (grownBy_putObj' _ _ _) hb.size (fun k hk => by cases hk; omega)).grown (grownBy_putObj' _ _ _) (by simpa using hb.size) (fun k hk => by cases hk; omega)).grown (grownBy_putObj' _ _ _) (by simpa using hb.size) (fun k hk => by cases hk; omega)
theorem own : ownKnob Try.prog.godebug = none := by kernel_rfl
theorem laidOut : laidOutB Try.prog = true := by kernel_rfl
theorem hread : ∀ t ∈ Try.f3.params.toList, Try.prog.readableRec t = true ∧ t < Try.prog.types.size := by
  rw [Try.params3]
  intro t ht
  simp at ht

set_option maxRecDepth 100000 in
theorem lifted (os : Os) (started : os.Started) (H : Type) (enc : TypeId × Value → H) :
    ReturnsInHanded {} Try.checked os 3 .any (Rows.rttNilSpec.pre6 enc Try.prog Try.f3 Rows.rttNilRow.domain false) (Rows.rttNilSpec.post enc Try.prog Try.f3 false true false false) := by
  refine returnsInHanded_of_change (C := Try.checked) own started (by kernel_rfl) Try.func3
    (ChangeSpec.witness6 (enc := enc) (C := Try.checked) false ⟨#[], #[], []⟩ 8 (by kernel_rfl) (by kernel_rfl) (by kernel_rfl) (by kernel_rfl)) ?_
  intro W base args ds gs before hval0 hW hcnd _
  have hval : ∀ (j : Nat) t v, Try.f3.params[j]? = some t → args[j]? = some v → Value.okWide Try.prog W .any base t v := hval0
  have hW' := hW
  obtain ⟨p, q, hA0, hV, rfl, hfz, hnd⟩ := hW
  have hA : DataW.TrodAll enc Try.prog W 0 (fun _ => true) true Try.f3.params.toList args.toList ds p := hA0
  have hA1 := hA
  rw [Try.params3] at hA hval
  obtain ⟨hargs, rfl, rfl⟩ := trodAll_nil hA
  obtain rfl : args = #[] := by cases args; simp_all
  obtain ⟨rfl, rfl⟩ := trodVars_none hV
  clear hA0 hval0
  simp only [List.append_nil] at hW' hA1
  refine (walk W).mono fun e W' ⟨he, hg⟩ => ?_
  subst he
  exact ⟨_, rfl, post_true hW' hA1 rfl rfl (fun _ => rfl) rfl Try.underlying4 laidOut hread hg⟩

theorem over : Rows.rttNilRow.holds Try.pinned (OpenSpec.ofChange Rows.rttNilSpec) :=
  OpenClaim.holds_of_wide 3 Try.f3 rfl rfl rfl rfl rfl rfl rfl ⟨rfl, rfl, rfl, rfl, rfl⟩ rfl rfl rfl rfl rfl (by kernel_rfl) Try.func3 (by kernel_rfl)
    (of_decide_eq_true (by kernel_rfl)) (by unfold Func.isWrapper; first | (rw [if_pos (by decide +kernel)]; kernel_rfl) | (rw [if_neg (by decide +kernel)]; exact ⟨rfl, rfl⟩))
    (fun os started H enc _ => lifted os started H enc)

/-- The statement. -/
theorem proved : Rows.RttNilSaid := over
end RttNil
end Go.Proofs.Ytfeoaphibkcejaa
