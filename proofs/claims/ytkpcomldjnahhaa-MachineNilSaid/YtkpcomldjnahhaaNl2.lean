/- The statement MachineNil: what memory that is not there, and a zero one, answer. -/
import Derived.RangeFuncNested
import Derived.RangeFuncBound
import Derived.RangeFuncCalls
import Derived.RangeFuncLeaves
import Derived.RangeFuncMany
import Derived.Shelf.Abstract
import Derived.Shelf.RegionOpen
import Derived.WalkKit
import Derived.OwnWalkIn
import Derived.TacticsInMore
import Derived.LoopNIn
import Derived.LoopIn
import Derived.Test.YtkpcomldjnahhaaNil
namespace Go.Proofs.Ytkpcomldjnahhaa
open Go.ChangeShapes Go.WideShapes Go.ChangeAt Go.RowKit Go.Shelf
set_option linter.unusedSimpArgs false
attribute [local go_sem] Oper.semAt_some
namespace MachineNil

theorem fn_ne (a : Value) (w : World) : (binOp .eql 59 (.func (.func 36) #[] #[a]) Value.nilFunc).run Try.prog w = .ok (.bool false) w := by rfl
attribute [local go_sem] fn_ne zeroV
def encs (x : Empty) : Array Value := x.elim
set_option maxHeartbeats 1000000 in
theorem it_stops (n c : Nat) (w : World) (hc : w.cell? ⟨c, 0, none⟩ = some (.pointer none)) :
    SeqStopsA Fence.wide n Try.prog 36 #[.pointer (some ⟨c, 0, none⟩)] encs (fun _ => True) (fun _ => False) 0 w := fun l J Jx W hW hJ hJx hY h0 => by
  have hlt := World.block_lt_of_cell? w _ hc
  have hc' : W.cell? ⟨c, 0, none⟩ = some (.pointer none) := (hW.cell (p := ⟨c, 0, none⟩) hlt).trans hc
  have H0 := Lib.hid h0
  refine callsIn_wide.2 ?_
  clear hY hJ hJx h0 hc hW
  show Calls Try.prog 36 #[.func (.yield l) #[] #[], .pointer (some ⟨c, 0, none⟩)] W _
  go_enter Try.func36, Try.ntmps36
  go_wp2_with (go_at_call 15; refine (z15 _ _ (.inl rfl)).mono ?_; rintro e w1 ⟨rfl, rfl⟩)
  refine wp_loop_rounds 1 ?_
  rw [rounds_succ]
  go_wp2
  go_end0
  exact ⟨⟨_, rfl⟩, .inl ⟨[], trivial, H0.out⟩⟩
theorem it_stopsK (n c : Nat) (w : World) (hc : w.cell? ⟨c, 0, none⟩ = some (.pointer none)) :
    SeqStopsK Fence.wide n Try.prog 36 #[.pointer (some ⟨c, 0, none⟩)] encs KeepsWalks (fun _ => True) (fun _ => False) 0 w := it_stops n c w hc

/-- What the law keeps in its own blocks. -/
structure Gst (w W : World) : Prop where
  res : W.heap[w.heap.size]? = some (.cells #[.bool false] 4 (0, 0))
  zero : W.heap[w.heap.size + 1]? = some (.cells #[.slice none 0 0] 65 (0, 0))
  arr : W.heap[w.heap.size + 2]? = some (.cells #[.pointer none, .pointer (some ⟨w.heap.size + 1, 0, none⟩)] 27 (0, 0))
  b : Below w.heap.size w W
theorem Gst.lt {w W : World} (h : Gst w W) : w.heap.size + 2 < W.heap.size := (Array.getElem?_eq_some_iff.1 h.arr).1
theorem Gst.below {w W W' : World} (h : Gst w W) (hb : Below W.heap.size W W') : Gst w W' :=
  have l := h.lt
  ⟨(hb.block _ (by omega)).trans h.res, (hb.block _ (by omega)).trans h.zero, (hb.block _ (by omega)).trans h.arr, h.b.trans (hb.mono h.b.size)⟩

structure GstD (w W : World) (D : Nat) : Prop where
  g : Gst w W
  d : W.heap[D]? = some (.deferred (some []))
  ge : w.heap.size ≤ D
theorem results_bool {fn : Func} {p : Tmp} (h : fn.results = #[.cell p 4]) (tmps : Array Value) (w : World) (b : Nat) (v : Value)
    (hp : tmps.getD p undef = .pointer (some ⟨b, 0, none⟩)) (hc : w.cell? ⟨b, 0, none⟩ = some v) : (results fn tmps).run Try.prog w = .ok v w := by
  have hp' : tmps[p]?.getD undef = .pointer (some ⟨b, 0, none⟩) := by simpa using hp
  simp [results, h, hp', asAddr, loadVar, isAgg, underlying, Try.underlying4, load, Sem.run, hc, Result.andThen]
theorem GstD.below {w W W' : World} {D : Nat} (h : GstD w W D) (hb : Below W.heap.size W W') : GstD w W' D :=
  ⟨h.g.below hb, (hb.block _ (Array.getElem?_eq_some_iff.1 h.d).1).trans h.d, h.ge⟩
theorem GstD.lt {w W : World} {D : Nat} (h : GstD w W D) : D < W.heap.size := (Array.getElem?_eq_some_iff.1 h.d).1

set_option maxHeartbeats 4000000 in
set_option maxRecDepth 100000 in
theorem walk (w : World) : Calls Try.prog 7 #[] w fun e w' => e = .returned (.bool true) ∧ Below w.heap.size w w' := by
  refine (callsIn_wide (n := 9)).1 ?_
  refine callsIn_of_wp_marks Try.func7 rfl trivial ?_ rfl
  simp only [Try.ntmps7, List.size_toArray, List.length_cons, List.length_nil, Nat.reduceAdd, Nat.reduceSub, Array.replicate_succ, Array.replicate_zero, List.push_toArray, List.append_toArray, List.nil_append, List.cons_append]
  gi_wp2
  obtain ⟨W0, hW0⟩ : ∃ W0, W0 = ((w.alloc (.cells #[.bool false] 4)).alloc (.cells #[.slice none 0 0] 65)).alloc (.cells #[.pointer none, .pointer (some ⟨w.heap.size + 1, 0, none⟩)] 27) := ⟨_, rfl⟩
  have hG : Gst w W0 := by
    rw [hW0]
    exact ⟨heap_past (by simp; omega) (heap_past (by simp) (heap_here rfl)), heap_past (by simp) (heap_here (by simp)), heap_here (by simp), (((Below.refl _ _).alloc (by simp) _).alloc (by simp) _).alloc (by simp; omega) _⟩
  rw [← hW0]
  have HG := Lib.hid hG
  have cr := cell_of_row _ _ 0 _ _ _ hG.res
  have ca := cell_of_row _ _ 0 _ _ _ hG.arr
  have cb := cell_of_row _ _ 1 _ _ _ hG.arr
  clear hG hW0
  refine wpIn_loop_rounds 3 ?_
  rw [roundsIn_succ]
  gi_wp2_with (first | (refine ⟨trivial, ?_⟩; gi_at_call 20; refine (callsIn_wide.2 (z20 _ _ _ (.inl rfl))).mono ?_; rintro e w1 ⟨rfl, b1⟩; have a1 := Below.alloc b1 b1.size (.cells (bytesV (zeroB 1)).toArray 52); replace HG := Lib.hid (HG.out.below a1); clear a1 b1 cr ca cb; have hst := st_new w1 (zeroB 1) (zeroB 1) zlen zlen; have hln : (bytesV (zeroB 1)).length = 128 := (by rw [bytesV_len, zlen])) | (refine ⟨trivial, ?_⟩; gi_at_call 17; refine (callsIn_wide.2 (z17 _ _ _ (.inl rfl))).mono ?_; rintro e w2 ⟨rfl, rfl⟩) | (refine ⟨trivial, ?_⟩; gi_at_call 13; refine (callsIn_wide.2 (z13 _ _ _ _ (.inl rfl))).mono ?_; rintro e w2 ⟨rfl, rfl⟩) | (refine ⟨trivial, ?_⟩; gi_at_call 12; refine (callsIn_wide.2 (z12 _ _ _ _ (.inl rfl))).mono ?_; rintro e w2 ⟨rfl, rfl⟩) | (refine ⟨trivial, ?_⟩; gi_at_call 11; refine (callsIn_wide.2 (z11 _ _ _ _ (.inl rfl))).mono ?_; rintro e w2 ⟨rfl, rfl⟩) | (refine ⟨trivial, ?_⟩; gi_at_call 25; refine (callsIn_wide.2 (z25 _ _ _ _ (.inl rfl))).mono ?_; rintro e w2 ⟨rfl, b2⟩; replace HG := Lib.hid (HG.out.below b2); clear b2) | (refine ⟨trivial, ?_⟩; gi_at_call 26; refine (callsIn_wide.2 (z26 _ _ _ (.inl rfl))).mono ?_; rintro e w2 ⟨rfl, b2⟩; replace HG := Lib.hid (HG.out.below b2); clear b2) | (refine ⟨trivial, ?_⟩; gi_at_call 15; refine (callsIn_wide.2 (z15 _ _ (.inl rfl))).mono ?_; rintro e w2 ⟨rfl, rfl⟩) | (refine ⟨trivial, ?_⟩; gi_at_call 22; refine (callsIn_wide.2 (z22 _ _ (.inl rfl))).mono ?_; rintro e w2 ⟨rfl, rfl⟩) | (refine ⟨trivial, ?_⟩; gi_at_call 24; refine (callsIn_wide.2 (z24 _ _ (.inl rfl))).mono ?_; rintro e w2 ⟨rfl, rfl⟩) | (refine ⟨trivial, ?_⟩; gi_at_call 23; refine (callsIn_wide.2 (z23 _ _ (.inl rfl))).mono ?_; rintro e w3 ⟨rfl, hc, b3⟩; have HC := Lib.hid hc; replace HG := Lib.hid (HG.out.below b3); clear hc b3))
  refine wpIn_rangeFunc_ownF (F := Fence.wide) (n := 9) (α := Empty) (encs := encs) (Kp := KeepsWalks) (S := fun _ => True) (Sp := fun _ => False) (N := 0) rfl (by omega) (gf := 36) (lb := #[.pointer (some ⟨_, 0, none⟩)]) rfl trivial (enters_of Try.func36 (by kernel_rfl) rfl)
    (it_stopsK (9 - 1) _ w3 HC.out) walksK_t walksK_b (Below.refl _ _) (fun x => x.elim) (fun _ W' => Below w3.heap.size w3 W') (fun _ _ _ => False) (ownFrom_below (Nat.le_refl _) (Nat.le_refl _)) (fun _ => fun s A B row h _ _ => h) (Below.refl _ _) (fun x => x.elim) ?assign ?body ?done ?stop
  case assign => intro l x; exact x.elim
  case body => intro l pre x; exact x.elim
  case stop => rintro D c pre W hD h; exact h.elim
  case done =>
    rintro D ys W hD _ hb hK
    have HGD : Hid (GstD w W D) := ⟨HG.out.below hb, hK, by have := HG.out.lt; omega⟩
    clear HG hb hK hD HC
    have HG := HGD
    clear HGD
    have cr := cell_of_row _ _ 0 _ _ _ HG.out.g.res
    have ca := cell_of_row _ _ 0 _ _ _ HG.out.g.arr
    have cb := cell_of_row _ _ 1 _ _ _ HG.out.g.arr
    gi_wp2
    rw [roundsIn_succ]
    gi_wp2_with (first | (refine ⟨trivial, ?_⟩; gi_at_call 20; refine (callsIn_wide.2 (z20 _ _ _ (.inr ⟨_, rfl, HG.out.g.zero⟩))).mono ?_; rintro e w1 ⟨rfl, b1⟩; have a1 := Below.alloc b1 b1.size (.cells (bytesV (zeroB 1)).toArray 52); replace HG := Lib.hid (HG.out.below a1); clear a1 b1 cr ca cb; have hst := st_new w1 (zeroB 1) (zeroB 1) zlen zlen; have hln : (bytesV (zeroB 1)).length = 128 := (by rw [bytesV_len, zlen])) | (refine ⟨trivial, ?_⟩; gi_at_call 17; refine (callsIn_wide.2 (z17 _ _ _ (.inr ⟨_, rfl, HG.out.g.zero⟩))).mono ?_; rintro e w2 ⟨rfl, rfl⟩) | (refine ⟨trivial, ?_⟩; gi_at_call 13; refine (callsIn_wide.2 (z13 _ _ _ _ (.inr ⟨_, rfl, HG.out.g.zero⟩))).mono ?_; rintro e w2 ⟨rfl, rfl⟩) | (refine ⟨trivial, ?_⟩; gi_at_call 12; refine (callsIn_wide.2 (z12 _ _ _ _ (.inr ⟨_, rfl, HG.out.g.zero⟩))).mono ?_; rintro e w2 ⟨rfl, rfl⟩) | (refine ⟨trivial, ?_⟩; gi_at_call 11; refine (callsIn_wide.2 (z11 _ _ _ _ (.inr ⟨_, rfl, HG.out.g.zero⟩))).mono ?_; rintro e w2 ⟨rfl, rfl⟩) | (refine ⟨trivial, ?_⟩; gi_at_call 25; refine (callsIn_wide.2 (z25 _ _ _ _ (.inr ⟨_, rfl, HG.out.g.zero⟩))).mono ?_; rintro e w2 ⟨rfl, b2⟩; replace HG := Lib.hid (HG.out.below b2); clear b2) | (refine ⟨trivial, ?_⟩; gi_at_call 26; refine (callsIn_wide.2 (z26 _ _ _ (.inr ⟨_, rfl, HG.out.g.zero⟩))).mono ?_; rintro e w2 ⟨rfl, b2⟩; replace HG := Lib.hid (HG.out.below b2); clear b2) | (refine ⟨trivial, ?_⟩; gi_at_call 15; refine (callsIn_wide.2 (z15 _ _ (.inr ⟨_, rfl, HG.out.g.zero⟩))).mono ?_; rintro e w2 ⟨rfl, rfl⟩) | (refine ⟨trivial, ?_⟩; gi_at_call 22; refine (callsIn_wide.2 (z22 _ _ (.inr ⟨_, rfl, HG.out.g.zero⟩))).mono ?_; rintro e w2 ⟨rfl, rfl⟩) | (refine ⟨trivial, ?_⟩; gi_at_call 24; refine (callsIn_wide.2 (z24 _ _ (.inr ⟨_, rfl, HG.out.g.zero⟩))).mono ?_; rintro e w2 ⟨rfl, rfl⟩) | (refine ⟨trivial, ?_⟩; gi_at_call 23; refine (callsIn_wide.2 (z23 _ _ (.inr ⟨_, rfl, HG.out.g.zero⟩))).mono ?_; rintro e w3 ⟨rfl, hc, b3⟩; have HC := Lib.hid hc; replace HG := Lib.hid (HG.out.below b3); clear hc b3))
    refine wpIn_rangeFunc_ownF (F := Fence.wide) (n := 9) (α := Empty) (encs := encs) (Kp := KeepsWalks) (S := fun _ => True) (Sp := fun _ => False) (N := 0) rfl (by omega) (gf := 36) (lb := #[.pointer (some ⟨_, 0, none⟩)]) rfl trivial (enters_of Try.func36 (by kernel_rfl) rfl)
      (it_stopsK (9 - 1) _ w3 HC.out) walksK_t walksK_b (Below.refl _ _) (fun x => x.elim) (fun _ W' => Below w3.heap.size w3 W') (fun _ _ _ => False) (ownFrom_below (Nat.le_refl _) (Nat.le_refl _)) (fun _ => fun s A B row h _ _ => h) (Below.refl _ _) (fun x => x.elim) ?assign ?body ?done ?stop
    case assign => intro l x; exact x.elim
    case body => intro l pre x; exact x.elim
    case stop => rintro D c pre W hD h; exact h.elim
    case done =>
      rintro D2 ys2 W2 hD2 _ hb2 hK2
      have hne : D2 ≠ D ∧ D < D2 := by have := HG.out.lt; omega
      have HG2 := Lib.hid (HG.out.below hb2)
      have HK2 := Lib.hid hK2
      clear HG hb2 hK2 hD2 HC
      have cr := cell_of_row _ _ 0 _ _ _ HG2.out.g.res
      have ca := cell_of_row _ _ 0 _ _ _ HG2.out.g.arr
      have cb := cell_of_row _ _ 1 _ _ _ HG2.out.g.arr
      gi_wp2
      rw [roundsIn_succ]
      clear ca cb
      gi_wp2_with (refine ⟨trivial, ?_⟩; gi_at_call 9; refine (callsIn_wide.2 (known _)).mono ?_; rintro e w6 ⟨rfl, b6⟩; have HG6 := Lib.hid (HG2.out.below b6); have HK6 : Hid (w6.heap[D2]? = some (.deferred (some []))) := (b6.block _ (Array.getElem?_eq_some_iff.1 HK2.out).1).trans HK2.out; have cr6 := cell_of_row _ _ 0 _ _ _ HG6.out.g.res; have fr6 := frozen_of_row _ _ 0 _ _ HG6.out.g.res; clear b6 cr)
      have g6 := HG6.out.g
      have d6 := HG6.out.d
      have e6 := HK6.out
      have ge6 := HG6.out.ge
      clear HG6 HK6 cr6 fr6 HG2 HK2
      have n1 : D ≠ w.heap.size := fun e => by have := g6.res; rw [← e, d6] at this; cases this
      have hb := g6.b.setCell (p := ⟨w.heap.size, 0, none⟩) (Nat.le_refl _) (.bool true)
      have hr := heap_setCell_same w6 w.heap.size 0 _ _ (.bool true) g6.res
      have hK2 : (w6.setCell ⟨w.heap.size, 0, none⟩ (.bool true)).heap[D2]? = some (.deferred (some [])) := (heap_setCell_other _ _ _ _ (by show D2 ≠ w.heap.size; omega)).trans e6
      have hK1 : (w6.setCell ⟨w.heap.size, 0, none⟩ (.bool true)).heap[D]? = some (.deferred (some [])) := (heap_setCell_other _ _ _ _ n1).trans d6
      have hK1' : ((w6.setCell ⟨w.heap.size, 0, none⟩ (.bool true)).putObj D2 (.deferred none)).heap[D]? = some (.deferred (some [])) := (World.putObj_heap_other (fun e => hne.1 e.symm)).trans hK1
      refine ⟨by simp, .inl ⟨_, _, rfl, run_takeDeferred hK2, ⟨by simp, .inl ⟨_, _, rfl, run_takeDeferred hK1', ?_⟩⟩⟩⟩
      have hr1 := ((World.putObj_heap_other (o := .deferred none) (show w.heap.size ≠ D2 by omega)).trans hr)
      have hr2 := ((World.putObj_heap_other (o := .deferred none) (show w.heap.size ≠ D by omega)).trans hr1)
      refine ⟨_, results_bool rfl _ _ w.heap.size (.bool true) rfl ?_, rfl, ?_⟩
      · exact cell_of_row _ _ 0 _ _ _ hr2
      · have sz := g6.b.size
        exact (hb.grown (grownBy_putObj' _ _ _) hb.size (fun k hk => by cases hk; omega)).grown (grownBy_putObj' _ _ _) (by simpa using hb.size) (fun k hk => by cases hk; omega)
theorem hread : ∀ t ∈ Try.f7.params.toList, Try.prog.readableRec t = true ∧ t < Try.prog.types.size := by
  rw [Try.params7]
  intro t ht
  simp at ht

set_option maxRecDepth 100000 in
theorem lifted (os : Os) (started : os.Started) (H : Type) (enc : TypeId × Value → H) :
    ReturnsInHanded {} Try.checked os 7 .any (Rows.machineNilSpec.pre6 enc Try.prog Try.f7 Rows.machineNilRow.domain false) (Rows.machineNilSpec.post enc Try.prog Try.f7 false true false false) := by
  refine returnsInHanded_of_change (C := Try.checked) own started (by kernel_rfl) Try.func7
    (ChangeSpec.witness6 (enc := enc) (C := Try.checked) false ⟨#[], #[], []⟩ 8 (by kernel_rfl) (by kernel_rfl) (by kernel_rfl) (by kernel_rfl)) ?_
  intro W base args ds gs before hval0 hW hcnd _
  have hval : ∀ (j : Nat) t v, Try.f7.params[j]? = some t → args[j]? = some v → Value.okWide Try.prog W .any base t v := hval0
  have hW' := hW
  obtain ⟨p, q, hA0, hV, rfl, hfz, hnd⟩ := hW
  have hA : DataW.TrodAll enc Try.prog W 0 (fun _ => true) true Try.f7.params.toList args.toList ds p := hA0
  have hA1 := hA
  rw [Try.params7] at hA hval
  obtain ⟨hargs, rfl, rfl⟩ := trodAll_nil hA
  obtain rfl : args = #[] := by cases args; simp_all
  obtain ⟨rfl, rfl⟩ := trodVars_none hV
  clear hA0 hval0
  simp only [List.append_nil] at hW' hA1
  refine (walk W).mono fun e W' ⟨he, hg⟩ => ?_
  subst he
  exact ⟨_, rfl, post_true hW' hA1 rfl rfl (fun _ => rfl) rfl Try.underlying4 laidOut hread hg⟩

theorem over : Rows.machineNilRow.holds Try.pinned (OpenSpec.ofChange Rows.machineNilSpec) :=
  OpenClaim.holds_of_wide 7 Try.f7 rfl rfl rfl rfl rfl rfl rfl ⟨rfl, rfl, rfl, rfl, rfl⟩ rfl rfl rfl rfl rfl (by kernel_rfl) Try.func7 (by kernel_rfl)
    (of_decide_eq_true (by kernel_rfl)) (by unfold Func.isWrapper; first | (rw [if_pos (by decide +kernel)]; kernel_rfl) | (rw [if_neg (by decide +kernel)]; exact ⟨rfl, rfl⟩))
    (fun os started H enc _ => lifted os started H enc)

/-- The statement. -/
theorem proved : Rows.MachineNilSaid := over
end MachineNil
end Go.Proofs.Ytkpcomldjnahhaa
