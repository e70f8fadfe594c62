/- Contract: the law's beginning. No condition. -/
import Derived.Test.YtfeoaphibkcejaaCr
namespace Go.Proofs.Ytfeoaphibkcejaa
open Go.ChangeShapes Go.WideShapes Go.ChangeAt Go.RowKit
set_option linter.unusedSimpArgs false
set_option maxRecDepth 100000
attribute [local go_sem] zeroV

theorem rttnew (a b : Option Addr) (w : World) : Calls Try.prog 4 #[.pointer a, .pointer b] w fun e w' => e = .returned (.pointer (some ⟨w.heap.size, 0, none⟩)) ∧ w.alloc (.cells #[.pointer a, .pointer b] 25) = w' := by
  go_enter Try.func4, Try.ntmps4
  go_wp2
  go_ret
  exact ⟨rfl, rfl⟩
theorem Rt.same {w w' : World} {xb mb ab tb rb n : Nat} {B : List Int} {R : List Rw} (h : Rt w xb mb ab tb rb n B R) (k : ∀ i, i = xb ∨ i = mb ∨ i = ab ∨ i = tb ∨ i = rb → w'.heap[i]? = w.heap[i]?) : Rt w' xb mb ab tb rb n B R :=
  ⟨(k _ (by simp)).trans h.x, ⟨(k _ (by simp)).trans h.m.mem, (k _ (by simp)).trans h.m.all, h.m.ne, h.m.len, h.m.pos, h.m.max⟩, h.a, ⟨(k _ (by simp)).trans h.t.tab, (k _ (by simp)).trans h.t.rows, h.t.ne⟩, h.len, h.n1, h.n2, h.n3, h.n4, h.n5⟩
theorem set4 {w : World} {b t : Nat} {a0 a1 a2 a3 v0 v1 v2 v3 : Value} (h : w.heap[b]? = some (.cells #[a0, a1, a2, a3] t (0, 0))) :
    ((((w.setCell ⟨b, 0, none⟩ v0).setCell ⟨b, 1, none⟩ v1).setCell ⟨b, 2, none⟩ v2).setCell ⟨b, 3, none⟩ v3).heap[b]? = some (.cells #[v0, v1, v2, v3] t (0, 0)) :=
  heap_setCell_same _ _ 3 _ _ v3 (heap_setCell_same _ _ 2 _ _ v2 (heap_setCell_same _ _ 1 _ _ v1 (heap_setCell_same _ _ 0 _ _ v0 h)))
theorem other4 {w : World} {b k : Nat} (v0 v1 v2 v3 : Value) (h : k ≠ b) : ((((w.setCell ⟨b, 0, none⟩ v0).setCell ⟨b, 1, none⟩ v1).setCell ⟨b, 2, none⟩ v2).setCell ⟨b, 3, none⟩ v3).heap[k]? = w.heap[k]? :=
  (heap_setCell_other _ _ _ _ h).trans ((heap_setCell_other _ _ _ _ h).trans ((heap_setCell_other _ _ _ _ h).trans (heap_setCell_other _ _ _ _ h)))
theorem below4 {N : Nat} {w w' : World} {b : Nat} (h : Below N w w') (hb : N ≤ b) (v0 v1 v2 v3 : Value) : Below N w ((((w'.setCell ⟨b, 0, none⟩ v0).setCell ⟨b, 1, none⟩ v1).setCell ⟨b, 2, none⟩ v2).setCell ⟨b, 3, none⟩ v3) :=
  (((h.setCell (p := ⟨b, 0, none⟩) hb _).setCell (p := ⟨b, 1, none⟩) hb _).setCell (p := ⟨b, 2, none⟩) hb _).setCell (p := ⟨b, 3, none⟩) hb _
theorem size4 (w : World) (b : Nat) (v0 v1 v2 v3 : Value) : ((((w.setCell ⟨b, 0, none⟩ v0).setCell ⟨b, 1, none⟩ v1).setCell ⟨b, 2, none⟩ v2).setCell ⟨b, 3, none⟩ v3).heap.size = w.heap.size := by simp [World.setCell]
/-- What begin hands back. -/
def BegPost (w : World) (e : Ending) (w' : World) : Prop :=
  ∃ xb mb ab tb rb wb, e = .returned (.tuple #[.agg #[.pointer (some ⟨mb, 0, none⟩), .pointer (some ⟨tb, 0, none⟩), .pointer (some ⟨xb, 0, none⟩), .pointer (some ⟨wb, 0, none⟩)], .bool true]) ∧ Rt w' xb mb ab tb rb 8 (zeroB 8) (zeroR 8) ∧ w.heap.size ≤ ab ∧ w.heap.size ≤ rb ∧ ab < w'.heap.size ∧ rb < w'.heap.size ∧ Below w.heap.size w w'
set_option maxHeartbeats 8000000 in
theorem begin8 (w : World) : Calls Try.prog 28 #[.int .i64 8] w (BegPost w) := by
  have hb0 := (Below.refl w.heap.size w).alloc (Nat.le_refl _) (.cells #[.pointer none, .pointer none, .pointer none, .pointer none] 72)
  have P0 : Hid ((w.alloc (.cells #[.pointer none, .pointer none, .pointer none, .pointer none] 72)).heap[w.heap.size]? = some (.cells #[.pointer none, .pointer none, .pointer none, .pointer none] 72 (0, 0))) := heap_here rfl
  have HB0 := Lib.hid hb0
  clear hb0
  go_enter Try.func28, Try.ntmps28
  go_wp2_with fail
  refine (mnew 8 _ (by omega) (by omega)).mono ?_
  rintro e w1 ⟨rfl, m1, b1⟩
  obtain ⟨ab, hab⟩ : ∃ ab, (w.alloc (.cells #[.pointer none, .pointer none, .pointer none, .pointer none] 72)).heap.size = ab := ⟨_, rfl⟩
  rw [hab] at m1 ⊢
  have M1 := Lib.hid m1
  have B1 := Lib.hid (HB0.out.trans (b1.mono HB0.out.size))
  have P1 : Hid (w1.heap[w.heap.size]? = some (.cells #[.pointer none, .pointer none, .pointer none, .pointer none] 72 (0, 0))) := (b1.block _ (Array.getElem?_eq_some_iff.1 P0.out).1).trans P0.out
  have Z1 : Hid (w.heap.size < ab ∧ ab + 1 < w1.heap.size) := ⟨by rw [← hab]; simp, m1.lt.1⟩
  clear m1 b1 hab
  go_wp2_with fail
  refine (tnew 8 _ (by omega) (by omega)).mono ?_
  rintro e w2 ⟨rfl, t2, b2⟩
  obtain ⟨rb, hrb⟩ : ∃ rb, w1.heap.size = rb := ⟨_, rfl⟩
  have M2 := Lib.hid (M1.out.below b2)
  have B2 := Lib.hid (B1.out.trans (b2.mono B1.out.size))
  have P2 : Hid (w2.heap[w.heap.size]? = some (.cells #[.pointer none, .pointer none, .pointer none, .pointer none] 72 (0, 0))) := (b2.block _ (Array.getElem?_eq_some_iff.1 P1.out).1).trans P1.out
  rw [hrb] at t2 ⊢
  have T2 := Lib.hid t2
  have Z2 : Hid (w.heap.size < ab ∧ ab + 1 < rb ∧ rb + 1 < w2.heap.size) := ⟨Z1.out.1, by rw [← hrb]; exact Z1.out.2, t2.lt.1⟩
  clear t2 b2 hrb
  go_wp2_with fail
  refine (rttnew _ _ _).mono ?_
  rintro e w3 ⟨rfl, rfl⟩
  go_wp2_with fail
  have hb3 := (Below.refl w2.heap.size w2).alloc (Nat.le_refl _) (.cells #[.pointer (some ⟨ab + 1, 0, none⟩), .pointer (some ⟨rb + 1, 0, none⟩)] 25)
  have hx3 : (w2.alloc (.cells #[.pointer (some ⟨ab + 1, 0, none⟩), .pointer (some ⟨rb + 1, 0, none⟩)] 25)).heap[w2.heap.size]? = some (.cells #[.pointer (some ⟨ab + 1, 0, none⟩), .pointer (some ⟨rb + 1, 0, none⟩)] 25 (0, 0)) := heap_here rfl
  have hR3 : Rt (w2.alloc (.cells #[.pointer (some ⟨ab + 1, 0, none⟩), .pointer (some ⟨rb + 1, 0, none⟩)] 25)) w2.heap.size (ab + 1) ab (rb + 1) rb 8 (zeroB 8) (zeroR 8) := by
    have z := Z2.out
    exact ⟨hx3, M2.out.below hb3, allz 8, T2.out.below hb3, by simp [zeroR], by omega, by omega, by omega, by omega, by omega⟩
  obtain ⟨W3, hW3⟩ : ∃ W3, w2.alloc (.cells #[.pointer (some ⟨ab + 1, 0, none⟩), .pointer (some ⟨rb + 1, 0, none⟩)] 25) = W3 := ⟨_, rfl⟩
  have B3 := B2.out.trans (hb3.mono B2.out.size)
  have P3 := (hb3.block _ (Array.getElem?_eq_some_iff.1 P2.out).1).trans P2.out
  have hz3 : w2.heap.size < W3.heap.size := by rw [← hW3]; simp
  rw [hW3] at hR3 B3 P3 ⊢
  have HR3 := Lib.hid hR3
  have HB3 := Lib.hid B3
  have HP3 := Lib.hid P3
  obtain ⟨xb, hxb⟩ : ∃ xb, w2.heap.size = xb := ⟨_, rfl⟩
  rw [hxb] at HR3 hz3 Z2 ⊢
  have HZ3 := Lib.hid hz3
  clear hb3 hx3 hR3 B3 P3 hW3 hxb hz3 B2 P2 M2 T2 B1 P1 Z1 P0 HB0 M1
  have hmk : ∀ w, (Instr.makeSlice 105 (.int .i64 8) (.int .i64 8)).run Try.prog w = .ok (.slice (some ⟨w.heap.size, 0, none⟩) 8 8) (w.alloc (.cells (rowsV (zeroR 8)).toArray 56)) := run_trows 8 (by omega)
  have HPW : Hid (∀ W, Below W3.heap.size W3 W → W.heap[w.heap.size]? = some (.cells #[.pointer none, .pointer none, .pointer none, .pointer none] 72 (0, 0))) := fun W hW => (hW.block _ (Array.getElem?_eq_some_iff.1 HP3.out).1).trans HP3.out
  go_region_with (go_at_call 44; refine (rnew 8 _ (by omega) (by omega)).mono ?_; rintro e w5 ⟨rfl, hr5, b5⟩; have bx : Below W3.heap.size W3 w5 := (by first | exact ((Below.refl _ W3).drew).trans (b5.mono (by simp)) | exact (((Below.refl _ W3).drew).alloc (by simp) _).trans (b5.mono (by simp))); have BX := Lib.hid bx; have hz5 : w.heap.size < w5.heap.size := (Array.getElem?_eq_some_iff.1 (HPW.out w5 bx)).1; have c0 := cell_of_row _ _ 0 _ _ _ (HPW.out w5 bx); have c1 := cell_of_row _ _ 1 _ _ _ (HPW.out w5 bx); have c2 := cell_of_row _ _ 2 _ _ _ (HPW.out w5 bx); have c3 := cell_of_row _ _ 3 _ _ _ (HPW.out w5 bx); have f0 := frozen_of_row _ _ 0 _ _ (HPW.out w5 bx); have f1 := frozen_of_row _ _ 1 _ _ (HPW.out w5 bx); have f2 := frozen_of_row _ _ 2 _ _ (HPW.out w5 bx); have f3 := frozen_of_row _ _ 3 _ _ (HPW.out w5 bx); clear b5 hr5 bx)
  all_goals go_wp2
  all_goals have hR5 := HR3.out.below BX.out
  all_goals have hB5 := HB3.out.trans (BX.out.mono HB3.out.size)
  all_goals have hP5 := set4 (v0 := .pointer (some ⟨ab + 1, 0, none⟩)) (v1 := .pointer (some ⟨rb + 1, 0, none⟩)) (v2 := .pointer (some ⟨xb, 0, none⟩)) (v3 := .pointer (some ⟨w5.heap.size, 0, none⟩)) (HPW.out w5 BX.out)
  all_goals have hP5' := set4 (v0 := .pointer (some ⟨ab + 1, 0, none⟩)) (v1 := .pointer (some ⟨rb + 1, 0, none⟩)) (v2 := .pointer (some ⟨xb, 0, none⟩)) (v3 := .pointer (some ⟨w5.heap.size + 1, 0, none⟩)) (HPW.out w5 BX.out)
  all_goals have z := Z2.out
  · refine ret_row_tmp rfl w.heap.size 72 #[.pointer (some ⟨ab + 1, 0, none⟩), .pointer (some ⟨rb + 1, 0, none⟩), .pointer (some ⟨xb, 0, none⟩), .pointer (some ⟨w5.heap.size + 1, 0, none⟩)] (0, 0) _ Try.underlying72 rfl (by kernel_rfl) rfl ?_ rfl ?_
    · exact heap_past (by simp [World.setCell]; omega) (heap_past (by simp [World.setCell]; omega) hP5')
    · have hlt : ∀ i, i = xb ∨ i = ab + 1 ∨ i = ab ∨ i = rb + 1 ∨ i = rb → i < w5.heap.size := fun i hi => by
        have := hR5.lt
        have := hR5.m.lt
        have := hR5.t.lt
        rcases hi with rfl | rfl | rfl | rfl | rfl <;> omega
      have l1 := hlt ab (by simp)
      have l2 := hlt rb (by simp)
      have hxw : xb ≠ w.heap.size := fun e => by have := hR5.x; rw [e] at this; rw [HPW.out w5 BX.out] at this; cases this
      have hz5' : w.heap.size ≤ w5.heap.size := hB5.size
      refine ⟨xb, ab + 1, ab, rb + 1, rb, _, rfl, hR5.same (fun i hi => heap_past (by rw [World.size_alloc, size4]; have := hlt i hi; omega) (heap_past (by rw [size4]; exact hlt i hi) (other4 _ _ _ _ (by rcases hi with rfl | rfl | rfl | rfl | rfl <;> omega)))), by omega, by omega, by rw [World.size_alloc, World.size_alloc, size4]; omega, by rw [World.size_alloc, World.size_alloc, size4]; omega, ((below4 hB5 (Nat.le_refl _) _ _ _ _).alloc (by rw [size4]; omega) _).alloc (by rw [World.size_alloc, size4]; omega) _⟩
  · refine ret_row_tmp rfl w.heap.size 72 #[.pointer (some ⟨ab + 1, 0, none⟩), .pointer (some ⟨rb + 1, 0, none⟩), .pointer (some ⟨xb, 0, none⟩), .pointer (some ⟨w5.heap.size, 0, none⟩)] (0, 0) _ Try.underlying72 rfl (by kernel_rfl) rfl ?_ rfl ?_
    · exact heap_past (by simp [World.setCell]; omega) hP5
    · have hlt : ∀ i, i = xb ∨ i = ab + 1 ∨ i = ab ∨ i = rb + 1 ∨ i = rb → i < w5.heap.size := fun i hi => by
        have := hR5.lt
        have := hR5.m.lt
        have := hR5.t.lt
        rcases hi with rfl | rfl | rfl | rfl | rfl <;> omega
      have l1 := hlt ab (by simp)
      have l2 := hlt rb (by simp)
      have hxw : xb ≠ w.heap.size := fun e => by have := hR5.x; rw [e] at this; rw [HPW.out w5 BX.out] at this; cases this
      have hz5' : w.heap.size ≤ w5.heap.size := hB5.size
      refine ⟨xb, ab + 1, ab, rb + 1, rb, _, rfl, hR5.same (fun i hi => heap_past (by rw [size4]; exact hlt i hi) (other4 _ _ _ _ (by rcases hi with rfl | rfl | rfl | rfl | rfl <;> omega))), by omega, by omega, by rw [World.size_alloc, size4]; omega, by rw [World.size_alloc, size4]; omega, (below4 hB5 (Nat.le_refl _) _ _ _ _).alloc (by rw [size4]; omega) _⟩
end Go.Proofs.Ytfeoaphibkcejaa
