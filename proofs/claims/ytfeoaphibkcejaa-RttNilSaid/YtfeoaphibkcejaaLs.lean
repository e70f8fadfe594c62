/- Contracts of layer 9's Look, Walk and Set. Conditions: those that each theorem states. -/
import Derived.Test.YtfeoaphibkcejaaLk
namespace Go.Proofs.Ytfeoaphibkcejaa
open Go.ChangeShapes Go.WideShapes Go.ChangeAt Go.RowKit
set_option linter.unusedSimpArgs false
set_option maxRecDepth 100000

set_option maxHeartbeats 4000000 in
theorem Look_yes (xb mb ab tb rb n : Nat) (B : List Int) (R : List Rw) (root page level : Nat) (w : World) (h : Rt w xb mb ab tb rb n B R) (hroot : root < n) (hT : tabT R root = true) (hp : page < 256) (hl : level < 4) :
    Calls Try.prog 6 #[.pointer (some ⟨xb, 0, none⟩), .int .i64 root, .int .i64 page, .int .i64 level] w fun e w' => e = .returned (.tuple #[walkV (lookF B R page level 0 root), .int .i64 0]) ∧ Below w.heap.size w w' := by
  have hb0 := (Below.refl w.heap.size w).alloc (Nat.le_refl _) (.cells #[.int .i64 0, .int .i64 0, .int .i64 0, .int .i64 0, .int .i64 0] 33)
  have H0 := Lib.hid (h.below hb0)
  have HB0 := Lib.hid hb0
  have hZ : Wk (w.alloc (.cells #[.int .i64 0, .int .i64 0, .int .i64 0, .int .i64 0, .int .i64 0] 33)) w.heap.size 0 0 0 0 0 := heap_here rfl
  have Z0 := Lib.hid hZ
  have h1 := fun W (hW : Below w.heap.size w W) => table_any xb mb ab tb rb n B R root W (h.below hW)
  rw [hT] at h1
  have F1 := Lib.hid h1
  have F2 := Lib.hid (fun W (hW : Below w.heap.size w W) => look_any xb mb ab tb rb n B R root page level W (h.below hW) hroot hp hl)
  obtain ⟨a0, a1, a2, a3, a4, hx⟩ : ∃ a0 a1 a2 a3 a4, lookF B R page level 0 root = (a0, a1, a2, a3, a4) := ⟨_, _, _, _, _, rfl⟩
  rw [hx] at F2 ⊢
  unfold walkV at F2 ⊢
  clear h h1 hb0 hZ hx hT
  go_enter Try.func6, Try.ntmps6
  go_wp2_with (first | (go_at_call 14; refine (there_yes _ _ _ _ _ _ _ _ _ H0.out).mono ?_; rintro e w1 ⟨rfl, rfl⟩) | (go_at_call 15; refine (F1.out _ HB0.out).mono ?_; rintro e w1 ⟨rfl, b1⟩; have HB1 := Lib.hid (HB0.out.trans (b1.mono HB0.out.size)); have Z1 := Lib.hid (Z0.out.below b1); clear b1) | (go_at_call 16; refine (F2.out _ HB1.out).mono ?_; rintro e w2 ⟨rfl, b2⟩; have HB2 := Lib.hid (HB1.out.trans (b2.mono HB1.out.size)); have Z2 := Lib.hid (Z1.out.below b2); obtain ⟨y0, y1, y2, y3, y4⟩ := Z2.out.cells; obtain ⟨q0, q1, q2, q3, q4⟩ := Z2.out.free; clear b2))
  all_goals first | (exfalso; omega) | skip
  refine ret_row_tmp rfl w.heap.size 33 _ (0, 0) _ Try.underlying33 rfl (by kernel_rfl) rfl (set5 Z2.out) rfl ?_
  exact ⟨rfl, below5 HB2.out (Nat.le_refl _) _ _ _ _ _⟩
set_option maxHeartbeats 4000000 in
theorem Walk_yes (xb mb ab tb rb n : Nat) (B : List Int) (R : List Rw) (root page : Nat) (w : World) (h : Rt w xb mb ab tb rb n B R) (hroot : root < n) (hT : tabT R root = true) (hp : page < 256) :
    Calls Try.prog 5 #[.pointer (some ⟨xb, 0, none⟩), .int .i64 root, .int .i64 page] w fun e w' => e = .returned (.tuple #[walkV (lookF B R page 3 0 root), .int .i64 0]) ∧ Below w.heap.size w w' := by
  have hb0 := (Below.refl w.heap.size w).alloc (Nat.le_refl _) (.cells #[.int .i64 0, .int .i64 0, .int .i64 0, .int .i64 0, .int .i64 0] 33)
  have HB0 := Lib.hid hb0
  have hZ : Wk (w.alloc (.cells #[.int .i64 0, .int .i64 0, .int .i64 0, .int .i64 0, .int .i64 0] 33)) w.heap.size 0 0 0 0 0 := heap_here rfl
  have Z0 := Lib.hid hZ
  have F2 := Lib.hid (Look_yes xb mb ab tb rb n B R root page 3 _ (h.below hb0) hroot hT hp (by omega))
  obtain ⟨a0, a1, a2, a3, a4, hx⟩ : ∃ a0 a1 a2 a3 a4, lookF B R page 3 0 root = (a0, a1, a2, a3, a4) := ⟨_, _, _, _, _, rfl⟩
  rw [hx] at F2 ⊢
  unfold walkV at F2 ⊢
  clear h hb0 hZ hx hT
  go_enter Try.func5, Try.ntmps5
  go_wp2_with (first | (go_at_call 6; refine F2.out.mono ?_; rintro e w2 ⟨rfl, b2⟩; have HB2 := Lib.hid (HB0.out.trans (b2.mono HB0.out.size)); have Z2 := Lib.hid (Z0.out.below b2); obtain ⟨y0, y1, y2, y3, y4⟩ := Z2.out.cells; obtain ⟨q0, q1, q2, q3, q4⟩ := Z2.out.free; clear b2))
  refine ret_row_tmp rfl w.heap.size 33 _ (0, 0) _ Try.underlying33 rfl (by kernel_rfl) rfl (set5 Z2.out) rfl ?_
  exact ⟨rfl, below5 HB2.out (Nat.le_refl _) _ _ _ _ _⟩
set_option maxHeartbeats 4000000 in
theorem Set_table (xb mb ab tb rb n : Nat) (B : List Int) (R : List Rw) (root page : Nat) (k e : Int) (a0 a1 a2 : Nat) (a3 a4 : Int) (w : World) (h : Rt w xb mb ab tb rb n B R) (hroot : root < n) (hT : tabT R root = true) (hp : page < 256)
    (hx : lookF B R page 3 0 root = (a0, a1, a2, a3, a4)) (h3 : a0 < 3) (hlv : levelB k e 3 = true) :
    Calls Try.prog 9 #[.pointer (some ⟨xb, 0, none⟩), .int .i64 root, .int .i64 page, .agg #[.int .i64 k, .int .i64 e]] w fun e' w' => e' = .returned (.int .i64 8) ∧ Below w.heap.size w w' := by
  have hb0 := (Below.refl w.heap.size w).alloc (Nat.le_refl _) (.cells #[.int .i64 k, .int .i64 e] 31)
  have HB0 := Lib.hid hb0
  have R0 : Hid ((w.alloc (.cells #[.int .i64 k, .int .i64 e] 31)).heap[w.heap.size]? = some (.cells #[.int .i64 k, .int .i64 e] 31 (0, 0))) := heap_here rfl
  have h2 := Walk_yes xb mb ab tb rb n B R root page _ (h.below hb0) hroot hT hp
  rw [hx] at h2
  unfold walkV at h2
  have F2 := Lib.hid h2
  have h3' := fun W => level_any k e 3 W
  rw [hlv] at h3'
  have F3 := Lib.hid h3'
  clear h h2 h3' hb0 hx hT hlv
  go_enter Try.func9, Try.ntmps9
  go_wp2_with (first | (go_at_call 5; refine F2.out.mono ?_; rintro e1 w1 ⟨rfl, b1⟩; have HB1 := Lib.hid ((HB0.out.trans (b1.mono HB0.out.size)).alloc (Nat.le_trans HB0.out.size b1.size) (.cells #[.int .i64 a0, .int .i64 a1, .int .i64 a2, .int .i64 a3, .int .i64 a4] 33)); have R1 : Hid ((w1.alloc (.cells #[.int .i64 a0, .int .i64 a1, .int .i64 a2, .int .i64 a3, .int .i64 a4] 33)).heap[w.heap.size]? = some (.cells #[.int .i64 k, .int .i64 e] 31 (0, 0))) := heap_past (by have := (Array.getElem?_eq_some_iff.1 R0.out).1; have := b1.size; omega) ((b1.block _ (Array.getElem?_eq_some_iff.1 R0.out).1).trans R0.out); have y0 := cell_of_row _ _ 0 _ _ _ R1.out; have y1 := cell_of_row _ _ 1 _ _ _ R1.out; have W1 : Hid (Wk (w1.alloc (.cells #[.int .i64 a0, .int .i64 a1, .int .i64 a2, .int .i64 a3, .int .i64 a4] 33)) w1.heap.size a0 a1 a2 a3 a4) := heap_here rfl; clear b1) | (go_at_call 20; refine (F3.out _).mono ?_; rintro e2 w2 ⟨rfl, b2⟩; have HB2 := Lib.hid (HB1.out.trans (b2.mono HB1.out.size)); obtain ⟨x0, x1, x2, x3, x4⟩ := (W1.out.below b2).cells; clear b2 y0 y1))
  all_goals first | (exfalso; omega) | skip
  go_ret
  exact ⟨rfl, HB2.out⟩
set_option maxHeartbeats 4000000 in
theorem Set_ok (xb mb ab tb rb n : Nat) (B : List Int) (R : List Rw) (root page : Nat) (k e : Int) (a1 a2 : Nat) (a3 a4 : Int) (w : World) (h : Rt w xb mb ab tb rb n B R) (hroot : root < n) (hT : tabT R root = true) (hp : page < 256)
    (hx : lookF B R page 3 0 root = (3, a1, a2, a3, a4)) (h1 : a1 < n) (h2' : a2 < 4) (hlv : levelB k e 3 = true) (hm : mayB k e = true) :
    Calls Try.prog 9 #[.pointer (some ⟨xb, 0, none⟩), .int .i64 root, .int .i64 page, .agg #[.int .i64 k, .int .i64 e]] w fun e' w' => e' = .returned (.int .i64 0) ∧ Rt w' xb mb ab tb rb n (splice B (128 * a1) (splice (sub B a1) (8 * a2) (ent8 k e))) R ∧ w.grownBy w' (some ab) := by
  have hb0 := (Below.refl w.heap.size w).alloc (Nat.le_refl _) (.cells #[.int .i64 k, .int .i64 e] 31)
  have HB0 := Lib.hid hb0
  have R0 : Hid ((w.alloc (.cells #[.int .i64 k, .int .i64 e] 31)).heap[w.heap.size]? = some (.cells #[.int .i64 k, .int .i64 e] 31 (0, 0))) := heap_here rfl
  have h2 := Walk_yes xb mb ab tb rb n B R root page _ (h.below hb0) hroot hT hp
  rw [hx] at h2
  unfold walkV at h2
  have F2 := Lib.hid h2
  have h3' := fun W => level_any k e 3 W
  rw [hlv] at h3'
  have F3 := Lib.hid h3'
  have F4 := Lib.hid (fun W (hW : Below w.heap.size w W) => put_any xb mb ab tb rb n B R a1 a2 k e W (h.below hW) h1 h2' hm)
  clear h h2 h3' hb0 hx hT hlv hm
  go_enter Try.func9, Try.ntmps9
  go_wp2_with (first | (go_at_call 5; refine F2.out.mono ?_; rintro e1 w1 ⟨rfl, b1⟩; have HB1 := Lib.hid ((HB0.out.trans (b1.mono HB0.out.size)).alloc (Nat.le_trans HB0.out.size b1.size) (.cells #[.int .i64 3, .int .i64 a1, .int .i64 a2, .int .i64 a3, .int .i64 a4] 33)); have R1 : Hid ((w1.alloc (.cells #[.int .i64 3, .int .i64 a1, .int .i64 a2, .int .i64 a3, .int .i64 a4] 33)).heap[w.heap.size]? = some (.cells #[.int .i64 k, .int .i64 e] 31 (0, 0))) := heap_past (by have := (Array.getElem?_eq_some_iff.1 R0.out).1; have := b1.size; omega) ((b1.block _ (Array.getElem?_eq_some_iff.1 R0.out).1).trans R0.out); have y0 := cell_of_row _ _ 0 _ _ _ R1.out; have y1 := cell_of_row _ _ 1 _ _ _ R1.out; have W1 : Hid (Wk (w1.alloc (.cells #[.int .i64 3, .int .i64 a1, .int .i64 a2, .int .i64 a3, .int .i64 a4] 33)) w1.heap.size 3 a1 a2 a3 a4) := heap_here rfl; clear b1) | (go_at_call 20; refine (F3.out _).mono ?_; rintro e2 w2 ⟨rfl, b2⟩; have HB2 := Lib.hid (HB1.out.trans (b2.mono HB1.out.size)); obtain ⟨x0, x1, x2, x3, x4⟩ := (W1.out.below b2).cells; have R2 : Hid (w2.heap[w.heap.size]? = some (.cells #[.int .i64 k, .int .i64 e] 31 (0, 0))) := (b2.block _ (Array.getElem?_eq_some_iff.1 R1.out).1).trans R1.out; clear b2 y0 y1; have y0 := cell_of_row _ _ 0 _ _ _ R2.out; have y1 := cell_of_row _ _ 1 _ _ _ R2.out) | (go_at_call 21; refine (F4.out _ HB2.out).mono ?_; rintro e3 w3 ⟨⟨v, rfl⟩, hR3, g3⟩; have HR3 := Lib.hid hR3; have HG3 := Lib.hid g3; clear hR3 g3 x0 x1 x2 x3 x4 y0 y1))
  all_goals first | (exfalso; omega) | skip
  go_ret
  exact ⟨rfl, HR3.out, grown_trans (grown_below HB2.out _) HG3.out⟩
end Go.Proofs.Ytfeoaphibkcejaa
