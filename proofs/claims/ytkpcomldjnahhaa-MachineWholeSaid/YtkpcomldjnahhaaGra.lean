/- Contracts of layer 6's granules: Get, Put, Scrub. Conditions: those that each theorem states. -/
import Derived.Test.YtkpcomldjnahhaaWds
import Derived.Deep.WholeRow
import Derived.Deep.MidRow
namespace Go.Proofs.Ytkpcomldjnahhaa
open Go.ChangeShapes Go.WideShapes Go.ChangeAt Go.RowKit
set_option linter.unusedSimpArgs false

theorem inf52s : (Try.prog.info? 52).map (fun i => (i.zero, i.size)) = some (some (.agg (List.replicate 128 (Value.int .u8 0)).toArray), 128) := by kernel_rfl
theorem zero1 : (bytesV (zeroB 1)) = List.replicate 128 (Value.int .u8 0) := by
  simp only [bytesV, zeroB, List.map_replicate, Nat.mul_one]
theorem zeroV (w : World) : (zeroValue 52).run Try.prog w = .ok (.agg (bytesV (zeroB 1)).toArray) w := by
  rw [zero1]; exact (zero_of_info inf52s).1 w
theorem size52 : (Try.prog.info? 52).map (·.size) = some 128 := (zero_of_info inf52s).2
attribute [local go_sem] zeroV
theorem zlen : (zeroB 1).length = 128 := by simp only [zeroB, List.length_replicate, Nat.mul_one]
theorem allz (n : Nat) : AllB (zeroB n) := fun x hx => by
  have := List.eq_of_mem_replicate hx
  omega
/-- A granule's bytes. -/
def sub (B : List Int) (g : Nat) : List Int := (B.drop (128 * g)).take 128
theorem sub_len (B : List Int) (g n : Nat) (hl : B.length = 128 * n) (hg : g < n) : (sub B g).length = 128 := by simp [sub]; omega
theorem sub_all {B : List Int} (h : AllB B) (g : Nat) : AllB (sub B g) := fun x hx => h x (List.mem_of_mem_drop (List.mem_of_mem_take hx))
/-- A whole granule out of a block of bytes. -/
theorem ld_mid {w : World} {b t : Nat} {B : List Int} (h : BytesAt w b t B) (n g : Nat) (hl : B.length = 128 * n) (hg : g < n) (o : Nat) (ho : o = g * 128) :
    (loadCellsFrom ⟨b, o, none⟩ 0 128 #[]).run Try.prog w = .ok (bytesV (sub B g)).toArray w := by
  subst ho
  have := run_loadCells_list (P := Try.prog) w ⟨b, g * 128, none⟩ (bytesV (sub B g)) (fun j v hj => by
    rw [Addr.add_lit, h.cell]
    rw [bytesV_get, sub, List.getElem?_take] at hj
    split at hj
    · rw [List.getElem?_drop] at hj
      rw [Nat.mul_comm g 128]
      exact hj
    · cases hj)
  rw [bytesV_len, sub_len B g n hl hg] at this
  exact this
theorem ld_row {w : World} {b t : Nat} {B : List Int} (h : BytesAt w b t B) (hl : B.length = 128) :
    (loadCellsFrom ⟨b, 0, none⟩ 0 128 #[]).run Try.prog w = .ok (bytesV B).toArray w := by
  have := ld_mid h 1 0 (by omega) (by omega) 0 (by omega)
  rwa [show sub B 0 = B by simp [sub, ← hl]] at this
/-- A whole granule into a block of bytes. -/
theorem st_mid {w : World} {b t : Nat} {B X : List Int} (h : BytesAt w b t B) (o : Nat) (hfit : o + X.length ≤ B.length) :
    (storeCells ⟨b, o, none⟩ (bytesV X) 0).run Try.prog w = .ok () (w.setRow b (bytesV (splice B o X)).toArray) := by
  rw [run_storeCells_at (P := Try.prog) b o t (bytesV X) 0 (bytesV B).toArray w h (by rw [bytesV_len, List.size_toArray, bytesV_len]; omega) (one_bytes X)]
  rw [Nat.add_zero, List.append_assoc, splice_bytes]
/-- A granule into a block of its own. -/
theorem st_new (w : World) (B X : List Int) (hB : B.length = 128) (hX : X.length = 128) :
    (storeCells ⟨w.heap.size, 0, none⟩ (bytesV X) 0).run Try.prog (w.alloc (.cells (bytesV B).toArray 52)) = .ok () (w.alloc (.cells (bytesV X).toArray 52)) := by
  rw [st_mid (B := B) (t := 52) (heap_here rfl) 0 (by omega), splice_all B X (by omega), World.setRow_alloc_new]

theorem rng_mid {w : World} {b t : Nat} {B : List Int} (h : BytesAt w b t B) (g o : Nat) (ho : o = g * 128) : w.rangeAt b o (bytesV (sub B g)) := fun j v hj => by
  subst ho
  rw [h.cell]
  rw [bytesV_get, sub, List.getElem?_take] at hj
  split at hj
  · rw [List.getElem?_drop] at hj
    rw [Nat.mul_comm g 128]
    exact hj
  · cases hj
theorem rng_row {w : World} {b t : Nat} {B : List Int} (h : BytesAt w b t B) : w.rangeAt b 0 (bytesV B) := fun j v hj => by
  rw [h.cell, Nat.zero_add]
  rwa [bytesV_get] at hj
/-- A granule is read, at a plain region's list. -/
theorem wpList_ld {ops : Array Oper} {rest : List Oper} {op : Oper} {a : Act} {w : World} {Q : Exit → Act → World → Prop} (hgd : op.guard = none) (x : Operand) (ho : op.op = .load 52 x)
    (b o : Nat) (X : List Int) (hx : a.eval x = .pointer (some ⟨b, o, none⟩)) (hl : X.length = 128) (hr : w.rangeAt b o (bytesV X))
    (h : wpList Try.prog ops Q rest (a.put op.dst (.agg (bytesV X).toArray)) w) : wpList Try.prog ops Q (op :: rest) a w :=
  wpList_load_mid hgd 52 x ho b o hx (bytesV X) _ hr Try.underlying52 rfl (by rw [size52, bytesV_len, hl]) h

theorem wrong_no (mb ab n : Nat) (B : List Int) (g : Int) (w : World) (h : Mem w mb ab n B) (hg : g < 0 ∨ n ≤ g) :
    Calls Try.prog 34 #[.pointer (some ⟨mb, 0, none⟩), .int .i64 g] w fun e w' => e = .returned (.int .i64 2) ∧ w = w' := by
  have hpn := h.pos
  have hx := h.max
  have c0 := cell_of_row w mb 0 _ _ _ h.mem
  have H := Lib.hid h
  clear h
  rcases (show g < 0 ∨ (0 ≤ g ∧ n ≤ g) by omega) with h1 | ⟨h1, h2⟩
  all_goals clear hg
  all_goals go_enter Try.func34, Try.ntmps34
  all_goals go_wp2_with (first | (go_at_call 15; refine (gran _ _ _ _ _ H.out).mono ?_; rintro e w1 ⟨rfl, rfl⟩))
  all_goals first | (exfalso; omega) | skip
  all_goals go_ret
  all_goals exact ⟨rfl, rfl⟩
theorem wrong_yes (mb ab n : Nat) (B : List Int) (g : Nat) (w : World) (h : Mem w mb ab n B) (hg : g < n) :
    Calls Try.prog 34 #[.pointer (some ⟨mb, 0, none⟩), .int .i64 g] w fun e w' => e = .returned (.int .i64 0) ∧ w = w' := by
  have hpn := h.pos
  have hx := h.max
  have c0 := cell_of_row w mb 0 _ _ _ h.mem
  have H := Lib.hid h
  clear h
  go_enter Try.func34, Try.ntmps34
  go_wp2_with (first | (go_at_call 15; refine (gran _ _ _ _ _ H.out).mono ?_; rintro e w1 ⟨rfl, rfl⟩))
  all_goals first | (exfalso; omega) | skip
  go_ret
  exact ⟨rfl, rfl⟩


set_option maxRecDepth 100000 in
theorem gget_no (mb ab n : Nat) (B : List Int) (g : Int) (w : World) (h : Mem w mb ab n B) (hg : g < 0 ∨ n ≤ g) :
    Calls Try.prog 20 #[.pointer (some ⟨mb, 0, none⟩), .int .i64 g] w fun e w' => e = .returned (.tuple #[.agg (bytesV (zeroB 1)).toArray, .int .i64 2]) ∧ Below w.heap.size w w' := by
  have B1 : Below w.heap.size w (w.alloc (.cells (bytesV (zeroB 1)).toArray 52)) := (Below.refl _ _).alloc (Nat.le_refl _) _
  have H := Lib.hid (h.below B1)
  have hst := st_new w (zeroB 1) (zeroB 1) zlen zlen
  have HB := Lib.hid B1
  have hln : (bytesV (zeroB 1)).length = 128 := by rw [bytesV_len, zlen]
  clear h B1
  go_enter Try.func20, Try.ntmps20
  go_wp2_with (first | (go_at_call 34; refine (wrong_no _ _ _ _ _ _ H.out hg).mono ?_; rintro e w1 ⟨rfl, rfl⟩))
  refine ret_row_tmp rfl w.heap.size 52 _ (0, 0) _ Try.underlying52 rfl ?_ rfl (heap_here rfl) rfl ?_
  · rw [size52, List.size_toArray, bytesV_len, zlen]
  · exact ⟨rfl, HB.out⟩
set_option maxRecDepth 100000 in
theorem gget_yes (mb ab n : Nat) (B : List Int) (g : Nat) (w : World) (h : Mem w mb ab n B) (hg : g < n) :
    Calls Try.prog 20 #[.pointer (some ⟨mb, 0, none⟩), .int .i64 g] w fun e w' => e = .returned (.tuple #[.agg (bytesV (sub B g)).toArray, .int .i64 0]) ∧ Below w.heap.size w w' := by
  have B1 : Below w.heap.size w (w.alloc (.cells (bytesV (zeroB 1)).toArray 52)) := (Below.refl _ _).alloc (Nat.le_refl _) _
  have hx := h.max
  have hl := sub_len B g n h.len hg
  have H := Lib.hid (h.below B1)
  have hst := st_new w (zeroB 1) (sub B g) zlen hl
  have HR := Lib.hid (rng_mid H.out.all g (g * 128) rfl)
  have c0 := cell_of_row _ mb 0 _ _ _ H.out.mem
  have HB : Hid (Below w.heap.size w (w.alloc (.cells (bytesV (sub B g)).toArray 52))) := (Below.refl _ _).alloc (Nat.le_refl _) _
  have HL := Lib.hid hl
  have hln : (bytesV (sub B g)).length = 128 := by rw [bytesV_len, hl]
  clear h B1 hl
  go_enter Try.func20, Try.ntmps20
  go_wp2_with (first | (go_at_call 34; refine (wrong_yes _ _ _ _ _ _ H.out hg).mono ?_; rintro e w1 ⟨rfl, rfl⟩) | (refine wpList_ld rfl (.tmp 19) rfl ab (g * 128) (sub B g) rfl HL.out HR.out ?_))
  refine ret_row_tmp rfl w.heap.size 52 _ (0, 0) _ Try.underlying52 rfl ?_ rfl (heap_here rfl) rfl ?_
  · rw [size52, List.size_toArray, bytesV_len, HL.out]
  · exact ⟨rfl, HB.out⟩
end Go.Proofs.Ytkpcomldjnahhaa
