/- Bytes in blocks, and arrays of 128 bytes, over this seat's program: laws that all tables' texts use. No condition beyond those stated. -/
import Derived.Test.YtjohobehhijbcaaMay
import Derived.Deep.WholeRow
import Derived.Deep.MidRow
import Derived.Deep.RegionHeld3
import Derived.Laws.CopyOwn
import Derived.Maps.AppendAt
namespace Go.Proofs.Ytjohobehhijbcaa
open Go.ChangeShapes Go.WideShapes Go.ChangeAt Go.RowKit
set_option linter.unusedSimpArgs false

def bytesV (B : List Int) : List Value := B.map (Value.int .u8)
theorem bytesV_len (B : List Int) : (bytesV B).length = B.length := by simp [bytesV]
theorem bytesV_get (B : List Int) (i : Nat) : (bytesV B)[i]? = B[i]?.map (Value.int .u8) := by simp [bytesV]
/-- Bytes in a block of their own. -/
def BytesAt (w : World) (b t : Nat) (B : List Int) : Prop := w.heap[b]? = some (.cells (bytesV B).toArray t (0, 0))
theorem BytesAt.lt {w : World} {b t : Nat} {B : List Int} (h : BytesAt w b t B) : b < w.heap.size := (Array.getElem?_eq_some_iff.1 h).1
theorem BytesAt.below {w w' : World} {b t : Nat} {B : List Int} (h : BytesAt w b t B) (hb : Below w.heap.size w w') : BytesAt w' b t B := (hb.block _ h.lt).trans h
theorem BytesAt.cell {w : World} {b t : Nat} {B : List Int} (h : BytesAt w b t B) (i : Nat) : w.cell? ⟨b, i, none⟩ = B[i]?.map (Value.int .u8) := by
  rw [cell_of_row w b i _ _ _ h]
  simp [bytesV]
theorem BytesAt.froz {w : World} {b t : Nat} {B : List Int} (h : BytesAt w b t B) (i : Nat) : w.frozen? ⟨b, i, none⟩ = false := by
  exact frozen_of_row w b i _ _ h
theorem splice_bytes (B : List Int) (o : Nat) (X : List Int) : (bytesV B).take o ++ (bytesV X ++ (bytesV B).drop (o + (bytesV X).length)) = bytesV (splice B o X) := by
  simp [bytesV, splice]
theorem splice_len (B : List Int) (o : Nat) (X : List Int) (h : o + X.length ≤ B.length) : (splice B o X).length = B.length := length_splice B o X h
theorem one_bytes (B : List Int) : ∀ v ∈ bytesV B, v.oneCell' = true := fun v hv => by
  obtain ⟨x, _, rfl⟩ := List.mem_map.1 hv
  rfl

theorem grown_refl (w : World) (r : Option Nat) : w.grownBy w r := ⟨rfl, rfl, rfl, Nat.le_refl _, fun _ _ _ => rfl⟩
theorem grown_below {w w1 : World} (h : Below w.heap.size w w1) (r : Option Nat) : w.grownBy w1 r := ⟨h.os, h.tape, h.output, h.size, fun k hk _ => h.block k hk⟩
theorem grown_setRow {w w1 : World} {g : Nat} (h : w.grownBy w1 (some g)) (cs : Array Value) : w.grownBy (w1.setRow g cs) (some g) :=
  ⟨h.os, h.tape, h.output, by have := h.size; simpa [World.setRow] using this, fun k hk hne => (setRow_other w1 g k cs (by simpa using hne)).trans (h.block k hk hne)⟩
theorem grown_trans {a b c : World} {r : Option Nat} (h : a.grownBy b r) (k : b.grownBy c r) : a.grownBy c r :=
  ⟨k.os.trans h.os, k.tape.trans h.tape, k.output.trans h.output, Nat.le_trans h.size k.size, fun i hi hn => (k.block i (Nat.lt_of_lt_of_le hi h.size) hn).trans (h.block i hi hn)⟩
/-- 'copy' onto bytes in a block. -/
theorem run_cp (w : World) (ab a dl dc b off sl sc : Nat) (B X : List Int) (t : TypeId) (h : BytesAt w ab t B) (hs : ∀ j x, X[j]? = some x → w.cell? ⟨b, off + j, none⟩ = some (.int .u8 x)) (hn : X.length = Nat.min sl dl) (hfit : a + X.length ≤ B.length) :
    (Builtin.copy_ #[64, 64] 3 #[.slice (some ⟨ab, a, none⟩) dl dc, .slice (some ⟨b, off, none⟩) sl sc]).run Try.prog w = .ok (.int .i64 X.length) (w.setRow ab (bytesV (splice B a X)).toArray) := by
  rw [run_copy_row (P := Try.prog) w 64 64 3 5 ab a dl dc ⟨b, off, none⟩ sl sc (bytesV B).toArray t (bytesV X) Try.underlying64 (by kernel_rfl) h (by rw [bytesV_len, hn]) (fun j v hj => by
    rw [bytesV_get] at hj
    obtain ⟨y, hy, rfl⟩ := Option.map_eq_some_iff.1 hj
    rw [Addr.add_lit]
    exact hs j y hy) (by rw [bytesV_len, List.size_toArray, bytesV_len]; exact hfit) (one_bytes X)]
  rw [List.append_assoc, splice_bytes, bytesV_len]
  rfl

theorem BytesAt.setCell {w : World} {b t : Nat} {B : List Int} (h : BytesAt w b t B) (i : Nat) (v : Int) : BytesAt (w.setCell ⟨b, i, none⟩ (.int .u8 v)) b t (B.set i v) := by
  unfold BytesAt
  rw [heap_setCell_same _ _ _ _ _ _ h]
  simp [bytesV, List.map_set]
theorem BytesAt.grown {w w' : World} {b t : Nat} {B : List Int} {r : Option Nat} (h : BytesAt w b t B) (hg : w.grownBy w' r) (hne : some b ≠ r) : BytesAt w' b t B := (hg.block b h.lt hne).trans h
def zeroB : List Int := List.replicate 128 0
theorem inf49s : (Try.prog.info? 49).map (fun i => (i.zero, i.size)) = some (some (.agg (List.replicate 128 (Value.int .u8 0)).toArray), 128) := by kernel_rfl
theorem zero1 : (bytesV zeroB) = List.replicate 128 (Value.int .u8 0) := by
  simp only [bytesV, zeroB, List.map_replicate]
theorem zeroV (w : World) : (zeroValue 49).run Try.prog w = .ok (.agg (bytesV zeroB).toArray) w := by
  rw [zero1]; exact (zero_of_info inf49s).1 w
theorem size49 : (Try.prog.info? 49).map (·.size) = some 128 := (zero_of_info inf49s).2
theorem zlen : zeroB.length = 128 := by simp only [zeroB, List.length_replicate]
theorem splice_all (B L : List Int) (h : L.length = B.length) : splice B 0 L = L := by
  simp [splice, h]
theorem rng_row {w : World} {b t : Nat} {B : List Int} (h : BytesAt w b t B) : w.rangeAt b 0 (bytesV B) := fun j v hj => by
  rw [h.cell, Nat.zero_add]
  rwa [bytesV_get] at hj
theorem ld_row {w : World} {b t : Nat} {B : List Int} (h : BytesAt w b t B) (hl : B.length = 128) :
    (loadCellsFrom ⟨b, 0, none⟩ 0 128 #[]).run Try.prog w = .ok (bytesV B).toArray w := by
  have := run_loadCells_list (P := Try.prog) w ⟨b, 0, none⟩ (bytesV B) (fun j v hj => by
    rw [Addr.add_lit]
    exact rng_row h j v hj)
  rw [bytesV_len, hl] at this
  exact this
/-- A whole granule into a block of bytes. -/
theorem st_mid {w : World} {b t : Nat} {B X : List Int} (h : BytesAt w b t B) (o : Nat) (hfit : o + X.length ≤ B.length) :
    (storeCells ⟨b, o, none⟩ (bytesV X) 0).run Try.prog w = .ok () (w.setRow b (bytesV (splice B o X)).toArray) := by
  rw [run_storeCells_at (P := Try.prog) b o t (bytesV X) 0 (bytesV B).toArray w h (by rw [bytesV_len, List.size_toArray, bytesV_len]; omega) (one_bytes X)]
  rw [Nat.add_zero, List.append_assoc, splice_bytes]
/-- A granule into a block of its own. -/
theorem st_new (w : World) (B X : List Int) (hB : B.length = 128) (hX : X.length = 128) :
    (storeCells ⟨w.heap.size, 0, none⟩ (bytesV X) 0).run Try.prog (w.alloc (.cells (bytesV B).toArray 49)) = .ok () (w.alloc (.cells (bytesV X).toArray 49)) := by
  rw [st_mid (B := B) (t := 49) (heap_here rfl) 0 (by omega), splice_all B X (by omega), World.setRow_alloc_new]

/-- A granule is read, at a plain region's list. -/
theorem wpList_ld {ops : Array Oper} {rest : List Oper} {op : Oper} {a : Act} {w : World} {Q : Exit → Act → World → Prop} (hgd : op.guard = none) (x : Operand) (ho : op.op = .load 49 x)
    (b o : Nat) (X : List Int) (hx : a.eval x = .pointer (some ⟨b, o, none⟩)) (hl : X.length = 128) (hr : w.rangeAt b o (bytesV X))
    (h : wpList Try.prog ops Q rest (a.put op.dst (.agg (bytesV X).toArray)) w) : wpList Try.prog ops Q (op :: rest) a w :=
  wpList_load_mid hgd 49 x ho b o hx (bytesV X) _ hr Try.underlying49 rfl (by rw [size49, bytesV_len, hl]) h

/-- 'copy' as one step of a region that draws its order, its run known. -/
theorem step_copy_run {P : Program} {ops : Array Oper} {o : Oper} {a : Act} {w w2 : World} {K : Act → World → Prop} {Q : Exit → Act → World → Prop} {E : Prop} (hgd : o.guard = none) (d s : Operand) (dT sT : TypeId)
    (ho : o.op = .call { callee := .builtin .copy, args := #[d, s], argTypes := #[dT, sT] }) (vd vs r : Value) (hd : a.eval d = vd) (hs : a.eval s = vs)
    (hrun : (Builtin.copy_ #[dT, sT] o.type #[vd, vs]).run P w = .ok r w2) (h : K (a.put o.dst r) w2) :
    if Region.wanted o (yielded ops a.tmps) = true then Oper.wp P o a w K Q else E := by
  have hw : Region.wanted o (yielded ops a.tmps) = true := by simp [Region.wanted, hgd]
  rw [if_pos hw]
  unfold Oper.wp
  simp [execOp, ho, resolve, invoke, builtin, hd, hs, hrun, Result.andThen]
  exact h

theorem eqB (X Y : List Int) (hX : X.length = 128) (hY : Y.length = 128) (w : World) : (Op.equalIn 10000 49 (.agg (bytesV X).toArray) (.agg (bytesV Y).toArray)).run Try.prog w = .ok (decide (X = Y)) w := by
  obtain ⟨i, hi, _, _, _⟩ := info_parts inf5
  exact run_equalIn_ints w 9998 Try.underlying49 hi (by kernel_rfl) Try.underlying5 X Y hX hY
end Go.Proofs.Ytjohobehhijbcaa
