/- Contracts of layer 6's memory: granules read and written. Conditions: those that each theorem states. -/
import Derived.Test.YtfeoaphibkcejaaRows
import Derived.Test.YtfeoaphibkcejaaKit
import Derived.Laws.CopyOwn
import Derived.Maps.AppendAt
import Derived.Deep.RegionHeld3
import Derived.Deep.WholeRow
import Derived.Deep.MidRow
namespace Go.Proofs.Ytfeoaphibkcejaa
open Go.ChangeShapes Go.WideShapes Go.ChangeAt Go.RowKit
set_option linter.unusedSimpArgs false
set_option maxRecDepth 100000

def bytesV (B : List Int) : List Value := B.map (Value.int .u8)
theorem bytesV_len (B : List Int) : (bytesV B).length = B.length := by simp [bytesV]
theorem bytesV_get (B : List Int) (i : Nat) : (bytesV B)[i]? = B[i]?.map (Value.int .u8) := by simp [bytesV]
/-- Bytes in a block of their own. -/
def BytesAt (w : World) (b t : Nat) (B : List Int) : Prop := w.heap[b]? = some (.cells (bytesV B).toArray t (0, 0))
/-- A memory: its struct in block mb, its bytes in block ab. -/
structure Mem (w : World) (mb ab n : Nat) (B : List Int) : Prop where
  mem : w.heap[mb]? = some (.cells #[.slice (some ⟨ab, 0, none⟩) n n] 97 (0, 0))
  all : BytesAt w ab 60 B
  ne : mb ≠ ab
  len : B.length = 128 * n
  pos : 1 ≤ n
  max : n ≤ 4096
theorem BytesAt.lt {w : World} {b t : Nat} {B : List Int} (h : BytesAt w b t B) : b < w.heap.size := (Array.getElem?_eq_some_iff.1 h).1
theorem BytesAt.below {w w' : World} {b t : Nat} {B : List Int} (h : BytesAt w b t B) (hb : Below w.heap.size w w') : BytesAt w' b t B := (hb.block _ h.lt).trans h
theorem BytesAt.cell {w : World} {b t : Nat} {B : List Int} (h : BytesAt w b t B) (i : Nat) : w.cell? ⟨b, i, none⟩ = B[i]?.map (Value.int .u8) := by
  rw [cell_of_row w b i _ _ _ h]
  simp [bytesV]
theorem BytesAt.froz {w : World} {b t : Nat} {B : List Int} (h : BytesAt w b t B) (i : Nat) : w.frozen? ⟨b, i, none⟩ = false := by
  exact frozen_of_row w b i _ _ h
theorem Mem.lt {w : World} {mb ab n : Nat} {B : List Int} (h : Mem w mb ab n B) : mb < w.heap.size ∧ ab < w.heap.size := ⟨(Array.getElem?_eq_some_iff.1 h.mem).1, h.all.lt⟩
theorem Mem.below {w w' : World} {mb ab n : Nat} {B : List Int} (h : Mem w mb ab n B) (hb : Below w.heap.size w w') : Mem w' mb ab n B :=
  ⟨(hb.block _ h.lt.1).trans h.mem, h.all.below hb, h.ne, h.len, h.pos, h.max⟩
def zeroB (n : Nat) : List Int := List.replicate (128 * n) 0
theorem inf60 : (Try.prog.info? 60).map (fun i => (i.zero, i.size, i.bytes)) = some (some (.agg (List.replicate 128 (Value.int .u8 0)).toArray), 128, 128) := by kernel_rfl
theorem made_zero (n : Nat) : madeCells (List.replicate 128 (Value.int .u8 0)).toArray (n * 128) = (bytesV (zeroB n)).toArray := by
  apply Array.ext'
  apply List.ext_getElem?
  intro i
  by_cases hi : i < n * 128
  · have : i % 128 < 128 := by omega
    have h2 : i < 128 * n := by omega
    have e : (List.replicate 128 (Value.int .u8 0)).toArray[i % 128]? = some (Value.int .u8 0) := by
      rw [List.getElem?_toArray, List.getElem?_replicate, if_pos this]
    have hz : (List.replicate 128 (Value.int .u8 0)).toArray.size = 128 := by rw [List.size_toArray, List.length_replicate]
    generalize (List.replicate 128 (Value.int .u8 0)).toArray = Z at e hz
    simp [madeCells, bytesV, zeroB, hi, h2, hz, e, getElem!_def]
  · rw [List.getElem?_eq_none (by simp [madeCells]; omega), List.getElem?_eq_none (by simp [bytesV, zeroB]; omega)]
theorem run_rows (n : Nat) (h : n ≤ 4096) (w : World) : (Instr.makeSlice 95 (.int .i64 (n : Int)) (.int .i64 (n : Int))).run Try.prog w = .ok (.slice (some ⟨w.heap.size, 0, none⟩) n n) (w.alloc (.cells (bytesV (zeroB n)).toArray 60)) := by
  obtain ⟨i, hi, hz, hs, hb⟩ := info_parts inf60
  have hr := run_make (P := Try.prog) w 95 60 i _ Try.underlying95 hi hz .i64 .i64 n n (by omega) (by omega) (by rw [hb]; omega) (by omega)
  simp only [Int.toNat_natCast, hs] at hr
  rw [hr]
  show Result.ok _ (w.alloc (.cells (madeCells (List.replicate 128 (Value.int .u8 0)).toArray (n * 128)) 60)) = _
  rw [made_zero]
theorem mnew (n : Nat) (w : World) (h0 : 1 ≤ n) (h : n ≤ 4096) :
    Calls Try.prog 42 #[.int .i64 n] w fun e w' => e = .returned (.tuple #[.pointer (some ⟨w.heap.size + 1, 0, none⟩), .int .i64 0]) ∧ Mem w' (w.heap.size + 1) w.heap.size n (zeroB n) ∧ Below w.heap.size w w' := by
  have hmk := run_rows n h
  go_enter Try.func42, Try.ntmps42
  go_wp2
  go_ret2
  exact ⟨rfl, ⟨heap_here (by simp), heap_past (by simp) (heap_here rfl), by omega, by simp [zeroB], h0, h⟩, ((Below.refl _ _).alloc (by simp) _).alloc (by simp) _⟩
theorem gran (mb ab n : Nat) (B : List Int) (w : World) (h : Mem w mb ab n B) :
    Calls Try.prog 29 #[.pointer (some ⟨mb, 0, none⟩)] w fun e w' => e = .returned (.int .i64 n) ∧ w = w' := by
  have c0 := cell_of_row w mb 0 _ _ _ h.mem
  have hn := h.max
  go_enter Try.func29, Try.ntmps29
  go_wp2
  go_ret
  exact ⟨rfl, rfl⟩
theorem gran_nil (w : World) :
    Calls Try.prog 29 #[.pointer none] w fun e w' => e = .returned (.int .i64 0) ∧ w = w' := by
  go_enter Try.func29, Try.ntmps29
  go_wp2
  go_ret
  exact ⟨rfl, rfl⟩
theorem inf5 : (Try.prog.info? 5).map (fun i => (i.zero, i.size, i.bytes)) = some (some (.int .u8 0), 1, 1) := by kernel_rfl
theorem splice_bytes (B : List Int) (o : Nat) (X : List Int) : (bytesV B).take o ++ (bytesV X ++ (bytesV B).drop (o + (bytesV X).length)) = bytesV (splice B o X) := by
  simp [bytesV, splice]
theorem splice_len (B : List Int) (o : Nat) (X : List Int) (h : o + X.length ≤ B.length) : (splice B o X).length = B.length := length_splice B o X h
theorem one_bytes (B : List Int) : ∀ v ∈ bytesV B, v.oneCell' = true := fun v hv => by
  obtain ⟨x, _, rfl⟩ := List.mem_map.1 hv
  rfl
theorem grown_refl (w : World) (r : Option Nat) : w.grownBy w r := ⟨rfl, rfl, rfl, Nat.le_refl _, fun _ _ _ => rfl⟩
theorem grown_below {w w1 : World} (h : Below w.heap.size w w1) (r : Option Nat) : w.grownBy w1 r := ⟨h.os, h.tape, h.output, h.size, fun k hk _ => h.block k hk⟩
theorem grown_setRow {w w1 : World} {g : Nat} (h : w.grownBy w1 (some g)) (cs : Array Value) : w.grownBy (w1.setRow g cs) (some g) :=
  ⟨h.os, h.tape, h.output, by have := h.size; simpa [World.setRow] using this, fun k hk hne => (setRow_other w1 g k cs (by simpa using hne)).trans (h.block k hk hne)⟩
theorem grown_trans {a b c : World} {r : Option Nat} (h : a.grownBy b r) (k : b.grownBy c r) : a.grownBy c r :=
  ⟨k.os.trans h.os, k.tape.trans h.tape, k.output.trans h.output, Nat.le_trans h.size k.size, fun i hi hn => (k.block i (Nat.lt_of_lt_of_le hi h.size) hn).trans (h.block i hi hn)⟩
/-- Bytes written into a memory's block. -/
theorem mem_row {w : World} {mb ab n : Nat} {B B' : List Int} (h : Mem w mb ab n B) (hl : B'.length = B.length) : Mem (w.setRow ab (bytesV B').toArray) mb ab n B' :=
  ⟨(setRow_other w ab mb _ h.ne).trans h.mem, setRow_heap w ab _ _ _ _ h.all, h.ne, hl.trans h.len, h.pos, h.max⟩
/-- 'copy' onto bytes in a block. -/
theorem run_cp (w : World) (ab a dl dc b off sl sc : Nat) (B X : List Int) (t : TypeId) (h : BytesAt w ab t B) (hs : ∀ j x, X[j]? = some x → w.cell? ⟨b, off + j, none⟩ = some (.int .u8 x)) (hn : X.length = Nat.min sl dl) (hfit : a + X.length ≤ B.length) :
    (Builtin.copy_ #[84, 84] 3 #[.slice (some ⟨ab, a, none⟩) dl dc, .slice (some ⟨b, off, none⟩) sl sc]).run Try.prog w = .ok (.int .i64 X.length) (w.setRow ab (bytesV (splice B a X)).toArray) := by
  rw [run_copy_row (P := Try.prog) w 84 84 3 5 ab a dl dc ⟨b, off, none⟩ sl sc (bytesV B).toArray t (bytesV X) Try.underlying84 (by kernel_rfl) h (by rw [bytesV_len, hn]) (fun j v hj => by
    rw [bytesV_get] at hj
    obtain ⟨y, hy, rfl⟩ := Option.map_eq_some_iff.1 hj
    rw [Addr.add_lit]
    exact hs j y hy) (by rw [bytesV_len, List.size_toArray, bytesV_len]; exact hfit) (one_bytes X)]
  rw [List.append_assoc, splice_bytes, bytesV_len]
  rfl
/-- A byte of a list. -/
def byD (B : List Int) (i : Nat) : Int := B.getD i 0
/-- All are bytes. -/
def AllB (B : List Int) : Prop := ∀ x ∈ B, 0 ≤ x ∧ x < 256
theorem byD_lt {B : List Int} (h : AllB B) (i : Nat) : 0 ≤ byD B i ∧ byD B i < 256 := by
  unfold byD
  rw [List.getD_eq_getElem?_getD]
  cases hq : B[i]? with
  | none => simp
  | some x => simpa using h x (List.mem_of_getElem? hq)
theorem byD_cell {w : World} {b t : Nat} {B : List Int} (h : BytesAt w b t B) (i : Nat) (hi : i < B.length) : w.cell? ⟨b, i, none⟩ = some (.int .u8 (byD B i)) := by
  rw [h.cell, byD, List.getD_eq_getElem?_getD, List.getElem?_eq_getElem hi]
  rfl
theorem BytesAt.setCell {w : World} {b t : Nat} {B : List Int} (h : BytesAt w b t B) (i : Nat) (v : Int) : BytesAt (w.setCell ⟨b, i, none⟩ (.int .u8 v)) b t (B.set i v) := by
  unfold BytesAt
  rw [heap_setCell_same _ _ _ _ _ _ h]
  simp [bytesV, List.map_set]
theorem BytesAt.grown {w w' : World} {b t : Nat} {B : List Int} {r : Option Nat} (h : BytesAt w b t B) (hg : w.grownBy w' r) (hne : some b ≠ r) : BytesAt w' b t B := (hg.block b h.lt hne).trans h
theorem Mem.grown {w w' : World} {mb ab n : Nat} {B : List Int} {r : Option Nat} (h : Mem w mb ab n B) (hg : w.grownBy w' r) (h1 : some mb ≠ r) (h2 : some ab ≠ r) : Mem w' mb ab n B :=
  ⟨(hg.block _ h.lt.1 h1).trans h.mem, h.all.grown hg h2, h.ne, h.len, h.pos, h.max⟩
theorem grown_setCell {w w1 : World} {r : Nat} (h : w.grownBy w1 (some r)) (o : Nat) (v : Value) : w.grownBy (w1.setCell ⟨r, o, none⟩ v) (some r) :=
  ⟨h.os, h.tape, h.output, by simpa using h.size, fun k hk hne => (heap_setCell_other w1 ⟨r, o, none⟩ k v (by simpa using hne)).trans (h.block k hk hne)⟩
theorem grown_setC (w : World) (b i : Nat) (v : Value) : w.grownBy (w.setCell ⟨b, i, none⟩ v) (some b) :=
  grown_setCell (grown_refl _ _) _ _
theorem run_bytes (n : Nat) (h : n ≤ 4096) (w : World) : (Instr.makeSlice 84 (.int .i64 (128 * (n : Int))) (.int .i64 (128 * (n : Int)))).run Try.prog w = .ok (.slice (some ⟨w.heap.size, 0, none⟩) (128 * n) (128 * n)) (w.alloc (.cells (bytesV (zeroB n)).toArray 5)) := by
  obtain ⟨i, hi, hz, hs, hb⟩ := info_parts inf5
  have hr := run_make (P := Try.prog) w 84 5 i _ Try.underlying84 hi hz .i64 .i64 ((128 * n : Nat) : Int) ((128 * n : Nat) : Int) (by omega) (by omega) (by rw [hb]; omega) (by omega)
  simp only [Int.toNat_natCast, hs] at hr
  rw [show (128 : Int) * (n : Int) = ((128 * n : Nat) : Int) by omega, hr]
  show Result.ok _ (w.alloc (.cells (madeCells #[.int .u8 0] (128 * n * 1)) 5)) = _
  congr 3
  apply Array.ext'
  apply List.ext_getElem?
  intro i
  by_cases hi : i < 128 * n
  · simp [madeCells, bytesV, zeroB, hi, List.getElem?_replicate, Nat.mod_one]
  · rw [List.getElem?_eq_none (by simp [madeCells]; omega), List.getElem?_eq_none (by simp [bytesV, zeroB]; omega)]
theorem splice_all (B L : List Int) (h : L.length = B.length) : splice B 0 L = L := by
  simp [splice, h]
/-- 'copy' as one step of a region that draws its order, its run known. -/
theorem step_copy_run {P : Program} {ops : Array Oper} {o : Oper} {a : Act} {w w2 : World} {K : Act → World → Prop} {Q : Exit → Act → World → Prop} {E : Prop} (hgd : o.guard = none) (d s : Operand) (dT sT : TypeId)
    (ho : o.op = .call { callee := .builtin .copy, args := #[d, s], argTypes := #[dT, sT] }) (vd vs r : Value) (hd : a.eval d = vd) (hs : a.eval s = vs)
    (hrun : (Builtin.copy_ #[dT, sT] o.type #[vd, vs]).run P w = .ok r w2) (h : K (a.put o.dst r) w2) :
    if Region.wanted o (yielded ops a.tmps) = true then Oper.wp P o a w K Q else E := by
  have hw : Region.wanted o (yielded ops a.tmps) = true := by simp [Region.wanted, hgd]
  rw [if_pos hw]
  unfold Oper.wp
  simp [execOp, ho, resolve, invoke, builtin, hd, hs, hrun, Result.andThen]
  exact h
theorem Mem.drew {w : World} {mb ab n : Nat} {B : List Int} (h : Mem w mb ab n B) : Mem w.drew mb ab n B := ⟨h.mem, h.all, h.ne, h.len, h.pos, h.max⟩
theorem grown_drew {w w1 : World} {r : Option Nat} (h : w.grownBy w1 r) : w.grownBy w1.drew r := grown_trans h (grown_below ((Below.refl _ _).drew) r)
theorem inf60s : (Try.prog.info? 60).map (fun i => (i.zero, i.size)) = some (some (.agg (List.replicate 128 (Value.int .u8 0)).toArray), 128) := by kernel_rfl
theorem zero1 : (bytesV (zeroB 1)) = List.replicate 128 (Value.int .u8 0) := by
  simp only [bytesV, zeroB, List.map_replicate, Nat.mul_one]
theorem zeroV (w : World) : (zeroValue 60).run Try.prog w = .ok (.agg (bytesV (zeroB 1)).toArray) w := by
  rw [zero1]; exact (zero_of_info inf60s).1 w
theorem size60 : (Try.prog.info? 60).map (·.size) = some 128 := (zero_of_info inf60s).2
attribute [local go_sem] zeroV
theorem zlen : (zeroB 1).length = 128 := by simp only [zeroB, List.length_replicate, Nat.mul_one]
theorem allz (n : Nat) : AllB (zeroB n) := fun x hx => by
  have := List.eq_of_mem_replicate hx
  omega
/-- A granule's bytes. -/
def sub (B : List Int) (g : Nat) : List Int := (B.drop (128 * g)).take 128
theorem sub_len (B : List Int) (g n : Nat) (hl : B.length = 128 * n) (hg : g < n) : (sub B g).length = 128 := by simp [sub]; omega
theorem sub_all {B : List Int} (h : AllB B) (g : Nat) : AllB (sub B g) := fun x hx => h x (List.mem_of_mem_drop (List.mem_of_mem_take hx))
/-- A whole granule out of a block of bytes. -/
theorem ld_mid {w : World} {b t : Nat} {B : List Int} (h : BytesAt w b t B) (n g : Nat) (hl : B.length = 128 * n) (hg : g < n) (o : Nat) (ho : o = g * 128) :
    (loadCellsFrom ⟨b, o, none⟩ 0 128 #[]).run Try.prog w = .ok (bytesV (sub B g)).toArray w := by
  subst ho
  have := run_loadCells_list (P := Try.prog) w ⟨b, g * 128, none⟩ (bytesV (sub B g)) (fun j v hj => by
    rw [Addr.add_lit, h.cell]
    rw [bytesV_get, sub, List.getElem?_take] at hj
    split at hj
    · rw [List.getElem?_drop] at hj
      rw [Nat.mul_comm g 128]
      exact hj
    · cases hj)
  rw [bytesV_len, sub_len B g n hl hg] at this
  exact this
theorem ld_row {w : World} {b t : Nat} {B : List Int} (h : BytesAt w b t B) (hl : B.length = 128) :
    (loadCellsFrom ⟨b, 0, none⟩ 0 128 #[]).run Try.prog w = .ok (bytesV B).toArray w := by
  have := ld_mid h 1 0 (by omega) (by omega) 0 (by omega)
  rwa [show sub B 0 = B by simp [sub, ← hl]] at this
/-- A whole granule into a block of bytes. -/
theorem st_mid {w : World} {b t : Nat} {B X : List Int} (h : BytesAt w b t B) (o : Nat) (hfit : o + X.length ≤ B.length) :
    (storeCells ⟨b, o, none⟩ (bytesV X) 0).run Try.prog w = .ok () (w.setRow b (bytesV (splice B o X)).toArray) := by
  rw [run_storeCells_at (P := Try.prog) b o t (bytesV X) 0 (bytesV B).toArray w h (by rw [bytesV_len, List.size_toArray, bytesV_len]; omega) (one_bytes X)]
  rw [Nat.add_zero, List.append_assoc, splice_bytes]
/-- A granule into a block of its own. -/
theorem st_new (w : World) (B X : List Int) (hB : B.length = 128) (hX : X.length = 128) :
    (storeCells ⟨w.heap.size, 0, none⟩ (bytesV X) 0).run Try.prog (w.alloc (.cells (bytesV B).toArray 60)) = .ok () (w.alloc (.cells (bytesV X).toArray 60)) := by
  rw [st_mid (B := B) (t := 60) (heap_here rfl) 0 (by omega), splice_all B X (by omega), World.setRow_alloc_new]
theorem rng_mid {w : World} {b t : Nat} {B : List Int} (h : BytesAt w b t B) (g o : Nat) (ho : o = g * 128) : w.rangeAt b o (bytesV (sub B g)) := fun j v hj => by
  subst ho
  rw [h.cell]
  rw [bytesV_get, sub, List.getElem?_take] at hj
  split at hj
  · rw [List.getElem?_drop] at hj
    rw [Nat.mul_comm g 128]
    exact hj
  · cases hj
theorem rng_row {w : World} {b t : Nat} {B : List Int} (h : BytesAt w b t B) : w.rangeAt b 0 (bytesV B) := fun j v hj => by
  rw [h.cell, Nat.zero_add]
  rwa [bytesV_get] at hj
/-- A granule is read, at a plain region's list. -/
theorem wpList_ld {ops : Array Oper} {rest : List Oper} {op : Oper} {a : Act} {w : World} {Q : Exit → Act → World → Prop} (hgd : op.guard = none) (x : Operand) (ho : op.op = .load 60 x)
    (b o : Nat) (X : List Int) (hx : a.eval x = .pointer (some ⟨b, o, none⟩)) (hl : X.length = 128) (hr : w.rangeAt b o (bytesV X))
    (h : wpList Try.prog ops Q rest (a.put op.dst (.agg (bytesV X).toArray)) w) : wpList Try.prog ops Q (op :: rest) a w :=
  wpList_load_mid hgd 60 x ho b o hx (bytesV X) _ hr Try.underlying60 rfl (by rw [size60, bytesV_len, hl]) h
theorem wrong_no (mb ab n : Nat) (B : List Int) (g : Int) (w : World) (h : Mem w mb ab n B) (hg : g < 0 ∨ n ≤ g) :
    Calls Try.prog 40 #[.pointer (some ⟨mb, 0, none⟩), .int .i64 g] w fun e w' => e = .returned (.int .i64 2) ∧ w = w' := by
  have hpn := h.pos
  have hx := h.max
  have c0 := cell_of_row w mb 0 _ _ _ h.mem
  have H := Lib.hid h
  clear h
  rcases (show g < 0 ∨ (0 ≤ g ∧ n ≤ g) by omega) with h1 | ⟨h1, h2⟩
  all_goals clear hg
  all_goals go_enter Try.func40, Try.ntmps40
  all_goals go_wp2_with (first | (go_at_call 29; refine (gran _ _ _ _ _ H.out).mono ?_; rintro e w1 ⟨rfl, rfl⟩))
  all_goals first | (exfalso; omega) | skip
  all_goals go_ret
  all_goals exact ⟨rfl, rfl⟩
theorem wrong_yes (mb ab n : Nat) (B : List Int) (g : Nat) (w : World) (h : Mem w mb ab n B) (hg : g < n) :
    Calls Try.prog 40 #[.pointer (some ⟨mb, 0, none⟩), .int .i64 g] w fun e w' => e = .returned (.int .i64 0) ∧ w = w' := by
  have hpn := h.pos
  have hx := h.max
  have c0 := cell_of_row w mb 0 _ _ _ h.mem
  have H := Lib.hid h
  clear h
  go_enter Try.func40, Try.ntmps40
  go_wp2_with (first | (go_at_call 29; refine (gran _ _ _ _ _ H.out).mono ?_; rintro e w1 ⟨rfl, rfl⟩))
  all_goals first | (exfalso; omega) | skip
  go_ret
  exact ⟨rfl, rfl⟩
set_option maxRecDepth 100000 in
theorem gget_no (mb ab n : Nat) (B : List Int) (g : Int) (w : World) (h : Mem w mb ab n B) (hg : g < 0 ∨ n ≤ g) :
    Calls Try.prog 34 #[.pointer (some ⟨mb, 0, none⟩), .int .i64 g] w fun e w' => e = .returned (.tuple #[.agg (bytesV (zeroB 1)).toArray, .int .i64 2]) ∧ Below w.heap.size w w' := by
  have B1 : Below w.heap.size w (w.alloc (.cells (bytesV (zeroB 1)).toArray 60)) := (Below.refl _ _).alloc (Nat.le_refl _) _
  have H := Lib.hid (h.below B1)
  have hst := st_new w (zeroB 1) (zeroB 1) zlen zlen
  have HB := Lib.hid B1
  have hln : (bytesV (zeroB 1)).length = 128 := by rw [bytesV_len, zlen]
  clear h B1
  go_enter Try.func34, Try.ntmps34
  go_wp2_with (first | (go_at_call 40; refine (wrong_no _ _ _ _ _ _ H.out hg).mono ?_; rintro e w1 ⟨rfl, rfl⟩))
  refine ret_row_tmp rfl w.heap.size 60 _ (0, 0) _ Try.underlying60 rfl ?_ rfl (heap_here rfl) rfl ?_
  · rw [size60, List.size_toArray, bytesV_len, zlen]
  · exact ⟨rfl, HB.out⟩
set_option maxRecDepth 100000 in
theorem gget_yes (mb ab n : Nat) (B : List Int) (g : Nat) (w : World) (h : Mem w mb ab n B) (hg : g < n) :
    Calls Try.prog 34 #[.pointer (some ⟨mb, 0, none⟩), .int .i64 g] w fun e w' => e = .returned (.tuple #[.agg (bytesV (sub B g)).toArray, .int .i64 0]) ∧ Below w.heap.size w w' := by
  have B1 : Below w.heap.size w (w.alloc (.cells (bytesV (zeroB 1)).toArray 60)) := (Below.refl _ _).alloc (Nat.le_refl _) _
  have hx := h.max
  have hl := sub_len B g n h.len hg
  have H := Lib.hid (h.below B1)
  have hst := st_new w (zeroB 1) (sub B g) zlen hl
  have HR := Lib.hid (rng_mid H.out.all g (g * 128) rfl)
  have c0 := cell_of_row _ mb 0 _ _ _ H.out.mem
  have HB : Hid (Below w.heap.size w (w.alloc (.cells (bytesV (sub B g)).toArray 60))) := (Below.refl _ _).alloc (Nat.le_refl _) _
  have HL := Lib.hid hl
  have hln : (bytesV (sub B g)).length = 128 := by rw [bytesV_len, hl]
  clear h B1 hl
  go_enter Try.func34, Try.ntmps34
  go_wp2_with (first | (go_at_call 40; refine (wrong_yes _ _ _ _ _ _ H.out hg).mono ?_; rintro e w1 ⟨rfl, rfl⟩) | (refine wpList_ld rfl (.tmp 19) rfl ab (g * 128) (sub B g) rfl HL.out HR.out ?_))
  refine ret_row_tmp rfl w.heap.size 60 _ (0, 0) _ Try.underlying60 rfl ?_ rfl (heap_here rfl) rfl ?_
  · rw [size60, List.size_toArray, bytesV_len, HL.out]
  · exact ⟨rfl, HB.out⟩
attribute [local go_sem] zeroV
theorem put_no (mb ab n : Nat) (B : List Int) (g : Int) (v : Value) (cs : Array Value) (w : World) (h : Mem w mb ab n B) (hg : g < 0 ∨ n ≤ g) (hv : v = .agg cs) :
    Calls Try.prog 25 #[.pointer (some ⟨mb, 0, none⟩), .int .i64 g, v] w fun e w' => e = .returned (.int .i64 2) ∧ Below w.heap.size w w' := by
  subst hv
  have B1 : Below w.heap.size w (w.alloc (.cells cs 60)) := (Below.refl _ _).alloc (Nat.le_refl _) _
  have H := Lib.hid (h.below B1)
  have HB := Lib.hid B1
  clear h B1
  go_enter Try.func25, Try.ntmps25
  go_wp2_with (first | (go_at_call 40; refine (wrong_no _ _ _ _ _ _ H.out hg).mono ?_; rintro e w1 ⟨rfl, rfl⟩))
  go_ret
  exact ⟨rfl, HB.out⟩
theorem setCells_row {w : World} {b t : Nat} {B : List Int} (h : BytesAt w b t B) (o : Nat) (X : List Int) (hfit : o + X.length ≤ B.length) : w.setCells b o (bytesV X) = w.setRow b (bytesV (splice B o X)).toArray := by
  have h1 := st_mid h o hfit
  have h2 := run_storeCells_cells (P := Try.prog) b o (bytesV X) 0 w (fun j hj => by
    rw [Nat.add_zero, h.cell, List.getElem?_eq_getElem (by rw [bytesV_len] at hj; omega)]; rfl) (fun j _ => h.froz _) (one_bytes X)
  rw [Nat.add_zero] at h2
  rw [h1] at h2
  injection h2 with _ h3
  exact h3.symm
theorem there_of {w : World} {b t : Nat} {B : List Int} (h : BytesAt w b t B) (o m : Nat) (hfit : o + m ≤ B.length) : w.there b o m := fun j hj =>
  ⟨by rw [h.cell, List.getElem?_eq_getElem (by omega)]; rfl, h.froz _⟩
set_option maxHeartbeats 1000000 in
theorem put_yes (mb ab n : Nat) (B X : List Int) (g : Nat) (w : World) (h : Mem w mb ab n B) (hg : g < n) (hX : X.length = 128) :
    Calls Try.prog 25 #[.pointer (some ⟨mb, 0, none⟩), .int .i64 g, .agg (bytesV X).toArray] w fun e w' => e = .returned (.int .i64 0) ∧ Mem w' mb ab n (splice B (128 * g) X) ∧ w.grownBy w' (some ab) := by
  have B1 : Below w.heap.size w (w.alloc (.cells (bytesV X).toArray 60)) := (Below.refl _ _).alloc (Nat.le_refl _) _
  have hl := h.len
  have hx := h.max
  have hlt := h.lt
  have h1 := h.below B1
  have e := setCells_row h1.drew.all (g * 128) X (by omega)
  have hm2 : Mem ((w.alloc (.cells (bytesV X).toArray 60)).drew.setCells ab (g * 128) (bytesV X)) mb ab n (splice B (128 * g) X) := by
    rw [e, Nat.mul_comm 128 g]
    exact mem_row h1.drew (splice_len _ _ _ (by omega))
  have hg2 : w.grownBy ((w.alloc (.cells (bytesV X).toArray 60)).drew.setCells ab (g * 128) (bytesV X)) (some ab) := by rw [e]; exact grown_setRow (grown_below B1.drew _) _
  have hr0 : (w.alloc (.cells (bytesV X).toArray 60)).drew.heap[w.heap.size]? = some (.cells (bytesV X).toArray 60 (0, 0)) := heap_here rfl
  have hr1 : BytesAt ((w.alloc (.cells (bytesV X).toArray 60)).drew.setCells ab (g * 128) (bytesV X)) w.heap.size 60 X := by rw [e]; exact (setRow_other _ _ _ _ (by omega)).trans hr0
  have S0 : (w.alloc (.cells (bytesV X).toArray 60)).drew.cell? ⟨mb, 0, none⟩ = some (.slice (some ⟨ab, 0, none⟩) n n) ∧ (w.alloc (.cells (bytesV X).toArray 60)).drew.rangeAt w.heap.size 0 (bytesV X) ∧ (w.alloc (.cells (bytesV X).toArray 60)).drew.there ab (g * 128) (bytesV X).length := ⟨cell_of_row _ _ 0 _ _ _ h1.drew.mem, rng_row hr0, there_of h1.drew.all _ _ (by rw [bytesV_len]; omega)⟩
  have S1 : ((w.alloc (.cells (bytesV X).toArray 60)).drew.setCells ab (g * 128) (bytesV X)).cell? ⟨mb, 0, none⟩ = some (.slice (some ⟨ab, 0, none⟩) n n) ∧ ((w.alloc (.cells (bytesV X).toArray 60)).drew.setCells ab (g * 128) (bytesV X)).rangeAt w.heap.size 0 (bytesV X) ∧ ((w.alloc (.cells (bytesV X).toArray 60)).drew.setCells ab (g * 128) (bytesV X)).there ab (g * 128) (bytesV X).length := ⟨cell_of_row _ _ 0 _ _ _ hm2.mem, rng_row hr1, World.there_setCells S0.2.2 _ _ _⟩
  have hln : (bytesV X).length = 128 := by rw [bytesV_len, hX]
  have hsz := size60
  have hu := Try.underlying60
  have hone := one_bytes X
  have H := Lib.hid h1
  have HM := Lib.hid hm2
  have HG := Lib.hid hg2
  have HS0 := Lib.hid S0
  have HS1 := Lib.hid S1
  clear h B1 h1 hm2 hg2 hr0 hr1 hl hlt S0 S1 e
  go_enter Try.func25, Try.ntmps25
  go_wp2_with (first | (go_at_call 40; refine (wrong_yes _ _ _ _ _ _ H.out hg).mono ?_; rintro e w1 ⟨rfl, rfl⟩))
  go_region_held3 (fun w' => w'.cell? ⟨mb, 0, none⟩ = some (.slice (some ⟨ab, 0, none⟩) n n) ∧ w'.rangeAt w.heap.size 0 (bytesV X) ∧ w'.there ab (g * 128) (bytesV X).length) ((first | exact HS0.out | exact HS1.out)) (fail)
  go_wp2_with fail
  go_ret
  exact ⟨rfl, HM.out, HG.out⟩
theorem scrub_no (mb ab n : Nat) (B : List Int) (g : Int) (w : World) (h : Mem w mb ab n B) (hg : g < 0 ∨ n ≤ g) :
    Calls Try.prog 32 #[.pointer (some ⟨mb, 0, none⟩), .int .i64 g] w fun e w' => e = .returned (.int .i64 2) ∧ Below w.heap.size w w' := by
  have H := Lib.hid h
  clear h
  go_enter Try.func32, Try.ntmps32
  go_wp2_with (first | (go_at_call 25; refine (put_no _ _ _ _ _ _ _ _ H.out hg rfl).mono ?_; rintro e w1 ⟨rfl, hb⟩))
  go_ret
  exact ⟨rfl, hb⟩
theorem scrub_yes (mb ab n : Nat) (B : List Int) (g : Nat) (w : World) (h : Mem w mb ab n B) (hg : g < n) :
    Calls Try.prog 32 #[.pointer (some ⟨mb, 0, none⟩), .int .i64 g] w fun e w' => e = .returned (.int .i64 0) ∧ Mem w' mb ab n (splice B (128 * g) (zeroB 1)) ∧ w.grownBy w' (some ab) := by
  have H := Lib.hid h
  clear h
  go_enter Try.func32, Try.ntmps32
  go_wp2_with (first | (go_at_call 25; refine (put_yes _ _ _ _ _ _ _ H.out hg zlen).mono ?_; rintro e w1 ⟨rfl, hm, hg1⟩; have HM := Lib.hid hm; have HG := Lib.hid hg1; clear hm hg1))
  go_ret
  exact ⟨rfl, HM.out, HG.out⟩
theorem splice_allB {B X : List Int} (hB : AllB B) (hX : AllB X) (o : Nat) : AllB (splice B o X) := fun x hx => by
  simp only [splice, List.mem_append] at hx
  rcases hx with h | h | h
  · exact hB x (List.mem_of_mem_take h)
  · exact hX x h
  · exact hB x (List.mem_of_mem_drop h)
theorem take_allB {X : List Int} (h : AllB X) (k : Nat) : AllB (X.take k) := fun x hx => h x (List.mem_of_mem_take hx)
theorem setRow_same {w : World} {b t : Nat} {B : List Int} (h : BytesAt w b t B) : w.setRow b (bytesV B).toArray = w := setRow_self w b _ t (0, 0) h
attribute [local go_sem] zeroV
/-- The reference's memory: its struct in block rb, its bytes in block cb. -/
structure Ref (w : World) (rb cb n : Nat) (B : List Int) : Prop where
  ref : w.heap[rb]? = some (.cells #[.slice (some ⟨cb, 0, none⟩) (128 * n) (128 * n)] 115 (0, 0))
  all : BytesAt w cb 5 B
  ne : rb ≠ cb
  len : B.length = 128 * n
  pos : 1 ≤ n
  max : n ≤ 4096
theorem Ref.lt {w : World} {rb cb n : Nat} {B : List Int} (h : Ref w rb cb n B) : rb < w.heap.size ∧ cb < w.heap.size := ⟨(Array.getElem?_eq_some_iff.1 h.ref).1, h.all.lt⟩
theorem Ref.below {w w' : World} {rb cb n : Nat} {B : List Int} (h : Ref w rb cb n B) (hb : Below w.heap.size w w') : Ref w' rb cb n B :=
  ⟨(hb.block _ h.lt.1).trans h.ref, h.all.below hb, h.ne, h.len, h.pos, h.max⟩
theorem Ref.grown {w w' : World} {rb cb n : Nat} {B : List Int} {r : Option Nat} (h : Ref w rb cb n B) (hg : w.grownBy w' r) (h1 : some rb ≠ r) (h2 : some cb ≠ r) : Ref w' rb cb n B :=
  ⟨(hg.block _ h.lt.1 h1).trans h.ref, h.all.grown hg h2, h.ne, h.len, h.pos, h.max⟩
theorem rnew (n : Nat) (w : World) (h0 : 1 ≤ n) (h : n ≤ 4096) :
    Calls Try.prog 44 #[.int .i64 n] w fun e w' => e = .returned (.pointer (some ⟨w.heap.size + 1, 0, none⟩)) ∧ Ref w' (w.heap.size + 1) w.heap.size n (zeroB n) ∧ Below w.heap.size w w' := by
  have hmk := run_bytes n h
  go_enter Try.func44, Try.ntmps44
  go_wp2
  go_ret
  exact ⟨rfl, ⟨heap_here (by simp), heap_past (by simp) (heap_here rfl), by omega, by simp [zeroB], h0, h⟩, ((Below.refl _ _).alloc (by simp) _).alloc (by simp) _⟩
end Go.Proofs.Ytfeoaphibkcejaa
