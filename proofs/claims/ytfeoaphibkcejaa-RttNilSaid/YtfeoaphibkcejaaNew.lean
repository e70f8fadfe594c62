/- Contract: a new table of granules that are the host's. Conditions: those that each theorem states. -/
import Derived.Test.YtfeoaphibkcejaaUpd
namespace Go.Proofs.Ytfeoaphibkcejaa
open Go.ChangeShapes Go.WideShapes Go.ChangeAt Go.RowKit
set_option linter.unusedSimpArgs false
set_option maxRecDepth 100000

theorem inf56 : (Try.prog.info? 56).map (fun i => (i.zero, i.size, i.bytes)) = some (some (.agg #[.int .i64 0, .int .u64 0, .int .i64 0]), 3, 24) := by kernel_rfl
/-- So many rows of the host's. -/
def zeroR (n : Nat) : List Rw := List.replicate n (0, 0, 0)
theorem made_rows (n : Nat) : madeCells #[.int .i64 0, .int .u64 0, .int .i64 0] (n * 3) = (rowsV (zeroR n)).toArray := by
  apply Array.ext'
  apply List.ext_getElem?
  intro i
  have hl := rowsV_len (zeroR n)
  have hz : (zeroR n).length = n := by simp [zeroR]
  by_cases hi : i < n * 3
  · have hg : i / 3 < (zeroR n).length := by omega
    have hj : i % 3 < 3 := by omega
    have e := rowsV_get (zeroR n) (i / 3) (i % 3) hg hj
    rw [show i / 3 * 3 + i % 3 = i by omega] at e
    rw [show rowD (zeroR n) (i / 3) = (0, 0, 0) by simp [rowD, zeroR, show i / 3 < n by omega]] at e
    show (madeCells _ (n * 3)).toList[i]? = (rowsV (zeroR n))[i]?
    rw [e]
    have : i % 3 = 0 ∨ i % 3 = 1 ∨ i % 3 = 2 := by omega
    rcases this with h | h | h <;> simp [madeCells, hi, h, rowV]
  · rw [List.getElem?_eq_none (by simp [madeCells]; omega), List.getElem?_eq_none (by simp [hl, hz]; omega)]
theorem run_trows (n : Nat) (h : n ≤ 4096) (w : World) : (Instr.makeSlice 105 (.int .i64 (n : Int)) (.int .i64 (n : Int))).run Try.prog w = .ok (.slice (some ⟨w.heap.size, 0, none⟩) n n) (w.alloc (.cells (rowsV (zeroR n)).toArray 56)) := by
  obtain ⟨i, hi, hz, hs, hb⟩ := info_parts inf56
  have hr := run_make (P := Try.prog) w 105 56 i _ Try.underlying105 hi hz .i64 .i64 n n (by omega) (by omega) (by rw [hb]; omega) (by omega)
  simp only [Int.toNat_natCast, hs] at hr
  rw [hr]
  show Result.ok _ (w.alloc (.cells (madeCells #[.int .i64 0, .int .u64 0, .int .i64 0] (n * 3)) 56)) = _
  rw [made_rows]
theorem tnew (n : Nat) (w : World) (h0 : 1 ≤ n) (h : n ≤ 4096) :
    Calls Try.prog 43 #[.int .i64 n] w fun e w' => e = .returned (.tuple #[.pointer (some ⟨w.heap.size + 1, 0, none⟩), .int .i64 0]) ∧ Tab w' (w.heap.size + 1) w.heap.size (zeroR n) ∧ Below w.heap.size w w' := by
  have hmk := run_trows n h
  go_enter Try.func43, Try.ntmps43
  go_wp2
  go_ret2
  exact ⟨rfl, ⟨by rw [show (zeroR n).length = n by simp [zeroR]]; exact heap_here (by simp), heap_past (by simp) (heap_here rfl), by omega⟩, ((Below.refl _ _).alloc (by simp) _).alloc (by simp) _⟩
end Go.Proofs.Ytfeoaphibkcejaa
