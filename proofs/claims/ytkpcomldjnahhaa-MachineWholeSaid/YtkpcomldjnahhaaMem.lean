/- Contracts of layer 6's memory: an address's place, a new memory, how many granules, what is within, where a word lies. Conditions: those that each theorem states. -/
import Derived.Test.YtkpcomldjnahhaaRows
import Derived.Test.YtkpcomldjnahhaaKit
namespace Go.Proofs.Ytkpcomldjnahhaa
open Go.ChangeShapes Go.WideShapes Go.ChangeAt Go.RowKit
set_option linter.unusedSimpArgs false

def bytesV (B : List Int) : List Value := B.map (Value.int .u8)
theorem bytesV_len (B : List Int) : (bytesV B).length = B.length := by simp [bytesV]
theorem bytesV_get (B : List Int) (i : Nat) : (bytesV B)[i]? = B[i]?.map (Value.int .u8) := by simp [bytesV]
/-- Bytes in a block of their own. -/
def BytesAt (w : World) (b t : Nat) (B : List Int) : Prop := w.heap[b]? = some (.cells (bytesV B).toArray t (0, 0))
/-- A memory: its struct in block mb, its bytes in block ab. -/
structure Mem (w : World) (mb ab n : Nat) (B : List Int) : Prop where
  mem : w.heap[mb]? = some (.cells #[.slice (some ⟨ab, 0, none⟩) n n] 65 (0, 0))
  all : BytesAt w ab 52 B
  ne : mb ≠ ab
  len : B.length = 128 * n
  pos : 1 ≤ n
  max : n ≤ 4096
theorem BytesAt.lt {w : World} {b t : Nat} {B : List Int} (h : BytesAt w b t B) : b < w.heap.size := (Array.getElem?_eq_some_iff.1 h).1
theorem BytesAt.below {w w' : World} {b t : Nat} {B : List Int} (h : BytesAt w b t B) (hb : Below w.heap.size w w') : BytesAt w' b t B := (hb.block _ h.lt).trans h
theorem BytesAt.cell {w : World} {b t : Nat} {B : List Int} (h : BytesAt w b t B) (i : Nat) : w.cell? ⟨b, i, none⟩ = B[i]?.map (Value.int .u8) := by
  rw [cell_of_row w b i _ _ _ h]
  simp [bytesV]
theorem BytesAt.froz {w : World} {b t : Nat} {B : List Int} (h : BytesAt w b t B) (i : Nat) : w.frozen? ⟨b, i, none⟩ = false := by
  exact frozen_of_row w b i _ _ h
theorem Mem.lt {w : World} {mb ab n : Nat} {B : List Int} (h : Mem w mb ab n B) : mb < w.heap.size ∧ ab < w.heap.size := ⟨(Array.getElem?_eq_some_iff.1 h.mem).1, h.all.lt⟩
theorem Mem.below {w w' : World} {mb ab n : Nat} {B : List Int} (h : Mem w mb ab n B) (hb : Below w.heap.size w w') : Mem w' mb ab n B :=
  ⟨(hb.block _ h.lt.1).trans h.mem, h.all.below hb, h.ne, h.len, h.pos, h.max⟩

theorem and127 (a : Int) (h0 : 0 ≤ a) (h1 : a < 18446744073709551616) : bits .and .u64 a 127 = a % 128 := by
  rw [u64_and a 127 h0 h1 (by omega) (by omega)]
  have : a.toNat &&& (127 : Int).toNat = a.toNat % 128 := Nat.and_two_pow_sub_one_eq_mod a.toNat 7
  rw [this]
  omega
theorem of_any (a : Int) (w : World) (h0 : 0 ≤ a) (h1 : a < 18446744073709551616) :
    Calls Try.prog 8 #[.int .u64 a] w fun e w' => e = .returned (.tuple #[.int .i64 (a / 128), .int .i64 (a % 128)]) ∧ w = w' := by
  have hm := and127 a h0 h1
  go_enter Try.func8, Try.ntmps8
  go_wp2
  go_ret2
  exact ⟨ret_int2 rfl rfl, rfl⟩

def zeroB (n : Nat) : List Int := List.replicate (128 * n) 0
theorem inf52 : (Try.prog.info? 52).map (fun i => (i.zero, i.size, i.bytes)) = some (some (.agg (List.replicate 128 (Value.int .u8 0)).toArray), 128, 128) := by kernel_rfl
theorem made_zero (n : Nat) : madeCells (List.replicate 128 (Value.int .u8 0)).toArray (n * 128) = (bytesV (zeroB n)).toArray := by
  apply Array.ext'
  apply List.ext_getElem?
  intro i
  by_cases hi : i < n * 128
  · have : i % 128 < 128 := by omega
    have h2 : i < 128 * n := by omega
    have e : (List.replicate 128 (Value.int .u8 0)).toArray[i % 128]? = some (Value.int .u8 0) := by
      rw [List.getElem?_toArray, List.getElem?_replicate, if_pos this]
    have hz : (List.replicate 128 (Value.int .u8 0)).toArray.size = 128 := by rw [List.size_toArray, List.length_replicate]
    generalize (List.replicate 128 (Value.int .u8 0)).toArray = Z at e hz
    simp [madeCells, bytesV, zeroB, hi, h2, hz, e, getElem!_def]
  · rw [List.getElem?_eq_none (by simp [madeCells]; omega), List.getElem?_eq_none (by simp [bytesV, zeroB]; omega)]
theorem run_rows (n : Nat) (h : n ≤ 4096) (w : World) : (Instr.makeSlice 63 (.int .i64 (n : Int)) (.int .i64 (n : Int))).run Try.prog w = .ok (.slice (some ⟨w.heap.size, 0, none⟩) n n) (w.alloc (.cells (bytesV (zeroB n)).toArray 52)) := by
  obtain ⟨i, hi, hz, hs, hb⟩ := info_parts inf52
  have hr := run_make (P := Try.prog) w 63 52 i _ Try.underlying63 hi hz .i64 .i64 n n (by omega) (by omega) (by rw [hb]; omega) (by omega)
  simp only [Int.toNat_natCast, hs] at hr
  rw [hr]
  show Result.ok _ (w.alloc (.cells (madeCells (List.replicate 128 (Value.int .u8 0)).toArray (n * 128)) 52)) = _
  rw [made_zero]

theorem new_yes (n : Nat) (w : World) (h0 : 1 ≤ n) (h : n ≤ 4096) :
    Calls Try.prog 10 #[.int .i64 n] w fun e w' => e = .returned (.tuple #[.pointer (some ⟨w.heap.size + 1, 0, none⟩), .int .i64 0]) ∧ Mem w' (w.heap.size + 1) w.heap.size n (zeroB n) ∧ Below w.heap.size w w' := by
  have hmk := run_rows n h
  go_enter Try.func10, Try.ntmps10
  go_wp2
  go_ret2
  exact ⟨rfl, ⟨heap_here (by simp), heap_past (by simp) (heap_here rfl), by omega, by simp [zeroB], h0, h⟩, ((Below.refl _ _).alloc (by simp) _).alloc (by simp) _⟩
theorem new_no (n : Int) (w : World) (h : n < 1 ∨ 4096 < n) :
    Calls Try.prog 10 #[.int .i64 n] w fun e w' => e = .returned (.tuple #[.pointer none, .int .i64 2]) ∧ w = w' := by
  rcases (show n < 1 ∨ (1 ≤ n ∧ 4096 < n) by omega) with h1 | ⟨h1, h2⟩
  all_goals clear h
  all_goals go_enter Try.func10, Try.ntmps10
  all_goals go_wp2
  all_goals go_ret2
  all_goals exact ⟨rfl, rfl⟩

theorem gran (mb ab n : Nat) (B : List Int) (w : World) (h : Mem w mb ab n B) :
    Calls Try.prog 15 #[.pointer (some ⟨mb, 0, none⟩)] w fun e w' => e = .returned (.int .i64 n) ∧ w = w' := by
  have c0 := cell_of_row w mb 0 _ _ _ h.mem
  have hn := h.max
  go_enter Try.func15, Try.ntmps15
  go_wp2
  go_ret
  exact ⟨rfl, rfl⟩
theorem gran_nil (w : World) :
    Calls Try.prog 15 #[.pointer none] w fun e w' => e = .returned (.int .i64 0) ∧ w = w' := by
  go_enter Try.func15, Try.ntmps15
  go_wp2
  go_ret
  exact ⟨rfl, rfl⟩

theorem wrapneg (k : Int) (h : k < 0) (k0 : -9223372036854775808 ≤ k) : IntKind.u64.wrap k = k + 18446744073709551616 := by
  simp [IntKind.wrap, IntKind.bits, IntKind.signed]; omega
theorem within_any (mb ab n : Nat) (B : List Int) (a k : Int) (w : World) (h : Mem w mb ab n B) (h0 : 0 ≤ a) (h1 : a < 18446744073709551616) (k0 : -9223372036854775808 ≤ k) (k1 : k < 9223372036854775808) :
    Calls Try.prog 27 #[.pointer (some ⟨mb, 0, none⟩), .int .u64 a, .int .i64 k] w fun e w' => e = .returned (.bool (decide (k = 0 ∨ 0 < k ∧ a + k ≤ 128 * n))) ∧ w = w' := by
  have hp := h.pos
  have hx := h.max
  have H := Lib.hid h
  clear h
  rcases (show k = 0 ∨ k < 0 ∨ (0 < k ∧ 128 * n < k) ∨ (0 < k ∧ k ≤ 128 * n ∧ 128 * n < a + k) ∨ (0 < k ∧ a + k ≤ 128 * n) by omega) with rfl | q | ⟨q1, q2⟩ | ⟨q1, q2, q3⟩ | ⟨q1, q2⟩
  all_goals go_enter Try.func27, Try.ntmps27
  all_goals go_wp2_with (go_at_call 15; refine (gran _ _ _ _ _ H.out).mono ?_; rintro e w1 ⟨rfl, rfl⟩)
  all_goals go_ret
  all_goals refine ⟨ret_bool ?_, rfl⟩
  all_goals (try rw [wrapneg k (by omega) k0] at *)
  all_goals (rw [Bool.eq_iff_iff]; simp <;> omega)

theorem word_al (mb ab n : Nat) (B : List Int) (a : Int) (w : World) (h : Mem w mb ab n B) (h0 : 0 ≤ a) (h1 : a < 18446744073709551616) (hq : a % 8 ≠ 0) :
    Calls Try.prog 28 #[.pointer (some ⟨mb, 0, none⟩), .int .u64 a] w fun e w' => e = .returned (.tuple #[.slice none 0 0, .int .i64 2]) ∧ w = w' := by
  have hp := h.pos
  have hx := h.max
  have H := Lib.hid h
  clear h
  go_enter Try.func28, Try.ntmps28
  go_wp2_with (first | (go_at_call 15; refine (gran _ _ _ _ _ H.out).mono ?_; rintro e w1 ⟨rfl, rfl⟩) | (go_at_call 27; refine (within_any _ _ _ _ _ _ _ H.out (by omega) (by omega) (by omega) (by omega)).mono ?_; rintro e w1 ⟨rfl, rfl⟩) | (go_at_call 8; refine (of_any _ _ (by omega) (by omega)).mono ?_; rintro e w1 ⟨rfl, rfl⟩))
  all_goals first | (exfalso; omega) | skip
  all_goals go_ret2
  all_goals exact ⟨rfl, rfl⟩
theorem word_out (mb ab n : Nat) (B : List Int) (a : Int) (w : World) (h : Mem w mb ab n B) (h0 : 0 ≤ a) (h1 : a < 18446744073709551616) (hq : a % 8 = 0) (ho : 128 * n < a + 8) :
    Calls Try.prog 28 #[.pointer (some ⟨mb, 0, none⟩), .int .u64 a] w fun e w' => e = .returned (.tuple #[.slice none 0 0, .int .i64 6]) ∧ w = w' := by
  have hp := h.pos
  have hx := h.max
  have H := Lib.hid h
  clear h
  go_enter Try.func28, Try.ntmps28
  have hf : decide ((8 : Int) = 0 ∨ (0 : Int) < 8 ∧ a + 8 ≤ 128 * n) = false := by simp; omega
  go_wp2_with (first | (go_at_call 15; refine (gran _ _ _ _ _ H.out).mono ?_; rintro e w1 ⟨rfl, rfl⟩) | (go_at_call 27; refine (within_any _ _ _ _ _ _ _ H.out (by omega) (by omega) (by omega) (by omega)).mono ?_; rintro e w1 ⟨rfl, rfl⟩; rw [hf]) | (go_at_call 8; refine (of_any _ _ (by omega) (by omega)).mono ?_; rintro e w1 ⟨rfl, rfl⟩))
  all_goals first | (exfalso; omega) | skip
  all_goals go_ret2
  all_goals exact ⟨rfl, rfl⟩
set_option maxRecDepth 100000 in
theorem word_in (mb ab n : Nat) (B : List Int) (a : Nat) (w : World) (h : Mem w mb ab n B) (hq : a % 8 = 0) (ho : a + 8 ≤ 128 * n) :
    Calls Try.prog 28 #[.pointer (some ⟨mb, 0, none⟩), .int .u64 a] w fun e w' => e = .returned (.tuple #[.slice (some ⟨ab, a, none⟩) 8 (128 - a % 128), .int .i64 0]) ∧ w = w' := by
  have hp := h.pos
  have hx := h.max
  have c0 := cell_of_row w mb 0 _ _ _ h.mem
  have hs1 : (a : Int) % 128 + 8 ≤ 128 := by omega
  have hs2 : (a : Int) % 128 ≤ (a : Int) % 128 + 8 := by omega
  have hs3 : 0 ≤ (a : Int) % 128 := by omega
  have H := Lib.hid h
  clear h
  go_enter Try.func28, Try.ntmps28
  have hf : decide ((8 : Int) = 0 ∨ (0 : Int) < 8 ∧ (a : Int) + 8 ≤ 128 * n) = true := by simp; omega
  go_wp2_with (first | (go_at_call 15; refine (gran _ _ _ _ _ H.out).mono ?_; rintro e w1 ⟨rfl, rfl⟩) | (go_at_call 27; refine (within_any _ _ _ _ _ _ _ H.out (by omega) (by omega) (by omega) (by omega)).mono ?_; rintro e w1 ⟨rfl, rfl⟩; rw [hf]) | (go_at_call 8; refine (of_any _ _ (by omega) (by omega)).mono ?_; rintro e w1 ⟨rfl, rfl⟩))
  all_goals first | (exfalso; omega) | skip
  go_ret2
  refine ⟨ret_two ?_ rfl, rfl⟩
  show Value.slice (some ⟨ab, a / 128 * 128 + a % 128, none⟩) (a % 128 + 8 - a % 128) (128 - a % 128) = _
  rw [show a / 128 * 128 + a % 128 = a by omega, show a % 128 + 8 - a % 128 = 8 by omega]
end Go.Proofs.Ytkpcomldjnahhaa
