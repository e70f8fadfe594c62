/- Contracts of layer 6's words: SetWord and Word. Conditions: those that each theorem states. -/
import Derived.Test.YtkpcomldjnahhaaWire
namespace Go.Proofs.Ytkpcomldjnahhaa
open Go.ChangeShapes Go.WideShapes Go.ChangeAt Go.RowKit
set_option linter.unusedSimpArgs false

theorem splice_bytes (B : List Int) (o : Nat) (X : List Int) : (bytesV B).take o ++ (bytesV X ++ (bytesV B).drop (o + (bytesV X).length)) = bytesV (splice B o X) := by
  simp [bytesV, splice]
theorem splice_len (B : List Int) (o : Nat) (X : List Int) (h : o + X.length ≤ B.length) : (splice B o X).length = B.length := length_splice B o X h
theorem one_bytes (B : List Int) : ∀ v ∈ bytesV B, v.oneCell' = true := fun v hv => by
  obtain ⟨x, _, rfl⟩ := List.mem_map.1 hv
  rfl

theorem grown_refl (w : World) (r : Option Nat) : w.grownBy w r := ⟨rfl, rfl, rfl, Nat.le_refl _, fun _ _ _ => rfl⟩
theorem grown_below {w w1 : World} (h : Below w.heap.size w w1) (r : Option Nat) : w.grownBy w1 r := ⟨h.os, h.tape, h.output, h.size, fun k hk _ => h.block k hk⟩
theorem grown_setRow {w w1 : World} {g : Nat} (h : w.grownBy w1 (some g)) (cs : Array Value) : w.grownBy (w1.setRow g cs) (some g) :=
  ⟨h.os, h.tape, h.output, by have := h.size; simpa [World.setRow] using this, fun k hk hne => (setRow_other w1 g k cs (by simpa using hne)).trans (h.block k hk hne)⟩
theorem grown_trans {a b c : World} {r : Option Nat} (h : a.grownBy b r) (k : b.grownBy c r) : a.grownBy c r :=
  ⟨k.os.trans h.os, k.tape.trans h.tape, k.output.trans h.output, Nat.le_trans h.size k.size, fun i hi hn => (k.block i (Nat.lt_of_lt_of_le hi h.size) hn).trans (h.block i hi hn)⟩
/-- Bytes written into a memory's block. -/
theorem mem_row {w : World} {mb ab n : Nat} {B B' : List Int} (h : Mem w mb ab n B) (hl : B'.length = B.length) : Mem (w.setRow ab (bytesV B').toArray) mb ab n B' :=
  ⟨(setRow_other w ab mb _ h.ne).trans h.mem, setRow_heap w ab _ _ _ _ h.all, h.ne, hl.trans h.len, h.pos, h.max⟩

/-- 'copy' onto bytes in a block. -/
theorem run_cp (w : World) (ab a dl dc b off sl sc : Nat) (B X : List Int) (t : TypeId) (h : BytesAt w ab t B) (hs : ∀ j x, X[j]? = some x → w.cell? ⟨b, off + j, none⟩ = some (.int .u8 x)) (hn : X.length = Nat.min sl dl) (hfit : a + X.length ≤ B.length) :
    (Builtin.copy_ #[31, 31] 3 #[.slice (some ⟨ab, a, none⟩) dl dc, .slice (some ⟨b, off, none⟩) sl sc]).run Try.prog w = .ok (.int .i64 X.length) (w.setRow ab (bytesV (splice B a X)).toArray) := by
  rw [run_copy_row (P := Try.prog) w 31 31 3 5 ab a dl dc ⟨b, off, none⟩ sl sc (bytesV B).toArray t (bytesV X) Try.underlying31 (by kernel_rfl) h (by rw [bytesV_len, hn]) (fun j v hj => by
    rw [bytesV_get] at hj
    obtain ⟨y, hy, rfl⟩ := Option.map_eq_some_iff.1 hj
    rw [Addr.add_lit]
    exact hs j y hy) (by rw [bytesV_len, List.size_toArray, bytesV_len]; exact hfit) (one_bytes X)]
  rw [List.append_assoc, splice_bytes, bytesV_len]
  rfl

theorem set_al (mb ab n : Nat) (B : List Int) (a x : Int) (w : World) (h : Mem w mb ab n B) (h0 : 0 ≤ a) (h1 : a < 18446744073709551616) (hq : a % 8 ≠ 0) :
    Calls Try.prog 12 #[.pointer (some ⟨mb, 0, none⟩), .int .u64 a, .int .u64 x] w fun e w' => e = .returned (.int .i64 2) ∧ w = w' := by
  have H := Lib.hid h
  clear h
  go_enter Try.func12, Try.ntmps12
  go_wp2_with (go_at_call 28; refine (word_al _ _ _ _ _ _ H.out h0 h1 hq).mono ?_; rintro e w1 ⟨rfl, rfl⟩)
  go_ret
  exact ⟨rfl, rfl⟩
theorem set_out (mb ab n : Nat) (B : List Int) (a x : Int) (w : World) (h : Mem w mb ab n B) (h0 : 0 ≤ a) (h1 : a < 18446744073709551616) (hq : a % 8 = 0) (ho : 128 * n < a + 8) :
    Calls Try.prog 12 #[.pointer (some ⟨mb, 0, none⟩), .int .u64 a, .int .u64 x] w fun e w' => e = .returned (.int .i64 6) ∧ w = w' := by
  have H := Lib.hid h
  clear h
  go_enter Try.func12, Try.ntmps12
  go_wp2_with (go_at_call 28; refine (word_out _ _ _ _ _ _ H.out h0 h1 hq ho).mono ?_; rintro e w1 ⟨rfl, rfl⟩)
  go_ret
  exact ⟨rfl, rfl⟩
set_option maxHeartbeats 1000000 in
theorem set_in (mb ab n : Nat) (B : List Int) (a : Nat) (x : Int) (w : World) (h : Mem w mb ab n B) (hq : a % 8 = 0) (ho : a + 8 ≤ 128 * n) (hx : x < 18446744073709551616) :
    Calls Try.prog 12 #[.pointer (some ⟨mb, 0, none⟩), .int .u64 a, .int .u64 x] w fun e w' => e = .returned (.int .i64 0) ∧ Mem w' mb ab n (splice B a (lowB x 8)) ∧ w.grownBy w' (some ab) := by
  have H := Lib.hid h
  clear h
  have hX := Lib.hid hx
  clear hx
  go_enter Try.func12, Try.ntmps12
  go_wp2_with (first | (go_at_call 28; refine (word_in _ _ _ _ _ _ H.out hq ho).mono ?_; rintro e w1 ⟨rfl, rfl⟩) | (go_at_call 29; refine (put8 x _ hX.out).mono ?_; rintro e w1 ⟨b, cap, rfl, hb1, hb2, hc, hb⟩; have HM := Lib.hid (H.out.below hb); have HB := Lib.hid hb; have hcp := run_cp w1 ab a 8 (128 - a % 128) b 0 8 cap B (lowB x 8) 52 HM.out.all (fun j y hj => (by rw [Nat.zero_add]; exact hc j y hj)) (by simp [lowB]) (by have := HM.out.len; simp [lowB]; omega); clear hc hb))
  go_ret
  exact ⟨rfl, mem_row HM.out (splice_len _ _ _ (by have := HM.out.len; simp [lowB]; omega)), grown_setRow (grown_below HB.out _) _⟩

theorem get_al (mb ab n : Nat) (B : List Int) (a : Int) (w : World) (h : Mem w mb ab n B) (h0 : 0 ≤ a) (h1 : a < 18446744073709551616) (hq : a % 8 ≠ 0) :
    Calls Try.prog 17 #[.pointer (some ⟨mb, 0, none⟩), .int .u64 a] w fun e w' => e = .returned (.tuple #[.int .u64 0, .int .i64 2]) ∧ w = w' := by
  have H := Lib.hid h
  clear h
  go_enter Try.func17, Try.ntmps17
  go_wp2_with (go_at_call 28; refine (word_al _ _ _ _ _ _ H.out h0 h1 hq).mono ?_; rintro e w1 ⟨rfl, rfl⟩)
  go_ret2
  exact ⟨rfl, rfl⟩
theorem get_out (mb ab n : Nat) (B : List Int) (a : Int) (w : World) (h : Mem w mb ab n B) (h0 : 0 ≤ a) (h1 : a < 18446744073709551616) (hq : a % 8 = 0) (ho : 128 * n < a + 8) :
    Calls Try.prog 17 #[.pointer (some ⟨mb, 0, none⟩), .int .u64 a] w fun e w' => e = .returned (.tuple #[.int .u64 0, .int .i64 6]) ∧ w = w' := by
  have H := Lib.hid h
  clear h
  go_enter Try.func17, Try.ntmps17
  go_wp2_with (go_at_call 28; refine (word_out _ _ _ _ _ _ H.out h0 h1 hq ho).mono ?_; rintro e w1 ⟨rfl, rfl⟩)
  go_ret2
  exact ⟨rfl, rfl⟩

/-- A byte of a list. -/
def byD (B : List Int) (i : Nat) : Int := B.getD i 0
/-- The number of eight bytes from a place on. -/
def numAt (B : List Int) (a : Nat) : Int := num8 (byD B a) (byD B (a + 1)) (byD B (a + 2)) (byD B (a + 3)) (byD B (a + 4)) (byD B (a + 5)) (byD B (a + 6)) (byD B (a + 7))
/-- All are bytes. -/
def AllB (B : List Int) : Prop := ∀ x ∈ B, 0 ≤ x ∧ x < 256
theorem byD_lt {B : List Int} (h : AllB B) (i : Nat) : 0 ≤ byD B i ∧ byD B i < 256 := by
  unfold byD
  rw [List.getD_eq_getElem?_getD]
  cases hq : B[i]? with
  | none => simp
  | some x => simpa using h x (List.mem_of_getElem? hq)
theorem byD_cell {w : World} {b t : Nat} {B : List Int} (h : BytesAt w b t B) (i : Nat) (hi : i < B.length) : w.cell? ⟨b, i, none⟩ = some (.int .u8 (byD B i)) := by
  rw [h.cell, byD, List.getD_eq_getElem?_getD, List.getElem?_eq_getElem hi]
  rfl
theorem get_in (mb ab n : Nat) (B : List Int) (a : Nat) (w : World) (h : Mem w mb ab n B) (hB : AllB B) (hq : a % 8 = 0) (ho : a + 8 ≤ 128 * n) :
    Calls Try.prog 17 #[.pointer (some ⟨mb, 0, none⟩), .int .u64 a] w fun e w' => e = .returned (.tuple #[.int .u64 (numAt B a), .int .i64 0]) ∧ w = w' := by
  have hl := h.len
  have G := Lib.hid (fun cap (hc : 8 ≤ cap) => word0 ab a cap (byD B a) (byD B (a + 1)) (byD B (a + 2)) (byD B (a + 3)) (byD B (a + 4)) (byD B (a + 5)) (byD B (a + 6)) (byD B (a + 7)) w (byD_lt hB _) (byD_lt hB _) (byD_lt hB _) (byD_lt hB _) (byD_lt hB _) (byD_lt hB _) (byD_lt hB _) (byD_lt hB _) hc
    (byD_cell h.all _ (by omega)) (byD_cell h.all _ (by omega)) (byD_cell h.all _ (by omega)) (byD_cell h.all _ (by omega)) (byD_cell h.all _ (by omega)) (byD_cell h.all _ (by omega)) (byD_cell h.all _ (by omega)) (byD_cell h.all _ (by omega)))
  have H := Lib.hid h
  clear h hB
  go_enter Try.func17, Try.ntmps17
  go_wp2_with (first | (go_at_call 28; refine (word_in _ _ _ _ _ _ H.out hq ho).mono ?_; rintro e w1 ⟨rfl, rfl⟩) | (go_at_call 33; refine (G.out _ (by omega)).mono ?_; rintro e w1 ⟨rfl, rfl⟩))
  go_ret2
  exact ⟨rfl, rfl⟩
end Go.Proofs.Ytkpcomldjnahhaa
