/- The statement EntryBack: what entries and tables are told as is read as they are; a page's slots are its digits to the base 4. -/
import Derived.Test.YtjohobehhijbcaaTb6
import Derived.Test.YtjohobehhijbcaaTbs
import Derived.Lib.SmallJoins
namespace Go.Proofs.Ytjohobehhijbcaa
open Go.ChangeShapes Go.WideShapes Go.ChangeAt Go.RowKit
set_option linter.unusedSimpArgs false
attribute [local go_sem] zeroV
namespace EntryBack

/-- What the three functions answer on one level of a page that is there. -/
structure Lv (p l S F M : Int) : Prop where
  s : ∀ w, Calls Try.prog 13 #[.int .i64 p, .int .i64 l] w fun e w' => e = .returned (.tuple #[.int .i64 S, .int .i64 0]) ∧ w = w'
  f : ∀ w, Calls Try.prog 14 #[.int .i64 p, .int .i64 l] w fun e w' => e = .returned (.tuple #[.int .i64 F, .int .i64 0]) ∧ w = w'
  m : ∀ w, Calls Try.prog 15 #[.int .i64 l] w fun e w' => e = .returned (.tuple #[.int .i64 M, .int .i64 0]) ∧ w = w'
theorem lv_of {p l M : Int} (h1 : 0 ≤ p) (h2 : p < 256) (h3 : 0 ≤ l) (h4 : l < 4) (hM : manyV l = M) : Lv p l (slotV p l) (firstV p l) M where
  s w := slot_yes p l w h1 h2 h3 h4
  f w := first_yes p l w h1 h2 h3 h4
  m w := hM ▸ many_yes l w h3 h4
set_option maxHeartbeats 8000000 in
set_option maxRecDepth 100000 in
theorem walkYA (k g : Int) (x : Option Addr) (n c : Nat) (p : Int) (w : World) (hm : mayB k g = true) (hn : n ≠ 4) :
    Calls Try.prog 8 #[.agg #[.int .i64 k, .int .i64 g], .slice x n c, .int .i64 p] w fun e w' => e = .returned (.bool true) ∧ Below w.heap.size w w' := by
  have B1 : Below w.heap.size w (w.alloc (.cells #[.int .i64 k, .int .i64 g] 25)) := (Below.refl _ _).alloc (Nat.le_refl _) _
  have BX : Hid ((w.alloc (.cells #[.int .i64 k, .int .i64 g] 25)).heap[w.heap.size]? = some (.cells #[.int .i64 k, .int .i64 g] 25 (0, 0))) := heap_here rfl
  have HB := Lib.hid B1
  have HLT : Hid (w.heap.size < (w.alloc (.cells #[.int .i64 k, .int .i64 g] 25)).heap.size) := by show _ < _; simp
  have HM := Lib.hid hm
  have HN := Lib.hid hn
  clear B1 hm hn
  go_enter Try.func8, Try.ntmps8
  rcases (show p < 0 ∨ (0 ≤ p ∧ 256 ≤ p) ∨ (0 ≤ p ∧ p < 256) by omega) with p0 | ⟨p0, p1⟩ | ⟨p0, p1⟩
  · go_wp2_with (first | (go_at_call 12; refine (known_any _).mono ?_; rintro e w1 ⟨rfl, b1⟩; replace BX := Lib.hid ((b1.block _ HLT.out).trans BX.out); replace HLT := Lib.hid (Nat.lt_of_lt_of_le HLT.out b1.size); replace HB := Lib.hid (HB.out.trans (b1.mono HB.out.size)); have c0 := cell_of_row _ _ 0 _ _ _ BX.out; have c1 := cell_of_row _ _ 1 _ _ _ BX.out; clear b1) | (go_at_call 11; refine (num_any _ _).mono ?_; rintro e w9 ⟨rfl, rfl⟩) | (go_at_call 20; refine (bytes_yes _ _ _ HM.out).mono ?_; rintro e w2 ⟨rfl, b2⟩; rw [agg8_ent]; have hst8 := st8_new w2 k g; have hln8 := len8 k g; have a2 := Below.alloc b2 b2.size (.cells (bytesV (ent8 k g)).toArray 22); have R8 := Lib.hid (rng_row (show BytesAt (w2.alloc (.cells (bytesV (ent8 k g)).toArray 22)) w2.heap.size 22 (ent8 k g) from heap_here rfl)); replace BX := Lib.hid ((a2.block _ HLT.out).trans BX.out); replace HLT := Lib.hid (Nat.lt_of_lt_of_le HLT.out a2.size); replace HB := Lib.hid (HB.out.trans (a2.mono HB.out.size)); clear a2 b2 c0 c1) | (refine wpList_ld8 rfl (.tmp 7) rfl w2.heap.size 0 (ent8 k g) rfl rfl R8.out ?_) | (go_at_call 9; refine (of_ent HM.out _).mono ?_; rintro e w3 ⟨rfl, b3⟩; have a3 := Below.alloc b3 b3.size (.cells #[.int .i64 k, .int .i64 g] 25); replace BX := Lib.hid ((a3.block _ HLT.out).trans BX.out); replace HLT := Lib.hid (Nat.lt_of_lt_of_le HLT.out a3.size); replace HB := Lib.hid (HB.out.trans (a3.mono HB.out.size)); have c2 := cell_of_row _ _ 0 _ _ _ BX.out; have c3 := cell_of_row _ _ 1 _ _ _ BX.out; have c4 := cell_of_row (w3.alloc (.cells #[.int .i64 k, .int .i64 g] 25)) w3.heap.size 0 _ _ _ (heap_here rfl); have c5 := cell_of_row (w3.alloc (.cells #[.int .i64 k, .int .i64 g] 25)) w3.heap.size 1 _ _ _ (heap_here rfl); clear a3 b3) | (go_at_call 32; refine (tb_ne x n c _ HN.out).mono ?_; rintro e w4 ⟨rfl, b4⟩; have hst := st_new w4 zeroB zeroB zlen zlen; have hln : (bytesV zeroB).length = 128 := (by rw [bytesV_len, zlen]); have a4 := Below.alloc b4 b4.size (.cells (bytesV zeroB).toArray 49); have RT := Lib.hid (rng_row (show BytesAt (w4.alloc (.cells (bytesV zeroB).toArray 49)) w4.heap.size 49 zeroB from heap_here rfl)); replace BX := Lib.hid ((a4.block _ HLT.out).trans BX.out); replace HLT := Lib.hid (Nat.lt_of_lt_of_le HLT.out a4.size); replace HB := Lib.hid (HB.out.trans (a4.mono HB.out.size)); clear a4 b4))
    all_goals first | (exfalso; omega) | skip
    go_ret
    exact ⟨rfl, HB.out⟩
  · go_wp2_with (first | (go_at_call 12; refine (known_any _).mono ?_; rintro e w1 ⟨rfl, b1⟩; replace BX := Lib.hid ((b1.block _ HLT.out).trans BX.out); replace HLT := Lib.hid (Nat.lt_of_lt_of_le HLT.out b1.size); replace HB := Lib.hid (HB.out.trans (b1.mono HB.out.size)); have c0 := cell_of_row _ _ 0 _ _ _ BX.out; have c1 := cell_of_row _ _ 1 _ _ _ BX.out; clear b1) | (go_at_call 11; refine (num_any _ _).mono ?_; rintro e w9 ⟨rfl, rfl⟩) | (go_at_call 20; refine (bytes_yes _ _ _ HM.out).mono ?_; rintro e w2 ⟨rfl, b2⟩; rw [agg8_ent]; have hst8 := st8_new w2 k g; have hln8 := len8 k g; have a2 := Below.alloc b2 b2.size (.cells (bytesV (ent8 k g)).toArray 22); have R8 := Lib.hid (rng_row (show BytesAt (w2.alloc (.cells (bytesV (ent8 k g)).toArray 22)) w2.heap.size 22 (ent8 k g) from heap_here rfl)); replace BX := Lib.hid ((a2.block _ HLT.out).trans BX.out); replace HLT := Lib.hid (Nat.lt_of_lt_of_le HLT.out a2.size); replace HB := Lib.hid (HB.out.trans (a2.mono HB.out.size)); clear a2 b2 c0 c1) | (refine wpList_ld8 rfl (.tmp 7) rfl w2.heap.size 0 (ent8 k g) rfl rfl R8.out ?_) | (go_at_call 9; refine (of_ent HM.out _).mono ?_; rintro e w3 ⟨rfl, b3⟩; have a3 := Below.alloc b3 b3.size (.cells #[.int .i64 k, .int .i64 g] 25); replace BX := Lib.hid ((a3.block _ HLT.out).trans BX.out); replace HLT := Lib.hid (Nat.lt_of_lt_of_le HLT.out a3.size); replace HB := Lib.hid (HB.out.trans (a3.mono HB.out.size)); have c2 := cell_of_row _ _ 0 _ _ _ BX.out; have c3 := cell_of_row _ _ 1 _ _ _ BX.out; have c4 := cell_of_row (w3.alloc (.cells #[.int .i64 k, .int .i64 g] 25)) w3.heap.size 0 _ _ _ (heap_here rfl); have c5 := cell_of_row (w3.alloc (.cells #[.int .i64 k, .int .i64 g] 25)) w3.heap.size 1 _ _ _ (heap_here rfl); clear a3 b3) | (go_at_call 32; refine (tb_ne x n c _ HN.out).mono ?_; rintro e w4 ⟨rfl, b4⟩; have hst := st_new w4 zeroB zeroB zlen zlen; have hln : (bytesV zeroB).length = 128 := (by rw [bytesV_len, zlen]); have a4 := Below.alloc b4 b4.size (.cells (bytesV zeroB).toArray 49); have RT := Lib.hid (rng_row (show BytesAt (w4.alloc (.cells (bytesV zeroB).toArray 49)) w4.heap.size 49 zeroB from heap_here rfl)); replace BX := Lib.hid ((a4.block _ HLT.out).trans BX.out); replace HLT := Lib.hid (Nat.lt_of_lt_of_le HLT.out a4.size); replace HB := Lib.hid (HB.out.trans (a4.mono HB.out.size)); clear a4 b4))
    all_goals first | (exfalso; omega) | skip
    go_ret
    exact ⟨rfl, HB.out⟩
  · have v0 : Hid (Lv p 0 (slotV p 0) (firstV p 0) 64) := lv_of p0 p1 (by omega) (by omega) rfl
    have v1 : Hid (Lv p 1 (slotV p 1) (firstV p 1) 16) := lv_of p0 p1 (by omega) (by omega) rfl
    have v2 : Hid (Lv p 2 (slotV p 2) (firstV p 2) 4) := lv_of p0 p1 (by omega) (by omega) rfl
    have v3 : Hid (Lv p 3 (slotV p 3) (firstV p 3) 1) := lv_of p0 p1 (by omega) (by omega) rfl
    have f0 : 0 ≤ slotV p 0 ∧ slotV p 0 ≤ 3 ∧ 0 ≤ firstV p 0 ∧ firstV p 0 + slotV p 0 * 64 ≤ p ∧ p < firstV p 0 + (slotV p 0 + 1) * 64 := by simp only [slotV, firstV, many0]; omega
    have f1 : 0 ≤ slotV p 1 ∧ slotV p 1 ≤ 3 ∧ 0 ≤ firstV p 1 ∧ firstV p 1 + slotV p 1 * 16 ≤ p ∧ p < firstV p 1 + (slotV p 1 + 1) * 16 := by simp only [slotV, firstV, many1]; omega
    have f2 : 0 ≤ slotV p 2 ∧ slotV p 2 ≤ 3 ∧ 0 ≤ firstV p 2 ∧ firstV p 2 + slotV p 2 * 4 ≤ p ∧ p < firstV p 2 + (slotV p 2 + 1) * 4 := by simp only [slotV, firstV, many2]; omega
    have f3 : 0 ≤ slotV p 3 ∧ slotV p 3 ≤ 3 ∧ 0 ≤ firstV p 3 ∧ firstV p 3 + slotV p 3 * 1 ≤ p ∧ p < firstV p 3 + (slotV p 3 + 1) * 1 := by simp only [slotV, firstV, many3]; omega
    have fs : 4 * (4 * (4 * (slotV p 0) + slotV p 1) + slotV p 2) + slotV p 3 = p := by simp only [slotV, many0, many1, many2, many3]; omega
    generalize slotV p 0 = S0 at *
    generalize firstV p 0 = F0 at *
    generalize slotV p 1 = S1 at *
    generalize firstV p 1 = F1 at *
    generalize slotV p 2 = S2 at *
    generalize firstV p 2 = F2 at *
    generalize slotV p 3 = S3 at *
    generalize firstV p 3 = F3 at *
    have X0 := Lib.hid f0
    have X1 := Lib.hid f1
    have X2 := Lib.hid f2
    have X3 := Lib.hid f3
    have FS := Lib.hid fs
    clear f0 f1 f2 f3 fs
    go_wp2_with (first | (go_at_call 12; refine (known_any _).mono ?_; rintro e w1 ⟨rfl, b1⟩; replace BX := Lib.hid ((b1.block _ HLT.out).trans BX.out); replace HLT := Lib.hid (Nat.lt_of_lt_of_le HLT.out b1.size); replace HB := Lib.hid (HB.out.trans (b1.mono HB.out.size)); have c0 := cell_of_row _ _ 0 _ _ _ BX.out; have c1 := cell_of_row _ _ 1 _ _ _ BX.out; clear b1) | (go_at_call 11; refine (num_any _ _).mono ?_; rintro e w9 ⟨rfl, rfl⟩) | (go_at_call 20; refine (bytes_yes _ _ _ HM.out).mono ?_; rintro e w2 ⟨rfl, b2⟩; rw [agg8_ent]; have hst8 := st8_new w2 k g; have hln8 := len8 k g; have a2 := Below.alloc b2 b2.size (.cells (bytesV (ent8 k g)).toArray 22); have R8 := Lib.hid (rng_row (show BytesAt (w2.alloc (.cells (bytesV (ent8 k g)).toArray 22)) w2.heap.size 22 (ent8 k g) from heap_here rfl)); replace BX := Lib.hid ((a2.block _ HLT.out).trans BX.out); replace HLT := Lib.hid (Nat.lt_of_lt_of_le HLT.out a2.size); replace HB := Lib.hid (HB.out.trans (a2.mono HB.out.size)); clear a2 b2 c0 c1) | (refine wpList_ld8 rfl (.tmp 7) rfl w2.heap.size 0 (ent8 k g) rfl rfl R8.out ?_) | (go_at_call 9; refine (of_ent HM.out _).mono ?_; rintro e w3 ⟨rfl, b3⟩; have a3 := Below.alloc b3 b3.size (.cells #[.int .i64 k, .int .i64 g] 25); replace BX := Lib.hid ((a3.block _ HLT.out).trans BX.out); replace HLT := Lib.hid (Nat.lt_of_lt_of_le HLT.out a3.size); replace HB := Lib.hid (HB.out.trans (a3.mono HB.out.size)); have c2 := cell_of_row _ _ 0 _ _ _ BX.out; have c3 := cell_of_row _ _ 1 _ _ _ BX.out; have c4 := cell_of_row (w3.alloc (.cells #[.int .i64 k, .int .i64 g] 25)) w3.heap.size 0 _ _ _ (heap_here rfl); have c5 := cell_of_row (w3.alloc (.cells #[.int .i64 k, .int .i64 g] 25)) w3.heap.size 1 _ _ _ (heap_here rfl); clear a3 b3) | (go_at_call 32; refine (tb_ne x n c _ HN.out).mono ?_; rintro e w4 ⟨rfl, b4⟩; have hst := st_new w4 zeroB zeroB zlen zlen; have hln : (bytesV zeroB).length = 128 := (by rw [bytesV_len, zlen]); have a4 := Below.alloc b4 b4.size (.cells (bytesV zeroB).toArray 49); have RT := Lib.hid (rng_row (show BytesAt (w4.alloc (.cells (bytesV zeroB).toArray 49)) w4.heap.size 49 zeroB from heap_here rfl)); replace BX := Lib.hid ((a4.block _ HLT.out).trans BX.out); replace HLT := Lib.hid (Nat.lt_of_lt_of_le HLT.out a4.size); replace HB := Lib.hid (HB.out.trans (a4.mono HB.out.size)); clear a4 b4))
    all_goals first | (exfalso; omega) | skip
    refine wp_loop_rounds 5 ?_
    obtain ⟨x1, x2, x3, x4, x5⟩ := X0.out
    rw [rounds_succ]
    go_wp2_with (first | (go_at_call 13; refine (v0.out.s _).mono ?_; rintro e w7 ⟨rfl, rfl⟩) | (go_at_call 14; refine (v0.out.f _).mono ?_; rintro e w7 ⟨rfl, rfl⟩) | (go_at_call 15; refine (v0.out.m _).mono ?_; rintro e w7 ⟨rfl, rfl⟩) | (go_at_call 11; refine (num_any _ _).mono ?_; rintro e w9 ⟨rfl, rfl⟩))
    all_goals first | (exfalso; omega) | skip
    obtain ⟨x1, x2, x3, x4, x5⟩ := X1.out
    rw [rounds_succ]
    go_wp2_with (first | (go_at_call 13; refine (v1.out.s _).mono ?_; rintro e w7 ⟨rfl, rfl⟩) | (go_at_call 14; refine (v1.out.f _).mono ?_; rintro e w7 ⟨rfl, rfl⟩) | (go_at_call 15; refine (v1.out.m _).mono ?_; rintro e w7 ⟨rfl, rfl⟩) | (go_at_call 11; refine (num_any _ _).mono ?_; rintro e w9 ⟨rfl, rfl⟩))
    all_goals first | (exfalso; omega) | skip
    obtain ⟨x1, x2, x3, x4, x5⟩ := X2.out
    rw [rounds_succ]
    go_wp2_with (first | (go_at_call 13; refine (v2.out.s _).mono ?_; rintro e w7 ⟨rfl, rfl⟩) | (go_at_call 14; refine (v2.out.f _).mono ?_; rintro e w7 ⟨rfl, rfl⟩) | (go_at_call 15; refine (v2.out.m _).mono ?_; rintro e w7 ⟨rfl, rfl⟩) | (go_at_call 11; refine (num_any _ _).mono ?_; rintro e w9 ⟨rfl, rfl⟩))
    all_goals first | (exfalso; omega) | skip
    obtain ⟨x1, x2, x3, x4, x5⟩ := X3.out
    rw [rounds_succ]
    go_wp2_with (first | (go_at_call 13; refine (v3.out.s _).mono ?_; rintro e w7 ⟨rfl, rfl⟩) | (go_at_call 14; refine (v3.out.f _).mono ?_; rintro e w7 ⟨rfl, rfl⟩) | (go_at_call 15; refine (v3.out.m _).mono ?_; rintro e w7 ⟨rfl, rfl⟩) | (go_at_call 11; refine (num_any _ _).mono ?_; rintro e w9 ⟨rfl, rfl⟩))
    all_goals first | (exfalso; omega) | skip
    rw [rounds_succ]
    go_wp2_with fail
    go_ret
    exact ⟨ret_bool (by rw [FS.out]; simp), HB.out⟩

set_option maxHeartbeats 8000000 in
set_option maxRecDepth 100000 in
theorem walkYB (k g : Int) (b o c : Nat) (k0 g0 k1 g1 k2 g2 k3 g3 : Int) (p : Int) (w : World) (hm : mayB k g = true) (h : E4 w b o k0 g0 k1 g1 k2 g2 k3 g3) (hok : ok4 k0 g0 k1 g1 k2 g2 k3 g3 = false) :
    Calls Try.prog 8 #[.agg #[.int .i64 k, .int .i64 g], .slice (some ⟨b, o, none⟩) 4 c, .int .i64 p] w fun e w' => e = .returned (.bool true) ∧ Below w.heap.size w w' := by
  have B1 : Below w.heap.size w (w.alloc (.cells #[.int .i64 k, .int .i64 g] 25)) := (Below.refl _ _).alloc (Nat.le_refl _) _
  have BX : Hid ((w.alloc (.cells #[.int .i64 k, .int .i64 g] 25)).heap[w.heap.size]? = some (.cells #[.int .i64 k, .int .i64 g] 25 (0, 0))) := heap_here rfl
  have HB := Lib.hid B1
  have HLT : Hid (w.heap.size < (w.alloc (.cells #[.int .i64 k, .int .i64 g] 25)).heap.size) := by show _ < _; simp
  have HM := Lib.hid hm
  have HE := Lib.hid (h.below B1)
  have HOK := Lib.hid hok
  clear B1 hm h hok
  go_enter Try.func8, Try.ntmps8
  rcases (show p < 0 ∨ (0 ≤ p ∧ 256 ≤ p) ∨ (0 ≤ p ∧ p < 256) by omega) with p0 | ⟨p0, p1⟩ | ⟨p0, p1⟩
  · go_wp2_with (first | (go_at_call 12; refine (known_any _).mono ?_; rintro e w1 ⟨rfl, b1⟩; replace BX := Lib.hid ((b1.block _ HLT.out).trans BX.out); replace HLT := Lib.hid (Nat.lt_of_lt_of_le HLT.out b1.size); replace HB := Lib.hid (HB.out.trans (b1.mono HB.out.size)); replace HE := Lib.hid (HE.out.below b1); have c0 := cell_of_row _ _ 0 _ _ _ BX.out; have c1 := cell_of_row _ _ 1 _ _ _ BX.out; clear b1) | (go_at_call 11; refine (num_any _ _).mono ?_; rintro e w9 ⟨rfl, rfl⟩) | (go_at_call 20; refine (bytes_yes _ _ _ HM.out).mono ?_; rintro e w2 ⟨rfl, b2⟩; rw [agg8_ent]; have hst8 := st8_new w2 k g; have hln8 := len8 k g; have a2 := Below.alloc b2 b2.size (.cells (bytesV (ent8 k g)).toArray 22); have R8 := Lib.hid (rng_row (show BytesAt (w2.alloc (.cells (bytesV (ent8 k g)).toArray 22)) w2.heap.size 22 (ent8 k g) from heap_here rfl)); replace BX := Lib.hid ((a2.block _ HLT.out).trans BX.out); replace HLT := Lib.hid (Nat.lt_of_lt_of_le HLT.out a2.size); replace HB := Lib.hid (HB.out.trans (a2.mono HB.out.size)); replace HE := Lib.hid (HE.out.below a2); clear a2 b2 c0 c1) | (refine wpList_ld8 rfl (.tmp 7) rfl w2.heap.size 0 (ent8 k g) rfl rfl R8.out ?_) | (go_at_call 9; refine (of_ent HM.out _).mono ?_; rintro e w3 ⟨rfl, b3⟩; have a3 := Below.alloc b3 b3.size (.cells #[.int .i64 k, .int .i64 g] 25); replace BX := Lib.hid ((a3.block _ HLT.out).trans BX.out); replace HLT := Lib.hid (Nat.lt_of_lt_of_le HLT.out a3.size); replace HB := Lib.hid (HB.out.trans (a3.mono HB.out.size)); replace HE := Lib.hid (HE.out.below a3); have c2 := cell_of_row _ _ 0 _ _ _ BX.out; have c3 := cell_of_row _ _ 1 _ _ _ BX.out; have c4 := cell_of_row (w3.alloc (.cells #[.int .i64 k, .int .i64 g] 25)) w3.heap.size 0 _ _ _ (heap_here rfl); have c5 := cell_of_row (w3.alloc (.cells #[.int .i64 k, .int .i64 g] 25)) w3.heap.size 1 _ _ _ (heap_here rfl); clear a3 b3) | (go_at_call 32; refine (tb_no b o c _ _ _ _ _ _ _ _ _ HE.out HOK.out).mono ?_; rintro e w4 ⟨rfl, b4⟩; have hst := st_new w4 zeroB zeroB zlen zlen; have hln : (bytesV zeroB).length = 128 := (by rw [bytesV_len, zlen]); have a4 := Below.alloc b4 b4.size (.cells (bytesV zeroB).toArray 49); have RT := Lib.hid (rng_row (show BytesAt (w4.alloc (.cells (bytesV zeroB).toArray 49)) w4.heap.size 49 zeroB from heap_here rfl)); replace BX := Lib.hid ((a4.block _ HLT.out).trans BX.out); replace HLT := Lib.hid (Nat.lt_of_lt_of_le HLT.out a4.size); replace HB := Lib.hid (HB.out.trans (a4.mono HB.out.size)); replace HE := Lib.hid (HE.out.below a4); clear a4 b4))
    all_goals first | (exfalso; omega) | skip
    go_ret
    exact ⟨rfl, HB.out⟩
  · go_wp2_with (first | (go_at_call 12; refine (known_any _).mono ?_; rintro e w1 ⟨rfl, b1⟩; replace BX := Lib.hid ((b1.block _ HLT.out).trans BX.out); replace HLT := Lib.hid (Nat.lt_of_lt_of_le HLT.out b1.size); replace HB := Lib.hid (HB.out.trans (b1.mono HB.out.size)); replace HE := Lib.hid (HE.out.below b1); have c0 := cell_of_row _ _ 0 _ _ _ BX.out; have c1 := cell_of_row _ _ 1 _ _ _ BX.out; clear b1) | (go_at_call 11; refine (num_any _ _).mono ?_; rintro e w9 ⟨rfl, rfl⟩) | (go_at_call 20; refine (bytes_yes _ _ _ HM.out).mono ?_; rintro e w2 ⟨rfl, b2⟩; rw [agg8_ent]; have hst8 := st8_new w2 k g; have hln8 := len8 k g; have a2 := Below.alloc b2 b2.size (.cells (bytesV (ent8 k g)).toArray 22); have R8 := Lib.hid (rng_row (show BytesAt (w2.alloc (.cells (bytesV (ent8 k g)).toArray 22)) w2.heap.size 22 (ent8 k g) from heap_here rfl)); replace BX := Lib.hid ((a2.block _ HLT.out).trans BX.out); replace HLT := Lib.hid (Nat.lt_of_lt_of_le HLT.out a2.size); replace HB := Lib.hid (HB.out.trans (a2.mono HB.out.size)); replace HE := Lib.hid (HE.out.below a2); clear a2 b2 c0 c1) | (refine wpList_ld8 rfl (.tmp 7) rfl w2.heap.size 0 (ent8 k g) rfl rfl R8.out ?_) | (go_at_call 9; refine (of_ent HM.out _).mono ?_; rintro e w3 ⟨rfl, b3⟩; have a3 := Below.alloc b3 b3.size (.cells #[.int .i64 k, .int .i64 g] 25); replace BX := Lib.hid ((a3.block _ HLT.out).trans BX.out); replace HLT := Lib.hid (Nat.lt_of_lt_of_le HLT.out a3.size); replace HB := Lib.hid (HB.out.trans (a3.mono HB.out.size)); replace HE := Lib.hid (HE.out.below a3); have c2 := cell_of_row _ _ 0 _ _ _ BX.out; have c3 := cell_of_row _ _ 1 _ _ _ BX.out; have c4 := cell_of_row (w3.alloc (.cells #[.int .i64 k, .int .i64 g] 25)) w3.heap.size 0 _ _ _ (heap_here rfl); have c5 := cell_of_row (w3.alloc (.cells #[.int .i64 k, .int .i64 g] 25)) w3.heap.size 1 _ _ _ (heap_here rfl); clear a3 b3) | (go_at_call 32; refine (tb_no b o c _ _ _ _ _ _ _ _ _ HE.out HOK.out).mono ?_; rintro e w4 ⟨rfl, b4⟩; have hst := st_new w4 zeroB zeroB zlen zlen; have hln : (bytesV zeroB).length = 128 := (by rw [bytesV_len, zlen]); have a4 := Below.alloc b4 b4.size (.cells (bytesV zeroB).toArray 49); have RT := Lib.hid (rng_row (show BytesAt (w4.alloc (.cells (bytesV zeroB).toArray 49)) w4.heap.size 49 zeroB from heap_here rfl)); replace BX := Lib.hid ((a4.block _ HLT.out).trans BX.out); replace HLT := Lib.hid (Nat.lt_of_lt_of_le HLT.out a4.size); replace HB := Lib.hid (HB.out.trans (a4.mono HB.out.size)); replace HE := Lib.hid (HE.out.below a4); clear a4 b4))
    all_goals first | (exfalso; omega) | skip
    go_ret
    exact ⟨rfl, HB.out⟩
  · have v0 : Hid (Lv p 0 (slotV p 0) (firstV p 0) 64) := lv_of p0 p1 (by omega) (by omega) rfl
    have v1 : Hid (Lv p 1 (slotV p 1) (firstV p 1) 16) := lv_of p0 p1 (by omega) (by omega) rfl
    have v2 : Hid (Lv p 2 (slotV p 2) (firstV p 2) 4) := lv_of p0 p1 (by omega) (by omega) rfl
    have v3 : Hid (Lv p 3 (slotV p 3) (firstV p 3) 1) := lv_of p0 p1 (by omega) (by omega) rfl
    have f0 : 0 ≤ slotV p 0 ∧ slotV p 0 ≤ 3 ∧ 0 ≤ firstV p 0 ∧ firstV p 0 + slotV p 0 * 64 ≤ p ∧ p < firstV p 0 + (slotV p 0 + 1) * 64 := by simp only [slotV, firstV, many0]; omega
    have f1 : 0 ≤ slotV p 1 ∧ slotV p 1 ≤ 3 ∧ 0 ≤ firstV p 1 ∧ firstV p 1 + slotV p 1 * 16 ≤ p ∧ p < firstV p 1 + (slotV p 1 + 1) * 16 := by simp only [slotV, firstV, many1]; omega
    have f2 : 0 ≤ slotV p 2 ∧ slotV p 2 ≤ 3 ∧ 0 ≤ firstV p 2 ∧ firstV p 2 + slotV p 2 * 4 ≤ p ∧ p < firstV p 2 + (slotV p 2 + 1) * 4 := by simp only [slotV, firstV, many2]; omega
    have f3 : 0 ≤ slotV p 3 ∧ slotV p 3 ≤ 3 ∧ 0 ≤ firstV p 3 ∧ firstV p 3 + slotV p 3 * 1 ≤ p ∧ p < firstV p 3 + (slotV p 3 + 1) * 1 := by simp only [slotV, firstV, many3]; omega
    have fs : 4 * (4 * (4 * (slotV p 0) + slotV p 1) + slotV p 2) + slotV p 3 = p := by simp only [slotV, many0, many1, many2, many3]; omega
    generalize slotV p 0 = S0 at *
    generalize firstV p 0 = F0 at *
    generalize slotV p 1 = S1 at *
    generalize firstV p 1 = F1 at *
    generalize slotV p 2 = S2 at *
    generalize firstV p 2 = F2 at *
    generalize slotV p 3 = S3 at *
    generalize firstV p 3 = F3 at *
    have X0 := Lib.hid f0
    have X1 := Lib.hid f1
    have X2 := Lib.hid f2
    have X3 := Lib.hid f3
    have FS := Lib.hid fs
    clear f0 f1 f2 f3 fs
    go_wp2_with (first | (go_at_call 12; refine (known_any _).mono ?_; rintro e w1 ⟨rfl, b1⟩; replace BX := Lib.hid ((b1.block _ HLT.out).trans BX.out); replace HLT := Lib.hid (Nat.lt_of_lt_of_le HLT.out b1.size); replace HB := Lib.hid (HB.out.trans (b1.mono HB.out.size)); replace HE := Lib.hid (HE.out.below b1); have c0 := cell_of_row _ _ 0 _ _ _ BX.out; have c1 := cell_of_row _ _ 1 _ _ _ BX.out; clear b1) | (go_at_call 11; refine (num_any _ _).mono ?_; rintro e w9 ⟨rfl, rfl⟩) | (go_at_call 20; refine (bytes_yes _ _ _ HM.out).mono ?_; rintro e w2 ⟨rfl, b2⟩; rw [agg8_ent]; have hst8 := st8_new w2 k g; have hln8 := len8 k g; have a2 := Below.alloc b2 b2.size (.cells (bytesV (ent8 k g)).toArray 22); have R8 := Lib.hid (rng_row (show BytesAt (w2.alloc (.cells (bytesV (ent8 k g)).toArray 22)) w2.heap.size 22 (ent8 k g) from heap_here rfl)); replace BX := Lib.hid ((a2.block _ HLT.out).trans BX.out); replace HLT := Lib.hid (Nat.lt_of_lt_of_le HLT.out a2.size); replace HB := Lib.hid (HB.out.trans (a2.mono HB.out.size)); replace HE := Lib.hid (HE.out.below a2); clear a2 b2 c0 c1) | (refine wpList_ld8 rfl (.tmp 7) rfl w2.heap.size 0 (ent8 k g) rfl rfl R8.out ?_) | (go_at_call 9; refine (of_ent HM.out _).mono ?_; rintro e w3 ⟨rfl, b3⟩; have a3 := Below.alloc b3 b3.size (.cells #[.int .i64 k, .int .i64 g] 25); replace BX := Lib.hid ((a3.block _ HLT.out).trans BX.out); replace HLT := Lib.hid (Nat.lt_of_lt_of_le HLT.out a3.size); replace HB := Lib.hid (HB.out.trans (a3.mono HB.out.size)); replace HE := Lib.hid (HE.out.below a3); have c2 := cell_of_row _ _ 0 _ _ _ BX.out; have c3 := cell_of_row _ _ 1 _ _ _ BX.out; have c4 := cell_of_row (w3.alloc (.cells #[.int .i64 k, .int .i64 g] 25)) w3.heap.size 0 _ _ _ (heap_here rfl); have c5 := cell_of_row (w3.alloc (.cells #[.int .i64 k, .int .i64 g] 25)) w3.heap.size 1 _ _ _ (heap_here rfl); clear a3 b3) | (go_at_call 32; refine (tb_no b o c _ _ _ _ _ _ _ _ _ HE.out HOK.out).mono ?_; rintro e w4 ⟨rfl, b4⟩; have hst := st_new w4 zeroB zeroB zlen zlen; have hln : (bytesV zeroB).length = 128 := (by rw [bytesV_len, zlen]); have a4 := Below.alloc b4 b4.size (.cells (bytesV zeroB).toArray 49); have RT := Lib.hid (rng_row (show BytesAt (w4.alloc (.cells (bytesV zeroB).toArray 49)) w4.heap.size 49 zeroB from heap_here rfl)); replace BX := Lib.hid ((a4.block _ HLT.out).trans BX.out); replace HLT := Lib.hid (Nat.lt_of_lt_of_le HLT.out a4.size); replace HB := Lib.hid (HB.out.trans (a4.mono HB.out.size)); replace HE := Lib.hid (HE.out.below a4); clear a4 b4))
    all_goals first | (exfalso; omega) | skip
    refine wp_loop_rounds 5 ?_
    obtain ⟨x1, x2, x3, x4, x5⟩ := X0.out
    rw [rounds_succ]
    go_wp2_with (first | (go_at_call 13; refine (v0.out.s _).mono ?_; rintro e w7 ⟨rfl, rfl⟩) | (go_at_call 14; refine (v0.out.f _).mono ?_; rintro e w7 ⟨rfl, rfl⟩) | (go_at_call 15; refine (v0.out.m _).mono ?_; rintro e w7 ⟨rfl, rfl⟩) | (go_at_call 11; refine (num_any _ _).mono ?_; rintro e w9 ⟨rfl, rfl⟩))
    all_goals first | (exfalso; omega) | skip
    obtain ⟨x1, x2, x3, x4, x5⟩ := X1.out
    rw [rounds_succ]
    go_wp2_with (first | (go_at_call 13; refine (v1.out.s _).mono ?_; rintro e w7 ⟨rfl, rfl⟩) | (go_at_call 14; refine (v1.out.f _).mono ?_; rintro e w7 ⟨rfl, rfl⟩) | (go_at_call 15; refine (v1.out.m _).mono ?_; rintro e w7 ⟨rfl, rfl⟩) | (go_at_call 11; refine (num_any _ _).mono ?_; rintro e w9 ⟨rfl, rfl⟩))
    all_goals first | (exfalso; omega) | skip
    obtain ⟨x1, x2, x3, x4, x5⟩ := X2.out
    rw [rounds_succ]
    go_wp2_with (first | (go_at_call 13; refine (v2.out.s _).mono ?_; rintro e w7 ⟨rfl, rfl⟩) | (go_at_call 14; refine (v2.out.f _).mono ?_; rintro e w7 ⟨rfl, rfl⟩) | (go_at_call 15; refine (v2.out.m _).mono ?_; rintro e w7 ⟨rfl, rfl⟩) | (go_at_call 11; refine (num_any _ _).mono ?_; rintro e w9 ⟨rfl, rfl⟩))
    all_goals first | (exfalso; omega) | skip
    obtain ⟨x1, x2, x3, x4, x5⟩ := X3.out
    rw [rounds_succ]
    go_wp2_with (first | (go_at_call 13; refine (v3.out.s _).mono ?_; rintro e w7 ⟨rfl, rfl⟩) | (go_at_call 14; refine (v3.out.f _).mono ?_; rintro e w7 ⟨rfl, rfl⟩) | (go_at_call 15; refine (v3.out.m _).mono ?_; rintro e w7 ⟨rfl, rfl⟩) | (go_at_call 11; refine (num_any _ _).mono ?_; rintro e w9 ⟨rfl, rfl⟩))
    all_goals first | (exfalso; omega) | skip
    rw [rounds_succ]
    go_wp2_with fail
    go_ret
    exact ⟨ret_bool (by rw [FS.out]; simp), HB.out⟩

set_option maxHeartbeats 8000000 in
set_option maxRecDepth 100000 in
theorem walkYC (k g : Int) (b o c : Nat) (k0 g0 k1 g1 k2 g2 k3 g3 : Int) (p : Int) (w : World) (hm : mayB k g = true) (h : E4 w b o k0 g0 k1 g1 k2 g2 k3 g3) (m0 : mayB k0 g0 = true) (m1 : mayB k1 g1 = true) (m2 : mayB k2 g2 = true) (m3 : mayB k3 g3 = true) :
    Calls Try.prog 8 #[.agg #[.int .i64 k, .int .i64 g], .slice (some ⟨b, o, none⟩) 4 c, .int .i64 p] w fun e w' => e = .returned (.bool true) ∧ Below w.heap.size w w' := by
  have B1 : Below w.heap.size w (w.alloc (.cells #[.int .i64 k, .int .i64 g] 25)) := (Below.refl _ _).alloc (Nat.le_refl _) _
  have BX : Hid ((w.alloc (.cells #[.int .i64 k, .int .i64 g] 25)).heap[w.heap.size]? = some (.cells #[.int .i64 k, .int .i64 g] 25 (0, 0))) := heap_here rfl
  have HB := Lib.hid B1
  have HLT : Hid (w.heap.size < (w.alloc (.cells #[.int .i64 k, .int .i64 g] 25)).heap.size) := by show _ < _; simp
  have HM := Lib.hid hm
  have HE := Lib.hid (h.below B1)
  obtain ⟨TT, hTT⟩ : ∃ TT, TT = tabN k0 g0 k1 g1 k2 g2 k3 g3 4 := ⟨_, rfl⟩
  have hbk := tab_back m0 m1 m2 m3
  have hall := tab_all m0 m1 m2 m3
  have hTl := tabN_len k0 g0 k1 g1 k2 g2 k3 g3 4
  have H32 := Lib.hid (fun w' (h : E4 w' b o k0 g0 k1 g1 k2 g2 k3 g3) => tb_yes b o c _ _ _ _ _ _ _ _ w' h m0 m1 m2 m3)
  rw [← hTT] at hbk hall hTl H32
  have HTL := Lib.hid hTl
  have HUN := Lib.hid (fun w' => un_all TT w' hTl hall hbk.1)
  obtain ⟨_, q0, q1, q2, q3, q4, q5, q6, q7⟩ := hbk
  have HQ := Lib.hid (And.intro q0 (And.intro q1 (And.intro q2 (And.intro q3 (And.intro q4 (And.intro q5 (And.intro q6 q7)))))))
  have HTT := Lib.hid hTT
  clear hTT hall hTl q0 q1 q2 q3 q4 q5 q6 q7
  clear B1 hm h m0 m1 m2 m3
  go_enter Try.func8, Try.ntmps8
  rcases (show p < 0 ∨ (0 ≤ p ∧ 256 ≤ p) ∨ (0 ≤ p ∧ p < 256) by omega) with p0 | ⟨p0, p1⟩ | ⟨p0, p1⟩
  · go_wp2_with (first | (go_at_call 12; refine (known_any _).mono ?_; rintro e w1 ⟨rfl, b1⟩; replace BX := Lib.hid ((b1.block _ HLT.out).trans BX.out); replace HLT := Lib.hid (Nat.lt_of_lt_of_le HLT.out b1.size); replace HB := Lib.hid (HB.out.trans (b1.mono HB.out.size)); replace HE := Lib.hid (HE.out.below b1); have c0 := cell_of_row _ _ 0 _ _ _ BX.out; have c1 := cell_of_row _ _ 1 _ _ _ BX.out; clear b1) | (go_at_call 11; refine (num_any _ _).mono ?_; rintro e w9 ⟨rfl, rfl⟩) | (go_at_call 20; refine (bytes_yes _ _ _ HM.out).mono ?_; rintro e w2 ⟨rfl, b2⟩; rw [agg8_ent]; have hst8 := st8_new w2 k g; have hln8 := len8 k g; have a2 := Below.alloc b2 b2.size (.cells (bytesV (ent8 k g)).toArray 22); have R8 := Lib.hid (rng_row (show BytesAt (w2.alloc (.cells (bytesV (ent8 k g)).toArray 22)) w2.heap.size 22 (ent8 k g) from heap_here rfl)); replace BX := Lib.hid ((a2.block _ HLT.out).trans BX.out); replace HLT := Lib.hid (Nat.lt_of_lt_of_le HLT.out a2.size); replace HB := Lib.hid (HB.out.trans (a2.mono HB.out.size)); replace HE := Lib.hid (HE.out.below a2); clear a2 b2 c0 c1) | (refine wpList_ld8 rfl (.tmp 7) rfl w2.heap.size 0 (ent8 k g) rfl rfl R8.out ?_) | (go_at_call 9; refine (of_ent HM.out _).mono ?_; rintro e w3 ⟨rfl, b3⟩; have a3 := Below.alloc b3 b3.size (.cells #[.int .i64 k, .int .i64 g] 25); replace BX := Lib.hid ((a3.block _ HLT.out).trans BX.out); replace HLT := Lib.hid (Nat.lt_of_lt_of_le HLT.out a3.size); replace HB := Lib.hid (HB.out.trans (a3.mono HB.out.size)); replace HE := Lib.hid (HE.out.below a3); have c2 := cell_of_row _ _ 0 _ _ _ BX.out; have c3 := cell_of_row _ _ 1 _ _ _ BX.out; have c4 := cell_of_row (w3.alloc (.cells #[.int .i64 k, .int .i64 g] 25)) w3.heap.size 0 _ _ _ (heap_here rfl); have c5 := cell_of_row (w3.alloc (.cells #[.int .i64 k, .int .i64 g] 25)) w3.heap.size 1 _ _ _ (heap_here rfl); clear a3 b3) | (go_at_call 32; refine (H32.out _ HE.out).mono ?_; rintro e w4 ⟨rfl, b4⟩; have hst := st_new w4 zeroB TT zlen HTL.out; have hln : (bytesV TT).length = 128 := (by rw [bytesV_len, HTL.out]); have a4 := Below.alloc b4 b4.size (.cells (bytesV TT).toArray 49); have RT := Lib.hid (rng_row (show BytesAt (w4.alloc (.cells (bytesV TT).toArray 49)) w4.heap.size 49 TT from heap_here rfl)); replace BX := Lib.hid ((a4.block _ HLT.out).trans BX.out); replace HLT := Lib.hid (Nat.lt_of_lt_of_le HLT.out a4.size); replace HB := Lib.hid (HB.out.trans (a4.mono HB.out.size)); replace HE := Lib.hid (HE.out.below a4); clear a4 b4) | (refine wpList_ld rfl (.tmp 11) rfl w4.heap.size 0 TT rfl HTL.out RT.out ?_) | (go_at_call 35; refine (HUN.out _).mono ?_; rintro e w5 ⟨⟨v5, hv5, _⟩, b5⟩; obtain ⟨e0, e1, e2, e3, e4, e5, e6, e7⟩ := HQ.out; rw [e0, e1, e2, e3, e4, e5, e6, e7] at hv5; obtain ⟨rfl, o5⟩ := hv5 HTT.out.symm; obtain ⟨tb5, tc5, rfl, _, e8⟩ := owns_E4 o5; rw [e0, e1, e2, e3, e4, e5, e6, e7] at e8; have HE5 := Lib.hid e8; clear e0 e1 e2 e3 e4 e5 e6 e7 e8 o5; replace BX := Lib.hid ((b5.block _ HLT.out).trans BX.out); replace HLT := Lib.hid (Nat.lt_of_lt_of_le HLT.out b5.size); replace HB := Lib.hid (HB.out.trans (b5.mono HB.out.size)); replace HE := Lib.hid (HE.out.below b5); clear b5) | (go_at_call 37; refine (same_4 _ _ _ _ _ _ _ _ _ _ _ _ _ _ _ HE5.out HE.out).mono ?_; rintro e w6 ⟨rfl, b6⟩; replace BX := Lib.hid ((b6.block _ HLT.out).trans BX.out); replace HLT := Lib.hid (Nat.lt_of_lt_of_le HLT.out b6.size); replace HB := Lib.hid (HB.out.trans (b6.mono HB.out.size)); replace HE := Lib.hid (HE.out.below b6); clear b6))
    all_goals first | (exfalso; omega) | skip
    go_ret
    exact ⟨rfl, HB.out⟩
  · go_wp2_with (first | (go_at_call 12; refine (known_any _).mono ?_; rintro e w1 ⟨rfl, b1⟩; replace BX := Lib.hid ((b1.block _ HLT.out).trans BX.out); replace HLT := Lib.hid (Nat.lt_of_lt_of_le HLT.out b1.size); replace HB := Lib.hid (HB.out.trans (b1.mono HB.out.size)); replace HE := Lib.hid (HE.out.below b1); have c0 := cell_of_row _ _ 0 _ _ _ BX.out; have c1 := cell_of_row _ _ 1 _ _ _ BX.out; clear b1) | (go_at_call 11; refine (num_any _ _).mono ?_; rintro e w9 ⟨rfl, rfl⟩) | (go_at_call 20; refine (bytes_yes _ _ _ HM.out).mono ?_; rintro e w2 ⟨rfl, b2⟩; rw [agg8_ent]; have hst8 := st8_new w2 k g; have hln8 := len8 k g; have a2 := Below.alloc b2 b2.size (.cells (bytesV (ent8 k g)).toArray 22); have R8 := Lib.hid (rng_row (show BytesAt (w2.alloc (.cells (bytesV (ent8 k g)).toArray 22)) w2.heap.size 22 (ent8 k g) from heap_here rfl)); replace BX := Lib.hid ((a2.block _ HLT.out).trans BX.out); replace HLT := Lib.hid (Nat.lt_of_lt_of_le HLT.out a2.size); replace HB := Lib.hid (HB.out.trans (a2.mono HB.out.size)); replace HE := Lib.hid (HE.out.below a2); clear a2 b2 c0 c1) | (refine wpList_ld8 rfl (.tmp 7) rfl w2.heap.size 0 (ent8 k g) rfl rfl R8.out ?_) | (go_at_call 9; refine (of_ent HM.out _).mono ?_; rintro e w3 ⟨rfl, b3⟩; have a3 := Below.alloc b3 b3.size (.cells #[.int .i64 k, .int .i64 g] 25); replace BX := Lib.hid ((a3.block _ HLT.out).trans BX.out); replace HLT := Lib.hid (Nat.lt_of_lt_of_le HLT.out a3.size); replace HB := Lib.hid (HB.out.trans (a3.mono HB.out.size)); replace HE := Lib.hid (HE.out.below a3); have c2 := cell_of_row _ _ 0 _ _ _ BX.out; have c3 := cell_of_row _ _ 1 _ _ _ BX.out; have c4 := cell_of_row (w3.alloc (.cells #[.int .i64 k, .int .i64 g] 25)) w3.heap.size 0 _ _ _ (heap_here rfl); have c5 := cell_of_row (w3.alloc (.cells #[.int .i64 k, .int .i64 g] 25)) w3.heap.size 1 _ _ _ (heap_here rfl); clear a3 b3) | (go_at_call 32; refine (H32.out _ HE.out).mono ?_; rintro e w4 ⟨rfl, b4⟩; have hst := st_new w4 zeroB TT zlen HTL.out; have hln : (bytesV TT).length = 128 := (by rw [bytesV_len, HTL.out]); have a4 := Below.alloc b4 b4.size (.cells (bytesV TT).toArray 49); have RT := Lib.hid (rng_row (show BytesAt (w4.alloc (.cells (bytesV TT).toArray 49)) w4.heap.size 49 TT from heap_here rfl)); replace BX := Lib.hid ((a4.block _ HLT.out).trans BX.out); replace HLT := Lib.hid (Nat.lt_of_lt_of_le HLT.out a4.size); replace HB := Lib.hid (HB.out.trans (a4.mono HB.out.size)); replace HE := Lib.hid (HE.out.below a4); clear a4 b4) | (refine wpList_ld rfl (.tmp 11) rfl w4.heap.size 0 TT rfl HTL.out RT.out ?_) | (go_at_call 35; refine (HUN.out _).mono ?_; rintro e w5 ⟨⟨v5, hv5, _⟩, b5⟩; obtain ⟨e0, e1, e2, e3, e4, e5, e6, e7⟩ := HQ.out; rw [e0, e1, e2, e3, e4, e5, e6, e7] at hv5; obtain ⟨rfl, o5⟩ := hv5 HTT.out.symm; obtain ⟨tb5, tc5, rfl, _, e8⟩ := owns_E4 o5; rw [e0, e1, e2, e3, e4, e5, e6, e7] at e8; have HE5 := Lib.hid e8; clear e0 e1 e2 e3 e4 e5 e6 e7 e8 o5; replace BX := Lib.hid ((b5.block _ HLT.out).trans BX.out); replace HLT := Lib.hid (Nat.lt_of_lt_of_le HLT.out b5.size); replace HB := Lib.hid (HB.out.trans (b5.mono HB.out.size)); replace HE := Lib.hid (HE.out.below b5); clear b5) | (go_at_call 37; refine (same_4 _ _ _ _ _ _ _ _ _ _ _ _ _ _ _ HE5.out HE.out).mono ?_; rintro e w6 ⟨rfl, b6⟩; replace BX := Lib.hid ((b6.block _ HLT.out).trans BX.out); replace HLT := Lib.hid (Nat.lt_of_lt_of_le HLT.out b6.size); replace HB := Lib.hid (HB.out.trans (b6.mono HB.out.size)); replace HE := Lib.hid (HE.out.below b6); clear b6))
    all_goals first | (exfalso; omega) | skip
    go_ret
    exact ⟨rfl, HB.out⟩
  · have v0 : Hid (Lv p 0 (slotV p 0) (firstV p 0) 64) := lv_of p0 p1 (by omega) (by omega) rfl
    have v1 : Hid (Lv p 1 (slotV p 1) (firstV p 1) 16) := lv_of p0 p1 (by omega) (by omega) rfl
    have v2 : Hid (Lv p 2 (slotV p 2) (firstV p 2) 4) := lv_of p0 p1 (by omega) (by omega) rfl
    have v3 : Hid (Lv p 3 (slotV p 3) (firstV p 3) 1) := lv_of p0 p1 (by omega) (by omega) rfl
    have f0 : 0 ≤ slotV p 0 ∧ slotV p 0 ≤ 3 ∧ 0 ≤ firstV p 0 ∧ firstV p 0 + slotV p 0 * 64 ≤ p ∧ p < firstV p 0 + (slotV p 0 + 1) * 64 := by simp only [slotV, firstV, many0]; omega
    have f1 : 0 ≤ slotV p 1 ∧ slotV p 1 ≤ 3 ∧ 0 ≤ firstV p 1 ∧ firstV p 1 + slotV p 1 * 16 ≤ p ∧ p < firstV p 1 + (slotV p 1 + 1) * 16 := by simp only [slotV, firstV, many1]; omega
    have f2 : 0 ≤ slotV p 2 ∧ slotV p 2 ≤ 3 ∧ 0 ≤ firstV p 2 ∧ firstV p 2 + slotV p 2 * 4 ≤ p ∧ p < firstV p 2 + (slotV p 2 + 1) * 4 := by simp only [slotV, firstV, many2]; omega
    have f3 : 0 ≤ slotV p 3 ∧ slotV p 3 ≤ 3 ∧ 0 ≤ firstV p 3 ∧ firstV p 3 + slotV p 3 * 1 ≤ p ∧ p < firstV p 3 + (slotV p 3 + 1) * 1 := by simp only [slotV, firstV, many3]; omega
    have fs : 4 * (4 * (4 * (slotV p 0) + slotV p 1) + slotV p 2) + slotV p 3 = p := by simp only [slotV, many0, many1, many2, many3]; omega
    generalize slotV p 0 = S0 at *
    generalize firstV p 0 = F0 at *
    generalize slotV p 1 = S1 at *
    generalize firstV p 1 = F1 at *
    generalize slotV p 2 = S2 at *
    generalize firstV p 2 = F2 at *
    generalize slotV p 3 = S3 at *
    generalize firstV p 3 = F3 at *
    have X0 := Lib.hid f0
    have X1 := Lib.hid f1
    have X2 := Lib.hid f2
    have X3 := Lib.hid f3
    have FS := Lib.hid fs
    clear f0 f1 f2 f3 fs
    go_wp2_with (first | (go_at_call 12; refine (known_any _).mono ?_; rintro e w1 ⟨rfl, b1⟩; replace BX := Lib.hid ((b1.block _ HLT.out).trans BX.out); replace HLT := Lib.hid (Nat.lt_of_lt_of_le HLT.out b1.size); replace HB := Lib.hid (HB.out.trans (b1.mono HB.out.size)); replace HE := Lib.hid (HE.out.below b1); have c0 := cell_of_row _ _ 0 _ _ _ BX.out; have c1 := cell_of_row _ _ 1 _ _ _ BX.out; clear b1) | (go_at_call 11; refine (num_any _ _).mono ?_; rintro e w9 ⟨rfl, rfl⟩) | (go_at_call 20; refine (bytes_yes _ _ _ HM.out).mono ?_; rintro e w2 ⟨rfl, b2⟩; rw [agg8_ent]; have hst8 := st8_new w2 k g; have hln8 := len8 k g; have a2 := Below.alloc b2 b2.size (.cells (bytesV (ent8 k g)).toArray 22); have R8 := Lib.hid (rng_row (show BytesAt (w2.alloc (.cells (bytesV (ent8 k g)).toArray 22)) w2.heap.size 22 (ent8 k g) from heap_here rfl)); replace BX := Lib.hid ((a2.block _ HLT.out).trans BX.out); replace HLT := Lib.hid (Nat.lt_of_lt_of_le HLT.out a2.size); replace HB := Lib.hid (HB.out.trans (a2.mono HB.out.size)); replace HE := Lib.hid (HE.out.below a2); clear a2 b2 c0 c1) | (refine wpList_ld8 rfl (.tmp 7) rfl w2.heap.size 0 (ent8 k g) rfl rfl R8.out ?_) | (go_at_call 9; refine (of_ent HM.out _).mono ?_; rintro e w3 ⟨rfl, b3⟩; have a3 := Below.alloc b3 b3.size (.cells #[.int .i64 k, .int .i64 g] 25); replace BX := Lib.hid ((a3.block _ HLT.out).trans BX.out); replace HLT := Lib.hid (Nat.lt_of_lt_of_le HLT.out a3.size); replace HB := Lib.hid (HB.out.trans (a3.mono HB.out.size)); replace HE := Lib.hid (HE.out.below a3); have c2 := cell_of_row _ _ 0 _ _ _ BX.out; have c3 := cell_of_row _ _ 1 _ _ _ BX.out; have c4 := cell_of_row (w3.alloc (.cells #[.int .i64 k, .int .i64 g] 25)) w3.heap.size 0 _ _ _ (heap_here rfl); have c5 := cell_of_row (w3.alloc (.cells #[.int .i64 k, .int .i64 g] 25)) w3.heap.size 1 _ _ _ (heap_here rfl); clear a3 b3) | (go_at_call 32; refine (H32.out _ HE.out).mono ?_; rintro e w4 ⟨rfl, b4⟩; have hst := st_new w4 zeroB TT zlen HTL.out; have hln : (bytesV TT).length = 128 := (by rw [bytesV_len, HTL.out]); have a4 := Below.alloc b4 b4.size (.cells (bytesV TT).toArray 49); have RT := Lib.hid (rng_row (show BytesAt (w4.alloc (.cells (bytesV TT).toArray 49)) w4.heap.size 49 TT from heap_here rfl)); replace BX := Lib.hid ((a4.block _ HLT.out).trans BX.out); replace HLT := Lib.hid (Nat.lt_of_lt_of_le HLT.out a4.size); replace HB := Lib.hid (HB.out.trans (a4.mono HB.out.size)); replace HE := Lib.hid (HE.out.below a4); clear a4 b4) | (refine wpList_ld rfl (.tmp 11) rfl w4.heap.size 0 TT rfl HTL.out RT.out ?_) | (go_at_call 35; refine (HUN.out _).mono ?_; rintro e w5 ⟨⟨v5, hv5, _⟩, b5⟩; obtain ⟨e0, e1, e2, e3, e4, e5, e6, e7⟩ := HQ.out; rw [e0, e1, e2, e3, e4, e5, e6, e7] at hv5; obtain ⟨rfl, o5⟩ := hv5 HTT.out.symm; obtain ⟨tb5, tc5, rfl, _, e8⟩ := owns_E4 o5; rw [e0, e1, e2, e3, e4, e5, e6, e7] at e8; have HE5 := Lib.hid e8; clear e0 e1 e2 e3 e4 e5 e6 e7 e8 o5; replace BX := Lib.hid ((b5.block _ HLT.out).trans BX.out); replace HLT := Lib.hid (Nat.lt_of_lt_of_le HLT.out b5.size); replace HB := Lib.hid (HB.out.trans (b5.mono HB.out.size)); replace HE := Lib.hid (HE.out.below b5); clear b5) | (go_at_call 37; refine (same_4 _ _ _ _ _ _ _ _ _ _ _ _ _ _ _ HE5.out HE.out).mono ?_; rintro e w6 ⟨rfl, b6⟩; replace BX := Lib.hid ((b6.block _ HLT.out).trans BX.out); replace HLT := Lib.hid (Nat.lt_of_lt_of_le HLT.out b6.size); replace HB := Lib.hid (HB.out.trans (b6.mono HB.out.size)); replace HE := Lib.hid (HE.out.below b6); clear b6))
    all_goals first | (exfalso; omega) | skip
    refine wp_loop_rounds 5 ?_
    obtain ⟨x1, x2, x3, x4, x5⟩ := X0.out
    rw [rounds_succ]
    go_wp2_with (first | (go_at_call 13; refine (v0.out.s _).mono ?_; rintro e w7 ⟨rfl, rfl⟩) | (go_at_call 14; refine (v0.out.f _).mono ?_; rintro e w7 ⟨rfl, rfl⟩) | (go_at_call 15; refine (v0.out.m _).mono ?_; rintro e w7 ⟨rfl, rfl⟩) | (go_at_call 11; refine (num_any _ _).mono ?_; rintro e w9 ⟨rfl, rfl⟩))
    all_goals first | (exfalso; omega) | skip
    obtain ⟨x1, x2, x3, x4, x5⟩ := X1.out
    rw [rounds_succ]
    go_wp2_with (first | (go_at_call 13; refine (v1.out.s _).mono ?_; rintro e w7 ⟨rfl, rfl⟩) | (go_at_call 14; refine (v1.out.f _).mono ?_; rintro e w7 ⟨rfl, rfl⟩) | (go_at_call 15; refine (v1.out.m _).mono ?_; rintro e w7 ⟨rfl, rfl⟩) | (go_at_call 11; refine (num_any _ _).mono ?_; rintro e w9 ⟨rfl, rfl⟩))
    all_goals first | (exfalso; omega) | skip
    obtain ⟨x1, x2, x3, x4, x5⟩ := X2.out
    rw [rounds_succ]
    go_wp2_with (first | (go_at_call 13; refine (v2.out.s _).mono ?_; rintro e w7 ⟨rfl, rfl⟩) | (go_at_call 14; refine (v2.out.f _).mono ?_; rintro e w7 ⟨rfl, rfl⟩) | (go_at_call 15; refine (v2.out.m _).mono ?_; rintro e w7 ⟨rfl, rfl⟩) | (go_at_call 11; refine (num_any _ _).mono ?_; rintro e w9 ⟨rfl, rfl⟩))
    all_goals first | (exfalso; omega) | skip
    obtain ⟨x1, x2, x3, x4, x5⟩ := X3.out
    rw [rounds_succ]
    go_wp2_with (first | (go_at_call 13; refine (v3.out.s _).mono ?_; rintro e w7 ⟨rfl, rfl⟩) | (go_at_call 14; refine (v3.out.f _).mono ?_; rintro e w7 ⟨rfl, rfl⟩) | (go_at_call 15; refine (v3.out.m _).mono ?_; rintro e w7 ⟨rfl, rfl⟩) | (go_at_call 11; refine (num_any _ _).mono ?_; rintro e w9 ⟨rfl, rfl⟩))
    all_goals first | (exfalso; omega) | skip
    rw [rounds_succ]
    go_wp2_with fail
    go_ret
    exact ⟨ret_bool (by rw [FS.out]; simp), HB.out⟩

set_option maxHeartbeats 8000000 in
set_option maxRecDepth 100000 in
theorem walkNA (k g : Int) (x : Option Addr) (n c : Nat) (p : Int) (w : World) (hm : mayB k g = false) (hn : n ≠ 4) :
    Calls Try.prog 8 #[.agg #[.int .i64 k, .int .i64 g], .slice x n c, .int .i64 p] w fun e w' => e = .returned (.bool true) ∧ Below w.heap.size w w' := by
  have B1 : Below w.heap.size w (w.alloc (.cells #[.int .i64 k, .int .i64 g] 25)) := (Below.refl _ _).alloc (Nat.le_refl _) _
  have BX : Hid ((w.alloc (.cells #[.int .i64 k, .int .i64 g] 25)).heap[w.heap.size]? = some (.cells #[.int .i64 k, .int .i64 g] 25 (0, 0))) := heap_here rfl
  have HB := Lib.hid B1
  have HLT : Hid (w.heap.size < (w.alloc (.cells #[.int .i64 k, .int .i64 g] 25)).heap.size) := by show _ < _; simp
  have HM := Lib.hid hm
  have HN := Lib.hid hn
  clear B1 hm hn
  go_enter Try.func8, Try.ntmps8
  rcases (show p < 0 ∨ (0 ≤ p ∧ 256 ≤ p) ∨ (0 ≤ p ∧ p < 256) by omega) with p0 | ⟨p0, p1⟩ | ⟨p0, p1⟩
  · go_wp2_with (first | (go_at_call 12; refine (known_any _).mono ?_; rintro e w1 ⟨rfl, b1⟩; replace BX := Lib.hid ((b1.block _ HLT.out).trans BX.out); replace HLT := Lib.hid (Nat.lt_of_lt_of_le HLT.out b1.size); replace HB := Lib.hid (HB.out.trans (b1.mono HB.out.size)); have c0 := cell_of_row _ _ 0 _ _ _ BX.out; have c1 := cell_of_row _ _ 1 _ _ _ BX.out; clear b1) | (go_at_call 11; refine (num_any _ _).mono ?_; rintro e w9 ⟨rfl, rfl⟩) | (go_at_call 20; refine (bytes_no _ _ _ HM.out).mono ?_; rintro e w2 ⟨rfl, b2⟩; rw [agg8_zero]; have hst8 := st8_zero w2; have hln8 := len8z; have a2 := Below.alloc b2 b2.size (.cells (bytesV zero8).toArray 22); replace BX := Lib.hid ((a2.block _ HLT.out).trans BX.out); replace HLT := Lib.hid (Nat.lt_of_lt_of_le HLT.out a2.size); replace HB := Lib.hid (HB.out.trans (a2.mono HB.out.size)); clear a2 b2 c0 c1) | (go_at_call 32; refine (tb_ne x n c _ HN.out).mono ?_; rintro e w4 ⟨rfl, b4⟩; have hst := st_new w4 zeroB zeroB zlen zlen; have hln : (bytesV zeroB).length = 128 := (by rw [bytesV_len, zlen]); have a4 := Below.alloc b4 b4.size (.cells (bytesV zeroB).toArray 49); have RT := Lib.hid (rng_row (show BytesAt (w4.alloc (.cells (bytesV zeroB).toArray 49)) w4.heap.size 49 zeroB from heap_here rfl)); replace BX := Lib.hid ((a4.block _ HLT.out).trans BX.out); replace HLT := Lib.hid (Nat.lt_of_lt_of_le HLT.out a4.size); replace HB := Lib.hid (HB.out.trans (a4.mono HB.out.size)); clear a4 b4))
    all_goals first | (exfalso; omega) | skip
    go_ret
    exact ⟨rfl, HB.out⟩
  · go_wp2_with (first | (go_at_call 12; refine (known_any _).mono ?_; rintro e w1 ⟨rfl, b1⟩; replace BX := Lib.hid ((b1.block _ HLT.out).trans BX.out); replace HLT := Lib.hid (Nat.lt_of_lt_of_le HLT.out b1.size); replace HB := Lib.hid (HB.out.trans (b1.mono HB.out.size)); have c0 := cell_of_row _ _ 0 _ _ _ BX.out; have c1 := cell_of_row _ _ 1 _ _ _ BX.out; clear b1) | (go_at_call 11; refine (num_any _ _).mono ?_; rintro e w9 ⟨rfl, rfl⟩) | (go_at_call 20; refine (bytes_no _ _ _ HM.out).mono ?_; rintro e w2 ⟨rfl, b2⟩; rw [agg8_zero]; have hst8 := st8_zero w2; have hln8 := len8z; have a2 := Below.alloc b2 b2.size (.cells (bytesV zero8).toArray 22); replace BX := Lib.hid ((a2.block _ HLT.out).trans BX.out); replace HLT := Lib.hid (Nat.lt_of_lt_of_le HLT.out a2.size); replace HB := Lib.hid (HB.out.trans (a2.mono HB.out.size)); clear a2 b2 c0 c1) | (go_at_call 32; refine (tb_ne x n c _ HN.out).mono ?_; rintro e w4 ⟨rfl, b4⟩; have hst := st_new w4 zeroB zeroB zlen zlen; have hln : (bytesV zeroB).length = 128 := (by rw [bytesV_len, zlen]); have a4 := Below.alloc b4 b4.size (.cells (bytesV zeroB).toArray 49); have RT := Lib.hid (rng_row (show BytesAt (w4.alloc (.cells (bytesV zeroB).toArray 49)) w4.heap.size 49 zeroB from heap_here rfl)); replace BX := Lib.hid ((a4.block _ HLT.out).trans BX.out); replace HLT := Lib.hid (Nat.lt_of_lt_of_le HLT.out a4.size); replace HB := Lib.hid (HB.out.trans (a4.mono HB.out.size)); clear a4 b4))
    all_goals first | (exfalso; omega) | skip
    go_ret
    exact ⟨rfl, HB.out⟩
  · have v0 : Hid (Lv p 0 (slotV p 0) (firstV p 0) 64) := lv_of p0 p1 (by omega) (by omega) rfl
    have v1 : Hid (Lv p 1 (slotV p 1) (firstV p 1) 16) := lv_of p0 p1 (by omega) (by omega) rfl
    have v2 : Hid (Lv p 2 (slotV p 2) (firstV p 2) 4) := lv_of p0 p1 (by omega) (by omega) rfl
    have v3 : Hid (Lv p 3 (slotV p 3) (firstV p 3) 1) := lv_of p0 p1 (by omega) (by omega) rfl
    have f0 : 0 ≤ slotV p 0 ∧ slotV p 0 ≤ 3 ∧ 0 ≤ firstV p 0 ∧ firstV p 0 + slotV p 0 * 64 ≤ p ∧ p < firstV p 0 + (slotV p 0 + 1) * 64 := by simp only [slotV, firstV, many0]; omega
    have f1 : 0 ≤ slotV p 1 ∧ slotV p 1 ≤ 3 ∧ 0 ≤ firstV p 1 ∧ firstV p 1 + slotV p 1 * 16 ≤ p ∧ p < firstV p 1 + (slotV p 1 + 1) * 16 := by simp only [slotV, firstV, many1]; omega
    have f2 : 0 ≤ slotV p 2 ∧ slotV p 2 ≤ 3 ∧ 0 ≤ firstV p 2 ∧ firstV p 2 + slotV p 2 * 4 ≤ p ∧ p < firstV p 2 + (slotV p 2 + 1) * 4 := by simp only [slotV, firstV, many2]; omega
    have f3 : 0 ≤ slotV p 3 ∧ slotV p 3 ≤ 3 ∧ 0 ≤ firstV p 3 ∧ firstV p 3 + slotV p 3 * 1 ≤ p ∧ p < firstV p 3 + (slotV p 3 + 1) * 1 := by simp only [slotV, firstV, many3]; omega
    have fs : 4 * (4 * (4 * (slotV p 0) + slotV p 1) + slotV p 2) + slotV p 3 = p := by simp only [slotV, many0, many1, many2, many3]; omega
    generalize slotV p 0 = S0 at *
    generalize firstV p 0 = F0 at *
    generalize slotV p 1 = S1 at *
    generalize firstV p 1 = F1 at *
    generalize slotV p 2 = S2 at *
    generalize firstV p 2 = F2 at *
    generalize slotV p 3 = S3 at *
    generalize firstV p 3 = F3 at *
    have X0 := Lib.hid f0
    have X1 := Lib.hid f1
    have X2 := Lib.hid f2
    have X3 := Lib.hid f3
    have FS := Lib.hid fs
    clear f0 f1 f2 f3 fs
    go_wp2_with (first | (go_at_call 12; refine (known_any _).mono ?_; rintro e w1 ⟨rfl, b1⟩; replace BX := Lib.hid ((b1.block _ HLT.out).trans BX.out); replace HLT := Lib.hid (Nat.lt_of_lt_of_le HLT.out b1.size); replace HB := Lib.hid (HB.out.trans (b1.mono HB.out.size)); have c0 := cell_of_row _ _ 0 _ _ _ BX.out; have c1 := cell_of_row _ _ 1 _ _ _ BX.out; clear b1) | (go_at_call 11; refine (num_any _ _).mono ?_; rintro e w9 ⟨rfl, rfl⟩) | (go_at_call 20; refine (bytes_no _ _ _ HM.out).mono ?_; rintro e w2 ⟨rfl, b2⟩; rw [agg8_zero]; have hst8 := st8_zero w2; have hln8 := len8z; have a2 := Below.alloc b2 b2.size (.cells (bytesV zero8).toArray 22); replace BX := Lib.hid ((a2.block _ HLT.out).trans BX.out); replace HLT := Lib.hid (Nat.lt_of_lt_of_le HLT.out a2.size); replace HB := Lib.hid (HB.out.trans (a2.mono HB.out.size)); clear a2 b2 c0 c1) | (go_at_call 32; refine (tb_ne x n c _ HN.out).mono ?_; rintro e w4 ⟨rfl, b4⟩; have hst := st_new w4 zeroB zeroB zlen zlen; have hln : (bytesV zeroB).length = 128 := (by rw [bytesV_len, zlen]); have a4 := Below.alloc b4 b4.size (.cells (bytesV zeroB).toArray 49); have RT := Lib.hid (rng_row (show BytesAt (w4.alloc (.cells (bytesV zeroB).toArray 49)) w4.heap.size 49 zeroB from heap_here rfl)); replace BX := Lib.hid ((a4.block _ HLT.out).trans BX.out); replace HLT := Lib.hid (Nat.lt_of_lt_of_le HLT.out a4.size); replace HB := Lib.hid (HB.out.trans (a4.mono HB.out.size)); clear a4 b4))
    all_goals first | (exfalso; omega) | skip
    refine wp_loop_rounds 5 ?_
    obtain ⟨x1, x2, x3, x4, x5⟩ := X0.out
    rw [rounds_succ]
    go_wp2_with (first | (go_at_call 13; refine (v0.out.s _).mono ?_; rintro e w7 ⟨rfl, rfl⟩) | (go_at_call 14; refine (v0.out.f _).mono ?_; rintro e w7 ⟨rfl, rfl⟩) | (go_at_call 15; refine (v0.out.m _).mono ?_; rintro e w7 ⟨rfl, rfl⟩) | (go_at_call 11; refine (num_any _ _).mono ?_; rintro e w9 ⟨rfl, rfl⟩))
    all_goals first | (exfalso; omega) | skip
    obtain ⟨x1, x2, x3, x4, x5⟩ := X1.out
    rw [rounds_succ]
    go_wp2_with (first | (go_at_call 13; refine (v1.out.s _).mono ?_; rintro e w7 ⟨rfl, rfl⟩) | (go_at_call 14; refine (v1.out.f _).mono ?_; rintro e w7 ⟨rfl, rfl⟩) | (go_at_call 15; refine (v1.out.m _).mono ?_; rintro e w7 ⟨rfl, rfl⟩) | (go_at_call 11; refine (num_any _ _).mono ?_; rintro e w9 ⟨rfl, rfl⟩))
    all_goals first | (exfalso; omega) | skip
    obtain ⟨x1, x2, x3, x4, x5⟩ := X2.out
    rw [rounds_succ]
    go_wp2_with (first | (go_at_call 13; refine (v2.out.s _).mono ?_; rintro e w7 ⟨rfl, rfl⟩) | (go_at_call 14; refine (v2.out.f _).mono ?_; rintro e w7 ⟨rfl, rfl⟩) | (go_at_call 15; refine (v2.out.m _).mono ?_; rintro e w7 ⟨rfl, rfl⟩) | (go_at_call 11; refine (num_any _ _).mono ?_; rintro e w9 ⟨rfl, rfl⟩))
    all_goals first | (exfalso; omega) | skip
    obtain ⟨x1, x2, x3, x4, x5⟩ := X3.out
    rw [rounds_succ]
    go_wp2_with (first | (go_at_call 13; refine (v3.out.s _).mono ?_; rintro e w7 ⟨rfl, rfl⟩) | (go_at_call 14; refine (v3.out.f _).mono ?_; rintro e w7 ⟨rfl, rfl⟩) | (go_at_call 15; refine (v3.out.m _).mono ?_; rintro e w7 ⟨rfl, rfl⟩) | (go_at_call 11; refine (num_any _ _).mono ?_; rintro e w9 ⟨rfl, rfl⟩))
    all_goals first | (exfalso; omega) | skip
    rw [rounds_succ]
    go_wp2_with fail
    go_ret
    exact ⟨ret_bool (by rw [FS.out]; simp), HB.out⟩

set_option maxHeartbeats 8000000 in
set_option maxRecDepth 100000 in
theorem walkNB (k g : Int) (b o c : Nat) (k0 g0 k1 g1 k2 g2 k3 g3 : Int) (p : Int) (w : World) (hm : mayB k g = false) (h : E4 w b o k0 g0 k1 g1 k2 g2 k3 g3) (hok : ok4 k0 g0 k1 g1 k2 g2 k3 g3 = false) :
    Calls Try.prog 8 #[.agg #[.int .i64 k, .int .i64 g], .slice (some ⟨b, o, none⟩) 4 c, .int .i64 p] w fun e w' => e = .returned (.bool true) ∧ Below w.heap.size w w' := by
  have B1 : Below w.heap.size w (w.alloc (.cells #[.int .i64 k, .int .i64 g] 25)) := (Below.refl _ _).alloc (Nat.le_refl _) _
  have BX : Hid ((w.alloc (.cells #[.int .i64 k, .int .i64 g] 25)).heap[w.heap.size]? = some (.cells #[.int .i64 k, .int .i64 g] 25 (0, 0))) := heap_here rfl
  have HB := Lib.hid B1
  have HLT : Hid (w.heap.size < (w.alloc (.cells #[.int .i64 k, .int .i64 g] 25)).heap.size) := by show _ < _; simp
  have HM := Lib.hid hm
  have HE := Lib.hid (h.below B1)
  have HOK := Lib.hid hok
  clear B1 hm h hok
  go_enter Try.func8, Try.ntmps8
  rcases (show p < 0 ∨ (0 ≤ p ∧ 256 ≤ p) ∨ (0 ≤ p ∧ p < 256) by omega) with p0 | ⟨p0, p1⟩ | ⟨p0, p1⟩
  · go_wp2_with (first | (go_at_call 12; refine (known_any _).mono ?_; rintro e w1 ⟨rfl, b1⟩; replace BX := Lib.hid ((b1.block _ HLT.out).trans BX.out); replace HLT := Lib.hid (Nat.lt_of_lt_of_le HLT.out b1.size); replace HB := Lib.hid (HB.out.trans (b1.mono HB.out.size)); replace HE := Lib.hid (HE.out.below b1); have c0 := cell_of_row _ _ 0 _ _ _ BX.out; have c1 := cell_of_row _ _ 1 _ _ _ BX.out; clear b1) | (go_at_call 11; refine (num_any _ _).mono ?_; rintro e w9 ⟨rfl, rfl⟩) | (go_at_call 20; refine (bytes_no _ _ _ HM.out).mono ?_; rintro e w2 ⟨rfl, b2⟩; rw [agg8_zero]; have hst8 := st8_zero w2; have hln8 := len8z; have a2 := Below.alloc b2 b2.size (.cells (bytesV zero8).toArray 22); replace BX := Lib.hid ((a2.block _ HLT.out).trans BX.out); replace HLT := Lib.hid (Nat.lt_of_lt_of_le HLT.out a2.size); replace HB := Lib.hid (HB.out.trans (a2.mono HB.out.size)); replace HE := Lib.hid (HE.out.below a2); clear a2 b2 c0 c1) | (go_at_call 32; refine (tb_no b o c _ _ _ _ _ _ _ _ _ HE.out HOK.out).mono ?_; rintro e w4 ⟨rfl, b4⟩; have hst := st_new w4 zeroB zeroB zlen zlen; have hln : (bytesV zeroB).length = 128 := (by rw [bytesV_len, zlen]); have a4 := Below.alloc b4 b4.size (.cells (bytesV zeroB).toArray 49); have RT := Lib.hid (rng_row (show BytesAt (w4.alloc (.cells (bytesV zeroB).toArray 49)) w4.heap.size 49 zeroB from heap_here rfl)); replace BX := Lib.hid ((a4.block _ HLT.out).trans BX.out); replace HLT := Lib.hid (Nat.lt_of_lt_of_le HLT.out a4.size); replace HB := Lib.hid (HB.out.trans (a4.mono HB.out.size)); replace HE := Lib.hid (HE.out.below a4); clear a4 b4))
    all_goals first | (exfalso; omega) | skip
    go_ret
    exact ⟨rfl, HB.out⟩
  · go_wp2_with (first | (go_at_call 12; refine (known_any _).mono ?_; rintro e w1 ⟨rfl, b1⟩; replace BX := Lib.hid ((b1.block _ HLT.out).trans BX.out); replace HLT := Lib.hid (Nat.lt_of_lt_of_le HLT.out b1.size); replace HB := Lib.hid (HB.out.trans (b1.mono HB.out.size)); replace HE := Lib.hid (HE.out.below b1); have c0 := cell_of_row _ _ 0 _ _ _ BX.out; have c1 := cell_of_row _ _ 1 _ _ _ BX.out; clear b1) | (go_at_call 11; refine (num_any _ _).mono ?_; rintro e w9 ⟨rfl, rfl⟩) | (go_at_call 20; refine (bytes_no _ _ _ HM.out).mono ?_; rintro e w2 ⟨rfl, b2⟩; rw [agg8_zero]; have hst8 := st8_zero w2; have hln8 := len8z; have a2 := Below.alloc b2 b2.size (.cells (bytesV zero8).toArray 22); replace BX := Lib.hid ((a2.block _ HLT.out).trans BX.out); replace HLT := Lib.hid (Nat.lt_of_lt_of_le HLT.out a2.size); replace HB := Lib.hid (HB.out.trans (a2.mono HB.out.size)); replace HE := Lib.hid (HE.out.below a2); clear a2 b2 c0 c1) | (go_at_call 32; refine (tb_no b o c _ _ _ _ _ _ _ _ _ HE.out HOK.out).mono ?_; rintro e w4 ⟨rfl, b4⟩; have hst := st_new w4 zeroB zeroB zlen zlen; have hln : (bytesV zeroB).length = 128 := (by rw [bytesV_len, zlen]); have a4 := Below.alloc b4 b4.size (.cells (bytesV zeroB).toArray 49); have RT := Lib.hid (rng_row (show BytesAt (w4.alloc (.cells (bytesV zeroB).toArray 49)) w4.heap.size 49 zeroB from heap_here rfl)); replace BX := Lib.hid ((a4.block _ HLT.out).trans BX.out); replace HLT := Lib.hid (Nat.lt_of_lt_of_le HLT.out a4.size); replace HB := Lib.hid (HB.out.trans (a4.mono HB.out.size)); replace HE := Lib.hid (HE.out.below a4); clear a4 b4))
    all_goals first | (exfalso; omega) | skip
    go_ret
    exact ⟨rfl, HB.out⟩
  · have v0 : Hid (Lv p 0 (slotV p 0) (firstV p 0) 64) := lv_of p0 p1 (by omega) (by omega) rfl
    have v1 : Hid (Lv p 1 (slotV p 1) (firstV p 1) 16) := lv_of p0 p1 (by omega) (by omega) rfl
    have v2 : Hid (Lv p 2 (slotV p 2) (firstV p 2) 4) := lv_of p0 p1 (by omega) (by omega) rfl
    have v3 : Hid (Lv p 3 (slotV p 3) (firstV p 3) 1) := lv_of p0 p1 (by omega) (by omega) rfl
    have f0 : 0 ≤ slotV p 0 ∧ slotV p 0 ≤ 3 ∧ 0 ≤ firstV p 0 ∧ firstV p 0 + slotV p 0 * 64 ≤ p ∧ p < firstV p 0 + (slotV p 0 + 1) * 64 := by simp only [slotV, firstV, many0]; omega
    have f1 : 0 ≤ slotV p 1 ∧ slotV p 1 ≤ 3 ∧ 0 ≤ firstV p 1 ∧ firstV p 1 + slotV p 1 * 16 ≤ p ∧ p < firstV p 1 + (slotV p 1 + 1) * 16 := by simp only [slotV, firstV, many1]; omega
    have f2 : 0 ≤ slotV p 2 ∧ slotV p 2 ≤ 3 ∧ 0 ≤ firstV p 2 ∧ firstV p 2 + slotV p 2 * 4 ≤ p ∧ p < firstV p 2 + (slotV p 2 + 1) * 4 := by simp only [slotV, firstV, many2]; omega
    have f3 : 0 ≤ slotV p 3 ∧ slotV p 3 ≤ 3 ∧ 0 ≤ firstV p 3 ∧ firstV p 3 + slotV p 3 * 1 ≤ p ∧ p < firstV p 3 + (slotV p 3 + 1) * 1 := by simp only [slotV, firstV, many3]; omega
    have fs : 4 * (4 * (4 * (slotV p 0) + slotV p 1) + slotV p 2) + slotV p 3 = p := by simp only [slotV, many0, many1, many2, many3]; omega
    generalize slotV p 0 = S0 at *
    generalize firstV p 0 = F0 at *
    generalize slotV p 1 = S1 at *
    generalize firstV p 1 = F1 at *
    generalize slotV p 2 = S2 at *
    generalize firstV p 2 = F2 at *
    generalize slotV p 3 = S3 at *
    generalize firstV p 3 = F3 at *
    have X0 := Lib.hid f0
    have X1 := Lib.hid f1
    have X2 := Lib.hid f2
    have X3 := Lib.hid f3
    have FS := Lib.hid fs
    clear f0 f1 f2 f3 fs
    go_wp2_with (first | (go_at_call 12; refine (known_any _).mono ?_; rintro e w1 ⟨rfl, b1⟩; replace BX := Lib.hid ((b1.block _ HLT.out).trans BX.out); replace HLT := Lib.hid (Nat.lt_of_lt_of_le HLT.out b1.size); replace HB := Lib.hid (HB.out.trans (b1.mono HB.out.size)); replace HE := Lib.hid (HE.out.below b1); have c0 := cell_of_row _ _ 0 _ _ _ BX.out; have c1 := cell_of_row _ _ 1 _ _ _ BX.out; clear b1) | (go_at_call 11; refine (num_any _ _).mono ?_; rintro e w9 ⟨rfl, rfl⟩) | (go_at_call 20; refine (bytes_no _ _ _ HM.out).mono ?_; rintro e w2 ⟨rfl, b2⟩; rw [agg8_zero]; have hst8 := st8_zero w2; have hln8 := len8z; have a2 := Below.alloc b2 b2.size (.cells (bytesV zero8).toArray 22); replace BX := Lib.hid ((a2.block _ HLT.out).trans BX.out); replace HLT := Lib.hid (Nat.lt_of_lt_of_le HLT.out a2.size); replace HB := Lib.hid (HB.out.trans (a2.mono HB.out.size)); replace HE := Lib.hid (HE.out.below a2); clear a2 b2 c0 c1) | (go_at_call 32; refine (tb_no b o c _ _ _ _ _ _ _ _ _ HE.out HOK.out).mono ?_; rintro e w4 ⟨rfl, b4⟩; have hst := st_new w4 zeroB zeroB zlen zlen; have hln : (bytesV zeroB).length = 128 := (by rw [bytesV_len, zlen]); have a4 := Below.alloc b4 b4.size (.cells (bytesV zeroB).toArray 49); have RT := Lib.hid (rng_row (show BytesAt (w4.alloc (.cells (bytesV zeroB).toArray 49)) w4.heap.size 49 zeroB from heap_here rfl)); replace BX := Lib.hid ((a4.block _ HLT.out).trans BX.out); replace HLT := Lib.hid (Nat.lt_of_lt_of_le HLT.out a4.size); replace HB := Lib.hid (HB.out.trans (a4.mono HB.out.size)); replace HE := Lib.hid (HE.out.below a4); clear a4 b4))
    all_goals first | (exfalso; omega) | skip
    refine wp_loop_rounds 5 ?_
    obtain ⟨x1, x2, x3, x4, x5⟩ := X0.out
    rw [rounds_succ]
    go_wp2_with (first | (go_at_call 13; refine (v0.out.s _).mono ?_; rintro e w7 ⟨rfl, rfl⟩) | (go_at_call 14; refine (v0.out.f _).mono ?_; rintro e w7 ⟨rfl, rfl⟩) | (go_at_call 15; refine (v0.out.m _).mono ?_; rintro e w7 ⟨rfl, rfl⟩) | (go_at_call 11; refine (num_any _ _).mono ?_; rintro e w9 ⟨rfl, rfl⟩))
    all_goals first | (exfalso; omega) | skip
    obtain ⟨x1, x2, x3, x4, x5⟩ := X1.out
    rw [rounds_succ]
    go_wp2_with (first | (go_at_call 13; refine (v1.out.s _).mono ?_; rintro e w7 ⟨rfl, rfl⟩) | (go_at_call 14; refine (v1.out.f _).mono ?_; rintro e w7 ⟨rfl, rfl⟩) | (go_at_call 15; refine (v1.out.m _).mono ?_; rintro e w7 ⟨rfl, rfl⟩) | (go_at_call 11; refine (num_any _ _).mono ?_; rintro e w9 ⟨rfl, rfl⟩))
    all_goals first | (exfalso; omega) | skip
    obtain ⟨x1, x2, x3, x4, x5⟩ := X2.out
    rw [rounds_succ]
    go_wp2_with (first | (go_at_call 13; refine (v2.out.s _).mono ?_; rintro e w7 ⟨rfl, rfl⟩) | (go_at_call 14; refine (v2.out.f _).mono ?_; rintro e w7 ⟨rfl, rfl⟩) | (go_at_call 15; refine (v2.out.m _).mono ?_; rintro e w7 ⟨rfl, rfl⟩) | (go_at_call 11; refine (num_any _ _).mono ?_; rintro e w9 ⟨rfl, rfl⟩))
    all_goals first | (exfalso; omega) | skip
    obtain ⟨x1, x2, x3, x4, x5⟩ := X3.out
    rw [rounds_succ]
    go_wp2_with (first | (go_at_call 13; refine (v3.out.s _).mono ?_; rintro e w7 ⟨rfl, rfl⟩) | (go_at_call 14; refine (v3.out.f _).mono ?_; rintro e w7 ⟨rfl, rfl⟩) | (go_at_call 15; refine (v3.out.m _).mono ?_; rintro e w7 ⟨rfl, rfl⟩) | (go_at_call 11; refine (num_any _ _).mono ?_; rintro e w9 ⟨rfl, rfl⟩))
    all_goals first | (exfalso; omega) | skip
    rw [rounds_succ]
    go_wp2_with fail
    go_ret
    exact ⟨ret_bool (by rw [FS.out]; simp), HB.out⟩

set_option maxHeartbeats 8000000 in
set_option maxRecDepth 100000 in
theorem walkNC (k g : Int) (b o c : Nat) (k0 g0 k1 g1 k2 g2 k3 g3 : Int) (p : Int) (w : World) (hm : mayB k g = false) (h : E4 w b o k0 g0 k1 g1 k2 g2 k3 g3) (m0 : mayB k0 g0 = true) (m1 : mayB k1 g1 = true) (m2 : mayB k2 g2 = true) (m3 : mayB k3 g3 = true) :
    Calls Try.prog 8 #[.agg #[.int .i64 k, .int .i64 g], .slice (some ⟨b, o, none⟩) 4 c, .int .i64 p] w fun e w' => e = .returned (.bool true) ∧ Below w.heap.size w w' := by
  have B1 : Below w.heap.size w (w.alloc (.cells #[.int .i64 k, .int .i64 g] 25)) := (Below.refl _ _).alloc (Nat.le_refl _) _
  have BX : Hid ((w.alloc (.cells #[.int .i64 k, .int .i64 g] 25)).heap[w.heap.size]? = some (.cells #[.int .i64 k, .int .i64 g] 25 (0, 0))) := heap_here rfl
  have HB := Lib.hid B1
  have HLT : Hid (w.heap.size < (w.alloc (.cells #[.int .i64 k, .int .i64 g] 25)).heap.size) := by show _ < _; simp
  have HM := Lib.hid hm
  have HE := Lib.hid (h.below B1)
  obtain ⟨TT, hTT⟩ : ∃ TT, TT = tabN k0 g0 k1 g1 k2 g2 k3 g3 4 := ⟨_, rfl⟩
  have hbk := tab_back m0 m1 m2 m3
  have hall := tab_all m0 m1 m2 m3
  have hTl := tabN_len k0 g0 k1 g1 k2 g2 k3 g3 4
  have H32 := Lib.hid (fun w' (h : E4 w' b o k0 g0 k1 g1 k2 g2 k3 g3) => tb_yes b o c _ _ _ _ _ _ _ _ w' h m0 m1 m2 m3)
  rw [← hTT] at hbk hall hTl H32
  have HTL := Lib.hid hTl
  have HUN := Lib.hid (fun w' => un_all TT w' hTl hall hbk.1)
  obtain ⟨_, q0, q1, q2, q3, q4, q5, q6, q7⟩ := hbk
  have HQ := Lib.hid (And.intro q0 (And.intro q1 (And.intro q2 (And.intro q3 (And.intro q4 (And.intro q5 (And.intro q6 q7)))))))
  have HTT := Lib.hid hTT
  clear hTT hall hTl q0 q1 q2 q3 q4 q5 q6 q7
  clear B1 hm h m0 m1 m2 m3
  go_enter Try.func8, Try.ntmps8
  rcases (show p < 0 ∨ (0 ≤ p ∧ 256 ≤ p) ∨ (0 ≤ p ∧ p < 256) by omega) with p0 | ⟨p0, p1⟩ | ⟨p0, p1⟩
  · go_wp2_with (first | (go_at_call 12; refine (known_any _).mono ?_; rintro e w1 ⟨rfl, b1⟩; replace BX := Lib.hid ((b1.block _ HLT.out).trans BX.out); replace HLT := Lib.hid (Nat.lt_of_lt_of_le HLT.out b1.size); replace HB := Lib.hid (HB.out.trans (b1.mono HB.out.size)); replace HE := Lib.hid (HE.out.below b1); have c0 := cell_of_row _ _ 0 _ _ _ BX.out; have c1 := cell_of_row _ _ 1 _ _ _ BX.out; clear b1) | (go_at_call 11; refine (num_any _ _).mono ?_; rintro e w9 ⟨rfl, rfl⟩) | (go_at_call 20; refine (bytes_no _ _ _ HM.out).mono ?_; rintro e w2 ⟨rfl, b2⟩; rw [agg8_zero]; have hst8 := st8_zero w2; have hln8 := len8z; have a2 := Below.alloc b2 b2.size (.cells (bytesV zero8).toArray 22); replace BX := Lib.hid ((a2.block _ HLT.out).trans BX.out); replace HLT := Lib.hid (Nat.lt_of_lt_of_le HLT.out a2.size); replace HB := Lib.hid (HB.out.trans (a2.mono HB.out.size)); replace HE := Lib.hid (HE.out.below a2); clear a2 b2 c0 c1) | (go_at_call 32; refine (H32.out _ HE.out).mono ?_; rintro e w4 ⟨rfl, b4⟩; have hst := st_new w4 zeroB TT zlen HTL.out; have hln : (bytesV TT).length = 128 := (by rw [bytesV_len, HTL.out]); have a4 := Below.alloc b4 b4.size (.cells (bytesV TT).toArray 49); have RT := Lib.hid (rng_row (show BytesAt (w4.alloc (.cells (bytesV TT).toArray 49)) w4.heap.size 49 TT from heap_here rfl)); replace BX := Lib.hid ((a4.block _ HLT.out).trans BX.out); replace HLT := Lib.hid (Nat.lt_of_lt_of_le HLT.out a4.size); replace HB := Lib.hid (HB.out.trans (a4.mono HB.out.size)); replace HE := Lib.hid (HE.out.below a4); clear a4 b4) | (refine wpList_ld rfl (.tmp 11) rfl w4.heap.size 0 TT rfl HTL.out RT.out ?_) | (go_at_call 35; refine (HUN.out _).mono ?_; rintro e w5 ⟨⟨v5, hv5, _⟩, b5⟩; obtain ⟨e0, e1, e2, e3, e4, e5, e6, e7⟩ := HQ.out; rw [e0, e1, e2, e3, e4, e5, e6, e7] at hv5; obtain ⟨rfl, o5⟩ := hv5 HTT.out.symm; obtain ⟨tb5, tc5, rfl, _, e8⟩ := owns_E4 o5; rw [e0, e1, e2, e3, e4, e5, e6, e7] at e8; have HE5 := Lib.hid e8; clear e0 e1 e2 e3 e4 e5 e6 e7 e8 o5; replace BX := Lib.hid ((b5.block _ HLT.out).trans BX.out); replace HLT := Lib.hid (Nat.lt_of_lt_of_le HLT.out b5.size); replace HB := Lib.hid (HB.out.trans (b5.mono HB.out.size)); replace HE := Lib.hid (HE.out.below b5); clear b5) | (go_at_call 37; refine (same_4 _ _ _ _ _ _ _ _ _ _ _ _ _ _ _ HE5.out HE.out).mono ?_; rintro e w6 ⟨rfl, b6⟩; replace BX := Lib.hid ((b6.block _ HLT.out).trans BX.out); replace HLT := Lib.hid (Nat.lt_of_lt_of_le HLT.out b6.size); replace HB := Lib.hid (HB.out.trans (b6.mono HB.out.size)); replace HE := Lib.hid (HE.out.below b6); clear b6))
    all_goals first | (exfalso; omega) | skip
    go_ret
    exact ⟨rfl, HB.out⟩
  · go_wp2_with (first | (go_at_call 12; refine (known_any _).mono ?_; rintro e w1 ⟨rfl, b1⟩; replace BX := Lib.hid ((b1.block _ HLT.out).trans BX.out); replace HLT := Lib.hid (Nat.lt_of_lt_of_le HLT.out b1.size); replace HB := Lib.hid (HB.out.trans (b1.mono HB.out.size)); replace HE := Lib.hid (HE.out.below b1); have c0 := cell_of_row _ _ 0 _ _ _ BX.out; have c1 := cell_of_row _ _ 1 _ _ _ BX.out; clear b1) | (go_at_call 11; refine (num_any _ _).mono ?_; rintro e w9 ⟨rfl, rfl⟩) | (go_at_call 20; refine (bytes_no _ _ _ HM.out).mono ?_; rintro e w2 ⟨rfl, b2⟩; rw [agg8_zero]; have hst8 := st8_zero w2; have hln8 := len8z; have a2 := Below.alloc b2 b2.size (.cells (bytesV zero8).toArray 22); replace BX := Lib.hid ((a2.block _ HLT.out).trans BX.out); replace HLT := Lib.hid (Nat.lt_of_lt_of_le HLT.out a2.size); replace HB := Lib.hid (HB.out.trans (a2.mono HB.out.size)); replace HE := Lib.hid (HE.out.below a2); clear a2 b2 c0 c1) | (go_at_call 32; refine (H32.out _ HE.out).mono ?_; rintro e w4 ⟨rfl, b4⟩; have hst := st_new w4 zeroB TT zlen HTL.out; have hln : (bytesV TT).length = 128 := (by rw [bytesV_len, HTL.out]); have a4 := Below.alloc b4 b4.size (.cells (bytesV TT).toArray 49); have RT := Lib.hid (rng_row (show BytesAt (w4.alloc (.cells (bytesV TT).toArray 49)) w4.heap.size 49 TT from heap_here rfl)); replace BX := Lib.hid ((a4.block _ HLT.out).trans BX.out); replace HLT := Lib.hid (Nat.lt_of_lt_of_le HLT.out a4.size); replace HB := Lib.hid (HB.out.trans (a4.mono HB.out.size)); replace HE := Lib.hid (HE.out.below a4); clear a4 b4) | (refine wpList_ld rfl (.tmp 11) rfl w4.heap.size 0 TT rfl HTL.out RT.out ?_) | (go_at_call 35; refine (HUN.out _).mono ?_; rintro e w5 ⟨⟨v5, hv5, _⟩, b5⟩; obtain ⟨e0, e1, e2, e3, e4, e5, e6, e7⟩ := HQ.out; rw [e0, e1, e2, e3, e4, e5, e6, e7] at hv5; obtain ⟨rfl, o5⟩ := hv5 HTT.out.symm; obtain ⟨tb5, tc5, rfl, _, e8⟩ := owns_E4 o5; rw [e0, e1, e2, e3, e4, e5, e6, e7] at e8; have HE5 := Lib.hid e8; clear e0 e1 e2 e3 e4 e5 e6 e7 e8 o5; replace BX := Lib.hid ((b5.block _ HLT.out).trans BX.out); replace HLT := Lib.hid (Nat.lt_of_lt_of_le HLT.out b5.size); replace HB := Lib.hid (HB.out.trans (b5.mono HB.out.size)); replace HE := Lib.hid (HE.out.below b5); clear b5) | (go_at_call 37; refine (same_4 _ _ _ _ _ _ _ _ _ _ _ _ _ _ _ HE5.out HE.out).mono ?_; rintro e w6 ⟨rfl, b6⟩; replace BX := Lib.hid ((b6.block _ HLT.out).trans BX.out); replace HLT := Lib.hid (Nat.lt_of_lt_of_le HLT.out b6.size); replace HB := Lib.hid (HB.out.trans (b6.mono HB.out.size)); replace HE := Lib.hid (HE.out.below b6); clear b6))
    all_goals first | (exfalso; omega) | skip
    go_ret
    exact ⟨rfl, HB.out⟩
  · have v0 : Hid (Lv p 0 (slotV p 0) (firstV p 0) 64) := lv_of p0 p1 (by omega) (by omega) rfl
    have v1 : Hid (Lv p 1 (slotV p 1) (firstV p 1) 16) := lv_of p0 p1 (by omega) (by omega) rfl
    have v2 : Hid (Lv p 2 (slotV p 2) (firstV p 2) 4) := lv_of p0 p1 (by omega) (by omega) rfl
    have v3 : Hid (Lv p 3 (slotV p 3) (firstV p 3) 1) := lv_of p0 p1 (by omega) (by omega) rfl
    have f0 : 0 ≤ slotV p 0 ∧ slotV p 0 ≤ 3 ∧ 0 ≤ firstV p 0 ∧ firstV p 0 + slotV p 0 * 64 ≤ p ∧ p < firstV p 0 + (slotV p 0 + 1) * 64 := by simp only [slotV, firstV, many0]; omega
    have f1 : 0 ≤ slotV p 1 ∧ slotV p 1 ≤ 3 ∧ 0 ≤ firstV p 1 ∧ firstV p 1 + slotV p 1 * 16 ≤ p ∧ p < firstV p 1 + (slotV p 1 + 1) * 16 := by simp only [slotV, firstV, many1]; omega
    have f2 : 0 ≤ slotV p 2 ∧ slotV p 2 ≤ 3 ∧ 0 ≤ firstV p 2 ∧ firstV p 2 + slotV p 2 * 4 ≤ p ∧ p < firstV p 2 + (slotV p 2 + 1) * 4 := by simp only [slotV, firstV, many2]; omega
    have f3 : 0 ≤ slotV p 3 ∧ slotV p 3 ≤ 3 ∧ 0 ≤ firstV p 3 ∧ firstV p 3 + slotV p 3 * 1 ≤ p ∧ p < firstV p 3 + (slotV p 3 + 1) * 1 := by simp only [slotV, firstV, many3]; omega
    have fs : 4 * (4 * (4 * (slotV p 0) + slotV p 1) + slotV p 2) + slotV p 3 = p := by simp only [slotV, many0, many1, many2, many3]; omega
    generalize slotV p 0 = S0 at *
    generalize firstV p 0 = F0 at *
    generalize slotV p 1 = S1 at *
    generalize firstV p 1 = F1 at *
    generalize slotV p 2 = S2 at *
    generalize firstV p 2 = F2 at *
    generalize slotV p 3 = S3 at *
    generalize firstV p 3 = F3 at *
    have X0 := Lib.hid f0
    have X1 := Lib.hid f1
    have X2 := Lib.hid f2
    have X3 := Lib.hid f3
    have FS := Lib.hid fs
    clear f0 f1 f2 f3 fs
    go_wp2_with (first | (go_at_call 12; refine (known_any _).mono ?_; rintro e w1 ⟨rfl, b1⟩; replace BX := Lib.hid ((b1.block _ HLT.out).trans BX.out); replace HLT := Lib.hid (Nat.lt_of_lt_of_le HLT.out b1.size); replace HB := Lib.hid (HB.out.trans (b1.mono HB.out.size)); replace HE := Lib.hid (HE.out.below b1); have c0 := cell_of_row _ _ 0 _ _ _ BX.out; have c1 := cell_of_row _ _ 1 _ _ _ BX.out; clear b1) | (go_at_call 11; refine (num_any _ _).mono ?_; rintro e w9 ⟨rfl, rfl⟩) | (go_at_call 20; refine (bytes_no _ _ _ HM.out).mono ?_; rintro e w2 ⟨rfl, b2⟩; rw [agg8_zero]; have hst8 := st8_zero w2; have hln8 := len8z; have a2 := Below.alloc b2 b2.size (.cells (bytesV zero8).toArray 22); replace BX := Lib.hid ((a2.block _ HLT.out).trans BX.out); replace HLT := Lib.hid (Nat.lt_of_lt_of_le HLT.out a2.size); replace HB := Lib.hid (HB.out.trans (a2.mono HB.out.size)); replace HE := Lib.hid (HE.out.below a2); clear a2 b2 c0 c1) | (go_at_call 32; refine (H32.out _ HE.out).mono ?_; rintro e w4 ⟨rfl, b4⟩; have hst := st_new w4 zeroB TT zlen HTL.out; have hln : (bytesV TT).length = 128 := (by rw [bytesV_len, HTL.out]); have a4 := Below.alloc b4 b4.size (.cells (bytesV TT).toArray 49); have RT := Lib.hid (rng_row (show BytesAt (w4.alloc (.cells (bytesV TT).toArray 49)) w4.heap.size 49 TT from heap_here rfl)); replace BX := Lib.hid ((a4.block _ HLT.out).trans BX.out); replace HLT := Lib.hid (Nat.lt_of_lt_of_le HLT.out a4.size); replace HB := Lib.hid (HB.out.trans (a4.mono HB.out.size)); replace HE := Lib.hid (HE.out.below a4); clear a4 b4) | (refine wpList_ld rfl (.tmp 11) rfl w4.heap.size 0 TT rfl HTL.out RT.out ?_) | (go_at_call 35; refine (HUN.out _).mono ?_; rintro e w5 ⟨⟨v5, hv5, _⟩, b5⟩; obtain ⟨e0, e1, e2, e3, e4, e5, e6, e7⟩ := HQ.out; rw [e0, e1, e2, e3, e4, e5, e6, e7] at hv5; obtain ⟨rfl, o5⟩ := hv5 HTT.out.symm; obtain ⟨tb5, tc5, rfl, _, e8⟩ := owns_E4 o5; rw [e0, e1, e2, e3, e4, e5, e6, e7] at e8; have HE5 := Lib.hid e8; clear e0 e1 e2 e3 e4 e5 e6 e7 e8 o5; replace BX := Lib.hid ((b5.block _ HLT.out).trans BX.out); replace HLT := Lib.hid (Nat.lt_of_lt_of_le HLT.out b5.size); replace HB := Lib.hid (HB.out.trans (b5.mono HB.out.size)); replace HE := Lib.hid (HE.out.below b5); clear b5) | (go_at_call 37; refine (same_4 _ _ _ _ _ _ _ _ _ _ _ _ _ _ _ HE5.out HE.out).mono ?_; rintro e w6 ⟨rfl, b6⟩; replace BX := Lib.hid ((b6.block _ HLT.out).trans BX.out); replace HLT := Lib.hid (Nat.lt_of_lt_of_le HLT.out b6.size); replace HB := Lib.hid (HB.out.trans (b6.mono HB.out.size)); replace HE := Lib.hid (HE.out.below b6); clear b6))
    all_goals first | (exfalso; omega) | skip
    refine wp_loop_rounds 5 ?_
    obtain ⟨x1, x2, x3, x4, x5⟩ := X0.out
    rw [rounds_succ]
    go_wp2_with (first | (go_at_call 13; refine (v0.out.s _).mono ?_; rintro e w7 ⟨rfl, rfl⟩) | (go_at_call 14; refine (v0.out.f _).mono ?_; rintro e w7 ⟨rfl, rfl⟩) | (go_at_call 15; refine (v0.out.m _).mono ?_; rintro e w7 ⟨rfl, rfl⟩) | (go_at_call 11; refine (num_any _ _).mono ?_; rintro e w9 ⟨rfl, rfl⟩))
    all_goals first | (exfalso; omega) | skip
    obtain ⟨x1, x2, x3, x4, x5⟩ := X1.out
    rw [rounds_succ]
    go_wp2_with (first | (go_at_call 13; refine (v1.out.s _).mono ?_; rintro e w7 ⟨rfl, rfl⟩) | (go_at_call 14; refine (v1.out.f _).mono ?_; rintro e w7 ⟨rfl, rfl⟩) | (go_at_call 15; refine (v1.out.m _).mono ?_; rintro e w7 ⟨rfl, rfl⟩) | (go_at_call 11; refine (num_any _ _).mono ?_; rintro e w9 ⟨rfl, rfl⟩))
    all_goals first | (exfalso; omega) | skip
    obtain ⟨x1, x2, x3, x4, x5⟩ := X2.out
    rw [rounds_succ]
    go_wp2_with (first | (go_at_call 13; refine (v2.out.s _).mono ?_; rintro e w7 ⟨rfl, rfl⟩) | (go_at_call 14; refine (v2.out.f _).mono ?_; rintro e w7 ⟨rfl, rfl⟩) | (go_at_call 15; refine (v2.out.m _).mono ?_; rintro e w7 ⟨rfl, rfl⟩) | (go_at_call 11; refine (num_any _ _).mono ?_; rintro e w9 ⟨rfl, rfl⟩))
    all_goals first | (exfalso; omega) | skip
    obtain ⟨x1, x2, x3, x4, x5⟩ := X3.out
    rw [rounds_succ]
    go_wp2_with (first | (go_at_call 13; refine (v3.out.s _).mono ?_; rintro e w7 ⟨rfl, rfl⟩) | (go_at_call 14; refine (v3.out.f _).mono ?_; rintro e w7 ⟨rfl, rfl⟩) | (go_at_call 15; refine (v3.out.m _).mono ?_; rintro e w7 ⟨rfl, rfl⟩) | (go_at_call 11; refine (num_any _ _).mono ?_; rintro e w9 ⟨rfl, rfl⟩))
    all_goals first | (exfalso; omega) | skip
    rw [rounds_succ]
    go_wp2_with fail
    go_ret
    exact ⟨ret_bool (by rw [FS.out]; simp), HB.out⟩

theorem walk (k g : Int) (x : Option Addr) (n c b off : Nat) (A : Nat → Nat → Int) (p : Int) (w : World) (hx : 0 < n → x = some ⟨b, off, none⟩ ∧ b < w.heap.size)
    (hA : ∀ i j, i < n → j < 2 → w.cell? ⟨b, off + i * 2 + j, none⟩ = some (.int .i64 (A i j))) :
    Calls Try.prog 8 #[.agg #[.int .i64 k, .int .i64 g], .slice x n c, .int .i64 p] w fun e w' => e = .returned (.bool true) ∧ Below w.heap.size w w' := by
  by_cases hn : n = 4
  · subst hn
    obtain ⟨rfl, hb⟩ := hx (by omega)
    have h := EntryTables.E4_of hb hA
    cases hm : mayB k g
    · rcases ok4_cases (A 0 0) (A 0 1) (A 1 0) (A 1 1) (A 2 0) (A 2 1) (A 3 0) (A 3 1) with m0 | ⟨m0, m1⟩ | ⟨m0, m1, m2⟩ | ⟨m0, m1, m2, m3⟩ | ⟨m0, m1, m2, m3⟩
      · exact walkNB k g b off c _ _ _ _ _ _ _ _ p w hm h (by simp [ok4, *])
      · exact walkNB k g b off c _ _ _ _ _ _ _ _ p w hm h (by simp [ok4, *])
      · exact walkNB k g b off c _ _ _ _ _ _ _ _ p w hm h (by simp [ok4, *])
      · exact walkNB k g b off c _ _ _ _ _ _ _ _ p w hm h (by simp [ok4, *])
      · exact walkNC k g b off c _ _ _ _ _ _ _ _ p w hm h m0 m1 m2 m3
    · rcases ok4_cases (A 0 0) (A 0 1) (A 1 0) (A 1 1) (A 2 0) (A 2 1) (A 3 0) (A 3 1) with m0 | ⟨m0, m1⟩ | ⟨m0, m1, m2⟩ | ⟨m0, m1, m2, m3⟩ | ⟨m0, m1, m2, m3⟩
      · exact walkYB k g b off c _ _ _ _ _ _ _ _ p w hm h (by simp [ok4, *])
      · exact walkYB k g b off c _ _ _ _ _ _ _ _ p w hm h (by simp [ok4, *])
      · exact walkYB k g b off c _ _ _ _ _ _ _ _ p w hm h (by simp [ok4, *])
      · exact walkYB k g b off c _ _ _ _ _ _ _ _ p w hm h (by simp [ok4, *])
      · exact walkYC k g b off c _ _ _ _ _ _ _ _ p w hm h m0 m1 m2 m3
  · cases hm : mayB k g
    · exact walkNA k g x n c p w hm hn
    · exact walkYA k g x n c p w hm hn

theorem own : ownKnob Try.prog.godebug = none := by kernel_rfl
theorem laidOut : laidOutB Try.prog = true := by kernel_rfl
theorem read3 : Try.prog.readableRec 3 = true ∧ 3 < Try.prog.types.size := ⟨by kernel_rfl, of_decide_eq_true (by kernel_rfl)⟩
theorem read25 : Try.prog.readableRec 25 = true ∧ 25 < Try.prog.types.size := ⟨by kernel_rfl, of_decide_eq_true (by kernel_rfl)⟩
theorem read47 : Try.prog.readableRec 47 = true ∧ 47 < Try.prog.types.size := ⟨by kernel_rfl, of_decide_eq_true (by kernel_rfl)⟩
theorem hread : ∀ t ∈ Try.f8.params.toList, Try.prog.readableRec t = true ∧ t < Try.prog.types.size := by
  rw [Try.params8]
  intro t ht
  simp at ht
  rcases ht with rfl | rfl | rfl
  · exact read25
  · exact read47
  · exact read3

set_option maxRecDepth 100000 in
theorem lifted (os : Os) (started : os.Started) (H : Type) (enc : TypeId × Value → H) :
    ReturnsInHanded {} Try.checked os 8 .any (Rows.entryBackSpec.pre6 enc Try.prog Try.f8 Rows.entryBackRow.domain false) (Rows.entryBackSpec.post enc Try.prog Try.f8 false true false false) := by
  refine returnsInHanded_of_change (C := Try.checked) own started (by kernel_rfl) Try.func8
    (ChangeSpec.witness6 (enc := enc) (C := Try.checked) false ⟨#[], #[.agg #[.int .i64 0, .int .i64 0], .slice none 0 0, .int .i64 0], []⟩ 8 (by kernel_rfl) (by kernel_rfl) (by kernel_rfl) (by kernel_rfl)) ?_
  intro W base args ds gs before hval0 hW hcnd _
  have hval : ∀ (j : Nat) t v, Try.f8.params[j]? = some t → args[j]? = some v → Value.okWide Try.prog W .any base t v := hval0
  have hW' := hW
  obtain ⟨p, q, hA0, hV, rfl, hfz, hnd⟩ := hW
  have hA : DataW.TrodAll enc Try.prog W 0 (fun _ => true) true Try.f8.params.toList args.toList ds p := hA0
  have hA1 := hA
  rw [Try.params8] at hA hval
  obtain ⟨v0, vs0, d0, ds0, p0, q0, hargs, rfl, rfl, h0, r0⟩ := trodAll_cons hA
  obtain ⟨v1, vs1, d1, ds1, p1, q1, rfl, rfl, rfl, h1, r1⟩ := trodAll_cons r0
  obtain ⟨v2, vs2, d2, ds2, p2, q2, rfl, rfl, rfl, h2, r2⟩ := trodAll_cons r1
  obtain ⟨rfl, rfl, rfl⟩ := trodAll_nil r2
  obtain rfl : args = #[v0, v1, v2] := by cases args; simp_all
  obtain ⟨rfl, rfl⟩ := trodVars_none hV
  obtain ⟨x0, x1, y0, y1, m, rfl, rfl, rfl, hy0, hy1⟩ := Joins.open_agg2 Try.underlying25 (by kernel_rfl) (by kernel_rfl) (hval 0 25 v0 rfl rfl) h0
  obtain ⟨k, e0, rfl, wk⟩ := DataW.trod_int Try.underlying23 hy0
  obtain ⟨g, e1, rfl, wg⟩ := DataW.trod_int Try.underlying3 hy1
  simp at e0 e1
  subst e0 e1
  obtain ⟨x, n, c, b, off, A, rfl, hm, hx, hAA⟩ := EntryTables.open_ents (hval 1 47 v1 rfl rfl) h1
  obtain ⟨a2, rfl, rfl, rfl, w2⟩ := open_int Try.underlying3 (hval 2 3 v2 rfl rfl) h2
  clear hA0 hval0
  simp only [List.append_nil] at hW' hA1
  refine (walk k g x n c b off A a2 W hx (fun i j h1 h2 => (hAA i j h1 h2).1)).mono fun e W' ⟨he, hg⟩ => ?_
  subst he
  exact ⟨_, rfl, post_true hW' hA1 rfl rfl (fun _ => rfl) rfl Try.underlying4 laidOut hread hg⟩

theorem over : Rows.entryBackRow.holds Try.pinned (OpenSpec.ofChange Rows.entryBackSpec) :=
  OpenClaim.holds_of_wide 8 Try.f8 rfl rfl rfl rfl rfl rfl rfl ⟨rfl, rfl, rfl, rfl, rfl⟩ rfl rfl rfl rfl rfl (by kernel_rfl) Try.func8 (by kernel_rfl)
    (of_decide_eq_true (by kernel_rfl)) (by unfold Func.isWrapper; first | (rw [if_pos (by decide +kernel)]; kernel_rfl) | (rw [if_neg (by decide +kernel)]; exact ⟨rfl, rfl⟩))
    (fun os started H enc _ => lifted os started H enc)

/-- The statement. -/
theorem proved : Rows.EntryBackSaid := over
end EntryBack
end Go.Proofs.Ytjohobehhijbcaa
