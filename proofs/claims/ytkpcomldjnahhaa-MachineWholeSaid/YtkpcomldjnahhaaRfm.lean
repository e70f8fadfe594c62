/- Contracts of the reference's memory: New, Within, SetWord, Word, Get, Put. Conditions: those that each theorem states. -/
import Derived.Test.YtkpcomldjnahhaaPut
namespace Go.Proofs.Ytkpcomldjnahhaa
open Go.ChangeShapes Go.WideShapes Go.ChangeAt Go.RowKit
set_option linter.unusedSimpArgs false
attribute [local go_sem] zeroV

/-- The reference's memory: its struct in block rb, its bytes in block cb. -/
structure Ref (w : World) (rb cb n : Nat) (B : List Int) : Prop where
  ref : w.heap[rb]? = some (.cells #[.slice (some ⟨cb, 0, none⟩) (128 * n) (128 * n)] 50 (0, 0))
  all : BytesAt w cb 5 B
  ne : rb ≠ cb
  len : B.length = 128 * n
  pos : 1 ≤ n
  max : n ≤ 4096
theorem Ref.lt {w : World} {rb cb n : Nat} {B : List Int} (h : Ref w rb cb n B) : rb < w.heap.size ∧ cb < w.heap.size := ⟨(Array.getElem?_eq_some_iff.1 h.ref).1, h.all.lt⟩
theorem Ref.below {w w' : World} {rb cb n : Nat} {B : List Int} (h : Ref w rb cb n B) (hb : Below w.heap.size w w') : Ref w' rb cb n B :=
  ⟨(hb.block _ h.lt.1).trans h.ref, h.all.below hb, h.ne, h.len, h.pos, h.max⟩
theorem Ref.grown {w w' : World} {rb cb n : Nat} {B : List Int} {r : Option Nat} (h : Ref w rb cb n B) (hg : w.grownBy w' r) (h1 : some rb ≠ r) (h2 : some cb ≠ r) : Ref w' rb cb n B :=
  ⟨(hg.block _ h.lt.1 h1).trans h.ref, h.all.grown hg h2, h.ne, h.len, h.pos, h.max⟩
theorem Ref.drew {w : World} {rb cb n : Nat} {B : List Int} (h : Ref w rb cb n B) : Ref w.drew rb cb n B := ⟨h.ref, h.all, h.ne, h.len, h.pos, h.max⟩
theorem ref_row {w : World} {rb cb n : Nat} {B B' : List Int} (h : Ref w rb cb n B) (hl : B'.length = B.length) : Ref (w.setRow cb (bytesV B').toArray) rb cb n B' :=
  ⟨(setRow_other w cb rb _ h.ne).trans h.ref, setRow_heap w cb _ _ _ _ h.all, h.ne, hl.trans h.len, h.pos, h.max⟩

theorem rnew (n : Nat) (w : World) (h0 : 1 ≤ n) (h : n ≤ 4096) :
    Calls Try.prog 14 #[.int .i64 n] w fun e w' => e = .returned (.pointer (some ⟨w.heap.size + 1, 0, none⟩)) ∧ Ref w' (w.heap.size + 1) w.heap.size n (zeroB n) ∧ Below w.heap.size w w' := by
  have hmk := run_bytes n h
  go_enter Try.func14, Try.ntmps14
  go_wp2
  go_ret
  exact ⟨rfl, ⟨heap_here (by simp), heap_past (by simp) (heap_here rfl), by omega, by simp [zeroB], h0, h⟩, ((Below.refl _ _).alloc (by simp) _).alloc (by simp) _⟩

theorem rwithin (rb cb n : Nat) (B : List Int) (a k : Int) (w : World) (h : Ref w rb cb n B) (h0 : 0 ≤ a) (h1 : a < 18446744073709551616) (k0 : -9223372036854775808 ≤ k) (k1 : k < 9223372036854775808) :
    Calls Try.prog 18 #[.pointer (some ⟨rb, 0, none⟩), .int .u64 a, .int .i64 k] w fun e w' => e = .returned (.bool (decide (k = 0 ∨ 0 < k ∧ a + k ≤ 128 * n))) ∧ w = w' := by
  have hp := h.pos
  have hx := h.max
  have c0 := cell_of_row w rb 0 _ _ _ h.ref
  clear h
  rcases (show k = 0 ∨ k < 0 ∨ (0 < k ∧ 128 * n < k) ∨ (0 < k ∧ k ≤ 128 * n ∧ 128 * n < a + k) ∨ (0 < k ∧ a + k ≤ 128 * n) by omega) with rfl | q | ⟨q1, q2⟩ | ⟨q1, q2, q3⟩ | ⟨q1, q2⟩
  all_goals go_enter Try.func18, Try.ntmps18
  all_goals go_wp2_with fail
  all_goals go_ret
  all_goals refine ⟨ret_bool ?_, rfl⟩
  all_goals (try rw [wrapneg k (by omega) k0] at *)
  all_goals (rw [Bool.eq_iff_iff]; simp <;> omega)
theorem rwithin_yes (rb cb n : Nat) (B : List Int) (a k : Int) (w : World) (h : Ref w rb cb n B) (h0 : 0 ≤ a) (h1 : a < 18446744073709551616) (k0 : -9223372036854775808 ≤ k) (k1 : k < 9223372036854775808) (hy : k = 0 ∨ 0 < k ∧ a + k ≤ 128 * n) :
    Calls Try.prog 18 #[.pointer (some ⟨rb, 0, none⟩), .int .u64 a, .int .i64 k] w fun e w' => e = .returned (.bool true) ∧ w = w' := by
  have := rwithin rb cb n B a k w h h0 h1 k0 k1
  rwa [show decide (k = 0 ∨ 0 < k ∧ a + k ≤ 128 * n) = true from decide_eq_true hy] at this
theorem rwithin_no (rb cb n : Nat) (B : List Int) (a k : Int) (w : World) (h : Ref w rb cb n B) (h0 : 0 ≤ a) (h1 : a < 18446744073709551616) (k0 : -9223372036854775808 ≤ k) (k1 : k < 9223372036854775808) (hy : ¬(k = 0 ∨ 0 < k ∧ a + k ≤ 128 * n)) :
    Calls Try.prog 18 #[.pointer (some ⟨rb, 0, none⟩), .int .u64 a, .int .i64 k] w fun e w' => e = .returned (.bool false) ∧ w = w' := by
  have := rwithin rb cb n B a k w h h0 h1 k0 k1
  rwa [show decide (k = 0 ∨ 0 < k ∧ a + k ≤ 128 * n) = false from decide_eq_false hy] at this

theorem Ref.store {w : World} {rb cb n : Nat} {B : List Int} (h : Ref w rb cb n B) (i : Nat) (v : Int) : Ref (w.setCell ⟨cb, i, none⟩ (.int .u8 v)) rb cb n (B.set i v) :=
  ⟨(heap_setCell_other _ _ _ _ h.ne).trans h.ref, h.all.setCell i v, h.ne, by simp [h.len], h.pos, h.max⟩

set_option maxHeartbeats 2000000 in
theorem rset (rb cb n : Nat) (B : List Int) (a : Nat) (x : Int) (w : World) (h : Ref w rb cb n B) (ho : a + 8 ≤ 128 * n) (x1 : x < 18446744073709551616) :
    Calls Try.prog 30 #[.pointer (some ⟨rb, 0, none⟩), .int .u64 a, .int .u64 x] w fun e w' => e = .returned (.tuple #[]) ∧ Ref w' rb cb n (splice B a (lowB x 8)) ∧ w.grownBy w' (some cb) := by
  have hx := h.max
  have hBl := Lib.hid h.len
  have hX := Lib.hid x1
  have H := Lib.hid h
  clear h x1
  go_enter Try.func30, Try.ntmps30
  go_wp2_with fail
  go_loopw [6] (fun i ws => ∃ k : Nat, k ≤ 8 ∧ i = .int .i64 k ∧ Ref ws rb cb n (splice B a (lowB x k)) ∧ w.grownBy ws (some cb)) (fun i _ => 8 - (intOf i).toNat)
  case atStart => exact ⟨0, Nat.zero_le _, rfl, by simpa [splice, lowB] using H.out, grown_refl _ _⟩
  case round =>
    obtain ⟨k, hk, rfl, S5, G5⟩ := hrel
    by_cases hkl : k < 8
    · have hS : Hid (∀ x', x' = x / 2 ^ (8 * k) % 256 → Ref (wr.setCell ⟨cb, a + k, none⟩ (.int .u8 x')) rb cb n (splice B a (lowB x (k + 1))) ∧ w.grownBy (wr.setCell ⟨cb, a + k, none⟩ (.int .u8 x')) (some cb)) := by
        rintro x' rfl
        rw [← splice_set B a k x (by have := hBl.out; omega)]
        exact ⟨S5.store (a + k) _, grown_setCell G5 _ _⟩
      have c0 := cell_of_row wr rb 0 _ _ _ S5.ref
      obtain ⟨y, hcell⟩ : ∃ y, wr.cell? ⟨cb, a + k, none⟩ = some (.int .u8 y) := ⟨_, byD_cell S5.all (a + k) (by have := S5.len; omega)⟩
      have hfr := S5.all.froz (a + k)
      clear S5 G5
      have hadd : IntKind.i64.wrap ((a : Int) + (k : Int)) = (a : Int) + (k : Int) := IntWalk.i64_in _ (by omega)
      have ha64 : IntKind.i64.wrap (a : Int) = (a : Int) := IntWalk.i64_in _ (by omega)
      rcases (show k = 0 ∨ k = 1 ∨ k = 2 ∨ k = 3 ∨ k = 4 ∨ k = 5 ∨ k = 6 ∨ k = 7 by omega) with rfl | rfl | rfl | rfl | rfl | rfl | rfl | rfl
      · have hx1 := hX.out
        simp only [Nat.add_zero] at hcell hfr
        clear hadd
        go_wp2_with fail
        go_roundw
        case rel => exact ⟨1, by omega, by go_num, hS.out _ (by simp)⟩
        case measure => simp [intOf]
      · go_wp2_with fail
        go_roundw
        case rel => exact ⟨2, by omega, by go_num, hS.out _ (by simp)⟩
        case measure => simp [intOf]
      · go_wp2_with fail
        go_roundw
        case rel => exact ⟨3, by omega, by go_num, hS.out _ (by simp)⟩
        case measure => simp [intOf]
      · go_wp2_with fail
        go_roundw
        case rel => exact ⟨4, by omega, by go_num, hS.out _ (by simp)⟩
        case measure => simp [intOf]
      · go_wp2_with fail
        go_roundw
        case rel => exact ⟨5, by omega, by go_num, hS.out _ (by simp)⟩
        case measure => simp [intOf]
      · go_wp2_with fail
        go_roundw
        case rel => exact ⟨6, by omega, by go_num, hS.out _ (by simp)⟩
        case measure => simp [intOf]
      · go_wp2_with fail
        go_roundw
        case rel => exact ⟨7, by omega, by go_num, hS.out _ (by simp)⟩
        case measure => simp [intOf]
      · go_wp2_with fail
        go_roundw
        case rel => exact ⟨8, by omega, by go_num, hS.out _ (by simp)⟩
        case measure => simp [intOf]
    · obtain rfl : k = 8 := by omega
      have HS := Lib.hid S5
      have HG := Lib.hid G5
      clear S5 G5
      go_wp2_with fail
      go_end0
      exact ⟨rfl, HS.out, HG.out⟩

set_option maxHeartbeats 2000000 in
theorem rword8 (rb cb n o : Nat) (a b c d e f g h : Int) (w : World) (ha : 0 ≤ a ∧ a < 256) (hb : 0 ≤ b ∧ b < 256) (hc : 0 ≤ c ∧ c < 256) (hd : 0 ≤ d ∧ d < 256) (he : 0 ≤ e ∧ e < 256) (hf : 0 ≤ f ∧ f < 256) (hg : 0 ≤ g ∧ g < 256) (hh : 0 ≤ h ∧ h < 256)
    (r0 : w.cell? ⟨rb, 0, none⟩ = some (.slice (some ⟨cb, 0, none⟩) (128 * n) (128 * n))) (ho : o + 8 ≤ 128 * n) (hn : n ≤ 4096)
    (c0 : w.cell? ⟨cb, o, none⟩ = some (.int .u8 a)) (c1 : w.cell? ⟨cb, o + 1, none⟩ = some (.int .u8 b)) (c2 : w.cell? ⟨cb, o + 2, none⟩ = some (.int .u8 c)) (c3 : w.cell? ⟨cb, o + 3, none⟩ = some (.int .u8 d))
    (c4 : w.cell? ⟨cb, o + 4, none⟩ = some (.int .u8 e)) (c5 : w.cell? ⟨cb, o + 5, none⟩ = some (.int .u8 f)) (c6 : w.cell? ⟨cb, o + 6, none⟩ = some (.int .u8 g)) (c7 : w.cell? ⟨cb, o + 7, none⟩ = some (.int .u8 h)) :
    Calls Try.prog 19 #[.pointer (some ⟨rb, 0, none⟩), .int .u64 o] w fun e' w' => e' = .returned (.int .u64 (num8 a b c d e f g h)) ∧ w = w' := by
  obtain ⟨ha1, ha2⟩ := ha
  obtain ⟨hb1, hb2⟩ := hb
  obtain ⟨hc1, hc2⟩ := hc
  obtain ⟨hd1, hd2⟩ := hd
  obtain ⟨he1, he2⟩ := he
  obtain ⟨hf1, hf2⟩ := hf
  obtain ⟨hg1, hg2⟩ := hg
  obtain ⟨hh1, hh2⟩ := hh
  go_enter Try.func19, Try.ntmps19
  go_wp2
  refine wp_loop_rounds 9 ?_
  iterate 9 (rw [rounds_succ]; go_wp2)
  go_ret
  refine ⟨ret_int ?_, rfl⟩
  unfold num8
  omega
theorem rword (rb cb n : Nat) (B : List Int) (a : Nat) (w : World) (h : Ref w rb cb n B) (hB : AllB B) (ho : a + 8 ≤ 128 * n) :
    Calls Try.prog 19 #[.pointer (some ⟨rb, 0, none⟩), .int .u64 a] w fun e w' => e = .returned (.int .u64 (numAt B a)) ∧ w = w' := by
  have hl := h.len
  exact rword8 rb cb n a (byD B a) (byD B (a + 1)) (byD B (a + 2)) (byD B (a + 3)) (byD B (a + 4)) (byD B (a + 5)) (byD B (a + 6)) (byD B (a + 7)) w (byD_lt hB _) (byD_lt hB _) (byD_lt hB _) (byD_lt hB _) (byD_lt hB _) (byD_lt hB _) (byD_lt hB _) (byD_lt hB _)
    (cell_of_row w rb 0 _ _ _ h.ref) ho h.max (byD_cell h.all _ (by omega)) (byD_cell h.all _ (by omega)) (byD_cell h.all _ (by omega)) (byD_cell h.all _ (by omega)) (byD_cell h.all _ (by omega)) (byD_cell h.all _ (by omega)) (byD_cell h.all _ (by omega)) (byD_cell h.all _ (by omega))

set_option maxHeartbeats 1000000 in
set_option maxRecDepth 100000 in
theorem rput (rb cb n : Nat) (B X : List Int) (g : Nat) (w : World) (h : Ref w rb cb n B) (hg : g < n) (hX : X.length = 128) :
    Calls Try.prog 32 #[.pointer (some ⟨rb, 0, none⟩), .int .i64 g, .agg (bytesV X).toArray] w fun e w' => e = .returned (.tuple #[]) ∧ Ref w' rb cb n (splice B (128 * g) X) ∧ w.grownBy w' (some cb) := by
  have B1 : Below w.heap.size w (w.alloc (.cells (bytesV X).toArray 52)) := (Below.refl _ _).alloc (Nat.le_refl _) _
  have hx := h.max
  have hl := h.len
  have h1 := (h.below B1).drew
  have hr0 : BytesAt (w.alloc (.cells (bytesV X).toArray 52)).drew w.heap.size 52 X := heap_here rfl
  have S0 : (w.alloc (.cells (bytesV X).toArray 52)).drew.cell? ⟨rb, 0, none⟩ = some (.slice (some ⟨cb, 0, none⟩) (128 * n) (128 * n)) := cell_of_row _ _ 0 _ _ _ h1.ref
  have h2 : Ref ((w.alloc (.cells (bytesV X).toArray 52)).drew.setRow cb (bytesV (splice B (128 * g) X)).toArray) rb cb n (splice B (128 * g) X) := ref_row h1 (splice_len _ _ _ (by omega))
  have S1 : ((w.alloc (.cells (bytesV X).toArray 52)).drew.setRow cb (bytesV (splice B (128 * g) X)).toArray).cell? ⟨rb, 0, none⟩ = some (.slice (some ⟨cb, 0, none⟩) (128 * n) (128 * n)) := cell_of_row _ _ 0 _ _ _ h2.ref
  have hG : Hid (w.grownBy ((w.alloc (.cells (bytesV X).toArray 52)).drew.setRow cb (bytesV (splice B (128 * g) X)).toArray) (some cb)) := grown_setRow (grown_below B1.drew _) _
  have hrc : Hid ((Builtin.copy_ #[31, 31] 3 #[.slice (some ⟨cb, 128 * g, none⟩) (128 * n - 128 * g) (128 * n - 128 * g), .slice (some ⟨w.heap.size, 0, none⟩) 128 128]).run Try.prog (w.alloc (.cells (bytesV X).toArray 52)).drew = .ok (.int .i64 (128 : Nat)) ((w.alloc (.cells (bytesV X).toArray 52)).drew.setRow cb (bytesV (splice B (128 * g) X)).toArray)) := by
    show _ = _
    rw [run_cp _ cb (128 * g) _ _ w.heap.size 0 128 128 B X 5 h1.all (fun j y hj => by rw [Nat.zero_add, hr0.cell, hj]; rfl) (by rw [hX]; simp only [Nat.min_def]; split <;> omega) (by omega), hX]
  have hgn : g ≤ n := by omega
  have hng : ¬ n = g := by omega
  have htn : ((128 : Int) * (g : Int)).toNat = 128 * g := by omega
  have hng2 : ¬ 128 * n = 128 * g := by omega
  have hw64 : IntKind.i64.wrap (128 * (g : Int)) = 128 * (g : Int) := IntWalk.i64_in _ (by omega)
  have hg1 : (128 : Int) * (g : Int) ≤ 128 * n := by omega
  have hg2 : 0 ≤ (128 : Int) * (g : Int) := by omega
  have H2 := Lib.hid h2
  have HS0 := Lib.hid S0
  have HS1 := Lib.hid S1
  clear h B1 h1 h2 hr0 S0 S1
  go_enter Try.func32, Try.ntmps32
  go_wp2_with fail
  go_region_held3 (fun w' => w'.cell? ⟨rb, 0, none⟩ = some (.slice (some ⟨cb, 0, none⟩) (128 * n) (128 * n))) ((first | exact HS0.out | exact HS1.out)) ((first | (refine step_copy_run rfl (.tmp 12) (.tmp 13) 31 31 rfl _ _ _ rfl rfl hrc.out ?_)))
  go_wp2_with fail
  go_end0
  exact ⟨rfl, H2.out, hG.out⟩

set_option maxHeartbeats 1000000 in
set_option maxRecDepth 100000 in
theorem rget (rb cb n : Nat) (B : List Int) (g : Nat) (w : World) (h : Ref w rb cb n B) (hg : g < n) :
    Calls Try.prog 21 #[.pointer (some ⟨rb, 0, none⟩), .int .i64 g] w fun e w' => e = .returned (.agg (bytesV (sub B g)).toArray) ∧ Below w.heap.size w w' := by
  have hx := h.max
  have hl := h.len
  obtain ⟨W, hW⟩ : ∃ W, W = ((w.alloc (.cells (bytesV (zeroB 1)).toArray 52)).alloc (.cells (bytesV (zeroB 1)).toArray 52)).drew := ⟨_, rfl⟩
  have r1 : BytesAt (w.alloc (.cells (bytesV (zeroB 1)).toArray 52)) w.heap.size 52 (zeroB 1) := heap_here rfl
  have r2 : BytesAt W (w.heap.size + 1) 52 (zeroB 1) := by rw [hW]; exact heap_here (by simp)
  have r3 : BytesAt W w.heap.size 52 (zeroB 1) := by rw [hW]; exact heap_past (by simp) r1
  have b1 : Below w.heap.size w W := by rw [hW]; exact (((Below.refl _ _).alloc (Nat.le_refl _) _).alloc (by simp) _).drew
  have h1 := h.below b1
  have hlt := h.lt
  have hsl := sub_len B g n hl hg
  obtain ⟨W3, hW3⟩ : ∃ W3, W3 = W.setRow (w.heap.size + 1) (bytesV (sub B g)).toArray := ⟨_, rfl⟩
  have r4 : BytesAt W3 (w.heap.size + 1) 52 (sub B g) := by rw [hW3]; exact setRow_heap _ _ _ _ _ _ r2
  have r5 : BytesAt W3 w.heap.size 52 (zeroB 1) := by rw [hW3]; exact (setRow_other _ _ _ _ (by omega)).trans r3
  have b3 : Below w.heap.size w W3 := by rw [hW3]; exact below_setRow b1 (by omega) _
  have S0 : W.cell? ⟨rb, 0, none⟩ = some (.slice (some ⟨cb, 0, none⟩) (128 * n) (128 * n)) := cell_of_row _ _ 0 _ _ _ h1.ref
  have S1 : W3.cell? ⟨rb, 0, none⟩ = some (.slice (some ⟨cb, 0, none⟩) (128 * n) (128 * n)) := cell_of_row _ _ 0 _ _ _ (h.below b3).ref
  have hrc : Hid ((Builtin.copy_ #[31, 31] 3 #[.slice (some ⟨w.heap.size + 1, 0, none⟩) 128 128, .slice (some ⟨cb, 128 * g, none⟩) (128 * n - 128 * g) (128 * n - 128 * g)]).run Try.prog W = .ok (.int .i64 (128 : Nat)) W3) := by
    show _ = _
    rw [run_cp W (w.heap.size + 1) 0 128 128 cb (128 * g) _ _ (zeroB 1) (sub B g) 52 r2 (fun j y hj => by
      rw [h1.all.cell]
      rw [sub, List.getElem?_take] at hj
      split at hj
      · rw [List.getElem?_drop] at hj
        rw [hj]; rfl
      · cases hj) (by rw [hsl]; simp only [Nat.min_def]; split <;> omega) (by rw [hsl, zlen]; omega), hsl, splice_all _ _ (by rw [hsl, zlen]), hW3]
  have hst := st_mid (X := sub B g) r5 0 (by rw [hsl, zlen]; omega)
  rw [splice_all _ _ (by rw [hsl, zlen])] at hst
  have hln : (bytesV (sub B g)).length = 128 := by rw [bytesV_len, hsl]
  have R6 : Hid (BytesAt (W3.setRow w.heap.size (bytesV (sub B g)).toArray) w.heap.size 52 (sub B g)) := setRow_heap _ _ _ _ _ _ r5
  have HB : Hid (Below w.heap.size w (W3.setRow w.heap.size (bytesV (sub B g)).toArray)) := below_setRow b3 (Nat.le_refl _) _
  have HR := Lib.hid (rng_row r4)
  have hgn : g ≤ n := by omega
  have hng : ¬ n = g := by omega
  have htn : ((128 : Int) * (g : Int)).toNat = 128 * g := by omega
  have hng2 : ¬ 128 * n = 128 * g := by omega
  have hw64 : IntKind.i64.wrap (128 * (g : Int)) = 128 * (g : Int) := IntWalk.i64_in _ (by omega)
  have hg1 : (128 : Int) * (g : Int) ≤ 128 * n := by omega
  have hg2 : 0 ≤ (128 : Int) * (g : Int) := by omega
  have HS0 := Lib.hid S0
  have HS1 := Lib.hid S1
  have HL := Lib.hid hsl
  have HW := Lib.hid hW
  clear h r1 r2 r3 r4 r5 b1 b3 h1 hlt S0 S1 hsl hW3 hW
  go_enter Try.func21, Try.ntmps21
  go_wp2_with fail
  go_region_held3 (fun w' => w'.cell? ⟨rb, 0, none⟩ = some (.slice (some ⟨cb, 0, none⟩) (128 * n) (128 * n))) ((first | (rw [← HW.out]; exact HS0.out) | exact HS1.out)) ((first | (rw [← HW.out]; refine step_copy_run rfl (.tmp 6) (.tmp 13) 31 31 rfl _ _ _ rfl rfl hrc.out ?_)))
  go_wp2_with (first | (refine wpList_ld rfl (.tmp 5) rfl (w.heap.size + 1) 0 (sub B g) rfl HL.out HR.out ?_))
  refine ret_row rfl w.heap.size 52 _ (0, 0) _ Try.underlying52 rfl ?_ rfl R6.out rfl ?_
  · rw [size52, List.size_toArray, hln]
  · exact ⟨rfl, HB.out⟩
end Go.Proofs.Ytkpcomldjnahhaa
