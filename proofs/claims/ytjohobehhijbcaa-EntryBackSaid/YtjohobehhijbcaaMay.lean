/- The statement EntryMays: which entries may be, their bytes, names, levels and pages are what the chapter says, for any entry, level and page. -/
import Derived.Test.YtjohobehhijbcaaPut
import Derived.Test.YtjohobehhijbcaaNam
import Derived.Test.YtjohobehhijbcaaKno
import Derived.Deep.RegionHeld3
import Derived.Lib.SmallJoins
namespace Go.Proofs.Ytjohobehhijbcaa
open Go.ChangeShapes Go.WideShapes Go.ChangeAt Go.RowKit
set_option linter.unusedSimpArgs false
namespace EntryMays

theorem bytes_any (k g : Int) (w : World) (n : Int) (m : Bool) (hm : mayB k g = m) (hn : n = if m then 0 else 2) (q0 q1 q2 : Int) (hq : (q0, q1, q2) = if m then (k, g % 256, g / 256) else (0, 0, 0)) :
    Calls Try.prog 20 #[.agg #[.int .i64 k, .int .i64 g]] w fun e w' => e = .returned (.tuple #[.agg #[.int .u8 q0, .int .u8 q1, .int .u8 q2, .int .u8 0, .int .u8 0, .int .u8 0, .int .u8 0, .int .u8 0], .int .i64 n]) ∧ Below w.heap.size w w' := by
  cases m
  · simp at hn hq
    obtain ⟨e0, e1, e2⟩ := hq
    rw [e0, e1, e2, hn]
    exact bytes_no k g w hm
  · simp at hn hq
    obtain ⟨e0, e1, e2⟩ := hq
    rw [e0, e1, e2, hn]
    exact bytes_yes k g w hm

theorem mayq (k g : Int) (w : World) : Calls Try.prog 21 #[.agg #[.int .i64 k, .int .i64 g]] w fun e w' => e = .returned (.bool (mayB k g)) ∧ Below w.heap.size w w' :=
  (may_any k g w).mono fun e w' ⟨he, hw⟩ => ⟨he, hw ▸ (Below.refl _ _).alloc (by simp) _⟩
theorem rmayq (k g : Int) (w : World) : Calls Try.prog 22 #[.agg #[.int .i64 k, .int .i64 g]] w fun e w' => e = .returned (.bool (mayB k g)) ∧ Below w.heap.size w w' :=
  (rmay_any k g w).mono fun e w' ⟨he, hw⟩ => ⟨he, hw ▸ (Below.refl _ _).alloc (by simp) _⟩

/-- A cell of a block that was there, behind a call that has only made memory; and what was kept stays kept. -/
theorem keepS {W X Y : World} {B b : Nat} {k g : Int} (hBb : b < B) (h : X.cell? ⟨b, 0, none⟩ = some (.int .i64 k) ∧ X.cell? ⟨b, 1, none⟩ = some (.int .i64 g) ∧ B ≤ X.heap.size ∧ Below B W X) (hb : Below X.heap.size X Y) :
    Y.cell? ⟨b, 0, none⟩ = some (.int .i64 k) ∧ Y.cell? ⟨b, 1, none⟩ = some (.int .i64 g) ∧ B ≤ Y.heap.size ∧ Below B W Y :=
  ⟨(hb.cell (p := ⟨b, 0, none⟩) (Nat.lt_of_lt_of_le hBb h.2.2.1)).trans h.1, (hb.cell (p := ⟨b, 1, none⟩) (Nat.lt_of_lt_of_le hBb h.2.2.1)).trans h.2.1, Nat.le_trans h.2.2.1 hb.size, h.2.2.2.trans (hb.mono h.2.2.1)⟩

/-- The cells of two blocks, behind a call that has only made memory. -/
theorem keepT {V X Y : World} {B C b d : Nat} {k g a0 a1 a2 a3 a4 a5 a6 a7 : Int} (hBb : b < B) (hBd : d < B) (hC : C ≤ B)
    (h : X.cell? ⟨b, 0, none⟩ = some (.int .i64 k) ∧ X.cell? ⟨b, 1, none⟩ = some (.int .i64 g) ∧ X.cell? ⟨d, 0, none⟩ = some (.int .u8 a0) ∧ X.cell? ⟨d, 1, none⟩ = some (.int .u8 a1) ∧ X.cell? ⟨d, 2, none⟩ = some (.int .u8 a2) ∧ X.cell? ⟨d, 3, none⟩ = some (.int .u8 a3) ∧ X.cell? ⟨d, 4, none⟩ = some (.int .u8 a4) ∧ X.cell? ⟨d, 5, none⟩ = some (.int .u8 a5) ∧ X.cell? ⟨d, 6, none⟩ = some (.int .u8 a6) ∧ X.cell? ⟨d, 7, none⟩ = some (.int .u8 a7) ∧ B ≤ X.heap.size ∧ Below C V X) (hb : Below X.heap.size X Y) :
    Y.cell? ⟨b, 0, none⟩ = some (.int .i64 k) ∧ Y.cell? ⟨b, 1, none⟩ = some (.int .i64 g) ∧ Y.cell? ⟨d, 0, none⟩ = some (.int .u8 a0) ∧ Y.cell? ⟨d, 1, none⟩ = some (.int .u8 a1) ∧ Y.cell? ⟨d, 2, none⟩ = some (.int .u8 a2) ∧ Y.cell? ⟨d, 3, none⟩ = some (.int .u8 a3) ∧ Y.cell? ⟨d, 4, none⟩ = some (.int .u8 a4) ∧ Y.cell? ⟨d, 5, none⟩ = some (.int .u8 a5) ∧ Y.cell? ⟨d, 6, none⟩ = some (.int .u8 a6) ∧ Y.cell? ⟨d, 7, none⟩ = some (.int .u8 a7) ∧ B ≤ Y.heap.size ∧ Below C V Y := by
  obtain ⟨h0, h1, h2, h3, h4, h5, h6, h7, h8, h9, hB, hV⟩ := h
  have f := fun (q : Nat) (o : Nat) (hq : q < B) => hb.cell (p := ⟨q, o, none⟩) (Nat.lt_of_lt_of_le hq hB)
  exact ⟨(f b 0 hBb).trans h0, (f b 1 hBb).trans h1, (f d 0 hBd).trans h2, (f d 1 hBd).trans h3, (f d 2 hBd).trans h4, (f d 3 hBd).trans h5, (f d 4 hBd).trans h6, (f d 5 hBd).trans h7, (f d 6 hBd).trans h8, (f d 7 hBd).trans h9, Nat.le_trans hB hb.size, hV.trans (hb.mono (Nat.le_trans hC hB))⟩

attribute [local go_sem] run_eq8

set_option maxHeartbeats 2000000 in
theorem walk_no (k g l p : Int) (w : World) (hm : mayB k g = false) :
    Calls Try.prog 6 #[.agg #[.int .i64 k, .int .i64 g], .int .i64 l, .int .i64 p] w fun e w' => e = .returned (.bool true) ∧ Below w.heap.size w w' := by
  have HM := Lib.hid hm
  clear hm
  go_enter Try.func6, Try.ntmps6
  go_wp2_with fail
  refine (bytes_any k g _ 2 false HM.out rfl _ _ _ rfl).mono ?_
  rintro e w1 ⟨rfl, hb1⟩
  have hz1 := bsize hb1
  simp at hz1
  have c0 : w1.cell? ⟨w.heap.size, 0, none⟩ = some (.int .i64 k) := cell_of_row _ _ 0 _ _ (0, 0) ((hb1.block _ (by simp)).trans (heap_here rfl))
  have c1 : w1.cell? ⟨w.heap.size, 1, none⟩ = some (.int .i64 g) := cell_of_row _ _ 1 _ _ (0, 0) ((hb1.block _ (by simp)).trans (heap_here rfl))
  have b1 : Below w.heap.size w w1 := ((Below.refl _ _).alloc (by simp) _).trans (hb1.mono (by simp))
  have y1 : w.heap.size < w1.heap.size := by omega
  have y1' : w.heap.size < w1.heap.size + 1 := by omega
  clear hb1
  go_wp2_with fail
  have s0 : (w1.alloc (.cells #[.int .u8 0, .int .u8 (0), .int .u8 (0), .int .u8 0, .int .u8 0, .int .u8 0, .int .u8 0, .int .u8 0] 22)).drew.cell? ⟨w.heap.size, 0, none⟩ = some (.int .i64 k) := (World.cell?_of_block (w := w1) (a := ⟨w.heap.size, 0, none⟩) (heap_past y1 rfl)).trans c0
  have s1 : (w1.alloc (.cells #[.int .u8 0, .int .u8 (0), .int .u8 (0), .int .u8 0, .int .u8 0, .int .u8 0, .int .u8 0, .int .u8 0] 22)).drew.cell? ⟨w.heap.size, 1, none⟩ = some (.int .i64 g) := (World.cell?_of_block (w := w1) (a := ⟨w.heap.size, 1, none⟩) (heap_past y1 rfl)).trans c1
  go_region_held3 (fun w' => w'.cell? ⟨w.heap.size, 0, none⟩ = some (.int .i64 k) ∧ w'.cell? ⟨w.heap.size, 1, none⟩ = some (.int .i64 g) ∧ w1.heap.size + 1 ≤ w'.heap.size ∧ Below (w1.heap.size + 1) (w1.alloc (.cells #[.int .u8 0, .int .u8 (0), .int .u8 (0), .int .u8 0, .int .u8 0, .int .u8 0, .int .u8 0, .int .u8 0] 22)) w') ((first | exact keepS y1' (by assumption) hb | exact ⟨s0, s1, by simp, (Below.refl _ _).drew⟩)) ((first | (go_at_call 21; refine (mayq _ _ _).mono ?_; rintro e wa ⟨rfl, hb⟩) | (go_at_call 22; refine (rmayq _ _ _).mono ?_; rintro e wa ⟨rfl, hb⟩) | (go_at_call 23; refine (hasp_any _ _ _).mono ?_; rintro e wa ⟨rfl, hb⟩) | (go_at_call 24; refine (rhasp_any _ _ _).mono ?_; rintro e wa ⟨rfl, hb⟩) | (go_at_call 25; refine (level_any _ _ _ _).mono ?_; rintro e wa ⟨rfl, hb⟩) | (go_at_call 26; refine (rlevel_any _ _ _ _).mono ?_; rintro e wa ⟨rfl, hb⟩) | (go_at_call 27; refine (page_any _ _ _ _).mono ?_; rintro e wa ⟨rfl, hb⟩) | (go_at_call 28; refine (rpage_any _ _ _ _).mono ?_; rintro e wa ⟨rfl, hb⟩) | (go_at_call 29; refine (name_any _ _).mono ?_; rintro e wa ⟨rfl, hb⟩) | (go_at_call 30; refine (rname_any _ _).mono ?_; rintro e wa ⟨rfl, hb⟩)))
  have hS : wa.cell? ⟨w.heap.size, 0, none⟩ = some (.int .i64 k) ∧ wa.cell? ⟨w.heap.size, 1, none⟩ = some (.int .i64 g) ∧ w1.heap.size + 1 ≤ wa.heap.size ∧ Below (w1.heap.size + 1) (w1.alloc (.cells #[.int .u8 0, .int .u8 (0), .int .u8 (0), .int .u8 0, .int .u8 0, .int .u8 0, .int .u8 0, .int .u8 0] 22)) wa := by assumption
  obtain ⟨d0, d1, hsz, hbl⟩ := hS
  have b2 : Below w.heap.size w wa := (b1.alloc (by omega) _).trans (hbl.mono (by omega))
  have r7 : wa.heap[w1.heap.size]? = some (.cells #[.int .u8 0, .int .u8 (0), .int .u8 (0), .int .u8 0, .int .u8 0, .int .u8 0, .int .u8 0, .int .u8 0] 22 (0, 0)) := (hbl.block _ (by omega)).trans (heap_here rfl)
  have x0 : w.heap.size < wa.heap.size := by omega
  have x1 : w1.heap.size < wa.heap.size := by omega
  have e0 := cell_of_row _ _ 0 _ _ _ r7
  have e1 := cell_of_row _ _ 1 _ _ _ r7
  have e2 := cell_of_row _ _ 2 _ _ _ r7
  have e3 := cell_of_row _ _ 3 _ _ _ r7
  have e4 := cell_of_row _ _ 4 _ _ _ r7
  have e5 := cell_of_row _ _ 5 _ _ _ r7
  have e6 := cell_of_row _ _ 6 _ _ _ r7
  have e7 := cell_of_row _ _ 7 _ _ _ r7
  simp at e0 e1 e2 e3 e4 e5 e6 e7
  clear r7 hbl
  go_wp2_with (first | (go_at_call 22; refine (rmay_any _ _ _).mono ?_; rintro e' w' ⟨rfl, rfl⟩; rw [HM.out]) | (go_at_call 11; refine (num_any _ _).mono ?_; rintro e w' ⟨rfl, rfl⟩) | (go_at_call 12; refine (known_any _).mono ?_; rintro e w3 ⟨rfl, hb3⟩))
  go_ret
  exact ⟨rfl, (b2.alloc (by omega) _).trans (hb3.mono (by simp; omega))⟩

set_option maxHeartbeats 2000000 in
theorem walk_yes (k g l p : Int) (w : World) (hm : mayB k g = true) :
    Calls Try.prog 6 #[.agg #[.int .i64 k, .int .i64 g], .int .i64 l, .int .i64 p] w fun e w' => e = .returned (.bool true) ∧ Below w.heap.size w w' := by
  have HM := Lib.hid hm
  clear hm
  go_enter Try.func6, Try.ntmps6
  go_wp2_with fail
  refine (bytes_any k g _ 0 true HM.out rfl _ _ _ rfl).mono ?_
  rintro e w1 ⟨rfl, hb1⟩
  have hz1 := bsize hb1
  simp at hz1
  have c0 : w1.cell? ⟨w.heap.size, 0, none⟩ = some (.int .i64 k) := cell_of_row _ _ 0 _ _ (0, 0) ((hb1.block _ (by simp)).trans (heap_here rfl))
  have c1 : w1.cell? ⟨w.heap.size, 1, none⟩ = some (.int .i64 g) := cell_of_row _ _ 1 _ _ (0, 0) ((hb1.block _ (by simp)).trans (heap_here rfl))
  have b1 : Below w.heap.size w w1 := ((Below.refl _ _).alloc (by simp) _).trans (hb1.mono (by simp))
  have y1 : w.heap.size < w1.heap.size := by omega
  have y1' : w.heap.size < w1.heap.size + 1 := by omega
  clear hb1
  go_wp2_with fail
  have s0 : (w1.alloc (.cells #[.int .u8 k, .int .u8 (g % 256), .int .u8 (g / 256), .int .u8 0, .int .u8 0, .int .u8 0, .int .u8 0, .int .u8 0] 22)).drew.cell? ⟨w.heap.size, 0, none⟩ = some (.int .i64 k) := (World.cell?_of_block (w := w1) (a := ⟨w.heap.size, 0, none⟩) (heap_past y1 rfl)).trans c0
  have s1 : (w1.alloc (.cells #[.int .u8 k, .int .u8 (g % 256), .int .u8 (g / 256), .int .u8 0, .int .u8 0, .int .u8 0, .int .u8 0, .int .u8 0] 22)).drew.cell? ⟨w.heap.size, 1, none⟩ = some (.int .i64 g) := (World.cell?_of_block (w := w1) (a := ⟨w.heap.size, 1, none⟩) (heap_past y1 rfl)).trans c1
  go_region_held3 (fun w' => w'.cell? ⟨w.heap.size, 0, none⟩ = some (.int .i64 k) ∧ w'.cell? ⟨w.heap.size, 1, none⟩ = some (.int .i64 g) ∧ w1.heap.size + 1 ≤ w'.heap.size ∧ Below (w1.heap.size + 1) (w1.alloc (.cells #[.int .u8 k, .int .u8 (g % 256), .int .u8 (g / 256), .int .u8 0, .int .u8 0, .int .u8 0, .int .u8 0, .int .u8 0] 22)) w') ((first | exact keepS y1' (by assumption) hb | exact ⟨s0, s1, by simp, (Below.refl _ _).drew⟩)) ((first | (go_at_call 21; refine (mayq _ _ _).mono ?_; rintro e wa ⟨rfl, hb⟩) | (go_at_call 22; refine (rmayq _ _ _).mono ?_; rintro e wa ⟨rfl, hb⟩) | (go_at_call 23; refine (hasp_any _ _ _).mono ?_; rintro e wa ⟨rfl, hb⟩) | (go_at_call 24; refine (rhasp_any _ _ _).mono ?_; rintro e wa ⟨rfl, hb⟩) | (go_at_call 25; refine (level_any _ _ _ _).mono ?_; rintro e wa ⟨rfl, hb⟩) | (go_at_call 26; refine (rlevel_any _ _ _ _).mono ?_; rintro e wa ⟨rfl, hb⟩) | (go_at_call 27; refine (page_any _ _ _ _).mono ?_; rintro e wa ⟨rfl, hb⟩) | (go_at_call 28; refine (rpage_any _ _ _ _).mono ?_; rintro e wa ⟨rfl, hb⟩) | (go_at_call 29; refine (name_any _ _).mono ?_; rintro e wa ⟨rfl, hb⟩) | (go_at_call 30; refine (rname_any _ _).mono ?_; rintro e wa ⟨rfl, hb⟩)))
  have hS : wa.cell? ⟨w.heap.size, 0, none⟩ = some (.int .i64 k) ∧ wa.cell? ⟨w.heap.size, 1, none⟩ = some (.int .i64 g) ∧ w1.heap.size + 1 ≤ wa.heap.size ∧ Below (w1.heap.size + 1) (w1.alloc (.cells #[.int .u8 k, .int .u8 (g % 256), .int .u8 (g / 256), .int .u8 0, .int .u8 0, .int .u8 0, .int .u8 0, .int .u8 0] 22)) wa := by assumption
  obtain ⟨d0, d1, hsz, hbl⟩ := hS
  have b2 : Below w.heap.size w wa := (b1.alloc (by omega) _).trans (hbl.mono (by omega))
  have r7 : wa.heap[w1.heap.size]? = some (.cells #[.int .u8 k, .int .u8 (g % 256), .int .u8 (g / 256), .int .u8 0, .int .u8 0, .int .u8 0, .int .u8 0, .int .u8 0] 22 (0, 0)) := (hbl.block _ (by omega)).trans (heap_here rfl)
  have x0 : w.heap.size < wa.heap.size := by omega
  have x1 : w1.heap.size < wa.heap.size := by omega
  have e0 := cell_of_row _ _ 0 _ _ _ r7
  have e1 := cell_of_row _ _ 1 _ _ _ r7
  have e2 := cell_of_row _ _ 2 _ _ _ r7
  have e3 := cell_of_row _ _ 3 _ _ _ r7
  have e4 := cell_of_row _ _ 4 _ _ _ r7
  have e5 := cell_of_row _ _ 5 _ _ _ r7
  have e6 := cell_of_row _ _ 6 _ _ _ r7
  have e7 := cell_of_row _ _ 7 _ _ _ r7
  simp at e0 e1 e2 e3 e4 e5 e6 e7
  clear r7 hbl
  go_wp2_with (first | (go_at_call 22; refine (rmay_any _ _ _).mono ?_; rintro e' w' ⟨rfl, rfl⟩; rw [HM.out]) | (go_at_call 11; refine (num_any _ _).mono ?_; rintro e w' ⟨rfl, rfl⟩) | (go_at_call 12; refine (known_any _).mono ?_; rintro e w3 ⟨rfl, hb3⟩))
  have S0 : wa.cell? ⟨w.heap.size, 0, none⟩ = some (.int .i64 k) ∧ wa.cell? ⟨w.heap.size, 1, none⟩ = some (.int .i64 g) ∧ wa.cell? ⟨w1.heap.size, 0, none⟩ = some (.int .u8 k) ∧ wa.cell? ⟨w1.heap.size, 1, none⟩ = some (.int .u8 (g % 256)) ∧ wa.cell? ⟨w1.heap.size, 2, none⟩ = some (.int .u8 (g / 256)) ∧ wa.cell? ⟨w1.heap.size, 3, none⟩ = some (.int .u8 0) ∧ wa.cell? ⟨w1.heap.size, 4, none⟩ = some (.int .u8 0) ∧ wa.cell? ⟨w1.heap.size, 5, none⟩ = some (.int .u8 0) ∧ wa.cell? ⟨w1.heap.size, 6, none⟩ = some (.int .u8 0) ∧ wa.cell? ⟨w1.heap.size, 7, none⟩ = some (.int .u8 0) ∧ w1.heap.size + 1 ≤ wa.heap.size ∧ Below w.heap.size w wa := ⟨d0, d1, e0, e1, e2, e3, e4, e5, e6, e7, hsz, b2⟩
  have S1 := keepT y1' (Nat.lt_succ_self _) (by omega) S0 (Y := (wa.alloc (.cells #[.int .i64 k, .int .i64 g] 25)).drew) ((Below.refl _ _).alloc (Nat.le_refl _) _).drew
  have lt1 : w1.heap.size < w1.heap.size + 1 := by omega
  have le1 : w.heap.size ≤ w1.heap.size + 1 := by omega
  go_region_held3 (fun w' => w'.cell? ⟨w.heap.size, 0, none⟩ = some (.int .i64 k) ∧ w'.cell? ⟨w.heap.size, 1, none⟩ = some (.int .i64 g) ∧ w'.cell? ⟨w1.heap.size, 0, none⟩ = some (.int .u8 k) ∧ w'.cell? ⟨w1.heap.size, 1, none⟩ = some (.int .u8 (g % 256)) ∧ w'.cell? ⟨w1.heap.size, 2, none⟩ = some (.int .u8 (g / 256)) ∧ w'.cell? ⟨w1.heap.size, 3, none⟩ = some (.int .u8 0) ∧ w'.cell? ⟨w1.heap.size, 4, none⟩ = some (.int .u8 0) ∧ w'.cell? ⟨w1.heap.size, 5, none⟩ = some (.int .u8 0) ∧ w'.cell? ⟨w1.heap.size, 6, none⟩ = some (.int .u8 0) ∧ w'.cell? ⟨w1.heap.size, 7, none⟩ = some (.int .u8 0) ∧ w1.heap.size + 1 ≤ w'.heap.size ∧ Below w.heap.size w w') ((first | exact keepT y1' lt1 le1 (by assumption) hbx | exact S1)) ((first | (go_at_call 31; refine (rbytes_yes _ _ _ HM.out).mono ?_; rintro e wx ⟨rfl, hbx⟩; unfold agg8) | (go_at_call 11; refine (num_any _ _).mono ?_; rintro e w' ⟨rfl, rfl⟩) | (go_at_call 12; refine (known_any _).mono ?_; rintro e wx ⟨rfl, hbx⟩)))
  have hfin : wx.cell? ⟨w.heap.size, 0, none⟩ = some (.int .i64 k) ∧ wx.cell? ⟨w.heap.size, 1, none⟩ = some (.int .i64 g) ∧ wx.cell? ⟨w1.heap.size, 0, none⟩ = some (.int .u8 k) ∧ wx.cell? ⟨w1.heap.size, 1, none⟩ = some (.int .u8 (g % 256)) ∧ wx.cell? ⟨w1.heap.size, 2, none⟩ = some (.int .u8 (g / 256)) ∧ wx.cell? ⟨w1.heap.size, 3, none⟩ = some (.int .u8 0) ∧ wx.cell? ⟨w1.heap.size, 4, none⟩ = some (.int .u8 0) ∧ wx.cell? ⟨w1.heap.size, 5, none⟩ = some (.int .u8 0) ∧ wx.cell? ⟨w1.heap.size, 6, none⟩ = some (.int .u8 0) ∧ wx.cell? ⟨w1.heap.size, 7, none⟩ = some (.int .u8 0) ∧ w1.heap.size + 1 ≤ wx.heap.size ∧ Below w.heap.size w wx := by assumption
  obtain ⟨_, _, _, _, _, _, _, _, _, _, _, hB⟩ := hfin
  go_wp2
  go_ret
  exact ⟨rfl, hB⟩

theorem walk (k g l p : Int) (w : World) :
    Calls Try.prog 6 #[.agg #[.int .i64 k, .int .i64 g], .int .i64 l, .int .i64 p] w fun e w' => e = .returned (.bool true) ∧ Below w.heap.size w w' := by
  cases hm : mayB k g
  · exact walk_no k g l p w hm
  · exact walk_yes k g l p w hm

theorem own : ownKnob Try.prog.godebug = none := by kernel_rfl
theorem laidOut : laidOutB Try.prog = true := by kernel_rfl
theorem read3 : Try.prog.readableRec 3 = true ∧ 3 < Try.prog.types.size := ⟨by kernel_rfl, of_decide_eq_true (by kernel_rfl)⟩
theorem read25 : Try.prog.readableRec 25 = true ∧ 25 < Try.prog.types.size := ⟨by kernel_rfl, of_decide_eq_true (by kernel_rfl)⟩
theorem hread : ∀ t ∈ Try.f6.params.toList, Try.prog.readableRec t = true ∧ t < Try.prog.types.size := by
  rw [Try.params6]
  intro t ht
  simp at ht
  rcases ht with rfl | rfl
  · exact read25
  · exact read3

set_option maxRecDepth 100000 in
theorem lifted (os : Os) (started : os.Started) (H : Type) (enc : TypeId × Value → H) :
    ReturnsInHanded {} Try.checked os 6 .any (Rows.entryMaysSpec.pre6 enc Try.prog Try.f6 Rows.entryMaysRow.domain false) (Rows.entryMaysSpec.post enc Try.prog Try.f6 false true false false) := by
  refine returnsInHanded_of_change (C := Try.checked) own started (by kernel_rfl) Try.func6
    (ChangeSpec.witness6 (enc := enc) (C := Try.checked) false ⟨#[], #[.agg #[.int .i64 0, .int .i64 0], .int .i64 0, .int .i64 0], []⟩ 8 (by kernel_rfl) (by kernel_rfl) (by kernel_rfl) (by kernel_rfl)) ?_
  intro W base args ds gs before hval0 hW hcnd _
  have hval : ∀ (j : Nat) t v, Try.f6.params[j]? = some t → args[j]? = some v → Value.okWide Try.prog W .any base t v := hval0
  have hW' := hW
  obtain ⟨p, q, hA0, hV, rfl, hfz, hnd⟩ := hW
  have hA : DataW.TrodAll enc Try.prog W 0 (fun _ => true) true Try.f6.params.toList args.toList ds p := hA0
  have hA1 := hA
  rw [Try.params6] at hA hval
  obtain ⟨v0, vs0, d0, ds0, p0, q0, hargs, rfl, rfl, h0, r0⟩ := trodAll_cons hA
  obtain ⟨v1, vs1, d1, ds1, p1, q1, rfl, rfl, rfl, h1, r1⟩ := trodAll_cons r0
  obtain ⟨v2, vs2, d2, ds2, p2, q2, rfl, rfl, rfl, h2, r2⟩ := trodAll_cons r1
  obtain ⟨rfl, rfl, rfl⟩ := trodAll_nil r2
  obtain rfl : args = #[v0, v1, v2] := by cases args; simp_all
  obtain ⟨rfl, rfl⟩ := trodVars_none hV
  obtain ⟨x0, x1, y0, y1, m, rfl, rfl, rfl, hy0, hy1⟩ := Joins.open_agg2 Try.underlying25 (by kernel_rfl) (by kernel_rfl) (hval 0 25 v0 rfl rfl) h0
  obtain ⟨k, e0, rfl, wk⟩ := DataW.trod_int Try.underlying23 hy0
  obtain ⟨g, e1, rfl, wg⟩ := DataW.trod_int Try.underlying3 hy1
  simp at e0 e1
  subst e0 e1
  obtain ⟨a1, rfl, rfl, rfl, w1⟩ := open_int Try.underlying3 (hval 1 3 v1 rfl rfl) h1
  obtain ⟨a2, rfl, rfl, rfl, w2⟩ := open_int Try.underlying3 (hval 2 3 v2 rfl rfl) h2
  clear hA0 hval0
  simp only [List.append_nil] at hW' hA1
  refine (walk k g a1 a2 W).mono fun e W' ⟨he, hg⟩ => ?_
  subst he
  exact ⟨_, rfl, post_true hW' hA1 rfl rfl (fun _ => rfl) rfl Try.underlying4 laidOut hread hg⟩

theorem over : Rows.entryMaysRow.holds Try.pinned (OpenSpec.ofChange Rows.entryMaysSpec) :=
  OpenClaim.holds_of_wide 6 Try.f6 rfl rfl rfl rfl rfl rfl rfl ⟨rfl, rfl, rfl, rfl, rfl⟩ rfl rfl rfl rfl rfl (by kernel_rfl) Try.func6 (by kernel_rfl)
    (of_decide_eq_true (by kernel_rfl)) (by unfold Func.isWrapper; first | (rw [if_pos (by decide +kernel)]; kernel_rfl) | (rw [if_neg (by decide +kernel)]; exact ⟨rfl, rfl⟩))
    (fun os started H enc _ => lifted os started H enc)

/-- The statement. -/
theorem proved : Rows.EntryMaysSaid := over
end EntryMays
end Go.Proofs.Ytjohobehhijbcaa
