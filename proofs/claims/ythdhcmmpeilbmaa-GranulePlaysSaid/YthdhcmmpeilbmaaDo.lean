/- Contract: one act, done by the program and by the reference, is answered alike, and leaves alike rows. Conditions: those that each theorem states. -/
import Derived.Test.YthdhcmmpeilbmaaKno
import Derived.Deep.RegionHeld3
namespace Go.Proofs.Ythdhcmmpeilbmaa
open Go.ChangeShapes Go.WideShapes Go.ChangeAt Go.RowKit
set_option linter.unusedSimpArgs false

/-- A table and rows beside it, alike. -/
structure Both (w : World) (tb rb wb : Nat) (R : List Rw) : Prop where
  tab : Tab w tb rb R
  rows : RowsAt w wb R
  n1 : rb ≠ wb
  n2 : tb ≠ wb
/-- Of the old blocks only two have changed. -/
structure Two (w w' : World) (rb wb : Nat) : Prop where
  os : w'.os = w.os
  tape : w'.tape = w.tape
  output : w'.output = w.output
  size : w.heap.size ≤ w'.heap.size
  block : ∀ k, k < w.heap.size → k ≠ rb → k ≠ wb → w'.heap[k]? = w.heap[k]?
theorem two_refl (w : World) (rb wb : Nat) : Two w w rb wb := ⟨rfl, rfl, rfl, Nat.le_refl _, fun _ _ _ _ => rfl⟩
theorem two_below {w w' : World} {rb wb : Nat} (h : Below w.heap.size w w') : Two w w' rb wb := ⟨h.os, h.tape, h.output, h.size, fun k hk _ _ => h.block k hk⟩
theorem two_trans {a b c : World} {rb wb : Nat} (h : Two a b rb wb) (k : Two b c rb wb) : Two a c rb wb :=
  ⟨k.os.trans h.os, k.tape.trans h.tape, k.output.trans h.output, Nat.le_trans h.size k.size, fun i hi h1 h2 => (k.block i (Nat.lt_of_lt_of_le hi h.size) h1 h2).trans (h.block i hi h1 h2)⟩
theorem two_grown1 {a b : World} {rb wb : Nat} (h : a.grownBy b (some rb)) : Two a b rb wb := ⟨h.os, h.tape, h.output, h.size, fun i hi h1 _ => h.block i hi (by simp [h1])⟩
theorem two_grown2 {a b : World} {rb wb : Nat} (h : a.grownBy b (some wb)) : Two a b rb wb := ⟨h.os, h.tape, h.output, h.size, fun i hi _ h2 => h.block i hi (by simp [h2])⟩
theorem below_two {B : Nat} {a w w' : World} {rb wb : Nat} (hb : Below B a w) (hB : B ≤ w.heap.size) (h : Two w w' rb wb) (h1 : B ≤ rb) (h2 : B ≤ wb) : Below B a w' :=
  hb.trans ⟨h.os, h.tape, h.output, h.size, fun k hk => h.block k (by omega) (by omega) (by omega)⟩
theorem Both.below {w w' : World} {tb rb wb : Nat} {R : List Rw} (h : Both w tb rb wb R) (hb : Below w.heap.size w w') : Both w' tb rb wb R := ⟨h.tab.below hb, h.rows.below hb, h.n1, h.n2⟩
/-- Both writers have done the same. -/
theorem both_of {w w1 w2 : World} {tb rb wb : Nat} {R R' : List Rw} (h : Both w tb rb wb R) (u1 : Upd w w1 tb rb R') (u2 : UpdR w1 w2 wb R') : Both w2 tb rb wb R' ∧ Two w w2 rb wb := by
  have l := u1.tab.lt
  refine ⟨⟨⟨(u2.only.block tb l.1 (by simp [h.n2])).trans u1.tab.tab, (u2.only.block rb l.2 (by simp [h.n1])).trans u1.tab.rows, h.tab.ne⟩, u2.rows, h.n1, h.n2⟩, two_trans (two_grown1 u1.only) (two_grown2 u2.only)⟩
theorem Both.rows1 {w w1 : World} {tb rb wb : Nat} {R R' : List Rw} (h : Both w tb rb wb R) (u1 : Upd w w1 tb rb R') : RowsAt w1 wb R := h.rows.grown u1.only (by simp [Ne.symm h.n1])

theorem keepB {X Y : World} {B row : Nat} {kd g f t ow : Int} (h : X.cell? ⟨B, 0, none⟩ = some (.int .i64 kd) ∧ X.cell? ⟨B, 1, none⟩ = some (.int .i64 g) ∧ X.cell? ⟨B, 2, none⟩ = some (.int .i64 f) ∧ X.cell? ⟨B, 3, none⟩ = some (.int .i64 t) ∧ X.cell? ⟨B, 4, none⟩ = some (.int .u64 ow) ∧ B < X.heap.size) (hg : X.grownBy Y (some row)) (hne : B ≠ row) : Y.cell? ⟨B, 0, none⟩ = some (.int .i64 kd) ∧ Y.cell? ⟨B, 1, none⟩ = some (.int .i64 g) ∧ Y.cell? ⟨B, 2, none⟩ = some (.int .i64 f) ∧ Y.cell? ⟨B, 3, none⟩ = some (.int .i64 t) ∧ Y.cell? ⟨B, 4, none⟩ = some (.int .u64 ow) ∧ B < Y.heap.size := by
  obtain ⟨h0, h1, h2, h3, h4, h5⟩ := h
  have e := fun o => World.cell?_of_block (w := X) (a := ⟨B, o, none⟩) (hg.block B h5 (by simp [hne]))
  exact ⟨(e 0).trans h0, (e 1).trans h1, (e 2).trans h2, (e 3).trans h3, (e 4).trans h4, Nat.lt_of_lt_of_le h5 hg.size⟩

/-- An act at rows. -/
def actR (R : List Rw) (kd g f t ow : Int) : List Rw :=
  if 0 ≤ g ∧ g < R.length then
    if kd = 1 then R.set g.toNat (stepR (rowD R g.toNat) f t ow).2
    else if kd = 2 then R.set g.toNat ((rowD R g.toNat).1, (rowD R g.toNat).2.1, (rowD R g.toNat).2.2 + 1)
    else if kd = 3 ∧ (rowD R g.toNat).2.2 ≠ 0 then R.set g.toNat ((rowD R g.toNat).1, (rowD R g.toNat).2.1, (rowD R g.toNat).2.2 - 1)
    else R
  else R

set_option maxHeartbeats 1000000 in
theorem do1_in (tb rb wb : Nat) (R : List Rw) (g : Nat) (s o k f t ow : Int) (w : World) (hB : Both w tb rb wb R) (h1 : g < R.length) (hr : rowD R g = (s, o, k))  :
    Calls Try.prog 10 #[.pointer (some ⟨tb, 0, none⟩), .slice (some ⟨wb, 0, none⟩) R.length R.length, .agg #[.int .i64 1, .int .i64 g, .int .i64 f, .int .i64 t, .int .u64 ow]] w fun e w' => e = .returned (.bool true) ∧ Both w' tb rb wb (R.set g (stepR (s, o, k) f t ow).2) ∧ Two w w' rb wb := by
  have hlt := hB.tab.lt
  have hltw : wb < w.heap.size := (Array.getElem?_eq_some_iff.1 hB.rows).1
  have B1 : Both (w.alloc (.cells #[.int .i64 1, .int .i64 g, .int .i64 f, .int .i64 t, .int .u64 ow] 33)).drew tb rb wb R := hB.below ((Below.refl _ _).alloc (Nat.le_refl _) _).drew
  have r0 := heap_here (w := w) (o := (.cells #[.int .i64 1, .int .i64 g, .int .i64 f, .int .i64 t, .int .u64 ow] 33)) rfl
  have S0 : (w.alloc (.cells #[.int .i64 1, .int .i64 g, .int .i64 f, .int .i64 t, .int .u64 ow] 33)).drew.cell? ⟨w.heap.size, 0, none⟩ = some (.int .i64 1) ∧ (w.alloc (.cells #[.int .i64 1, .int .i64 g, .int .i64 f, .int .i64 t, .int .u64 ow] 33)).drew.cell? ⟨w.heap.size, 1, none⟩ = some (.int .i64 g) ∧ (w.alloc (.cells #[.int .i64 1, .int .i64 g, .int .i64 f, .int .i64 t, .int .u64 ow] 33)).drew.cell? ⟨w.heap.size, 2, none⟩ = some (.int .i64 f) ∧ (w.alloc (.cells #[.int .i64 1, .int .i64 g, .int .i64 f, .int .i64 t, .int .u64 ow] 33)).drew.cell? ⟨w.heap.size, 3, none⟩ = some (.int .i64 t) ∧ (w.alloc (.cells #[.int .i64 1, .int .i64 g, .int .i64 f, .int .i64 t, .int .u64 ow] 33)).drew.cell? ⟨w.heap.size, 4, none⟩ = some (.int .u64 ow) ∧ w.heap.size < (w.alloc (.cells #[.int .i64 1, .int .i64 g, .int .i64 f, .int .i64 t, .int .u64 ow] 33)).drew.heap.size :=
    ⟨cell_of_row _ _ 0 _ _ _ r0, cell_of_row _ _ 1 _ _ _ r0, cell_of_row _ _ 2 _ _ _ r0, cell_of_row _ _ 3 _ _ _ r0, cell_of_row _ _ 4 _ _ _ r0, by simp⟩
  have n1 : w.heap.size ≠ rb := by omega
  have n2 : w.heap.size ≠ wb := by omega
  have HB := Lib.hid B1
  have HR := Lib.hid hr
  clear hB B1 r0 hr
  go_enter Try.func10, Try.ntmps10
  go_wp2_with fail
  go_region_held3 (fun w' => w'.cell? ⟨w.heap.size, 0, none⟩ = some (.int .i64 1) ∧ w'.cell? ⟨w.heap.size, 1, none⟩ = some (.int .i64 g) ∧ w'.cell? ⟨w.heap.size, 2, none⟩ = some (.int .i64 f) ∧ w'.cell? ⟨w.heap.size, 3, none⟩ = some (.int .i64 t) ∧ w'.cell? ⟨w.heap.size, 4, none⟩ = some (.int .u64 ow) ∧ w.heap.size < w'.heap.size) ((first | exact S0 | exact keepB (by assumption) u1.only n1 | exact keepB (by assumption) u2.only n2 | assumption)) ((first | (go_at_call 13; refine (Step_in tb rb R g s o k f t ow _ HB.out.tab h1 HR.out).mono ?_; rintro e w1 ⟨rfl, u1⟩) | (go_at_call 24; refine (rStep_in wb R g s o k f t ow _ (HB.out.rows1 u1) h1 HR.out).mono ?_; rintro e w2 ⟨rfl, u2⟩)))
  go_wp2_with fail
  go_ret
  exact ⟨rfl, (both_of HB.out u1 u2).1, two_trans (two_below ((Below.refl _ _).alloc (Nat.le_refl _) _).drew) (both_of HB.out u1 u2).2⟩

set_option maxHeartbeats 1000000 in
theorem do2_in (tb rb wb : Nat) (R : List Rw) (g : Nat) (s o k f t ow : Int) (w : World) (hB : Both w tb rb wb R) (h1 : g < R.length) (hr : rowD R g = (s, o, k)) (hk0 : 0 ≤ k) (hk : k < 2147483647) :
    Calls Try.prog 10 #[.pointer (some ⟨tb, 0, none⟩), .slice (some ⟨wb, 0, none⟩) R.length R.length, .agg #[.int .i64 2, .int .i64 g, .int .i64 f, .int .i64 t, .int .u64 ow]] w fun e w' => e = .returned (.bool true) ∧ Both w' tb rb wb (R.set g (s, o, k + 1)) ∧ Two w w' rb wb := by
  have hlt := hB.tab.lt
  have hltw : wb < w.heap.size := (Array.getElem?_eq_some_iff.1 hB.rows).1
  have B1 : Both (w.alloc (.cells #[.int .i64 2, .int .i64 g, .int .i64 f, .int .i64 t, .int .u64 ow] 33)).drew tb rb wb R := hB.below ((Below.refl _ _).alloc (Nat.le_refl _) _).drew
  have r0 := heap_here (w := w) (o := (.cells #[.int .i64 2, .int .i64 g, .int .i64 f, .int .i64 t, .int .u64 ow] 33)) rfl
  have S0 : (w.alloc (.cells #[.int .i64 2, .int .i64 g, .int .i64 f, .int .i64 t, .int .u64 ow] 33)).drew.cell? ⟨w.heap.size, 0, none⟩ = some (.int .i64 2) ∧ (w.alloc (.cells #[.int .i64 2, .int .i64 g, .int .i64 f, .int .i64 t, .int .u64 ow] 33)).drew.cell? ⟨w.heap.size, 1, none⟩ = some (.int .i64 g) ∧ (w.alloc (.cells #[.int .i64 2, .int .i64 g, .int .i64 f, .int .i64 t, .int .u64 ow] 33)).drew.cell? ⟨w.heap.size, 2, none⟩ = some (.int .i64 f) ∧ (w.alloc (.cells #[.int .i64 2, .int .i64 g, .int .i64 f, .int .i64 t, .int .u64 ow] 33)).drew.cell? ⟨w.heap.size, 3, none⟩ = some (.int .i64 t) ∧ (w.alloc (.cells #[.int .i64 2, .int .i64 g, .int .i64 f, .int .i64 t, .int .u64 ow] 33)).drew.cell? ⟨w.heap.size, 4, none⟩ = some (.int .u64 ow) ∧ w.heap.size < (w.alloc (.cells #[.int .i64 2, .int .i64 g, .int .i64 f, .int .i64 t, .int .u64 ow] 33)).drew.heap.size :=
    ⟨cell_of_row _ _ 0 _ _ _ r0, cell_of_row _ _ 1 _ _ _ r0, cell_of_row _ _ 2 _ _ _ r0, cell_of_row _ _ 3 _ _ _ r0, cell_of_row _ _ 4 _ _ _ r0, by simp⟩
  have n1 : w.heap.size ≠ rb := by omega
  have n2 : w.heap.size ≠ wb := by omega
  have HB := Lib.hid B1
  have HR := Lib.hid hr
  clear hB B1 r0 hr
  go_enter Try.func10, Try.ntmps10
  go_wp2_with fail
  go_region_held3 (fun w' => w'.cell? ⟨w.heap.size, 0, none⟩ = some (.int .i64 2) ∧ w'.cell? ⟨w.heap.size, 1, none⟩ = some (.int .i64 g) ∧ w'.cell? ⟨w.heap.size, 2, none⟩ = some (.int .i64 f) ∧ w'.cell? ⟨w.heap.size, 3, none⟩ = some (.int .i64 t) ∧ w'.cell? ⟨w.heap.size, 4, none⟩ = some (.int .u64 ow) ∧ w.heap.size < w'.heap.size) ((first | exact S0 | exact keepB (by assumption) u1.only n1 | exact keepB (by assumption) u2.only n2 | assumption)) ((first | (go_at_call 12; refine (Hold_in tb rb R g s o k _ HB.out.tab h1 HR.out hk0 hk).mono ?_; rintro e w1 ⟨rfl, u1⟩) | (go_at_call 25; refine (rHold_in wb R g s o k _ (HB.out.rows1 u1) h1 HR.out hk0 hk).mono ?_; rintro e w2 ⟨rfl, u2⟩)))
  go_wp2_with fail
  go_ret
  exact ⟨rfl, (both_of HB.out u1 u2).1, two_trans (two_below ((Below.refl _ _).alloc (Nat.le_refl _) _).drew) (both_of HB.out u1 u2).2⟩

set_option maxHeartbeats 1000000 in
theorem do3_in (tb rb wb : Nat) (R : List Rw) (g : Nat) (s o k f t ow : Int) (w : World) (hB : Both w tb rb wb R) (h1 : g < R.length) (hr : rowD R g = (s, o, k)) (hk0 : 1 ≤ k) (hk : k ≤ 2147483647) :
    Calls Try.prog 10 #[.pointer (some ⟨tb, 0, none⟩), .slice (some ⟨wb, 0, none⟩) R.length R.length, .agg #[.int .i64 3, .int .i64 g, .int .i64 f, .int .i64 t, .int .u64 ow]] w fun e w' => e = .returned (.bool true) ∧ Both w' tb rb wb (R.set g (s, o, k - 1)) ∧ Two w w' rb wb := by
  have hlt := hB.tab.lt
  have hltw : wb < w.heap.size := (Array.getElem?_eq_some_iff.1 hB.rows).1
  have B1 : Both (w.alloc (.cells #[.int .i64 3, .int .i64 g, .int .i64 f, .int .i64 t, .int .u64 ow] 33)).drew tb rb wb R := hB.below ((Below.refl _ _).alloc (Nat.le_refl _) _).drew
  have r0 := heap_here (w := w) (o := (.cells #[.int .i64 3, .int .i64 g, .int .i64 f, .int .i64 t, .int .u64 ow] 33)) rfl
  have S0 : (w.alloc (.cells #[.int .i64 3, .int .i64 g, .int .i64 f, .int .i64 t, .int .u64 ow] 33)).drew.cell? ⟨w.heap.size, 0, none⟩ = some (.int .i64 3) ∧ (w.alloc (.cells #[.int .i64 3, .int .i64 g, .int .i64 f, .int .i64 t, .int .u64 ow] 33)).drew.cell? ⟨w.heap.size, 1, none⟩ = some (.int .i64 g) ∧ (w.alloc (.cells #[.int .i64 3, .int .i64 g, .int .i64 f, .int .i64 t, .int .u64 ow] 33)).drew.cell? ⟨w.heap.size, 2, none⟩ = some (.int .i64 f) ∧ (w.alloc (.cells #[.int .i64 3, .int .i64 g, .int .i64 f, .int .i64 t, .int .u64 ow] 33)).drew.cell? ⟨w.heap.size, 3, none⟩ = some (.int .i64 t) ∧ (w.alloc (.cells #[.int .i64 3, .int .i64 g, .int .i64 f, .int .i64 t, .int .u64 ow] 33)).drew.cell? ⟨w.heap.size, 4, none⟩ = some (.int .u64 ow) ∧ w.heap.size < (w.alloc (.cells #[.int .i64 3, .int .i64 g, .int .i64 f, .int .i64 t, .int .u64 ow] 33)).drew.heap.size :=
    ⟨cell_of_row _ _ 0 _ _ _ r0, cell_of_row _ _ 1 _ _ _ r0, cell_of_row _ _ 2 _ _ _ r0, cell_of_row _ _ 3 _ _ _ r0, cell_of_row _ _ 4 _ _ _ r0, by simp⟩
  have n1 : w.heap.size ≠ rb := by omega
  have n2 : w.heap.size ≠ wb := by omega
  have HB := Lib.hid B1
  have HR := Lib.hid hr
  clear hB B1 r0 hr
  go_enter Try.func10, Try.ntmps10
  go_wp2_with fail
  go_region_held3 (fun w' => w'.cell? ⟨w.heap.size, 0, none⟩ = some (.int .i64 3) ∧ w'.cell? ⟨w.heap.size, 1, none⟩ = some (.int .i64 g) ∧ w'.cell? ⟨w.heap.size, 2, none⟩ = some (.int .i64 f) ∧ w'.cell? ⟨w.heap.size, 3, none⟩ = some (.int .i64 t) ∧ w'.cell? ⟨w.heap.size, 4, none⟩ = some (.int .u64 ow) ∧ w.heap.size < w'.heap.size) ((first | exact S0 | exact keepB (by assumption) u1.only n1 | exact keepB (by assumption) u2.only n2 | assumption)) ((first | (go_at_call 14; refine (Let_in tb rb R g s o k _ HB.out.tab h1 HR.out hk0 hk).mono ?_; rintro e w1 ⟨rfl, u1⟩) | (go_at_call 26; refine (rLet_in wb R g s o k _ (HB.out.rows1 u1) h1 HR.out hk0 hk).mono ?_; rintro e w2 ⟨rfl, u2⟩)))
  go_wp2_with fail
  go_ret
  exact ⟨rfl, (both_of HB.out u1 u2).1, two_trans (two_below ((Below.refl _ _).alloc (Nat.le_refl _) _).drew) (both_of HB.out u1 u2).2⟩

set_option maxHeartbeats 1000000 in
theorem do3_none (tb rb wb : Nat) (R : List Rw) (g : Nat) (s o f t ow : Int) (w : World) (hB : Both w tb rb wb R) (h1 : g < R.length) (hr : rowD R g = (s, o, 0)) :
    Calls Try.prog 10 #[.pointer (some ⟨tb, 0, none⟩), .slice (some ⟨wb, 0, none⟩) R.length R.length, .agg #[.int .i64 3, .int .i64 g, .int .i64 f, .int .i64 t, .int .u64 ow]] w fun e w' => e = .returned (.bool true) ∧ Both w' tb rb wb (R) ∧ Two w w' rb wb := by
  have hlt := hB.tab.lt
  have hltw : wb < w.heap.size := (Array.getElem?_eq_some_iff.1 hB.rows).1
  have B1 : Both (w.alloc (.cells #[.int .i64 3, .int .i64 g, .int .i64 f, .int .i64 t, .int .u64 ow] 33)).drew tb rb wb R := hB.below ((Below.refl _ _).alloc (Nat.le_refl _) _).drew
  have r0 := heap_here (w := w) (o := (.cells #[.int .i64 3, .int .i64 g, .int .i64 f, .int .i64 t, .int .u64 ow] 33)) rfl
  have S0 : (w.alloc (.cells #[.int .i64 3, .int .i64 g, .int .i64 f, .int .i64 t, .int .u64 ow] 33)).drew.cell? ⟨w.heap.size, 0, none⟩ = some (.int .i64 3) ∧ (w.alloc (.cells #[.int .i64 3, .int .i64 g, .int .i64 f, .int .i64 t, .int .u64 ow] 33)).drew.cell? ⟨w.heap.size, 1, none⟩ = some (.int .i64 g) ∧ (w.alloc (.cells #[.int .i64 3, .int .i64 g, .int .i64 f, .int .i64 t, .int .u64 ow] 33)).drew.cell? ⟨w.heap.size, 2, none⟩ = some (.int .i64 f) ∧ (w.alloc (.cells #[.int .i64 3, .int .i64 g, .int .i64 f, .int .i64 t, .int .u64 ow] 33)).drew.cell? ⟨w.heap.size, 3, none⟩ = some (.int .i64 t) ∧ (w.alloc (.cells #[.int .i64 3, .int .i64 g, .int .i64 f, .int .i64 t, .int .u64 ow] 33)).drew.cell? ⟨w.heap.size, 4, none⟩ = some (.int .u64 ow) ∧ w.heap.size < (w.alloc (.cells #[.int .i64 3, .int .i64 g, .int .i64 f, .int .i64 t, .int .u64 ow] 33)).drew.heap.size :=
    ⟨cell_of_row _ _ 0 _ _ _ r0, cell_of_row _ _ 1 _ _ _ r0, cell_of_row _ _ 2 _ _ _ r0, cell_of_row _ _ 3 _ _ _ r0, cell_of_row _ _ 4 _ _ _ r0, by simp⟩
  have n1 : w.heap.size ≠ rb := by omega
  have n2 : w.heap.size ≠ wb := by omega
  have HB := Lib.hid B1
  have HR := Lib.hid hr
  clear hB B1 r0 hr
  go_enter Try.func10, Try.ntmps10
  go_wp2_with fail
  go_region_held3 (fun w' => w'.cell? ⟨w.heap.size, 0, none⟩ = some (.int .i64 3) ∧ w'.cell? ⟨w.heap.size, 1, none⟩ = some (.int .i64 g) ∧ w'.cell? ⟨w.heap.size, 2, none⟩ = some (.int .i64 f) ∧ w'.cell? ⟨w.heap.size, 3, none⟩ = some (.int .i64 t) ∧ w'.cell? ⟨w.heap.size, 4, none⟩ = some (.int .u64 ow) ∧ w.heap.size < w'.heap.size) ((first | exact S0 | exact keepB (by assumption) u1.only n1 | exact keepB (by assumption) u2.only n2 | assumption)) ((first | (go_at_call 14; refine (Let_none tb rb R g s o _ HB.out.tab h1 HR.out).mono ?_; rintro e w' ⟨rfl, rfl⟩) | (go_at_call 26; refine (rLet_none wb R g s o _ HB.out.rows h1 HR.out).mono ?_; rintro e w' ⟨rfl, rfl⟩)))
  go_wp2_with fail
  go_ret
  exact ⟨rfl, HB.out, two_below ((Below.refl _ _).alloc (Nat.le_refl _) _).drew⟩

set_option maxHeartbeats 1000000 in
theorem do1_out (tb rb wb : Nat) (R : List Rw) (g f t ow : Int) (w : World) (hB : Both w tb rb wb R) (hR : 0 < R.length) (ho : g < 0 ∨ (R.length : Int) ≤ g) :
    Calls Try.prog 10 #[.pointer (some ⟨tb, 0, none⟩), .slice (some ⟨wb, 0, none⟩) R.length R.length, .agg #[.int .i64 1, .int .i64 g, .int .i64 f, .int .i64 t, .int .u64 ow]] w fun e w' => e = .returned (.bool true) ∧ Both w' tb rb wb (R) ∧ Two w w' rb wb := by
  have hlt := hB.tab.lt
  have hltw : wb < w.heap.size := (Array.getElem?_eq_some_iff.1 hB.rows).1
  have B1 : Both (w.alloc (.cells #[.int .i64 1, .int .i64 g, .int .i64 f, .int .i64 t, .int .u64 ow] 33)).drew tb rb wb R := hB.below ((Below.refl _ _).alloc (Nat.le_refl _) _).drew
  have r0 := heap_here (w := w) (o := (.cells #[.int .i64 1, .int .i64 g, .int .i64 f, .int .i64 t, .int .u64 ow] 33)) rfl
  have S0 : (w.alloc (.cells #[.int .i64 1, .int .i64 g, .int .i64 f, .int .i64 t, .int .u64 ow] 33)).drew.cell? ⟨w.heap.size, 0, none⟩ = some (.int .i64 1) ∧ (w.alloc (.cells #[.int .i64 1, .int .i64 g, .int .i64 f, .int .i64 t, .int .u64 ow] 33)).drew.cell? ⟨w.heap.size, 1, none⟩ = some (.int .i64 g) ∧ (w.alloc (.cells #[.int .i64 1, .int .i64 g, .int .i64 f, .int .i64 t, .int .u64 ow] 33)).drew.cell? ⟨w.heap.size, 2, none⟩ = some (.int .i64 f) ∧ (w.alloc (.cells #[.int .i64 1, .int .i64 g, .int .i64 f, .int .i64 t, .int .u64 ow] 33)).drew.cell? ⟨w.heap.size, 3, none⟩ = some (.int .i64 t) ∧ (w.alloc (.cells #[.int .i64 1, .int .i64 g, .int .i64 f, .int .i64 t, .int .u64 ow] 33)).drew.cell? ⟨w.heap.size, 4, none⟩ = some (.int .u64 ow) ∧ w.heap.size < (w.alloc (.cells #[.int .i64 1, .int .i64 g, .int .i64 f, .int .i64 t, .int .u64 ow] 33)).drew.heap.size :=
    ⟨cell_of_row _ _ 0 _ _ _ r0, cell_of_row _ _ 1 _ _ _ r0, cell_of_row _ _ 2 _ _ _ r0, cell_of_row _ _ 3 _ _ _ r0, cell_of_row _ _ 4 _ _ _ r0, by simp⟩
  have n1 : w.heap.size ≠ rb := by omega
  have n2 : w.heap.size ≠ wb := by omega
  have HB := Lib.hid B1
  have HO := Lib.hid ho
  clear hB B1 r0 ho
  go_enter Try.func10, Try.ntmps10
  go_wp2_with fail
  go_region_held3 (fun w' => w'.cell? ⟨w.heap.size, 0, none⟩ = some (.int .i64 1) ∧ w'.cell? ⟨w.heap.size, 1, none⟩ = some (.int .i64 g) ∧ w'.cell? ⟨w.heap.size, 2, none⟩ = some (.int .i64 f) ∧ w'.cell? ⟨w.heap.size, 3, none⟩ = some (.int .i64 t) ∧ w'.cell? ⟨w.heap.size, 4, none⟩ = some (.int .u64 ow) ∧ w.heap.size < w'.heap.size) ((first | exact S0 | exact keepB (by assumption) u1.only n1 | exact keepB (by assumption) u2.only n2 | assumption)) ((first | (go_at_call 13; refine (Step_out tb rb R g f t ow _ HB.out.tab hR HO.out).mono ?_; rintro e w' ⟨rfl, rfl⟩) | (go_at_call 24; refine (rStep_out wb R g f t ow _ HO.out).mono ?_; rintro e w' ⟨rfl, rfl⟩)))
  go_wp2_with fail
  go_ret
  exact ⟨rfl, HB.out, two_below ((Below.refl _ _).alloc (Nat.le_refl _) _).drew⟩

set_option maxHeartbeats 1000000 in
theorem do2_out (tb rb wb : Nat) (R : List Rw) (g f t ow : Int) (w : World) (hB : Both w tb rb wb R) (hR : 0 < R.length) (ho : g < 0 ∨ (R.length : Int) ≤ g) :
    Calls Try.prog 10 #[.pointer (some ⟨tb, 0, none⟩), .slice (some ⟨wb, 0, none⟩) R.length R.length, .agg #[.int .i64 2, .int .i64 g, .int .i64 f, .int .i64 t, .int .u64 ow]] w fun e w' => e = .returned (.bool true) ∧ Both w' tb rb wb (R) ∧ Two w w' rb wb := by
  have hlt := hB.tab.lt
  have hltw : wb < w.heap.size := (Array.getElem?_eq_some_iff.1 hB.rows).1
  have B1 : Both (w.alloc (.cells #[.int .i64 2, .int .i64 g, .int .i64 f, .int .i64 t, .int .u64 ow] 33)).drew tb rb wb R := hB.below ((Below.refl _ _).alloc (Nat.le_refl _) _).drew
  have r0 := heap_here (w := w) (o := (.cells #[.int .i64 2, .int .i64 g, .int .i64 f, .int .i64 t, .int .u64 ow] 33)) rfl
  have S0 : (w.alloc (.cells #[.int .i64 2, .int .i64 g, .int .i64 f, .int .i64 t, .int .u64 ow] 33)).drew.cell? ⟨w.heap.size, 0, none⟩ = some (.int .i64 2) ∧ (w.alloc (.cells #[.int .i64 2, .int .i64 g, .int .i64 f, .int .i64 t, .int .u64 ow] 33)).drew.cell? ⟨w.heap.size, 1, none⟩ = some (.int .i64 g) ∧ (w.alloc (.cells #[.int .i64 2, .int .i64 g, .int .i64 f, .int .i64 t, .int .u64 ow] 33)).drew.cell? ⟨w.heap.size, 2, none⟩ = some (.int .i64 f) ∧ (w.alloc (.cells #[.int .i64 2, .int .i64 g, .int .i64 f, .int .i64 t, .int .u64 ow] 33)).drew.cell? ⟨w.heap.size, 3, none⟩ = some (.int .i64 t) ∧ (w.alloc (.cells #[.int .i64 2, .int .i64 g, .int .i64 f, .int .i64 t, .int .u64 ow] 33)).drew.cell? ⟨w.heap.size, 4, none⟩ = some (.int .u64 ow) ∧ w.heap.size < (w.alloc (.cells #[.int .i64 2, .int .i64 g, .int .i64 f, .int .i64 t, .int .u64 ow] 33)).drew.heap.size :=
    ⟨cell_of_row _ _ 0 _ _ _ r0, cell_of_row _ _ 1 _ _ _ r0, cell_of_row _ _ 2 _ _ _ r0, cell_of_row _ _ 3 _ _ _ r0, cell_of_row _ _ 4 _ _ _ r0, by simp⟩
  have n1 : w.heap.size ≠ rb := by omega
  have n2 : w.heap.size ≠ wb := by omega
  have HB := Lib.hid B1
  have HO := Lib.hid ho
  clear hB B1 r0 ho
  go_enter Try.func10, Try.ntmps10
  go_wp2_with fail
  go_region_held3 (fun w' => w'.cell? ⟨w.heap.size, 0, none⟩ = some (.int .i64 2) ∧ w'.cell? ⟨w.heap.size, 1, none⟩ = some (.int .i64 g) ∧ w'.cell? ⟨w.heap.size, 2, none⟩ = some (.int .i64 f) ∧ w'.cell? ⟨w.heap.size, 3, none⟩ = some (.int .i64 t) ∧ w'.cell? ⟨w.heap.size, 4, none⟩ = some (.int .u64 ow) ∧ w.heap.size < w'.heap.size) ((first | exact S0 | exact keepB (by assumption) u1.only n1 | exact keepB (by assumption) u2.only n2 | assumption)) ((first | (go_at_call 12; refine (Hold_out tb rb R g _ HB.out.tab hR HO.out).mono ?_; rintro e w' ⟨rfl, rfl⟩) | (go_at_call 25; refine (rHold_out wb R g _ HO.out).mono ?_; rintro e w' ⟨rfl, rfl⟩)))
  go_wp2_with fail
  go_ret
  exact ⟨rfl, HB.out, two_below ((Below.refl _ _).alloc (Nat.le_refl _) _).drew⟩

set_option maxHeartbeats 1000000 in
theorem do3_out (tb rb wb : Nat) (R : List Rw) (g f t ow : Int) (w : World) (hB : Both w tb rb wb R) (hR : 0 < R.length) (ho : g < 0 ∨ (R.length : Int) ≤ g) :
    Calls Try.prog 10 #[.pointer (some ⟨tb, 0, none⟩), .slice (some ⟨wb, 0, none⟩) R.length R.length, .agg #[.int .i64 3, .int .i64 g, .int .i64 f, .int .i64 t, .int .u64 ow]] w fun e w' => e = .returned (.bool true) ∧ Both w' tb rb wb (R) ∧ Two w w' rb wb := by
  have hlt := hB.tab.lt
  have hltw : wb < w.heap.size := (Array.getElem?_eq_some_iff.1 hB.rows).1
  have B1 : Both (w.alloc (.cells #[.int .i64 3, .int .i64 g, .int .i64 f, .int .i64 t, .int .u64 ow] 33)).drew tb rb wb R := hB.below ((Below.refl _ _).alloc (Nat.le_refl _) _).drew
  have r0 := heap_here (w := w) (o := (.cells #[.int .i64 3, .int .i64 g, .int .i64 f, .int .i64 t, .int .u64 ow] 33)) rfl
  have S0 : (w.alloc (.cells #[.int .i64 3, .int .i64 g, .int .i64 f, .int .i64 t, .int .u64 ow] 33)).drew.cell? ⟨w.heap.size, 0, none⟩ = some (.int .i64 3) ∧ (w.alloc (.cells #[.int .i64 3, .int .i64 g, .int .i64 f, .int .i64 t, .int .u64 ow] 33)).drew.cell? ⟨w.heap.size, 1, none⟩ = some (.int .i64 g) ∧ (w.alloc (.cells #[.int .i64 3, .int .i64 g, .int .i64 f, .int .i64 t, .int .u64 ow] 33)).drew.cell? ⟨w.heap.size, 2, none⟩ = some (.int .i64 f) ∧ (w.alloc (.cells #[.int .i64 3, .int .i64 g, .int .i64 f, .int .i64 t, .int .u64 ow] 33)).drew.cell? ⟨w.heap.size, 3, none⟩ = some (.int .i64 t) ∧ (w.alloc (.cells #[.int .i64 3, .int .i64 g, .int .i64 f, .int .i64 t, .int .u64 ow] 33)).drew.cell? ⟨w.heap.size, 4, none⟩ = some (.int .u64 ow) ∧ w.heap.size < (w.alloc (.cells #[.int .i64 3, .int .i64 g, .int .i64 f, .int .i64 t, .int .u64 ow] 33)).drew.heap.size :=
    ⟨cell_of_row _ _ 0 _ _ _ r0, cell_of_row _ _ 1 _ _ _ r0, cell_of_row _ _ 2 _ _ _ r0, cell_of_row _ _ 3 _ _ _ r0, cell_of_row _ _ 4 _ _ _ r0, by simp⟩
  have n1 : w.heap.size ≠ rb := by omega
  have n2 : w.heap.size ≠ wb := by omega
  have HB := Lib.hid B1
  have HO := Lib.hid ho
  clear hB B1 r0 ho
  go_enter Try.func10, Try.ntmps10
  go_wp2_with fail
  go_region_held3 (fun w' => w'.cell? ⟨w.heap.size, 0, none⟩ = some (.int .i64 3) ∧ w'.cell? ⟨w.heap.size, 1, none⟩ = some (.int .i64 g) ∧ w'.cell? ⟨w.heap.size, 2, none⟩ = some (.int .i64 f) ∧ w'.cell? ⟨w.heap.size, 3, none⟩ = some (.int .i64 t) ∧ w'.cell? ⟨w.heap.size, 4, none⟩ = some (.int .u64 ow) ∧ w.heap.size < w'.heap.size) ((first | exact S0 | exact keepB (by assumption) u1.only n1 | exact keepB (by assumption) u2.only n2 | assumption)) ((first | (go_at_call 14; refine (Let_out tb rb R g _ HB.out.tab hR HO.out).mono ?_; rintro e w' ⟨rfl, rfl⟩) | (go_at_call 26; refine (rLet_out wb R g _ HO.out).mono ?_; rintro e w' ⟨rfl, rfl⟩)))
  go_wp2_with fail
  go_ret
  exact ⟨rfl, HB.out, two_below ((Below.refl _ _).alloc (Nat.le_refl _) _).drew⟩

theorem do_else (tb rb wb : Nat) (R : List Rw) (kd g f t ow : Int) (w : World) (hB : Both w tb rb wb R) (h1 : (kd == 1) = false) (h2 : (kd == 2) = false) (h3 : (kd == 3) = false) :
    Calls Try.prog 10 #[.pointer (some ⟨tb, 0, none⟩), .slice (some ⟨wb, 0, none⟩) R.length R.length, .agg #[.int .i64 kd, .int .i64 g, .int .i64 f, .int .i64 t, .int .u64 ow]] w fun e w' => e = .returned (.bool true) ∧ Both w' tb rb wb R ∧ Two w w' rb wb := by
  have HB := Lib.hid hB
  clear hB
  go_enter Try.func10, Try.ntmps10
  go_wp2_with fail
  go_ret
  exact ⟨rfl, HB.out.below ((Below.refl _ _).alloc (Nat.le_refl _) _), two_below ((Below.refl _ _).alloc (Nat.le_refl _) _)⟩

theorem do_any (tb rb wb : Nat) (R : List Rw) (kd g f t ow : Int) (w : World) (hB : Both w tb rb wb R) (hR : 0 < R.length) (hk : ∀ i, i < R.length → 0 ≤ (rowD R i).2.2 ∧ (rowD R i).2.2 < 2147483647) :
    Calls Try.prog 10 #[.pointer (some ⟨tb, 0, none⟩), .slice (some ⟨wb, 0, none⟩) R.length R.length, .agg #[.int .i64 kd, .int .i64 g, .int .i64 f, .int .i64 t, .int .u64 ow]] w fun e w' => e = .returned (.bool true) ∧ Both w' tb rb wb (actR R kd g f t ow) ∧ Two w w' rb wb := by
  by_cases hg : 0 ≤ g ∧ g < R.length
  · obtain ⟨n, rfl⟩ := Int.eq_ofNat_of_zero_le hg.1
    have hn : n < R.length := by omega
    obtain ⟨s, o, k, hr⟩ : ∃ s o k, rowD R n = (s, o, k) := ⟨_, _, _, rfl⟩
    have hb := hk n hn
    rw [hr] at hb
    unfold actR
    rw [if_pos hg, Int.toNat_natCast, hr]
    by_cases h1 : kd = 1
    · subst h1; rw [if_pos rfl]; exact do1_in tb rb wb R n s o k f t ow w hB hn hr
    rw [if_neg h1]
    by_cases h2 : kd = 2
    · subst h2; rw [if_pos rfl]; exact do2_in tb rb wb R n s o k f t ow w hB hn hr hb.1 hb.2
    rw [if_neg h2]
    by_cases h3 : kd = 3
    · subst h3
      by_cases h0 : k = 0
      · subst h0; rw [if_neg (by simp)]; exact do3_none tb rb wb R n s o f t ow w hB hn hr
      · rw [if_pos ⟨rfl, h0⟩]; exact do3_in tb rb wb R n s o k f t ow w hB hn hr (by have := hb.1; simp at this; omega) (by have := hb.2; simp at this; omega)
    · rw [if_neg (by simp [h3])]
      exact do_else tb rb wb R kd n f t ow w hB (beq_eq_false_iff_ne.2 h1) (beq_eq_false_iff_ne.2 h2) (beq_eq_false_iff_ne.2 h3)
  · have ho : g < 0 ∨ (R.length : Int) ≤ g := by omega
    unfold actR
    rw [if_neg hg]
    by_cases h1 : kd = 1
    · subst h1; exact do1_out tb rb wb R g f t ow w hB hR ho
    by_cases h2 : kd = 2
    · subst h2; exact do2_out tb rb wb R g f t ow w hB hR ho
    by_cases h3 : kd = 3
    · subst h3; exact do3_out tb rb wb R g f t ow w hB hR ho
    exact do_else tb rb wb R kd g f t ow w hB (beq_eq_false_iff_ne.2 h1) (beq_eq_false_iff_ne.2 h2) (beq_eq_false_iff_ne.2 h3)
end Go.Proofs.Ythdhcmmpeilbmaa
