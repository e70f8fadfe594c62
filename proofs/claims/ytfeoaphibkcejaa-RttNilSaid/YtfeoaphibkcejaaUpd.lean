/- Contracts of layer 7's steps. Conditions: those that each theorem states. -/
import Derived.Test.YtfeoaphibkcejaaTab
namespace Go.Proofs.Ytfeoaphibkcejaa
open Go.ChangeShapes Go.WideShapes Go.ChangeAt Go.RowKit
set_option linter.unusedSimpArgs false
set_option maxRecDepth 100000

/-- A step at a row: the answer, and the row behind it. -/
def stepR (r : Rw) (f t ow : Int) : Int × Rw :=
  match stepF f t with
  | none => (2, r)
  | some b => if b ≠ (ow != 0) then (2, r) else if r.1 ≠ f then (7, r) else if 0 < r.2.2 ∧ f ≠ 1 then (9, r) else (0, (t, ow, r.2.2))
/-- Behind a call the table has other rows; no other old block has changed. -/
structure Upd (w w' : World) (tb rb : Nat) (R' : List Rw) : Prop where
  tab : Tab w' tb rb R'
  only : w.grownBy w' (some rb)
/-- Likewise rows alone. -/
structure UpdR (w w' : World) (rb : Nat) (R' : List Rw) : Prop where
  rows : RowsAt w' rb R'
  only : w.grownBy w' (some rb)
theorem set_same {R : List Rw} {g : Nat} {r : Rw} (hg : g < R.length) (hr : rowD R g = r) : R.set g r = R := by
  apply List.ext_getElem?
  intro i
  rw [List.getElem?_set]
  split
  · rename_i h; subst h; subst hr; simp [rowD, hg]
  · rfl
theorem updR_same {w w' : World} {rb : Nat} {R : List Rw} {g : Nat} {r : Rw} (h : RowsAt w rb R) (hb : Below w.heap.size w w') (hg : g < R.length) (hr : rowD R g = r) : UpdR w w' rb (R.set g r) :=
  ⟨by rw [set_same hg hr]; exact h.below hb, grown_below hb _⟩
theorem upd_same {w w' : World} {tb rb : Nat} {R : List Rw} {g : Nat} {r : Rw} (h : Tab w tb rb R) (hb : Below w.heap.size w w') (hg : g < R.length) (hr : rowD R g = r) : Upd w w' tb rb (R.set g r) :=
  ⟨by rw [set_same hg hr]; exact h.below hb, grown_below hb _⟩
theorem upd_of {w w' : World} {tb rb : Nat} {R : List Rw} {g : Nat} {r : Rw} (h : Tab w tb rb R) (hu : UpdR w w' rb (R.set g r)) : Upd w w' tb rb (R.set g r) :=
  ⟨⟨by have := (hu.only.block tb h.lt.1 (by simp [h.ne])).trans h.tab; simpa using this, hu.rows, h.ne⟩, hu.only⟩
/-- The held count of a row written, behind whatever else a call has made. -/
theorem updR_held {w w1 : World} {rb : Nat} {R : List Rw} {g : Nat} {s o k k' : Int} (h : RowsAt w rb R) (hb : Below w.heap.size w w1) (hg : g < R.length) (hr : rowD R g = (s, o, k)) :
    UpdR w (w1.setCell ⟨rb, g * 3 + 2, none⟩ (.int .i64 k')) rb (R.set g (s, o, k')) := by
  refine ⟨?_, grown_setCell (grown_below hb _) _ _⟩
  have := rows_setCell (h.below hb) (g * 3 + 2) (.int .i64 k')
  rw [rowsV_set1 R g s o k k' hg hr] at this
  exact this
/-- State and owner of a row written. -/
theorem updR_step {w w1 : World} {rb : Nat} {R : List Rw} {g : Nat} {s o k s' o' : Int} (h : RowsAt w rb R) (hb : Below w.heap.size w w1) (hg : g < R.length) (hr : rowD R g = (s, o, k)) :
    UpdR w ((w1.setCell ⟨rb, g * 3, none⟩ (.int .i64 s')).setCell ⟨rb, g * 3 + 1, none⟩ (.int .u64 o')) rb (R.set g (s', o', k)) := by
  refine ⟨?_, grown_setCell (grown_setCell (grown_below hb _) _ _) _ _⟩
  have h1 := rows_setCell (rows_setCell (h.below hb) (g * 3) (.int .i64 s')) (g * 3 + 1) (.int .u64 o')
  have e : ((rowsV R).set (g * 3) (.int .i64 s')).set (g * 3 + 1) (.int .u64 o') = rowsV (R.set g (s', o', k)) := by
    rw [← rowsV_set3 R g s' o' k hg]
    have f := rowsV_get R g 2 hg (by omega)
    rw [hr] at f
    simp [rowV] at f
    apply List.ext_getElem?
    intro i
    rw [List.getElem?_set (i := g * 3 + 2)]
    split
    · rename_i hi
      subst hi
      rw [List.getElem?_set_ne (by omega), List.getElem?_set_ne (by omega), f]
      simp [rowsV_len]
      omega
    · rfl
  rw [e] at h1
  exact h1
theorem updR_alloc {w w1 : World} {rb : Nat} {R : List Rw} (h : UpdR w w1 rb R) (ob : Obj) : UpdR w (w1.alloc ob) rb R :=
  ⟨heap_past (Array.getElem?_eq_some_iff.1 h.rows).1 h.rows, ⟨h.only.os, h.only.tape, h.only.output, Nat.le_trans h.only.size (by simp), fun i hi hne => (heap_past (Nat.lt_of_lt_of_le hi h.only.size) rfl).trans (h.only.block i hi hne)⟩⟩
theorem Step_out (tb rb : Nat) (R : List Rw) (g f t ow : Int) (w : World) (h : Tab w tb rb R) (hR : 0 < R.length) (h1 : g < 0 ∨ (R.length : Int) ≤ g) :
    Calls Try.prog 24 #[.pointer (some ⟨tb, 0, none⟩), .int .i64 g, .int .i64 f, .int .i64 t, .int .u64 ow] w fun e w' => e = .returned (.int .i64 2) ∧ w = w' := by
  have F := Lib.hid (row_out tb rb R g w h hR h1)
  clear h h1
  go_enter Try.func24, Try.ntmps24
  go_wp2_with (go_at_call 36; refine F.out.mono ?_; rintro e w' ⟨rfl, rfl⟩)
  go_ret
  exact ⟨rfl, rfl⟩
set_option maxHeartbeats 1000000 in
theorem Step_none (tb rb : Nat) (R : List Rw) (g : Nat) (s o k f t ow : Int) (w : World) (h : Tab w tb rb R) (h1 : g < R.length) (hr : rowD R g = (s, o, k)) (hF : stepF f t = none) :
    Calls Try.prog 24 #[.pointer (some ⟨tb, 0, none⟩), .int .i64 g, .int .i64 f, .int .i64 t, .int .u64 ow] w fun e w' => e = .returned (.int .i64 2) ∧ Below w.heap.size w w' := by
  obtain ⟨c0, c1, c2⟩ := h.rows.cells h1 hr
  have f0 := h.rows.free (g * 3)
  have f1 := h.rows.free (g * 3 + 1)
  have hlt := h.lt.2
  have F := Lib.hid (row_in tb rb R g w h h1)
  have HH := Lib.hid h
  have HR := Lib.hid hr
  have HF := Lib.hid hF
  clear h hr hF
  go_enter Try.func24, Try.ntmps24
  go_wp2_with (first | (go_at_call 36; refine F.out.mono ?_; rintro e w' ⟨rfl, rfl⟩) | (go_at_call 39; refine (steps_any _).mono ?_; rintro e w1 ⟨m, L, rfl, hst, hL, hb⟩; have G := Lib.hid (get_steps L hL f t); have HS := Lib.hid hst; clear hst; have hlt1 : rb < w1.heap.size := (Nat.lt_of_lt_of_le hlt hb.size); have d0 := (hb.cell (p := ⟨rb, g * 3, none⟩) hlt).trans c0; have d1 := (hb.cell (p := ⟨rb, g * 3 + 1, none⟩) hlt).trans c1; have d2 := (hb.cell (p := ⟨rb, g * 3 + 2, none⟩) hlt).trans c2; have e0 := (hb.frozen (p := ⟨rb, g * 3, none⟩) hlt).trans f0; have e1 := (hb.frozen (p := ⟨rb, g * 3 + 1, none⟩) hlt).trans f1) | (refine wpList_st_lookup stT rfl (.tmp 25) (.tmp 28) rfl m L rfl HS.out f t rfl ?_; rw [G.out, HF.out]; simp only [Option.getD_none, Option.getD_some, Option.isSome_none, Option.isSome_some]))
  go_ret
  exact ⟨rfl, hb.alloc hb.size _⟩
set_option maxHeartbeats 1000000 in
theorem Step_bad_true (tb rb : Nat) (R : List Rw) (g : Nat) (s o k f t ow : Int) (w : World) (h : Tab w tb rb R) (h1 : g < R.length) (hr : rowD R g = (s, o, k)) (hF : stepF f t = some true) (ho : (ow != 0) = false) :
    Calls Try.prog 24 #[.pointer (some ⟨tb, 0, none⟩), .int .i64 g, .int .i64 f, .int .i64 t, .int .u64 ow] w fun e w' => e = .returned (.int .i64 2) ∧ Below w.heap.size w w' := by
  obtain ⟨c0, c1, c2⟩ := h.rows.cells h1 hr
  have f0 := h.rows.free (g * 3)
  have f1 := h.rows.free (g * 3 + 1)
  have hlt := h.lt.2
  have F := Lib.hid (row_in tb rb R g w h h1)
  have HH := Lib.hid h
  have HR := Lib.hid hr
  have HF := Lib.hid hF
  clear h hr hF
  go_enter Try.func24, Try.ntmps24
  go_wp2_with (first | (go_at_call 36; refine F.out.mono ?_; rintro e w' ⟨rfl, rfl⟩) | (go_at_call 39; refine (steps_any _).mono ?_; rintro e w1 ⟨m, L, rfl, hst, hL, hb⟩; have G := Lib.hid (get_steps L hL f t); have HS := Lib.hid hst; clear hst; have hlt1 : rb < w1.heap.size := (Nat.lt_of_lt_of_le hlt hb.size); have d0 := (hb.cell (p := ⟨rb, g * 3, none⟩) hlt).trans c0; have d1 := (hb.cell (p := ⟨rb, g * 3 + 1, none⟩) hlt).trans c1; have d2 := (hb.cell (p := ⟨rb, g * 3 + 2, none⟩) hlt).trans c2; have e0 := (hb.frozen (p := ⟨rb, g * 3, none⟩) hlt).trans f0; have e1 := (hb.frozen (p := ⟨rb, g * 3 + 1, none⟩) hlt).trans f1) | (refine wpList_st_lookup stT rfl (.tmp 25) (.tmp 28) rfl m L rfl HS.out f t rfl ?_; rw [G.out, HF.out]; simp only [Option.getD_none, Option.getD_some, Option.isSome_none, Option.isSome_some]))
  go_ret
  exact ⟨rfl, hb.alloc hb.size _⟩
set_option maxHeartbeats 1000000 in
theorem Step_state_true (tb rb : Nat) (R : List Rw) (g : Nat) (s o k f t ow : Int) (w : World) (h : Tab w tb rb R) (h1 : g < R.length) (hr : rowD R g = (s, o, k)) (hF : stepF f t = some true) (ho : (ow != 0) = true) (hs : (s != f) = true) :
    Calls Try.prog 24 #[.pointer (some ⟨tb, 0, none⟩), .int .i64 g, .int .i64 f, .int .i64 t, .int .u64 ow] w fun e w' => e = .returned (.int .i64 7) ∧ Below w.heap.size w w' := by
  obtain ⟨c0, c1, c2⟩ := h.rows.cells h1 hr
  have f0 := h.rows.free (g * 3)
  have f1 := h.rows.free (g * 3 + 1)
  have hlt := h.lt.2
  have F := Lib.hid (row_in tb rb R g w h h1)
  have HH := Lib.hid h
  have HR := Lib.hid hr
  have HF := Lib.hid hF
  clear h hr hF
  go_enter Try.func24, Try.ntmps24
  go_wp2_with (first | (go_at_call 36; refine F.out.mono ?_; rintro e w' ⟨rfl, rfl⟩) | (go_at_call 39; refine (steps_any _).mono ?_; rintro e w1 ⟨m, L, rfl, hst, hL, hb⟩; have G := Lib.hid (get_steps L hL f t); have HS := Lib.hid hst; clear hst; have hlt1 : rb < w1.heap.size := (Nat.lt_of_lt_of_le hlt hb.size); have d0 := (hb.cell (p := ⟨rb, g * 3, none⟩) hlt).trans c0; have d1 := (hb.cell (p := ⟨rb, g * 3 + 1, none⟩) hlt).trans c1; have d2 := (hb.cell (p := ⟨rb, g * 3 + 2, none⟩) hlt).trans c2; have e0 := (hb.frozen (p := ⟨rb, g * 3, none⟩) hlt).trans f0; have e1 := (hb.frozen (p := ⟨rb, g * 3 + 1, none⟩) hlt).trans f1) | (refine wpList_st_lookup stT rfl (.tmp 25) (.tmp 28) rfl m L rfl HS.out f t rfl ?_; rw [G.out, HF.out]; simp only [Option.getD_none, Option.getD_some, Option.isSome_none, Option.isSome_some]))
  go_ret
  exact ⟨rfl, hb.alloc hb.size _⟩
set_option maxHeartbeats 1000000 in
theorem Step_use_true (tb rb : Nat) (R : List Rw) (g : Nat) (s o k f t ow : Int) (w : World) (h : Tab w tb rb R) (h1 : g < R.length) (hr : rowD R g = (s, o, k)) (hF : stepF f t = some true) (ho : (ow != 0) = true) (hs : (s != f) = false) (hk : 0 < k) (hf : (f != 1) = true) :
    Calls Try.prog 24 #[.pointer (some ⟨tb, 0, none⟩), .int .i64 g, .int .i64 f, .int .i64 t, .int .u64 ow] w fun e w' => e = .returned (.int .i64 9) ∧ Below w.heap.size w w' := by
  obtain ⟨c0, c1, c2⟩ := h.rows.cells h1 hr
  have f0 := h.rows.free (g * 3)
  have f1 := h.rows.free (g * 3 + 1)
  have hlt := h.lt.2
  have F := Lib.hid (row_in tb rb R g w h h1)
  have HH := Lib.hid h
  have HR := Lib.hid hr
  have HF := Lib.hid hF
  clear h hr hF
  go_enter Try.func24, Try.ntmps24
  go_wp2_with (first | (go_at_call 36; refine F.out.mono ?_; rintro e w' ⟨rfl, rfl⟩) | (go_at_call 39; refine (steps_any _).mono ?_; rintro e w1 ⟨m, L, rfl, hst, hL, hb⟩; have G := Lib.hid (get_steps L hL f t); have HS := Lib.hid hst; clear hst; have hlt1 : rb < w1.heap.size := (Nat.lt_of_lt_of_le hlt hb.size); have d0 := (hb.cell (p := ⟨rb, g * 3, none⟩) hlt).trans c0; have d1 := (hb.cell (p := ⟨rb, g * 3 + 1, none⟩) hlt).trans c1; have d2 := (hb.cell (p := ⟨rb, g * 3 + 2, none⟩) hlt).trans c2; have e0 := (hb.frozen (p := ⟨rb, g * 3, none⟩) hlt).trans f0; have e1 := (hb.frozen (p := ⟨rb, g * 3 + 1, none⟩) hlt).trans f1) | (refine wpList_st_lookup stT rfl (.tmp 25) (.tmp 28) rfl m L rfl HS.out f t rfl ?_; rw [G.out, HF.out]; simp only [Option.getD_none, Option.getD_some, Option.isSome_none, Option.isSome_some]))
  go_ret
  exact ⟨rfl, hb.alloc hb.size _⟩
set_option maxHeartbeats 1000000 in
theorem Step_ok_true (tb rb : Nat) (R : List Rw) (g : Nat) (s o k f t ow : Int) (w : World) (h : Tab w tb rb R) (h1 : g < R.length) (hr : rowD R g = (s, o, k)) (hF : stepF f t = some true) (ho : (ow != 0) = true) (hs : (s != f) = false) (hk : k ≤ 0) :
    Calls Try.prog 24 #[.pointer (some ⟨tb, 0, none⟩), .int .i64 g, .int .i64 f, .int .i64 t, .int .u64 ow] w fun e w' => e = .returned (.int .i64 0) ∧ Upd w w' tb rb (R.set g (t, ow, k)) := by
  obtain ⟨c0, c1, c2⟩ := h.rows.cells h1 hr
  have f0 := h.rows.free (g * 3)
  have f1 := h.rows.free (g * 3 + 1)
  have hlt := h.lt.2
  have F := Lib.hid (row_in tb rb R g w h h1)
  have HH := Lib.hid h
  have HR := Lib.hid hr
  have HF := Lib.hid hF
  clear h hr hF
  go_enter Try.func24, Try.ntmps24
  go_wp2_with (first | (go_at_call 36; refine F.out.mono ?_; rintro e w' ⟨rfl, rfl⟩) | (go_at_call 39; refine (steps_any _).mono ?_; rintro e w1 ⟨m, L, rfl, hst, hL, hb⟩; have G := Lib.hid (get_steps L hL f t); have HS := Lib.hid hst; clear hst; have hlt1 : rb < w1.heap.size := (Nat.lt_of_lt_of_le hlt hb.size); have d0 := (hb.cell (p := ⟨rb, g * 3, none⟩) hlt).trans c0; have d1 := (hb.cell (p := ⟨rb, g * 3 + 1, none⟩) hlt).trans c1; have d2 := (hb.cell (p := ⟨rb, g * 3 + 2, none⟩) hlt).trans c2; have e0 := (hb.frozen (p := ⟨rb, g * 3, none⟩) hlt).trans f0; have e1 := (hb.frozen (p := ⟨rb, g * 3 + 1, none⟩) hlt).trans f1) | (refine wpList_st_lookup stT rfl (.tmp 25) (.tmp 28) rfl m L rfl HS.out f t rfl ?_; rw [G.out, HF.out]; simp only [Option.getD_none, Option.getD_some, Option.isSome_none, Option.isSome_some]))
  go_ret
  exact ⟨rfl, upd_of HH.out (updR_alloc (updR_step HH.out.rows hb h1 HR.out) _)⟩
set_option maxHeartbeats 1000000 in
theorem Step_held_true (tb rb : Nat) (R : List Rw) (g : Nat) (s o k f t ow : Int) (w : World) (h : Tab w tb rb R) (h1 : g < R.length) (hr : rowD R g = (s, o, k)) (hF : stepF f t = some true) (ho : (ow != 0) = true) (hs : (s != f) = false) (hk : 0 < k) (hf : (f != 1) = false) :
    Calls Try.prog 24 #[.pointer (some ⟨tb, 0, none⟩), .int .i64 g, .int .i64 f, .int .i64 t, .int .u64 ow] w fun e w' => e = .returned (.int .i64 0) ∧ Upd w w' tb rb (R.set g (t, ow, k)) := by
  obtain ⟨c0, c1, c2⟩ := h.rows.cells h1 hr
  have f0 := h.rows.free (g * 3)
  have f1 := h.rows.free (g * 3 + 1)
  have hlt := h.lt.2
  have F := Lib.hid (row_in tb rb R g w h h1)
  have HH := Lib.hid h
  have HR := Lib.hid hr
  have HF := Lib.hid hF
  clear h hr hF
  go_enter Try.func24, Try.ntmps24
  go_wp2_with (first | (go_at_call 36; refine F.out.mono ?_; rintro e w' ⟨rfl, rfl⟩) | (go_at_call 39; refine (steps_any _).mono ?_; rintro e w1 ⟨m, L, rfl, hst, hL, hb⟩; have G := Lib.hid (get_steps L hL f t); have HS := Lib.hid hst; clear hst; have hlt1 : rb < w1.heap.size := (Nat.lt_of_lt_of_le hlt hb.size); have d0 := (hb.cell (p := ⟨rb, g * 3, none⟩) hlt).trans c0; have d1 := (hb.cell (p := ⟨rb, g * 3 + 1, none⟩) hlt).trans c1; have d2 := (hb.cell (p := ⟨rb, g * 3 + 2, none⟩) hlt).trans c2; have e0 := (hb.frozen (p := ⟨rb, g * 3, none⟩) hlt).trans f0; have e1 := (hb.frozen (p := ⟨rb, g * 3 + 1, none⟩) hlt).trans f1) | (refine wpList_st_lookup stT rfl (.tmp 25) (.tmp 28) rfl m L rfl HS.out f t rfl ?_; rw [G.out, HF.out]; simp only [Option.getD_none, Option.getD_some, Option.isSome_none, Option.isSome_some]))
  go_ret
  exact ⟨rfl, upd_of HH.out (updR_alloc (updR_step HH.out.rows hb h1 HR.out) _)⟩
set_option maxHeartbeats 1000000 in
theorem Step_bad_false (tb rb : Nat) (R : List Rw) (g : Nat) (s o k f t ow : Int) (w : World) (h : Tab w tb rb R) (h1 : g < R.length) (hr : rowD R g = (s, o, k)) (hF : stepF f t = some false) (ho : (ow != 0) = true) :
    Calls Try.prog 24 #[.pointer (some ⟨tb, 0, none⟩), .int .i64 g, .int .i64 f, .int .i64 t, .int .u64 ow] w fun e w' => e = .returned (.int .i64 2) ∧ Below w.heap.size w w' := by
  obtain ⟨c0, c1, c2⟩ := h.rows.cells h1 hr
  have f0 := h.rows.free (g * 3)
  have f1 := h.rows.free (g * 3 + 1)
  have hlt := h.lt.2
  have F := Lib.hid (row_in tb rb R g w h h1)
  have HH := Lib.hid h
  have HR := Lib.hid hr
  have HF := Lib.hid hF
  clear h hr hF
  go_enter Try.func24, Try.ntmps24
  go_wp2_with (first | (go_at_call 36; refine F.out.mono ?_; rintro e w' ⟨rfl, rfl⟩) | (go_at_call 39; refine (steps_any _).mono ?_; rintro e w1 ⟨m, L, rfl, hst, hL, hb⟩; have G := Lib.hid (get_steps L hL f t); have HS := Lib.hid hst; clear hst; have hlt1 : rb < w1.heap.size := (Nat.lt_of_lt_of_le hlt hb.size); have d0 := (hb.cell (p := ⟨rb, g * 3, none⟩) hlt).trans c0; have d1 := (hb.cell (p := ⟨rb, g * 3 + 1, none⟩) hlt).trans c1; have d2 := (hb.cell (p := ⟨rb, g * 3 + 2, none⟩) hlt).trans c2; have e0 := (hb.frozen (p := ⟨rb, g * 3, none⟩) hlt).trans f0; have e1 := (hb.frozen (p := ⟨rb, g * 3 + 1, none⟩) hlt).trans f1) | (refine wpList_st_lookup stT rfl (.tmp 25) (.tmp 28) rfl m L rfl HS.out f t rfl ?_; rw [G.out, HF.out]; simp only [Option.getD_none, Option.getD_some, Option.isSome_none, Option.isSome_some]))
  go_ret
  exact ⟨rfl, hb.alloc hb.size _⟩
set_option maxHeartbeats 1000000 in
theorem Step_state_false (tb rb : Nat) (R : List Rw) (g : Nat) (s o k f t ow : Int) (w : World) (h : Tab w tb rb R) (h1 : g < R.length) (hr : rowD R g = (s, o, k)) (hF : stepF f t = some false) (ho : (ow != 0) = false) (hs : (s != f) = true) :
    Calls Try.prog 24 #[.pointer (some ⟨tb, 0, none⟩), .int .i64 g, .int .i64 f, .int .i64 t, .int .u64 ow] w fun e w' => e = .returned (.int .i64 7) ∧ Below w.heap.size w w' := by
  obtain ⟨c0, c1, c2⟩ := h.rows.cells h1 hr
  have f0 := h.rows.free (g * 3)
  have f1 := h.rows.free (g * 3 + 1)
  have hlt := h.lt.2
  have F := Lib.hid (row_in tb rb R g w h h1)
  have HH := Lib.hid h
  have HR := Lib.hid hr
  have HF := Lib.hid hF
  clear h hr hF
  go_enter Try.func24, Try.ntmps24
  go_wp2_with (first | (go_at_call 36; refine F.out.mono ?_; rintro e w' ⟨rfl, rfl⟩) | (go_at_call 39; refine (steps_any _).mono ?_; rintro e w1 ⟨m, L, rfl, hst, hL, hb⟩; have G := Lib.hid (get_steps L hL f t); have HS := Lib.hid hst; clear hst; have hlt1 : rb < w1.heap.size := (Nat.lt_of_lt_of_le hlt hb.size); have d0 := (hb.cell (p := ⟨rb, g * 3, none⟩) hlt).trans c0; have d1 := (hb.cell (p := ⟨rb, g * 3 + 1, none⟩) hlt).trans c1; have d2 := (hb.cell (p := ⟨rb, g * 3 + 2, none⟩) hlt).trans c2; have e0 := (hb.frozen (p := ⟨rb, g * 3, none⟩) hlt).trans f0; have e1 := (hb.frozen (p := ⟨rb, g * 3 + 1, none⟩) hlt).trans f1) | (refine wpList_st_lookup stT rfl (.tmp 25) (.tmp 28) rfl m L rfl HS.out f t rfl ?_; rw [G.out, HF.out]; simp only [Option.getD_none, Option.getD_some, Option.isSome_none, Option.isSome_some]))
  go_ret
  exact ⟨rfl, hb.alloc hb.size _⟩
set_option maxHeartbeats 1000000 in
theorem Step_use_false (tb rb : Nat) (R : List Rw) (g : Nat) (s o k f t ow : Int) (w : World) (h : Tab w tb rb R) (h1 : g < R.length) (hr : rowD R g = (s, o, k)) (hF : stepF f t = some false) (ho : (ow != 0) = false) (hs : (s != f) = false) (hk : 0 < k) (hf : (f != 1) = true) :
    Calls Try.prog 24 #[.pointer (some ⟨tb, 0, none⟩), .int .i64 g, .int .i64 f, .int .i64 t, .int .u64 ow] w fun e w' => e = .returned (.int .i64 9) ∧ Below w.heap.size w w' := by
  obtain ⟨c0, c1, c2⟩ := h.rows.cells h1 hr
  have f0 := h.rows.free (g * 3)
  have f1 := h.rows.free (g * 3 + 1)
  have hlt := h.lt.2
  have F := Lib.hid (row_in tb rb R g w h h1)
  have HH := Lib.hid h
  have HR := Lib.hid hr
  have HF := Lib.hid hF
  clear h hr hF
  go_enter Try.func24, Try.ntmps24
  go_wp2_with (first | (go_at_call 36; refine F.out.mono ?_; rintro e w' ⟨rfl, rfl⟩) | (go_at_call 39; refine (steps_any _).mono ?_; rintro e w1 ⟨m, L, rfl, hst, hL, hb⟩; have G := Lib.hid (get_steps L hL f t); have HS := Lib.hid hst; clear hst; have hlt1 : rb < w1.heap.size := (Nat.lt_of_lt_of_le hlt hb.size); have d0 := (hb.cell (p := ⟨rb, g * 3, none⟩) hlt).trans c0; have d1 := (hb.cell (p := ⟨rb, g * 3 + 1, none⟩) hlt).trans c1; have d2 := (hb.cell (p := ⟨rb, g * 3 + 2, none⟩) hlt).trans c2; have e0 := (hb.frozen (p := ⟨rb, g * 3, none⟩) hlt).trans f0; have e1 := (hb.frozen (p := ⟨rb, g * 3 + 1, none⟩) hlt).trans f1) | (refine wpList_st_lookup stT rfl (.tmp 25) (.tmp 28) rfl m L rfl HS.out f t rfl ?_; rw [G.out, HF.out]; simp only [Option.getD_none, Option.getD_some, Option.isSome_none, Option.isSome_some]))
  go_ret
  exact ⟨rfl, hb.alloc hb.size _⟩
set_option maxHeartbeats 1000000 in
theorem Step_ok_false (tb rb : Nat) (R : List Rw) (g : Nat) (s o k f t ow : Int) (w : World) (h : Tab w tb rb R) (h1 : g < R.length) (hr : rowD R g = (s, o, k)) (hF : stepF f t = some false) (ho : (ow != 0) = false) (hs : (s != f) = false) (hk : k ≤ 0) :
    Calls Try.prog 24 #[.pointer (some ⟨tb, 0, none⟩), .int .i64 g, .int .i64 f, .int .i64 t, .int .u64 ow] w fun e w' => e = .returned (.int .i64 0) ∧ Upd w w' tb rb (R.set g (t, ow, k)) := by
  obtain ⟨c0, c1, c2⟩ := h.rows.cells h1 hr
  have f0 := h.rows.free (g * 3)
  have f1 := h.rows.free (g * 3 + 1)
  have hlt := h.lt.2
  have F := Lib.hid (row_in tb rb R g w h h1)
  have HH := Lib.hid h
  have HR := Lib.hid hr
  have HF := Lib.hid hF
  clear h hr hF
  go_enter Try.func24, Try.ntmps24
  go_wp2_with (first | (go_at_call 36; refine F.out.mono ?_; rintro e w' ⟨rfl, rfl⟩) | (go_at_call 39; refine (steps_any _).mono ?_; rintro e w1 ⟨m, L, rfl, hst, hL, hb⟩; have G := Lib.hid (get_steps L hL f t); have HS := Lib.hid hst; clear hst; have hlt1 : rb < w1.heap.size := (Nat.lt_of_lt_of_le hlt hb.size); have d0 := (hb.cell (p := ⟨rb, g * 3, none⟩) hlt).trans c0; have d1 := (hb.cell (p := ⟨rb, g * 3 + 1, none⟩) hlt).trans c1; have d2 := (hb.cell (p := ⟨rb, g * 3 + 2, none⟩) hlt).trans c2; have e0 := (hb.frozen (p := ⟨rb, g * 3, none⟩) hlt).trans f0; have e1 := (hb.frozen (p := ⟨rb, g * 3 + 1, none⟩) hlt).trans f1) | (refine wpList_st_lookup stT rfl (.tmp 25) (.tmp 28) rfl m L rfl HS.out f t rfl ?_; rw [G.out, HF.out]; simp only [Option.getD_none, Option.getD_some, Option.isSome_none, Option.isSome_some]))
  go_ret
  exact ⟨rfl, upd_of HH.out (updR_alloc (updR_step HH.out.rows hb h1 HR.out) _)⟩
set_option maxHeartbeats 1000000 in
theorem Step_held_false (tb rb : Nat) (R : List Rw) (g : Nat) (s o k f t ow : Int) (w : World) (h : Tab w tb rb R) (h1 : g < R.length) (hr : rowD R g = (s, o, k)) (hF : stepF f t = some false) (ho : (ow != 0) = false) (hs : (s != f) = false) (hk : 0 < k) (hf : (f != 1) = false) :
    Calls Try.prog 24 #[.pointer (some ⟨tb, 0, none⟩), .int .i64 g, .int .i64 f, .int .i64 t, .int .u64 ow] w fun e w' => e = .returned (.int .i64 0) ∧ Upd w w' tb rb (R.set g (t, ow, k)) := by
  obtain ⟨c0, c1, c2⟩ := h.rows.cells h1 hr
  have f0 := h.rows.free (g * 3)
  have f1 := h.rows.free (g * 3 + 1)
  have hlt := h.lt.2
  have F := Lib.hid (row_in tb rb R g w h h1)
  have HH := Lib.hid h
  have HR := Lib.hid hr
  have HF := Lib.hid hF
  clear h hr hF
  go_enter Try.func24, Try.ntmps24
  go_wp2_with (first | (go_at_call 36; refine F.out.mono ?_; rintro e w' ⟨rfl, rfl⟩) | (go_at_call 39; refine (steps_any _).mono ?_; rintro e w1 ⟨m, L, rfl, hst, hL, hb⟩; have G := Lib.hid (get_steps L hL f t); have HS := Lib.hid hst; clear hst; have hlt1 : rb < w1.heap.size := (Nat.lt_of_lt_of_le hlt hb.size); have d0 := (hb.cell (p := ⟨rb, g * 3, none⟩) hlt).trans c0; have d1 := (hb.cell (p := ⟨rb, g * 3 + 1, none⟩) hlt).trans c1; have d2 := (hb.cell (p := ⟨rb, g * 3 + 2, none⟩) hlt).trans c2; have e0 := (hb.frozen (p := ⟨rb, g * 3, none⟩) hlt).trans f0; have e1 := (hb.frozen (p := ⟨rb, g * 3 + 1, none⟩) hlt).trans f1) | (refine wpList_st_lookup stT rfl (.tmp 25) (.tmp 28) rfl m L rfl HS.out f t rfl ?_; rw [G.out, HF.out]; simp only [Option.getD_none, Option.getD_some, Option.isSome_none, Option.isSome_some]))
  go_ret
  exact ⟨rfl, upd_of HH.out (updR_alloc (updR_step HH.out.rows hb h1 HR.out) _)⟩
theorem Step_in (tb rb : Nat) (R : List Rw) (g : Nat) (s o k f t ow : Int) (w : World) (h : Tab w tb rb R) (h1 : g < R.length) (hr : rowD R g = (s, o, k)) :
    Calls Try.prog 24 #[.pointer (some ⟨tb, 0, none⟩), .int .i64 g, .int .i64 f, .int .i64 t, .int .u64 ow] w fun e w' => e = .returned (.int .i64 (stepR (s, o, k) f t ow).1) ∧ Upd w w' tb rb (R.set g (stepR (s, o, k) f t ow).2) := by
  have same : ∀ {c : Int}, (Calls Try.prog 24 #[.pointer (some ⟨tb, 0, none⟩), .int .i64 g, .int .i64 f, .int .i64 t, .int .u64 ow] w fun e w' => e = .returned (.int .i64 c) ∧ Below w.heap.size w w') → stepR (s, o, k) f t ow = (c, (s, o, k)) →
      Calls Try.prog 24 #[.pointer (some ⟨tb, 0, none⟩), .int .i64 g, .int .i64 f, .int .i64 t, .int .u64 ow] w fun e w' => e = .returned (.int .i64 (stepR (s, o, k) f t ow).1) ∧ Upd w w' tb rb (R.set g (stepR (s, o, k) f t ow).2) := fun hc he => hc.mono fun e w' ⟨h2, h3⟩ => by
    rw [he]; exact ⟨h2, upd_same h h3 h1 hr⟩
  have new : (Calls Try.prog 24 #[.pointer (some ⟨tb, 0, none⟩), .int .i64 g, .int .i64 f, .int .i64 t, .int .u64 ow] w fun e w' => e = .returned (.int .i64 0) ∧ Upd w w' tb rb (R.set g (t, ow, k))) → stepR (s, o, k) f t ow = (0, (t, ow, k)) →
      Calls Try.prog 24 #[.pointer (some ⟨tb, 0, none⟩), .int .i64 g, .int .i64 f, .int .i64 t, .int .u64 ow] w fun e w' => e = .returned (.int .i64 (stepR (s, o, k) f t ow).1) ∧ Upd w w' tb rb (R.set g (stepR (s, o, k) f t ow).2) := fun hc he => hc.mono fun e w' ⟨h2, h3⟩ => by
    rw [he]; exact ⟨h2, h3⟩
  cases hF : stepF f t with
  | none => exact same (Step_none tb rb R g s o k f t ow w h h1 hr hF) (by simp [stepR, hF])
  | some b =>
    cases b
    all_goals cases ho : (ow != 0)
    all_goals by_cases hs : s = f
    all_goals by_cases hk : 0 < k
    all_goals by_cases hf : f = 1
    all_goals first
      | exact same (Step_bad_true tb rb R g s o k f t ow w h h1 hr hF ho) (by unfold stepR; rw [hF]; simp [ho])
      | exact same (Step_bad_false tb rb R g s o k f t ow w h h1 hr hF ho) (by unfold stepR; rw [hF]; simp [ho])
      | exact same (Step_state_true tb rb R g s o k f t ow w h h1 hr hF ho (bne_iff_ne.2 hs)) (by unfold stepR; rw [hF]; simp [ho, hs])
      | exact same (Step_state_false tb rb R g s o k f t ow w h h1 hr hF ho (bne_iff_ne.2 hs)) (by unfold stepR; rw [hF]; simp [ho, hs])
      | exact same (Step_use_true tb rb R g s o k f t ow w h h1 hr hF ho (by simp [hs]) hk (bne_iff_ne.2 hf)) (by unfold stepR; rw [hF]; simp [ho, hs, hk, hf])
      | exact same (Step_use_false tb rb R g s o k f t ow w h h1 hr hF ho (by simp [hs]) hk (bne_iff_ne.2 hf)) (by unfold stepR; rw [hF]; simp [ho, hs, hk, hf])
      | exact new (Step_held_true tb rb R g s o k f t ow w h h1 hr hF ho (by simp [hs]) hk (by simp [hf])) (by unfold stepR; rw [hF]; simp [ho, hs, hk, hf])
      | exact new (Step_held_false tb rb R g s o k f t ow w h h1 hr hF ho (by simp [hs]) hk (by simp [hf])) (by unfold stepR; rw [hF]; simp [ho, hs, hk, hf])
      | exact new (Step_ok_true tb rb R g s o k f t ow w h h1 hr hF ho (by simp [hs]) (by omega)) (by unfold stepR; rw [hF]; simp [ho, hs, hk])
      | exact new (Step_ok_false tb rb R g s o k f t ow w h h1 hr hF ho (by simp [hs]) (by omega)) (by unfold stepR; rw [hF]; simp [ho, hs, hk])
end Go.Proofs.Ytfeoaphibkcejaa
