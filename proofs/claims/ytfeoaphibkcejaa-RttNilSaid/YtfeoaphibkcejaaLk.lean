/- Contracts of layer 9's way: is there a table, and where a page's way ends. Conditions: those that each theorem states. -/
import Derived.Test.YtfeoaphibkcejaaPt
import Derived.Test.YtfeoaphibkcejaaZ
namespace Go.Proofs.Ytfeoaphibkcejaa
open Go.ChangeShapes Go.WideShapes Go.ChangeAt Go.RowKit
set_option linter.unusedSimpArgs false
set_option maxRecDepth 100000

/-- Is a granule a table? -/
def tabT (R : List Rw) (g : Int) : Bool := decide (0 ≤ g ∧ g < R.length ∧ (rowD R g.toNat).1 = 4)
theorem table_out (xb mb ab tb rb n : Nat) (B : List Int) (R : List Rw) (g : Int) (w : World) (h : Rt w xb mb ab tb rb n B R) (hg : g < 0 ∨ (n : Int) ≤ g) :
    Calls Try.prog 15 #[.pointer (some ⟨xb, 0, none⟩), .int .i64 g] w fun e w' => e = .returned (.bool false) ∧ Below w.heap.size w w' := by
  have c1 := cell_of_row _ _ 1 _ _ _ h.x
  have F := Lib.hid (Row_out tb rb R g w h.t (by rw [h.len]; exact h.m.pos) (by rw [h.len]; exact hg))
  clear h hg
  go_enter Try.func15, Try.ntmps15
  go_wp2_with (first | (go_at_call 22; refine F.out.mono ?_; rintro e w1 ⟨rfl, b1⟩))
  go_ret
  exact ⟨rfl, b1.alloc b1.size _⟩
theorem table_any (xb mb ab tb rb n : Nat) (B : List Int) (R : List Rw) (g : Int) (w : World) (h : Rt w xb mb ab tb rb n B R) :
    Calls Try.prog 15 #[.pointer (some ⟨xb, 0, none⟩), .int .i64 g] w fun e w' => e = .returned (.bool (tabT R g)) ∧ Below w.heap.size w w' := by
  have hl := h.len
  by_cases hg : 0 ≤ g ∧ g < n
  · obtain ⟨g', rfl⟩ := Int.eq_ofNat_of_zero_le hg.1
    obtain ⟨s, o, k, hr⟩ : ∃ s o k, rowD R g' = (s, o, k) := ⟨_, _, _, rfl⟩
    refine (table_in xb mb ab tb rb n B R g' s o k w h (by omega) hr).mono fun e w' ⟨he, hb⟩ => ⟨?_, hb⟩
    rw [he]
    refine ret_bool ?_
    rw [Bool.eq_iff_iff]
    simp [tabT, hr, hl]
    omega
  · refine (table_out xb mb ab tb rb n B R g w h (by omega)).mono fun e w' ⟨he, hb⟩ => ⟨?_, hb⟩
    rw [he]
    refine ret_bool ?_
    rw [Bool.eq_iff_iff]
    simp [tabT, hl]
    omega
/-- Where a page's way ends: level, table, slot, entry. -/
def lookF (B : List Int) (R : List Rw) (page : Nat) : Nat → Nat → Nat → Nat × Nat × Nat × Int × Int
  | 0, lv, t => (lv, t, (slotV page lv).toNat, getE (sub B t) (slotV page lv).toNat)
  | f + 1, lv, t => if (getE (sub B t) (slotV page lv).toNat).1 = 1 ∧ tabT R (getE (sub B t) (slotV page lv).toNat).2 = true then lookF B R page f (lv + 1) (getE (sub B t) (slotV page lv).toNat).2.toNat
    else (lv, t, (slotV page lv).toNat, getE (sub B t) (slotV page lv).toNat)
def walkV (x : Nat × Nat × Nat × Int × Int) : Value := .agg #[.int .i64 x.1, .int .i64 x.2.1, .int .i64 x.2.2.1, .int .i64 x.2.2.2.1, .int .i64 x.2.2.2.2]
theorem slotV_lt (p l : Int) : slotV p l = ((slotV p l).toNat : Int) ∧ (slotV p l).toNat < 4 := by
  unfold slotV
  have : 0 ≤ p / manyV l % 4 := Int.emod_nonneg _ (by omega)
  have := Int.emod_lt_of_pos (p / manyV l) (show (0 : Int) < 4 by omega)
  omega
/-- The number in a cell. -/
def atG (W : World) (G : Nat) : Nat := match W.cell? ⟨G, 0, none⟩ with | some (.int _ k) => k.toNat | _ => 0
def Wk (w : World) (b : Nat) (a0 a1 a2 a3 a4 : Int) : Prop := w.heap[b]? = some (.cells #[.int .i64 a0, .int .i64 a1, .int .i64 a2, .int .i64 a3, .int .i64 a4] 33 (0, 0))
theorem Wk.lt {w : World} {b : Nat} {a0 a1 a2 a3 a4 : Int} (h : Wk w b a0 a1 a2 a3 a4) : b < w.heap.size := (Array.getElem?_eq_some_iff.1 h).1
theorem Wk.below {w w' : World} {b : Nat} {a0 a1 a2 a3 a4 : Int} (h : Wk w b a0 a1 a2 a3 a4) (hb : Below w.heap.size w w') : Wk w' b a0 a1 a2 a3 a4 := (hb.block _ h.lt).trans h
theorem Wk.atG {w : World} {b : Nat} {a1 a2 a3 a4 : Int} {n : Nat} (h : Wk w b n a1 a2 a3 a4) : atG w b = n := by
  unfold Ytfeoaphibkcejaa.atG
  rw [cell_of_row _ _ 0 _ _ _ h]
  simp
theorem Wk.cells {w : World} {b : Nat} {a0 a1 a2 a3 a4 : Int} (h : Wk w b a0 a1 a2 a3 a4) : w.cell? ⟨b, 0, none⟩ = some (.int .i64 a0) ∧ w.cell? ⟨b, 1, none⟩ = some (.int .i64 a1) ∧ w.cell? ⟨b, 2, none⟩ = some (.int .i64 a2) ∧ w.cell? ⟨b, 3, none⟩ = some (.int .i64 a3) ∧ w.cell? ⟨b, 4, none⟩ = some (.int .i64 a4) :=
  ⟨cell_of_row _ _ 0 _ _ _ h, cell_of_row _ _ 1 _ _ _ h, cell_of_row _ _ 2 _ _ _ h, cell_of_row _ _ 3 _ _ _ h, cell_of_row _ _ 4 _ _ _ h⟩
theorem Wk.free {w : World} {b : Nat} {a0 a1 a2 a3 a4 : Int} (h : Wk w b a0 a1 a2 a3 a4) : w.frozen? ⟨b, 0, none⟩ = false ∧ w.frozen? ⟨b, 1, none⟩ = false ∧ w.frozen? ⟨b, 2, none⟩ = false ∧ w.frozen? ⟨b, 3, none⟩ = false ∧ w.frozen? ⟨b, 4, none⟩ = false :=
  ⟨frozen_of_row _ _ 0 _ _ h, frozen_of_row _ _ 1 _ _ h, frozen_of_row _ _ 2 _ _ h, frozen_of_row _ _ 3 _ _ h, frozen_of_row _ _ 4 _ _ h⟩
theorem Wk.set2 {w : World} {b : Nat} {a0 a1 a2 a3 a4 : Int} (h : Wk w b a0 a1 a2 a3 a4) (v : Int) : Wk (w.setCell ⟨b, 2, none⟩ (.int .i64 v)) b a0 a1 v a3 a4 := heap_setCell_same _ _ 2 _ _ _ h
theorem Wk.set34 {w : World} {b : Nat} {a0 a1 a2 a3 a4 : Int} (h : Wk w b a0 a1 a2 a3 a4) (u v : Int) : Wk ((w.setCell ⟨b, 3, none⟩ (.int .i64 u)).setCell ⟨b, 4, none⟩ (.int .i64 v)) b a0 a1 a2 u v := heap_setCell_same _ _ 4 _ _ _ (heap_setCell_same _ _ 3 _ _ _ h)
theorem Wk.set01 {w : World} {b : Nat} {a0 a1 a2 a3 a4 : Int} (h : Wk w b a0 a1 a2 a3 a4) (u v : Int) : Wk ((w.setCell ⟨b, 0, none⟩ (.int .i64 u)).setCell ⟨b, 1, none⟩ (.int .i64 v)) b u v a2 a3 a4 := heap_setCell_same _ _ 1 _ _ _ (heap_setCell_same _ _ 0 _ _ _ h)
theorem Wk.other {w : World} {b c o : Nat} {a0 a1 a2 a3 a4 : Int} (h : Wk w b a0 a1 a2 a3 a4) (hne : b ≠ c) (v : Value) : Wk (w.setCell ⟨c, o, none⟩ v) b a0 a1 a2 a3 a4 := (heap_setCell_other _ _ _ _ hne).trans h
set_option maxHeartbeats 8000000 in
theorem look_any (xb mb ab tb rb n : Nat) (B : List Int) (R : List Rw) (root page level : Nat) (w : World) (h : Rt w xb mb ab tb rb n B R) (hroot : root < n) (hp : page < 256) (hl : level < 4) :
    Calls Try.prog 16 #[.pointer (some ⟨xb, 0, none⟩), .int .i64 root, .int .i64 page, .int .i64 level] w fun e w' => e = .returned (walkV (lookF B R page level 0 root)) ∧ Below w.heap.size w w' := by
  have HR := Lib.hid h
  clear h
  go_enter Try.func16, Try.ntmps16
  go_wp2
  go_loopw [] (fun wr => ∃ (f lv t : Nat) (x2 x3 x4 : Int), lv + f = level ∧ t < n ∧ Wk wr (w.heap.size + 1) lv t x2 x3 x4 ∧ Wk wr w.heap.size 0 0 0 0 0 ∧ lookF B R page f lv t = lookF B R page level 0 root ∧ Below w.heap.size w wr) (fun wr => 4 - atG wr (w.heap.size + 1))
  case atStart =>
    refine ⟨level, 0, root, 0, 0, 0, by omega, hroot, ?_, ?_, rfl, ?_⟩
    · exact heap_here (by simp)
    · exact heap_past (by simp) (heap_here rfl)
    · exact ((Below.refl _ _).alloc (Nat.le_refl _) _).alloc (by simp) _
  case round =>
    obtain ⟨f, lv, t, x2, x3, x4, hlf, ht, hW, hZ, hF, hb⟩ := hrel
    have HAT : Hid (atG wr (w.heap.size + 1) = lv) := hW.atG
    obtain ⟨hs1, hs2⟩ := slotV_lt page lv
    obtain ⟨s, hs⟩ : ∃ s, (slotV (page : Int) (lv : Int)).toNat = s := ⟨_, rfl⟩
    rw [hs] at hs1 hs2
    obtain ⟨k, hk⟩ : ∃ k, (getE (sub B t) s).1 = k := ⟨_, rfl⟩
    obtain ⟨g, hg⟩ : ∃ g, (getE (sub B t) s).2 = g := ⟨_, rfl⟩
    obtain ⟨c0, c1, c2, c3, c4⟩ := hW.cells
    obtain ⟨f0, f1, f2, f3, f4⟩ := hW.free
    have HW := Lib.hid hW
    have HZ := Lib.hid hZ
    have HB := Lib.hid hb
    have HFF := Lib.hid hF
    have W1 : Hid (Wk (wr.setCell ⟨w.heap.size + 1, 2, none⟩ (.int .i64 (s : Int))) (w.heap.size + 1) lv t s x3 x4) := HW.out.set2 _
    have Z1 : Hid (Wk (wr.setCell ⟨w.heap.size + 1, 2, none⟩ (.int .i64 (s : Int))) w.heap.size 0 0 0 0 0) := HZ.out.other (by omega) _
    have B1 : Hid (Below w.heap.size w (wr.setCell ⟨w.heap.size + 1, 2, none⟩ (.int .i64 (s : Int)))) := hb.setCell (p := ⟨w.heap.size + 1, 2, none⟩) (Nat.le_succ _) _
    have h1 := fun W => slot_any (page : Int) (lv : Int) W (by omega) (by omega) (by omega) (by omega)
    rw [hs1] at h1
    have F1 := Lib.hid h1
    have h2 := get_any xb mb ab tb rb n B R t s _ (HR.out.below B1.out) ht hs2
    rw [hk, hg] at h2
    have F2 := Lib.hid h2
    have F3 : Hid (∀ W, Below w.heap.size w W → _) := fun W hW => table_any xb mb ab tb rb n B R g W (HR.out.below hW)
    have HK := Lib.hid hk
    have HGg := Lib.hid hg
    have HS := Lib.hid hs
    clear hW hZ hb hF h1 h2 hk hg hs hs1
    rcases (show f = 0 ∨ (∃ f', f = f' + 1 ∧ k ≠ 1) ∨ (∃ f', f = f' + 1 ∧ k = 1 ∧ tabT R g = false) ∨ (∃ f', f = f' + 1 ∧ k = 1 ∧ tabT R g = true) by
      cases f with
      | zero => exact .inl rfl
      | succ f' =>
        by_cases h1 : k = 1
        · cases h2 : tabT R g
          · exact .inr (.inr (.inl ⟨f', rfl, h1, rfl⟩))
          · exact .inr (.inr (.inr ⟨f', rfl, h1, rfl⟩))
        · exact .inr (.inl ⟨f', rfl, h1⟩)) with rfl | ⟨f', rfl, hk1⟩ | ⟨f', rfl, rfl, hT⟩ | ⟨f', rfl, rfl, hT⟩
    · have hlv : lv = level := by omega
      subst hlv
      go_wp2_with (first | (go_at_call 31; refine (F1.out _).mono ?_; rintro e w1 ⟨rfl, rfl⟩) | (go_at_call 26; refine F2.out.mono ?_; rintro e w2 ⟨rfl, b2⟩; have W2 := Lib.hid (W1.out.below b2); have Z2 := Lib.hid (Z1.out.below b2); have B2 := Lib.hid (B1.out.trans (b2.mono B1.out.size)); obtain ⟨e0, e1, e2, e3, e4⟩ := W2.out.cells; obtain ⟨p0, p1, p2, p3, p4⟩ := W2.out.free; obtain ⟨y0, y1, y2, y3, y4⟩ := Z2.out.cells; obtain ⟨q0, q1, q2, q3, q4⟩ := Z2.out.free; clear b2 c0 c1 c2 c3 c4 f0 f1 f2 f3 f4) | (go_at_call 15; refine (F3.out _ ((B2.out.setCell (p := ⟨w.heap.size + 1, 3, none⟩) (Nat.le_succ _) _).setCell (p := ⟨w.heap.size + 1, 4, none⟩) (Nat.le_succ _) _)).mono ?_; rintro e w3 ⟨rfl, b3⟩; have W3 : Hid (Wk w3 (w.heap.size + 1) lv t s k g) := (W2.out.set34 k g).below b3; have Z3 : Hid (Wk w3 w.heap.size 0 0 0 0 0) := ((Z2.out.other (by omega) _).other (by omega) _).below b3; have B3 := Lib.hid (((B2.out.setCell (p := ⟨w.heap.size + 1, 3, none⟩) (Nat.le_succ _) (.int .i64 k)).setCell (p := ⟨w.heap.size + 1, 4, none⟩) (Nat.le_succ _) (.int .i64 g)).trans (b3.mono (by have := B2.out.size; simpa [World.setCell] using this))); clear b3 e0 e1 e2 e3 e4 p0 p1 p2 p3 p4 y0 y1 y2 y3 y4 q0 q1 q2 q3 q4; obtain ⟨e0, e1, e2, e3, e4⟩ := W3.out.cells; obtain ⟨p0, p1, p2, p3, p4⟩ := W3.out.free; obtain ⟨y0, y1, y2, y3, y4⟩ := Z3.out.cells; obtain ⟨q0, q1, q2, q3, q4⟩ := Z3.out.free))
      refine ret_row rfl w.heap.size 33 _ (0, 0) _ Try.underlying33 rfl (by kernel_rfl) rfl (set5 ((Z2.out.other (by omega) _).other (by omega) _)) rfl ?_
      refine ⟨?_, below5 ((B2.out.setCell (p := ⟨w.heap.size + 1, 3, none⟩) (Nat.le_succ _) _).setCell (p := ⟨w.heap.size + 1, 4, none⟩) (Nat.le_succ _) _) (Nat.le_refl _) _ _ _ _ _⟩
      rw [← HFF.out]
      simp [lookF, walkV, HS.out, HK.out, HGg.out]
    · have n1 : ((lv : Int) == (level : Int)) = false := beq_eq_false_iff_ne.2 (by omega)
      have n2 : (k != 1) = true := by simpa using hk1
      have n3 : (k == 1) = false := by simpa using hk1
      go_wp2_with (first | (go_at_call 31; refine (F1.out _).mono ?_; rintro e w1 ⟨rfl, rfl⟩) | (go_at_call 26; refine F2.out.mono ?_; rintro e w2 ⟨rfl, b2⟩; have W2 := Lib.hid (W1.out.below b2); have Z2 := Lib.hid (Z1.out.below b2); have B2 := Lib.hid (B1.out.trans (b2.mono B1.out.size)); obtain ⟨e0, e1, e2, e3, e4⟩ := W2.out.cells; obtain ⟨p0, p1, p2, p3, p4⟩ := W2.out.free; obtain ⟨y0, y1, y2, y3, y4⟩ := Z2.out.cells; obtain ⟨q0, q1, q2, q3, q4⟩ := Z2.out.free; clear b2 c0 c1 c2 c3 c4 f0 f1 f2 f3 f4) | (go_at_call 15; refine (F3.out _ ((B2.out.setCell (p := ⟨w.heap.size + 1, 3, none⟩) (Nat.le_succ _) _).setCell (p := ⟨w.heap.size + 1, 4, none⟩) (Nat.le_succ _) _)).mono ?_; rintro e w3 ⟨rfl, b3⟩; have W3 : Hid (Wk w3 (w.heap.size + 1) lv t s k g) := (W2.out.set34 k g).below b3; have Z3 : Hid (Wk w3 w.heap.size 0 0 0 0 0) := ((Z2.out.other (by omega) _).other (by omega) _).below b3; have B3 := Lib.hid (((B2.out.setCell (p := ⟨w.heap.size + 1, 3, none⟩) (Nat.le_succ _) (.int .i64 k)).setCell (p := ⟨w.heap.size + 1, 4, none⟩) (Nat.le_succ _) (.int .i64 g)).trans (b3.mono (by have := B2.out.size; simpa [World.setCell] using this))); clear b3 e0 e1 e2 e3 e4 p0 p1 p2 p3 p4 y0 y1 y2 y3 y4 q0 q1 q2 q3 q4; obtain ⟨e0, e1, e2, e3, e4⟩ := W3.out.cells; obtain ⟨p0, p1, p2, p3, p4⟩ := W3.out.free; obtain ⟨y0, y1, y2, y3, y4⟩ := Z3.out.cells; obtain ⟨q0, q1, q2, q3, q4⟩ := Z3.out.free))
      refine ret_row rfl w.heap.size 33 _ (0, 0) _ Try.underlying33 rfl (by kernel_rfl) rfl (set5 ((Z2.out.other (by omega) _).other (by omega) _)) rfl ?_
      refine ⟨?_, below5 ((B2.out.setCell (p := ⟨w.heap.size + 1, 3, none⟩) (Nat.le_succ _) _).setCell (p := ⟨w.heap.size + 1, 4, none⟩) (Nat.le_succ _) _) (Nat.le_refl _) _ _ _ _ _⟩
      rw [← HFF.out]
      simp [lookF, walkV, HS.out, HK.out, HGg.out, hk1]
    · have n1 : ((lv : Int) == (level : Int)) = false := beq_eq_false_iff_ne.2 (by omega)
      have HT := Lib.hid hT
      rw [hT] at F3
      clear hT
      go_wp2_with (first | (go_at_call 31; refine (F1.out _).mono ?_; rintro e w1 ⟨rfl, rfl⟩) | (go_at_call 26; refine F2.out.mono ?_; rintro e w2 ⟨rfl, b2⟩; have W2 := Lib.hid (W1.out.below b2); have Z2 := Lib.hid (Z1.out.below b2); have B2 := Lib.hid (B1.out.trans (b2.mono B1.out.size)); obtain ⟨e0, e1, e2, e3, e4⟩ := W2.out.cells; obtain ⟨p0, p1, p2, p3, p4⟩ := W2.out.free; obtain ⟨y0, y1, y2, y3, y4⟩ := Z2.out.cells; obtain ⟨q0, q1, q2, q3, q4⟩ := Z2.out.free; clear b2 c0 c1 c2 c3 c4 f0 f1 f2 f3 f4) | (go_at_call 15; refine (F3.out _ ((B2.out.setCell (p := ⟨w.heap.size + 1, 3, none⟩) (Nat.le_succ _) _).setCell (p := ⟨w.heap.size + 1, 4, none⟩) (Nat.le_succ _) _)).mono ?_; rintro e w3 ⟨rfl, b3⟩; have W3 : Hid (Wk w3 (w.heap.size + 1) lv t s 1 g) := (W2.out.set34 1 g).below b3; have Z3 : Hid (Wk w3 w.heap.size 0 0 0 0 0) := ((Z2.out.other (by omega) _).other (by omega) _).below b3; have B3 := Lib.hid (((B2.out.setCell (p := ⟨w.heap.size + 1, 3, none⟩) (Nat.le_succ _) (.int .i64 1)).setCell (p := ⟨w.heap.size + 1, 4, none⟩) (Nat.le_succ _) (.int .i64 g)).trans (b3.mono (by have := B2.out.size; simpa [World.setCell] using this))); clear b3 e0 e1 e2 e3 e4 p0 p1 p2 p3 p4 y0 y1 y2 y3 y4 q0 q1 q2 q3 q4; obtain ⟨e0, e1, e2, e3, e4⟩ := W3.out.cells; obtain ⟨p0, p1, p2, p3, p4⟩ := W3.out.free; obtain ⟨y0, y1, y2, y3, y4⟩ := Z3.out.cells; obtain ⟨q0, q1, q2, q3, q4⟩ := Z3.out.free))
      refine ret_row rfl w.heap.size 33 _ (0, 0) _ Try.underlying33 rfl (by kernel_rfl) rfl (set5 Z3.out) rfl ?_
      refine ⟨?_, below5 B3.out (Nat.le_refl _) _ _ _ _ _⟩
      rw [← HFF.out]
      simp [lookF, walkV, HS.out, HK.out, HGg.out, HT.out]
    · have n1 : ((lv : Int) == (level : Int)) = false := beq_eq_false_iff_ne.2 (by omega)
      have HT := Lib.hid hT
      rw [hT] at F3
      clear hT
      go_wp2_with (first | (go_at_call 31; refine (F1.out _).mono ?_; rintro e w1 ⟨rfl, rfl⟩) | (go_at_call 26; refine F2.out.mono ?_; rintro e w2 ⟨rfl, b2⟩; have W2 := Lib.hid (W1.out.below b2); have Z2 := Lib.hid (Z1.out.below b2); have B2 := Lib.hid (B1.out.trans (b2.mono B1.out.size)); obtain ⟨e0, e1, e2, e3, e4⟩ := W2.out.cells; obtain ⟨p0, p1, p2, p3, p4⟩ := W2.out.free; obtain ⟨y0, y1, y2, y3, y4⟩ := Z2.out.cells; obtain ⟨q0, q1, q2, q3, q4⟩ := Z2.out.free; clear b2 c0 c1 c2 c3 c4 f0 f1 f2 f3 f4) | (go_at_call 15; refine (F3.out _ ((B2.out.setCell (p := ⟨w.heap.size + 1, 3, none⟩) (Nat.le_succ _) _).setCell (p := ⟨w.heap.size + 1, 4, none⟩) (Nat.le_succ _) _)).mono ?_; rintro e w3 ⟨rfl, b3⟩; have W3 : Hid (Wk w3 (w.heap.size + 1) lv t s 1 g) := (W2.out.set34 1 g).below b3; have Z3 : Hid (Wk w3 w.heap.size 0 0 0 0 0) := ((Z2.out.other (by omega) _).other (by omega) _).below b3; have B3 := Lib.hid (((B2.out.setCell (p := ⟨w.heap.size + 1, 3, none⟩) (Nat.le_succ _) (.int .i64 1)).setCell (p := ⟨w.heap.size + 1, 4, none⟩) (Nat.le_succ _) (.int .i64 g)).trans (b3.mono (by have := B2.out.size; simpa [World.setCell] using this))); clear b3 e0 e1 e2 e3 e4 p0 p1 p2 p3 p4 y0 y1 y2 y3 y4 q0 q1 q2 q3 q4; obtain ⟨e0, e1, e2, e3, e4⟩ := W3.out.cells; obtain ⟨p0, p1, p2, p3, p4⟩ := W3.out.free; obtain ⟨y0, y1, y2, y3, y4⟩ := Z3.out.cells; obtain ⟨q0, q1, q2, q3, q4⟩ := Z3.out.free))
      have hgn : 0 ≤ g ∧ g < n := by
        have := HT.out
        simp [tabT] at this
        have hl := HR.out.len
        omega
      obtain ⟨g', rfl⟩ := Int.eq_ofNat_of_zero_le hgn.1
      go_roundw
      case rel =>
        refine ⟨f', lv + 1, g', s, 1, g', by omega, by omega, W3.out.set01 _ _, (Z3.out.other (by omega) _).other (by omega) _, ?_, (B3.out.setCell (p := ⟨w.heap.size + 1, 0, none⟩) (Nat.le_succ _) _).setCell (p := ⟨w.heap.size + 1, 1, none⟩) (Nat.le_succ _) _⟩
        rw [← HFF.out]
        simp [lookF, HS.out, HK.out, HGg.out, HT.out]
      case measure =>
        have hh := (W3.out.set01 ((lv + 1 : Nat) : Int) (g' : Int)).atG
        rw [show ((lv : Int) + 1) = ((lv + 1 : Nat) : Int) by omega, hh, HAT.out]
        omega
end Go.Proofs.Ytfeoaphibkcejaa
