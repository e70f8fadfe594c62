/- Contract: one act, done by the program's memory and by the reference's, is answered alike, and leaves alike bytes. Conditions: those that each theorem states. -/
import Derived.Test.YtkpcomldjnahhaaDo
namespace Go.Proofs.Ytkpcomldjnahhaa
open Go.ChangeShapes Go.WideShapes Go.ChangeAt Go.RowKit
set_option linter.unusedSimpArgs false
attribute [local go_sem] zeroV

theorem write_inL (mb ab n : Nat) (B X : List Int) (a sb so L c : Nat) (w : World) (h : Mem w mb ab n B) (hs : ∀ j x, X[j]? = some x → w.cell? ⟨sb, so + j, none⟩ = some (.int .u8 x)) (hne : sb ≠ ab) (hlt : sb < w.heap.size) (hc : L ≤ c) (ho : a + L ≤ 128 * n) (h0 : 0 < L) (hL : X.length = L) :
    Calls Try.prog 11 #[.pointer (some ⟨mb, 0, none⟩), .int .u64 a, .slice (some ⟨sb, so, none⟩) L c] w fun e w' => e = .returned (.int .i64 0) ∧ Mem w' mb ab n (splice B a X) ∧ w.grownBy w' (some ab) := by
  subst hL
  exact write_in mb ab n B X a sb so c w h hs hne hlt hc ho h0

set_option maxRecDepth 100000 in
set_option maxHeartbeats 2000000 in
theorem do2_in (N mb ab rb cb n : Nat) (B : List Int) (g x : Int) (a : Nat) (sb so : Nat) (X : List Int) (L c : Nat) (w : World) (h : Both N w mb ab rb cb n B) (ho : a + L ≤ 128 * n) (h0 : 0 < L) (hc : L ≤ c) (hXL : X.length = L) (hX : AllB X) (hsb : sb < N) (hs : ∀ j y, X[j]? = some y → w.cell? ⟨sb, so + j, none⟩ = some (.int .u8 y)) :
    Calls Try.prog 16 #[.pointer (some ⟨mb, 0, none⟩), .pointer (some ⟨rb, 0, none⟩), .agg #[.int .i64 2, .int .i64 g, .int .u64 a, .int .u64 x, .slice (some ⟨sb, so, none⟩) L c]] w fun e w' => e = .returned (.bool true) ∧ ∃ B', Both N w' mb ab rb cb n B' ∧ Below N w w' := by
  have B1 : Below w.heap.size w (w.alloc (.cells #[.int .i64 2, .int .i64 g, .int .u64 a, .int .u64 x, .slice (some ⟨sb, so, none⟩) L c] 43)) := (Below.refl _ _).alloc (Nat.le_refl _) _
  have h1 := h.below B1
  have hpn := h.mem.pos
  have hx := h.mem.max
  have hml := h.mem.lt
  have hrl := h.ref.lt
  have bx : Box (w.alloc (.cells #[.int .i64 2, .int .i64 g, .int .u64 a, .int .u64 x, .slice (some ⟨sb, so, none⟩) L c] 43)) w.heap.size (2) g a x (.slice (some ⟨sb, so, none⟩) L c) := heap_here rfl
  obtain ⟨c0, c1, c2, c3, c4⟩ := bx.cells
  have d0 := cell_of_row _ rb 0 _ _ _ h1.ref.ref
  have hwn : wrap64 (n : Int) = n := by unfold wrap64; omega
  have hs0 : ∀ j y, X[j]? = some y → (w.alloc (.cells #[.int .i64 2, .int .i64 g, .int .u64 a, .int .u64 x, .slice (some ⟨sb, so, none⟩) L c] 43)).cell? ⟨sb, so + j, none⟩ = some (.int .u8 y) := fun j y hj => (B1.cell (p := ⟨sb, so + j, none⟩) (by have := h.le; show sb < _; omega)).trans (hs j y hj)
  have HS := Lib.hid hs0
  have HXL := Lib.hid hXL
  have HAX := Lib.hid hX
  have HML := Lib.hid hml
  have HRL := Lib.hid hrl
  have HPN := Lib.hid hpn
  have HSB := Lib.hid hsb
  have HC := Lib.hid hc
  have H := Lib.hid h1
  have BX := Lib.hid bx
  have HB := Lib.hid (B1.mono h.le)
  have HN := Lib.hid h.le
  clear h B1 h1 bx hs hs0 hXL hX hml hrl hpn hsb hc
  go_enter Try.func16, Try.ntmps16
  go_wp2_with fail
  refine (write_inL _ _ _ _ X a sb so L c _ H.out.mem HS.out (by have := H.out.h2; have := HSB.out; omega) (by have := HN.out; have := HSB.out; simp; omega) HC.out ho h0 HXL.out).mono ?_
  rintro e w1 ⟨rfl, m1, g1⟩
  have hml := HML.out
  have hrl := HRL.out
  have hpn := HPN.out
  have hsb := HSB.out
  have bx1 := BX.out.grown g1 (by omega)
  have r1 := H.out.ref1 g1
  obtain ⟨e0, e1, e2, e3, e4⟩ := bx1.cells
  have f0 := cell_of_row _ rb 0 _ _ _ r1.ref
  have hs1 : ∀ j y, X[j]? = some y → w1.drew.cell? ⟨sb, so + j, none⟩ = some (.int .u8 y) := fun j y hj => (World.cell?_of_block (w' := w1.drew) (a := ⟨sb, so + j, none⟩) (g1.block sb (by have := HN.out; simp; omega) (by have := H.out.h2; simp; omega))).trans (HS.out j y hj)
  have hXL := HXL.out
  have hBl := r1.len
  have hrc : Hid ((Builtin.copy_ #[31, 31] 3 #[.slice (some ⟨cb, a, none⟩) (128 * n - a) (128 * n - a), .slice (some ⟨sb, so, none⟩) L c]).run Try.prog w1.drew = .ok (.int .i64 (L : Nat)) (w1.drew.setRow cb (bytesV (splice B a X)).toArray)) := by
    show _ = _
    rw [run_cp w1.drew cb a _ _ sb so L c B X 5 r1.drew.all hs1 (by rw [hXL]; simp only [Nat.min_def]; split <;> omega) (by omega), hXL]
  have r2 : Ref (w1.drew.setRow cb (bytesV (splice B a X)).toArray) rb cb n (splice B a X) := ref_row r1.drew (splice_len _ _ _ (by omega))
  have g2 : w1.grownBy (w1.drew.setRow cb (bytesV (splice B a X)).toArray) (some cb) := grown_setRow (grown_below ((Below.refl _ _).drew) _) _
  have bx2 : Box (w1.drew.setRow cb (bytesV (splice B a X)).toArray) w.heap.size 2 g a x (.slice (some ⟨sb, so, none⟩) L c) := bx1.grown g2 (by omega)
  have HF := Lib.hid (H.out.next m1 r2 g1 g2 (splice_allB H.out.all HAX.out _))
  have HS0 : Hid (w1.drew.cell? ⟨rb, 0, none⟩ = some (.slice (some ⟨cb, 0, none⟩) (128 * n) (128 * n)) ∧ w1.drew.cell? ⟨w.heap.size, 2, none⟩ = some (.int .u64 a) ∧ w1.drew.cell? ⟨w.heap.size, 4, none⟩ = some (.slice (some ⟨sb, so, none⟩) L c)) := ⟨f0, e2, e4⟩
  have HS1 : Hid ((w1.drew.setRow cb (bytesV (splice B a X)).toArray).cell? ⟨rb, 0, none⟩ = some (.slice (some ⟨cb, 0, none⟩) (128 * n) (128 * n)) ∧ (w1.drew.setRow cb (bytesV (splice B a X)).toArray).cell? ⟨w.heap.size, 2, none⟩ = some (.int .u64 a) ∧ (w1.drew.setRow cb (bytesV (splice B a X)).toArray).cell? ⟨w.heap.size, 4, none⟩ = some (.slice (some ⟨sb, so, none⟩) L c)) := ⟨cell_of_row _ _ 0 _ _ _ r2.ref, bx2.cells.2.2.1, bx2.cells.2.2.2.2⟩
  have R1 := Lib.hid r1
  have HL0 : (0 : Int) < (L : Int) := by omega
  have hna : ¬ 128 * n = a := by omega
  have hna1 : (a : Int) ≤ 128 * n := by omega
  have hna2 : a ≤ 128 * n := by omega
  have ha64 : IntKind.i64.wrap (a : Int) = (a : Int) := IntWalk.i64_in _ (by omega)
  clear m1 g1 r1 bx1 hs1 r2 g2 bx2 hBl hXL c0 c1 c2 c3 c4 d0 hml hrl hpn hsb
  go_wp2_with (go_at_call 18; refine (rwithin_yes _ _ _ _ _ _ _ R1.out (by omega) (by omega) (by omega) (by omega) (by omega)).mono ?_; rintro e w2 ⟨rfl, rfl⟩)
  go_region_held3 (fun w' => w'.cell? ⟨rb, 0, none⟩ = some (.slice (some ⟨cb, 0, none⟩) (128 * n) (128 * n)) ∧ w'.cell? ⟨w.heap.size, 2, none⟩ = some (.int .u64 a) ∧ w'.cell? ⟨w.heap.size, 4, none⟩ = some (.slice (some ⟨sb, so, none⟩) L c)) ((first | exact HS0.out | exact HS1.out)) ((first | (refine step_copy_run rfl (.tmp 78) (.tmp 80) 31 31 rfl _ _ _ rfl rfl hrc.out ?_)))
  go_wp2_with fail
  go_ret
  exact ⟨rfl, _, HF.out.1, HB.out.trans HF.out.2⟩

theorem gl_in (N : Nat) (x : Option Addr) (X : List Int) (L c : Nat) (w : World) (ha : Arg N w x X) (hL : X.length = L) :
    Calls Try.prog 31 #[.slice x L c] w fun e w' => e = .returned (.agg (bytesV (granB X)).toArray) ∧ Below w.heap.size w w' := by
  subst hL
  exact gran_in N x X c w ha

set_option maxRecDepth 100000 in
set_option maxHeartbeats 2000000 in
theorem do3_out (N mb ab rb cb n : Nat) (B : List Int) (g : Int) (a x : Int) (y : Option Addr) (X : List Int) (L c : Nat) (w : World) (h : Both N w mb ab rb cb n B) (hg : g < 0 ∨ n ≤ g) (ha : Arg N w y X) (hXL : X.length = L) :
    Calls Try.prog 16 #[.pointer (some ⟨mb, 0, none⟩), .pointer (some ⟨rb, 0, none⟩), .agg #[.int .i64 3, .int .i64 g, .int .u64 a, .int .u64 x, .slice y L c]] w fun e w' => e = .returned (.bool true) ∧ ∃ B', Both N w' mb ab rb cb n B' ∧ Below N w w' := by
  have B1 : Below w.heap.size w (w.alloc (.cells #[.int .i64 3, .int .i64 g, .int .u64 a, .int .u64 x, .slice y L c] 43)) := (Below.refl _ _).alloc (Nat.le_refl _) _
  have h1 := h.below B1
  have hx := h.mem.max
  have HML := Lib.hid h.mem.lt
  have bx : Box (w.alloc (.cells #[.int .i64 3, .int .i64 g, .int .u64 a, .int .u64 x, .slice y L c] 43)) w.heap.size 3 g a x (.slice y L c) := heap_here rfl
  obtain ⟨c0, c1, c2, c3, c4⟩ := bx.cells
  have d0 := cell_of_row _ rb 0 _ _ _ h1.ref.ref
  have hwn : wrap64 (n : Int) = n := by unfold wrap64; omega
  have HA := Lib.hid (ha.below (B1.mono ha.le))
  have HXL := Lib.hid hXL
  have H := Lib.hid h1
  have BX := Lib.hid bx
  have HB := Lib.hid (B1.mono h.le)
  have HN := Lib.hid h.le
  clear h B1 h1 bx ha hXL
  go_enter Try.func16, Try.ntmps16
  go_wp2_with fail
  refine (gl_in N _ X _ _ _ HA.out HXL.out).mono ?_
  rintro e w1 ⟨rfl, b1⟩
  have z1 := b1.size
  simp at z1
  have h1 := H.out.below b1
  have bx1 := BX.out.below b1
  have hst := st_new w1 (zeroB 1) (granB X) zlen (granB_len X)
  have hln : (bytesV (granB X)).length = 128 := by rw [bytesV_len, granB_len]
  have hln0 : (bytesV (zeroB 1)).length = 128 := by rw [bytesV_len, zlen]
  have a3 : Below w1.heap.size w1 (w1.alloc (.cells (bytesV (granB X)).toArray 52)) := (Below.refl _ _).alloc (Nat.le_refl _) _
  have h3 := h1.below a3
  have bx3 := bx1.below a3
  have cl3 := bx3.cells
  have hr3 : BytesAt (w1.alloc (.cells (bytesV (granB X)).toArray 52)) w1.heap.size 52 (granB X) := heap_here rfl
  have HB3 : Hid (Below N w (w1.alloc (.cells (bytesV (granB X)).toArray 52))) := (HB.out.trans (b1.mono (by have := HN.out; simp; omega))).trans (a3.mono (by have := HN.out; omega))
  have HR3 := Lib.hid hr3
  have H3 := Lib.hid h3
  have BX3 := Lib.hid bx3
  have HZ := Lib.hid z1
  obtain ⟨e0, e1, e2, e3, e4⟩ := bx1.cells
  have E0 : (w1.alloc (.cells (bytesV (granB X)).toArray 52)).cell? ⟨w.heap.size, 0, none⟩ = some (.int .i64 3) := cl3.1
  have E1 : (w1.alloc (.cells (bytesV (granB X)).toArray 52)).cell? ⟨w.heap.size, 1, none⟩ = some (.int .i64 g) := cl3.2.1
  obtain ⟨k0, k1, k2, k3, k4⟩ := (bx1.below ((Below.refl _ _).alloc (Nat.le_refl _) (.cells (bytesV (granB X)).toArray 52))).cells
  clear b1 h1 bx1 a3 h3 bx3 cl3 hr3 c0 c1 c2 c3 c4 d0 z1
  rcases (show g < 0 ∨ (0 ≤ g ∧ n ≤ g) by omega) with q | ⟨q1, q2⟩
  all_goals go_wp2_with (first | (go_at_call 25; refine (put_no _ _ _ _ _ _ _ _ H3.out.mem hg rfl).mono ?_; rintro e w4 ⟨rfl, b4⟩; have H4 := Lib.hid (H3.out.below b4); have B4 := Lib.hid (HB3.out.trans (b4.mono H3.out.le)); obtain ⟨m0, m1, m2, m3, m4⟩ := (BX3.out.below b4).cells; clear b4) | (refine wpList_ld rfl (.tmp 10) rfl w1.heap.size 0 (granB X) rfl (granB_len X) (rng_row HR3.out) ?_))
  all_goals first | (exfalso; omega) | skip
  all_goals go_ret
  all_goals exact ⟨rfl, _, H4.out, B4.out⟩

set_option maxRecDepth 100000 in
set_option maxHeartbeats 2000000 in
theorem do3_in (N mb ab rb cb n : Nat) (B : List Int) (g : Nat) (a x : Int) (y : Option Addr) (X : List Int) (L c : Nat) (w : World) (h : Both N w mb ab rb cb n B) (hg : g < n) (ha : Arg N w y X) (hXL : X.length = L) :
    Calls Try.prog 16 #[.pointer (some ⟨mb, 0, none⟩), .pointer (some ⟨rb, 0, none⟩), .agg #[.int .i64 3, .int .i64 g, .int .u64 a, .int .u64 x, .slice y L c]] w fun e w' => e = .returned (.bool true) ∧ ∃ B', Both N w' mb ab rb cb n B' ∧ Below N w w' := by
  have B1 : Below w.heap.size w (w.alloc (.cells #[.int .i64 3, .int .i64 g, .int .u64 a, .int .u64 x, .slice y L c] 43)) := (Below.refl _ _).alloc (Nat.le_refl _) _
  have h1 := h.below B1
  have hx := h.mem.max
  have HML := Lib.hid h.mem.lt
  have bx : Box (w.alloc (.cells #[.int .i64 3, .int .i64 g, .int .u64 a, .int .u64 x, .slice y L c] 43)) w.heap.size 3 g a x (.slice y L c) := heap_here rfl
  obtain ⟨c0, c1, c2, c3, c4⟩ := bx.cells
  have d0 := cell_of_row _ rb 0 _ _ _ h1.ref.ref
  have hwn : wrap64 (n : Int) = n := by unfold wrap64; omega
  have HA := Lib.hid (ha.below (B1.mono ha.le))
  have HXL := Lib.hid hXL
  have H := Lib.hid h1
  have BX := Lib.hid bx
  have HB := Lib.hid (B1.mono h.le)
  have HN := Lib.hid h.le
  clear h B1 h1 bx ha hXL
  go_enter Try.func16, Try.ntmps16
  go_wp2_with fail
  refine (gl_in N _ X _ _ _ HA.out HXL.out).mono ?_
  rintro e w1 ⟨rfl, b1⟩
  have z1 := b1.size
  simp at z1
  have h1 := H.out.below b1
  have bx1 := BX.out.below b1
  have hst := st_new w1 (zeroB 1) (granB X) zlen (granB_len X)
  have hln : (bytesV (granB X)).length = 128 := by rw [bytesV_len, granB_len]
  have hln0 : (bytesV (zeroB 1)).length = 128 := by rw [bytesV_len, zlen]
  have a3 : Below w1.heap.size w1 (w1.alloc (.cells (bytesV (granB X)).toArray 52)) := (Below.refl _ _).alloc (Nat.le_refl _) _
  have h3 := h1.below a3
  have bx3 := bx1.below a3
  have cl3 := bx3.cells
  have hr3 : BytesAt (w1.alloc (.cells (bytesV (granB X)).toArray 52)) w1.heap.size 52 (granB X) := heap_here rfl
  have HB3 : Hid (Below N w (w1.alloc (.cells (bytesV (granB X)).toArray 52))) := (HB.out.trans (b1.mono (by have := HN.out; simp; omega))).trans (a3.mono (by have := HN.out; omega))
  have HR3 := Lib.hid hr3
  have H3 := Lib.hid h3
  have BX3 := Lib.hid bx3
  have HZ := Lib.hid z1
  obtain ⟨e0, e1, e2, e3, e4⟩ := bx1.cells
  have E0 : (w1.alloc (.cells (bytesV (granB X)).toArray 52)).cell? ⟨w.heap.size, 0, none⟩ = some (.int .i64 3) := cl3.1
  have E1 : (w1.alloc (.cells (bytesV (granB X)).toArray 52)).cell? ⟨w.heap.size, 1, none⟩ = some (.int .i64 g) := cl3.2.1
  obtain ⟨k0, k1, k2, k3, k4⟩ := (bx1.below ((Below.refl _ _).alloc (Nat.le_refl _) (.cells (bytesV (granB X)).toArray 52))).cells
  clear b1 h1 bx1 a3 h3 bx3 cl3 hr3 c0 c1 c2 c3 c4 d0 z1
  go_wp2_with (first | (go_at_call 25; refine (put_yes _ _ _ _ _ _ _ H3.out.mem hg (granB_len X)).mono ?_; rintro e w4 ⟨rfl, m4, g4⟩; have M4 := Lib.hid m4; have G4 := Lib.hid g4; have R4 := Lib.hid (H3.out.ref1 g4); have HR4 := Lib.hid (BytesAt.grown HR3.out g4 (by have := HML.out; have := HZ.out; simp; omega)); obtain ⟨m0, m1, m2, m3, m4⟩ := (BX3.out.grown g4 (by have := HML.out; omega)).cells; clear g4) | (go_at_call 32; refine (rput _ _ _ _ _ _ _ R4.out hg (granB_len X)).mono ?_; rintro e w5 ⟨rfl, r5, g5⟩; have HF := Lib.hid (H3.out.next M4.out r5 G4.out g5 (splice_allB H3.out.all (granB_all HA.out.all) _)); clear r5 g5) | (refine wpList_ld rfl (.tmp 10) rfl w1.heap.size 0 (granB X) rfl (granB_len X) (rng_row HR4.out) ?_) | (refine wpList_ld rfl (.tmp 10) rfl w1.heap.size 0 (granB X) rfl (granB_len X) (rng_row HR3.out) ?_))
  all_goals first | (exfalso; omega) | skip
  all_goals go_ret
  all_goals exact ⟨rfl, _, HF.out.1, HB3.out.trans HF.out.2⟩

set_option maxRecDepth 100000 in
set_option maxHeartbeats 2000000 in
theorem do4_out (N mb ab rb cb n : Nat) (B : List Int) (g : Int) (a x : Int) (y : Option Addr) (X : List Int) (L c : Nat) (w : World) (h : Both N w mb ab rb cb n B) (hg : g < 0 ∨ n ≤ g) (ha : Arg N w y X) (hXL : X.length = L) :
    Calls Try.prog 16 #[.pointer (some ⟨mb, 0, none⟩), .pointer (some ⟨rb, 0, none⟩), .agg #[.int .i64 4, .int .i64 g, .int .u64 a, .int .u64 x, .slice y L c]] w fun e w' => e = .returned (.bool true) ∧ ∃ B', Both N w' mb ab rb cb n B' ∧ Below N w w' := by
  have B1 : Below w.heap.size w (w.alloc (.cells #[.int .i64 4, .int .i64 g, .int .u64 a, .int .u64 x, .slice y L c] 43)) := (Below.refl _ _).alloc (Nat.le_refl _) _
  have h1 := h.below B1
  have hx := h.mem.max
  have HML := Lib.hid h.mem.lt
  have bx : Box (w.alloc (.cells #[.int .i64 4, .int .i64 g, .int .u64 a, .int .u64 x, .slice y L c] 43)) w.heap.size 4 g a x (.slice y L c) := heap_here rfl
  obtain ⟨c0, c1, c2, c3, c4⟩ := bx.cells
  have d0 := cell_of_row _ rb 0 _ _ _ h1.ref.ref
  have hwn : wrap64 (n : Int) = n := by unfold wrap64; omega
  have HA := Lib.hid (ha.below (B1.mono ha.le))
  have HXL := Lib.hid hXL
  have H := Lib.hid h1
  have BX := Lib.hid bx
  have HB := Lib.hid (B1.mono h.le)
  have HN := Lib.hid h.le
  clear h B1 h1 bx ha hXL
  go_enter Try.func16, Try.ntmps16
  go_wp2_with fail
  refine (gl_in N _ X _ _ _ HA.out HXL.out).mono ?_
  rintro e w1 ⟨rfl, b1⟩
  have z1 := b1.size
  simp at z1
  have h1 := H.out.below b1
  have bx1 := BX.out.below b1
  have hst := st_new w1 (zeroB 1) (granB X) zlen (granB_len X)
  have hln : (bytesV (granB X)).length = 128 := by rw [bytesV_len, granB_len]
  have hln0 : (bytesV (zeroB 1)).length = 128 := by rw [bytesV_len, zlen]
  have hst0 := st_new w1 (granB X) (zeroB 1) (granB_len X) zlen
  have a3 : Below w1.heap.size w1 (w1.alloc (.cells (bytesV (zeroB 1)).toArray 52)) := (Below.refl _ _).alloc (Nat.le_refl _) _
  have h3 := h1.below a3
  have bx3 := bx1.below a3
  have cl3 := bx3.cells
  have hr3 : BytesAt (w1.alloc (.cells (bytesV (zeroB 1)).toArray 52)) w1.heap.size 52 (zeroB 1) := heap_here rfl
  have HB3 : Hid (Below N w (w1.alloc (.cells (bytesV (zeroB 1)).toArray 52))) := (HB.out.trans (b1.mono (by have := HN.out; simp; omega))).trans (a3.mono (by have := HN.out; omega))
  have HR3 := Lib.hid hr3
  have H3 := Lib.hid h3
  have BX3 := Lib.hid bx3
  have HZ := Lib.hid z1
  obtain ⟨e0, e1, e2, e3, e4⟩ := bx1.cells
  have E0 : (w1.alloc (.cells (bytesV (zeroB 1)).toArray 52)).cell? ⟨w.heap.size, 0, none⟩ = some (.int .i64 4) := cl3.1
  have E1 : (w1.alloc (.cells (bytesV (zeroB 1)).toArray 52)).cell? ⟨w.heap.size, 1, none⟩ = some (.int .i64 g) := cl3.2.1
  obtain ⟨k0, k1, k2, k3, k4⟩ := (bx1.below ((Below.refl _ _).alloc (Nat.le_refl _) (.cells (bytesV (granB X)).toArray 52))).cells
  clear b1 h1 bx1 a3 h3 bx3 cl3 hr3 c0 c1 c2 c3 c4 d0 z1
  rcases (show g < 0 ∨ (0 ≤ g ∧ n ≤ g) by omega) with q | ⟨q1, q2⟩
  all_goals go_wp2_with (first | (go_at_call 26; refine (scrub_no _ _ _ _ _ _ H3.out.mem hg).mono ?_; rintro e w4 ⟨rfl, b4⟩; have H4 := Lib.hid (H3.out.below b4); have B4 := Lib.hid (HB3.out.trans (b4.mono H3.out.le)); obtain ⟨m0, m1, m2, m3, m4⟩ := (BX3.out.below b4).cells; clear b4))
  all_goals first | (exfalso; omega) | skip
  all_goals go_ret
  all_goals exact ⟨rfl, _, H4.out, B4.out⟩

set_option maxRecDepth 100000 in
set_option maxHeartbeats 2000000 in
theorem do4_in (N mb ab rb cb n : Nat) (B : List Int) (g : Nat) (a x : Int) (y : Option Addr) (X : List Int) (L c : Nat) (w : World) (h : Both N w mb ab rb cb n B) (hg : g < n) (ha : Arg N w y X) (hXL : X.length = L) :
    Calls Try.prog 16 #[.pointer (some ⟨mb, 0, none⟩), .pointer (some ⟨rb, 0, none⟩), .agg #[.int .i64 4, .int .i64 g, .int .u64 a, .int .u64 x, .slice y L c]] w fun e w' => e = .returned (.bool true) ∧ ∃ B', Both N w' mb ab rb cb n B' ∧ Below N w w' := by
  have B1 : Below w.heap.size w (w.alloc (.cells #[.int .i64 4, .int .i64 g, .int .u64 a, .int .u64 x, .slice y L c] 43)) := (Below.refl _ _).alloc (Nat.le_refl _) _
  have h1 := h.below B1
  have hx := h.mem.max
  have HML := Lib.hid h.mem.lt
  have bx : Box (w.alloc (.cells #[.int .i64 4, .int .i64 g, .int .u64 a, .int .u64 x, .slice y L c] 43)) w.heap.size 4 g a x (.slice y L c) := heap_here rfl
  obtain ⟨c0, c1, c2, c3, c4⟩ := bx.cells
  have d0 := cell_of_row _ rb 0 _ _ _ h1.ref.ref
  have hwn : wrap64 (n : Int) = n := by unfold wrap64; omega
  have HA := Lib.hid (ha.below (B1.mono ha.le))
  have HXL := Lib.hid hXL
  have H := Lib.hid h1
  have BX := Lib.hid bx
  have HB := Lib.hid (B1.mono h.le)
  have HN := Lib.hid h.le
  clear h B1 h1 bx ha hXL
  go_enter Try.func16, Try.ntmps16
  go_wp2_with fail
  refine (gl_in N _ X _ _ _ HA.out HXL.out).mono ?_
  rintro e w1 ⟨rfl, b1⟩
  have z1 := b1.size
  simp at z1
  have h1 := H.out.below b1
  have bx1 := BX.out.below b1
  have hst := st_new w1 (zeroB 1) (granB X) zlen (granB_len X)
  have hln : (bytesV (granB X)).length = 128 := by rw [bytesV_len, granB_len]
  have hln0 : (bytesV (zeroB 1)).length = 128 := by rw [bytesV_len, zlen]
  have hst0 := st_new w1 (granB X) (zeroB 1) (granB_len X) zlen
  have a3 : Below w1.heap.size w1 (w1.alloc (.cells (bytesV (zeroB 1)).toArray 52)) := (Below.refl _ _).alloc (Nat.le_refl _) _
  have h3 := h1.below a3
  have bx3 := bx1.below a3
  have cl3 := bx3.cells
  have hr3 : BytesAt (w1.alloc (.cells (bytesV (zeroB 1)).toArray 52)) w1.heap.size 52 (zeroB 1) := heap_here rfl
  have HB3 : Hid (Below N w (w1.alloc (.cells (bytesV (zeroB 1)).toArray 52))) := (HB.out.trans (b1.mono (by have := HN.out; simp; omega))).trans (a3.mono (by have := HN.out; omega))
  have HR3 := Lib.hid hr3
  have H3 := Lib.hid h3
  have BX3 := Lib.hid bx3
  have HZ := Lib.hid z1
  obtain ⟨e0, e1, e2, e3, e4⟩ := bx1.cells
  have E0 : (w1.alloc (.cells (bytesV (zeroB 1)).toArray 52)).cell? ⟨w.heap.size, 0, none⟩ = some (.int .i64 4) := cl3.1
  have E1 : (w1.alloc (.cells (bytesV (zeroB 1)).toArray 52)).cell? ⟨w.heap.size, 1, none⟩ = some (.int .i64 g) := cl3.2.1
  obtain ⟨k0, k1, k2, k3, k4⟩ := (bx1.below ((Below.refl _ _).alloc (Nat.le_refl _) (.cells (bytesV (granB X)).toArray 52))).cells
  clear b1 h1 bx1 a3 h3 bx3 cl3 hr3 c0 c1 c2 c3 c4 d0 z1
  go_wp2_with (first | (go_at_call 26; refine (scrub_yes _ _ _ _ _ _ H3.out.mem hg).mono ?_; rintro e w4 ⟨rfl, m4, g4⟩; have M4 := Lib.hid m4; have G4 := Lib.hid g4; have R4 := Lib.hid (H3.out.ref1 g4); have HR4 := Lib.hid (BytesAt.grown HR3.out g4 (by have := HML.out; have := HZ.out; simp; omega)); obtain ⟨m0, m1, m2, m3, m4⟩ := (BX3.out.grown g4 (by have := HML.out; omega)).cells; clear g4) | (go_at_call 32; refine (rput _ _ _ _ _ _ _ R4.out hg zlen).mono ?_; rintro e w5 ⟨rfl, r5, g5⟩; have HF := Lib.hid (H3.out.next M4.out r5 G4.out g5 (splice_allB H3.out.all (allz 1) _)); clear r5 g5) | (refine wpList_ld rfl (.tmp 10) rfl w1.heap.size 0 (zeroB 1) rfl zlen (rng_row HR4.out) ?_))
  all_goals first | (exfalso; omega) | skip
  all_goals go_ret
  all_goals exact ⟨rfl, _, HF.out.1, HB3.out.trans HF.out.2⟩

end Go.Proofs.Ytkpcomldjnahhaa
