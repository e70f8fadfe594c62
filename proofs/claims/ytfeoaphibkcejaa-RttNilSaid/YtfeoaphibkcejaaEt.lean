/- Contract of layer 8's Table. Conditions: those that each theorem states. -/
import Derived.Test.YtfeoaphibkcejaaEn
namespace Go.Proofs.Ytfeoaphibkcejaa
open Go.ChangeShapes Go.WideShapes Go.ChangeAt Go.RowKit
set_option linter.unusedSimpArgs false
set_option maxRecDepth 100000
attribute [local go_sem] zeroV

attribute [local go_sem] zeroV
def ent8 (k g : Int) : List Int := [k, g % 256, g / 256, 0, 0, 0, 0, 0]
/-- The first n entries' bytes. -/
def tabN (k0 g0 k1 g1 k2 g2 k3 g3 : Int) : Nat → List Int
  | 0 => (zeroB 1)
  | 1 => splice (zeroB 1) 0 (ent8 k0 g0)
  | 2 => splice (splice (zeroB 1) 0 (ent8 k0 g0)) 8 (ent8 k1 g1)
  | 3 => splice (splice (splice (zeroB 1) 0 (ent8 k0 g0)) 8 (ent8 k1 g1)) 16 (ent8 k2 g2)
  | _ => splice (splice (splice (splice (zeroB 1) 0 (ent8 k0 g0)) 8 (ent8 k1 g1)) 16 (ent8 k2 g2)) 24 (ent8 k3 g3)
theorem ent8_len (k g : Int) : (ent8 k g).length = 8 := rfl
theorem spl_len (B : List Int) (o : Nat) (k g : Int) (h : B.length = 128) (ho : o + 8 ≤ 128) : (splice B o (ent8 k g)).length = 128 := by rw [splice_len _ _ _ (by rw [ent8_len, h]; exact ho), h]
theorem tabN_len (k0 g0 k1 g1 k2 g2 k3 g3 : Int) (n : Nat) : (tabN k0 g0 k1 g1 k2 g2 k3 g3 n).length = 128 := by
  have h1 := spl_len (zeroB 1) 0 k0 g0 zlen (by omega)
  have h2 := spl_len _ 8 k1 g1 h1 (by omega)
  have h3 := spl_len _ 16 k2 g2 h2 (by omega)
  have h4 := spl_len _ 24 k3 g3 h3 (by omega)
  match n with
  | 0 => exact zlen
  | 1 => exact h1
  | 2 => exact h2
  | 3 => exact h3
  | n + 4 => exact h4
theorem size81 : (Try.prog.info? 81).map (·.size) = some 8 := by kernel_rfl
theorem agg8_ent (k g : Int) : agg8 k (g % 256) (g / 256) 0 0 0 0 0 = .agg (bytesV (ent8 k g)).toArray := rfl
theorem st8_new (w : World) (k g : Int) : (storeCells ⟨w.heap.size, 0, none⟩ (bytesV (ent8 k g)) 0).run Try.prog (w.alloc (.cells #[.int .u8 0, .int .u8 0, .int .u8 0, .int .u8 0, .int .u8 0, .int .u8 0, .int .u8 0, .int .u8 0] 81)) = .ok () (w.alloc (.cells (bytesV (ent8 k g)).toArray 81)) :=
  run_storeCells_new (P := Try.prog) w 81 _ (bytesV (ent8 k g)).toArray (by rw [size81]; rfl) rfl (all_oneCell_toArray (one_bytes _))
theorem len8 (k g : Int) : (bytesV (ent8 k g)).length = 8 := rfl
set_option maxHeartbeats 2000000 in
set_option maxRecDepth 100000 in
theorem tb_yes (b o c : Nat) (k0 g0 k1 g1 k2 g2 k3 g3 : Int) (w : World) (h : E4 w b o k0 g0 k1 g1 k2 g2 k3 g3) (m0 : mayB k0 g0 = true) (m1 : mayB k1 g1 = true) (m2 : mayB k2 g2 = true) (m3 : mayB k3 g3 = true) :
    Calls Try.prog 23 #[.slice (some ⟨b, o, none⟩) 4 c] w fun e w' => e = .returned (.tuple #[.agg (bytesV (tabN k0 g0 k1 g1 k2 g2 k3 g3 4)).toArray, .int .i64 0]) ∧ Below w.heap.size w w' := by
  have hok : ok4 k0 g0 k1 g1 k2 g2 k3 g3 = true := by simp [ok4, m0, m1, m2, m3]
  have hb2 : Below w.heap.size w ((w.alloc (.cells (bytesV (zeroB 1)).toArray 60)).alloc (.cells (bytesV (zeroB 1)).toArray 60)) := ((Below.refl _ _).alloc (Nat.le_refl _) _).alloc (by simp) _
  have r1 : BytesAt (w.alloc (.cells (bytesV (zeroB 1)).toArray 60)) w.heap.size 60 (zeroB 1) := heap_here rfl
  have R2 : Hid (BytesAt ((w.alloc (.cells (bytesV (zeroB 1)).toArray 60)).alloc (.cells (bytesV (zeroB 1)).toArray 60)) (w.heap.size + 1) 60 (zeroB 1)) := heap_here (by simp)
  have R3 : Hid (BytesAt ((w.alloc (.cells (bytesV (zeroB 1)).toArray 60)).alloc (.cells (bytesV (zeroB 1)).toArray 60)) w.heap.size 60 (zeroB 1)) := heap_past (by simp) r1
  have HE := Lib.hid (h.below hb2)
  have HB := Lib.hid hb2
  have hbl := Lib.hid h.lt
  clear r1 h hb2
  go_enter Try.func23, Try.ntmps23
  go_wp2_with (go_at_call 37; refine (contains4 _ _ _ _ _ _ _ _ _ _ _ _ HE.out).mono ?_; rintro e w1 ⟨rfl, b1⟩; rw [hok]; replace HE := Lib.hid (HE.out.below b1); replace R2 := Lib.hid (R2.out.below b1); replace R3 := Lib.hid (R3.out.below b1); replace HB := Lib.hid (HB.out.trans (b1.mono HB.out.size)); clear b1)
  go_loopw [19] (fun i wr => ∃ k : Nat, k ≤ 4 ∧ i = .int .i64 k ∧ E4 wr b o k0 g0 k1 g1 k2 g2 k3 g3 ∧ BytesAt wr (w.heap.size + 1) 60 (tabN k0 g0 k1 g1 k2 g2 k3 g3 k) ∧ BytesAt wr w.heap.size 60 (zeroB 1) ∧ Below w.heap.size w wr) (fun i _ => 4 - (intOf i).toNat)
  case atStart => exact ⟨0, Nat.zero_le _, rfl, HE.out, R2.out, R3.out, HB.out⟩
  case round =>
    obtain ⟨k, hk, rfl, hE, hr2, hr3, hB⟩ := hrel
    clear HE R2 R3 HB
    have HE := Lib.hid hE
    have R2 := Lib.hid hr2
    have R3 := Lib.hid hr3
    have HB := Lib.hid hB
    obtain ⟨lt, c0, c1, c2, c3, c4, c5, c6, c7⟩ := hE
    clear hr2 hr3 hB lt
    rcases (show k = 0 ∨ k = 1 ∨ k = 2 ∨ k = 3 ∨ k = 4 by omega) with rfl | rfl | rfl | rfl | rfl
    · go_wp2_with (go_at_call 35; refine (bytes_yes _ _ _ m0).mono ?_; rintro e w1 ⟨rfl, b1⟩; rw [agg8_ent]; have hst := st8_new w1 k0 g0; have hln := len8 k0 g0; have z1 := b1.size; simp at z1; have bw : Below wr.heap.size wr w1 := ((Below.refl _ _).alloc (Nat.le_refl _) _).trans (b1.mono (by simp)); clear b1)
      have a1 : Below wr.heap.size wr (w1.alloc (.cells (bytesV (ent8 k0 g0)).toArray 81)).drew := (bw.alloc bw.size _).drew
      have r2 := R2.out.below a1
      have r3 := R3.out.below a1
      have e4 := HE.out.below a1
      have s8 : BytesAt (w1.alloc (.cells (bytesV (ent8 k0 g0)).toArray 81)).drew w1.heap.size 81 (ent8 k0 g0) := heap_here rfl
      have hrc : Hid ((Builtin.copy_ #[84, 84] 3 #[.slice (some ⟨w.heap.size + 1, 0, none⟩) 128 128, .slice (some ⟨w1.heap.size, 0, none⟩) 8 8]).run Try.prog (w1.alloc (.cells (bytesV (ent8 k0 g0)).toArray 81)).drew = .ok (.int .i64 8) ((w1.alloc (.cells (bytesV (ent8 k0 g0)).toArray 81)).drew.setRow (w.heap.size + 1) (bytesV (tabN k0 g0 k1 g1 k2 g2 k3 g3 1)).toArray)) :=
        run_cp _ (w.heap.size + 1) 0 128 128 w1.heap.size 0 8 8 (tabN k0 g0 k1 g1 k2 g2 k3 g3 0) (ent8 k0 g0) 60 r2 (fun j y hj => by rw [Nat.zero_add, s8.cell, hj]; rfl) rfl (by rw [tabN_len, ent8_len]; omega)
      have hfin : Hid (E4 ((w1.alloc (.cells (bytesV (ent8 k0 g0)).toArray 81)).drew.setRow (w.heap.size + 1) (bytesV (tabN k0 g0 k1 g1 k2 g2 k3 g3 1)).toArray) b o k0 g0 k1 g1 k2 g2 k3 g3 ∧ BytesAt ((w1.alloc (.cells (bytesV (ent8 k0 g0)).toArray 81)).drew.setRow (w.heap.size + 1) (bytesV (tabN k0 g0 k1 g1 k2 g2 k3 g3 1)).toArray) (w.heap.size + 1) 60 (tabN k0 g0 k1 g1 k2 g2 k3 g3 1) ∧ BytesAt ((w1.alloc (.cells (bytesV (ent8 k0 g0)).toArray 81)).drew.setRow (w.heap.size + 1) (bytesV (tabN k0 g0 k1 g1 k2 g2 k3 g3 1)).toArray) w.heap.size 60 (zeroB 1) ∧ Below w.heap.size w ((w1.alloc (.cells (bytesV (ent8 k0 g0)).toArray 81)).drew.setRow (w.heap.size + 1) (bytesV (tabN k0 g0 k1 g1 k2 g2 k3 g3 1)).toArray)) :=
        ⟨e4.grown (grown_setRow (grown_refl _ _) _) (by have := hbl.out; omega), setRow_heap _ _ _ _ _ _ r2, (setRow_other _ _ _ _ (by omega)).trans r3, below_setRow (HB.out.trans (a1.mono HB.out.size)) (by omega) _⟩
      have hw64 : IntKind.i64.wrap 0 = 0 := IntWalk.i64_in _ (by omega)
      clear a1 r2 r3 e4 s8 bw z1 c0 c1 c2 c3 c4 c5 c6 c7
      go_region_held3 (fun _ => True) (exact trivial) ((first | (refine step_copy_run rfl (.tmp 31) (.tmp 32) 84 84 rfl _ _ _ rfl rfl hrc.out ?_)))
      go_wp2_with fail
      go_roundw
      case rel => exact ⟨1, by omega, by go_num, hfin.out⟩
      case measure => simp [intOf]
    · go_wp2_with (go_at_call 35; refine (bytes_yes _ _ _ m1).mono ?_; rintro e w1 ⟨rfl, b1⟩; rw [agg8_ent]; have hst := st8_new w1 k1 g1; have hln := len8 k1 g1; have z1 := b1.size; simp at z1; have bw : Below wr.heap.size wr w1 := ((Below.refl _ _).alloc (Nat.le_refl _) _).trans (b1.mono (by simp)); clear b1)
      have a1 : Below wr.heap.size wr (w1.alloc (.cells (bytesV (ent8 k1 g1)).toArray 81)).drew := (bw.alloc bw.size _).drew
      have r2 := R2.out.below a1
      have r3 := R3.out.below a1
      have e4 := HE.out.below a1
      have s8 : BytesAt (w1.alloc (.cells (bytesV (ent8 k1 g1)).toArray 81)).drew w1.heap.size 81 (ent8 k1 g1) := heap_here rfl
      have hrc : Hid ((Builtin.copy_ #[84, 84] 3 #[.slice (some ⟨w.heap.size + 1, 8, none⟩) 120 120, .slice (some ⟨w1.heap.size, 0, none⟩) 8 8]).run Try.prog (w1.alloc (.cells (bytesV (ent8 k1 g1)).toArray 81)).drew = .ok (.int .i64 8) ((w1.alloc (.cells (bytesV (ent8 k1 g1)).toArray 81)).drew.setRow (w.heap.size + 1) (bytesV (tabN k0 g0 k1 g1 k2 g2 k3 g3 2)).toArray)) :=
        run_cp _ (w.heap.size + 1) 8 120 120 w1.heap.size 0 8 8 (tabN k0 g0 k1 g1 k2 g2 k3 g3 1) (ent8 k1 g1) 60 r2 (fun j y hj => by rw [Nat.zero_add, s8.cell, hj]; rfl) rfl (by rw [tabN_len, ent8_len]; omega)
      have hfin : Hid (E4 ((w1.alloc (.cells (bytesV (ent8 k1 g1)).toArray 81)).drew.setRow (w.heap.size + 1) (bytesV (tabN k0 g0 k1 g1 k2 g2 k3 g3 2)).toArray) b o k0 g0 k1 g1 k2 g2 k3 g3 ∧ BytesAt ((w1.alloc (.cells (bytesV (ent8 k1 g1)).toArray 81)).drew.setRow (w.heap.size + 1) (bytesV (tabN k0 g0 k1 g1 k2 g2 k3 g3 2)).toArray) (w.heap.size + 1) 60 (tabN k0 g0 k1 g1 k2 g2 k3 g3 2) ∧ BytesAt ((w1.alloc (.cells (bytesV (ent8 k1 g1)).toArray 81)).drew.setRow (w.heap.size + 1) (bytesV (tabN k0 g0 k1 g1 k2 g2 k3 g3 2)).toArray) w.heap.size 60 (zeroB 1) ∧ Below w.heap.size w ((w1.alloc (.cells (bytesV (ent8 k1 g1)).toArray 81)).drew.setRow (w.heap.size + 1) (bytesV (tabN k0 g0 k1 g1 k2 g2 k3 g3 2)).toArray)) :=
        ⟨e4.grown (grown_setRow (grown_refl _ _) _) (by have := hbl.out; omega), setRow_heap _ _ _ _ _ _ r2, (setRow_other _ _ _ _ (by omega)).trans r3, below_setRow (HB.out.trans (a1.mono HB.out.size)) (by omega) _⟩
      have hw64 : IntKind.i64.wrap 8 = 8 := IntWalk.i64_in _ (by omega)
      clear a1 r2 r3 e4 s8 bw z1 c0 c1 c2 c3 c4 c5 c6 c7
      go_region_held3 (fun _ => True) (exact trivial) ((first | (refine step_copy_run rfl (.tmp 31) (.tmp 32) 84 84 rfl _ _ _ rfl rfl hrc.out ?_)))
      go_wp2_with fail
      go_roundw
      case rel => exact ⟨2, by omega, by go_num, hfin.out⟩
      case measure => simp [intOf]
    · go_wp2_with (go_at_call 35; refine (bytes_yes _ _ _ m2).mono ?_; rintro e w1 ⟨rfl, b1⟩; rw [agg8_ent]; have hst := st8_new w1 k2 g2; have hln := len8 k2 g2; have z1 := b1.size; simp at z1; have bw : Below wr.heap.size wr w1 := ((Below.refl _ _).alloc (Nat.le_refl _) _).trans (b1.mono (by simp)); clear b1)
      have a1 : Below wr.heap.size wr (w1.alloc (.cells (bytesV (ent8 k2 g2)).toArray 81)).drew := (bw.alloc bw.size _).drew
      have r2 := R2.out.below a1
      have r3 := R3.out.below a1
      have e4 := HE.out.below a1
      have s8 : BytesAt (w1.alloc (.cells (bytesV (ent8 k2 g2)).toArray 81)).drew w1.heap.size 81 (ent8 k2 g2) := heap_here rfl
      have hrc : Hid ((Builtin.copy_ #[84, 84] 3 #[.slice (some ⟨w.heap.size + 1, 16, none⟩) 112 112, .slice (some ⟨w1.heap.size, 0, none⟩) 8 8]).run Try.prog (w1.alloc (.cells (bytesV (ent8 k2 g2)).toArray 81)).drew = .ok (.int .i64 8) ((w1.alloc (.cells (bytesV (ent8 k2 g2)).toArray 81)).drew.setRow (w.heap.size + 1) (bytesV (tabN k0 g0 k1 g1 k2 g2 k3 g3 3)).toArray)) :=
        run_cp _ (w.heap.size + 1) 16 112 112 w1.heap.size 0 8 8 (tabN k0 g0 k1 g1 k2 g2 k3 g3 2) (ent8 k2 g2) 60 r2 (fun j y hj => by rw [Nat.zero_add, s8.cell, hj]; rfl) rfl (by rw [tabN_len, ent8_len]; omega)
      have hfin : Hid (E4 ((w1.alloc (.cells (bytesV (ent8 k2 g2)).toArray 81)).drew.setRow (w.heap.size + 1) (bytesV (tabN k0 g0 k1 g1 k2 g2 k3 g3 3)).toArray) b o k0 g0 k1 g1 k2 g2 k3 g3 ∧ BytesAt ((w1.alloc (.cells (bytesV (ent8 k2 g2)).toArray 81)).drew.setRow (w.heap.size + 1) (bytesV (tabN k0 g0 k1 g1 k2 g2 k3 g3 3)).toArray) (w.heap.size + 1) 60 (tabN k0 g0 k1 g1 k2 g2 k3 g3 3) ∧ BytesAt ((w1.alloc (.cells (bytesV (ent8 k2 g2)).toArray 81)).drew.setRow (w.heap.size + 1) (bytesV (tabN k0 g0 k1 g1 k2 g2 k3 g3 3)).toArray) w.heap.size 60 (zeroB 1) ∧ Below w.heap.size w ((w1.alloc (.cells (bytesV (ent8 k2 g2)).toArray 81)).drew.setRow (w.heap.size + 1) (bytesV (tabN k0 g0 k1 g1 k2 g2 k3 g3 3)).toArray)) :=
        ⟨e4.grown (grown_setRow (grown_refl _ _) _) (by have := hbl.out; omega), setRow_heap _ _ _ _ _ _ r2, (setRow_other _ _ _ _ (by omega)).trans r3, below_setRow (HB.out.trans (a1.mono HB.out.size)) (by omega) _⟩
      have hw64 : IntKind.i64.wrap 16 = 16 := IntWalk.i64_in _ (by omega)
      clear a1 r2 r3 e4 s8 bw z1 c0 c1 c2 c3 c4 c5 c6 c7
      go_region_held3 (fun _ => True) (exact trivial) ((first | (refine step_copy_run rfl (.tmp 31) (.tmp 32) 84 84 rfl _ _ _ rfl rfl hrc.out ?_)))
      go_wp2_with fail
      go_roundw
      case rel => exact ⟨3, by omega, by go_num, hfin.out⟩
      case measure => simp [intOf]
    · go_wp2_with (go_at_call 35; refine (bytes_yes _ _ _ m3).mono ?_; rintro e w1 ⟨rfl, b1⟩; rw [agg8_ent]; have hst := st8_new w1 k3 g3; have hln := len8 k3 g3; have z1 := b1.size; simp at z1; have bw : Below wr.heap.size wr w1 := ((Below.refl _ _).alloc (Nat.le_refl _) _).trans (b1.mono (by simp)); clear b1)
      have a1 : Below wr.heap.size wr (w1.alloc (.cells (bytesV (ent8 k3 g3)).toArray 81)).drew := (bw.alloc bw.size _).drew
      have r2 := R2.out.below a1
      have r3 := R3.out.below a1
      have e4 := HE.out.below a1
      have s8 : BytesAt (w1.alloc (.cells (bytesV (ent8 k3 g3)).toArray 81)).drew w1.heap.size 81 (ent8 k3 g3) := heap_here rfl
      have hrc : Hid ((Builtin.copy_ #[84, 84] 3 #[.slice (some ⟨w.heap.size + 1, 24, none⟩) 104 104, .slice (some ⟨w1.heap.size, 0, none⟩) 8 8]).run Try.prog (w1.alloc (.cells (bytesV (ent8 k3 g3)).toArray 81)).drew = .ok (.int .i64 8) ((w1.alloc (.cells (bytesV (ent8 k3 g3)).toArray 81)).drew.setRow (w.heap.size + 1) (bytesV (tabN k0 g0 k1 g1 k2 g2 k3 g3 4)).toArray)) :=
        run_cp _ (w.heap.size + 1) 24 104 104 w1.heap.size 0 8 8 (tabN k0 g0 k1 g1 k2 g2 k3 g3 3) (ent8 k3 g3) 60 r2 (fun j y hj => by rw [Nat.zero_add, s8.cell, hj]; rfl) rfl (by rw [tabN_len, ent8_len]; omega)
      have hfin : Hid (E4 ((w1.alloc (.cells (bytesV (ent8 k3 g3)).toArray 81)).drew.setRow (w.heap.size + 1) (bytesV (tabN k0 g0 k1 g1 k2 g2 k3 g3 4)).toArray) b o k0 g0 k1 g1 k2 g2 k3 g3 ∧ BytesAt ((w1.alloc (.cells (bytesV (ent8 k3 g3)).toArray 81)).drew.setRow (w.heap.size + 1) (bytesV (tabN k0 g0 k1 g1 k2 g2 k3 g3 4)).toArray) (w.heap.size + 1) 60 (tabN k0 g0 k1 g1 k2 g2 k3 g3 4) ∧ BytesAt ((w1.alloc (.cells (bytesV (ent8 k3 g3)).toArray 81)).drew.setRow (w.heap.size + 1) (bytesV (tabN k0 g0 k1 g1 k2 g2 k3 g3 4)).toArray) w.heap.size 60 (zeroB 1) ∧ Below w.heap.size w ((w1.alloc (.cells (bytesV (ent8 k3 g3)).toArray 81)).drew.setRow (w.heap.size + 1) (bytesV (tabN k0 g0 k1 g1 k2 g2 k3 g3 4)).toArray)) :=
        ⟨e4.grown (grown_setRow (grown_refl _ _) _) (by have := hbl.out; omega), setRow_heap _ _ _ _ _ _ r2, (setRow_other _ _ _ _ (by omega)).trans r3, below_setRow (HB.out.trans (a1.mono HB.out.size)) (by omega) _⟩
      have hw64 : IntKind.i64.wrap 24 = 24 := IntWalk.i64_in _ (by omega)
      clear a1 r2 r3 e4 s8 bw z1 c0 c1 c2 c3 c4 c5 c6 c7
      go_region_held3 (fun _ => True) (exact trivial) ((first | (refine step_copy_run rfl (.tmp 31) (.tmp 32) 84 84 rfl _ _ _ rfl rfl hrc.out ?_)))
      go_wp2_with fail
      go_roundw
      case rel => exact ⟨4, by omega, by go_num, hfin.out⟩
      case measure => simp [intOf]
    · have hl := tabN_len k0 g0 k1 g1 k2 g2 k3 g3 4
      have hst := st_mid (X := tabN k0 g0 k1 g1 k2 g2 k3 g3 4) R3.out 0 (by rw [hl, zlen]; omega)
      rw [splice_all _ _ (by rw [hl, zlen])] at hst
      have hln : (bytesV (tabN k0 g0 k1 g1 k2 g2 k3 g3 4)).length = 128 := by rw [bytesV_len, hl]
      have HL := Lib.hid hl
      have HR := Lib.hid (rng_row R2.out)
      have R6 : Hid (BytesAt (wr.setRow w.heap.size (bytesV (tabN k0 g0 k1 g1 k2 g2 k3 g3 4)).toArray) w.heap.size 60 (tabN k0 g0 k1 g1 k2 g2 k3 g3 4)) := setRow_heap _ _ _ _ _ _ R3.out
      have HB' := Lib.hid (below_setRow HB.out (Nat.le_refl _) (bytesV (tabN k0 g0 k1 g1 k2 g2 k3 g3 4)).toArray)
      clear hl c0 c1 c2 c3 c4 c5 c6 c7
      go_wp2_with (first | (refine wpList_ld rfl (.tmp 4) rfl (w.heap.size + 1) 0 (tabN k0 g0 k1 g1 k2 g2 k3 g3 4) rfl HL.out HR.out ?_))
      refine ret_row_tmp rfl w.heap.size 60 _ (0, 0) _ Try.underlying60 rfl ?_ rfl R6.out rfl ?_
      · rw [size60, List.size_toArray, hln]
      · exact ⟨rfl, HB'.out⟩
end Go.Proofs.Ytfeoaphibkcejaa
