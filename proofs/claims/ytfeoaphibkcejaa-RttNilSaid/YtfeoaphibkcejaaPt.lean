/- Contract of layer 9's put. Conditions: those that each theorem states. -/
import Derived.Test.YtfeoaphibkcejaaEt
import Derived.Test.YtfeoaphibkcejaaRt
namespace Go.Proofs.Ytfeoaphibkcejaa
open Go.ChangeShapes Go.WideShapes Go.ChangeAt Go.RowKit
set_option linter.unusedSimpArgs false
set_option maxRecDepth 100000
attribute [local go_sem] zeroV

theorem ent8_all {k e : Int} (h : mayB k e = true) : AllB (ent8 k e) := by
  obtain ⟨h1, h2, h3, h4, _⟩ := mayB_iff.1 h
  intro x hx
  simp [ent8] at hx
  rcases hx with rfl | rfl | rfl | rfl <;> omega
set_option maxHeartbeats 4000000 in
theorem put_0 (xb mb ab tb rb n : Nat) (B : List Int) (R : List Rw) (g : Nat) (k e : Int) (w : World) (h : Rt w xb mb ab tb rb n B R) (hg : g < n) (hm : mayB k e = true) :
    Calls Try.prog 21 #[.pointer (some ⟨xb, 0, none⟩), .int .i64 g, .int .i64 0, .agg #[.int .i64 k, .int .i64 e]] w fun e' w' => (∃ v, e' = .returned v) ∧ Rt w' xb mb ab tb rb n (splice B (128 * g) (splice (sub B g) 0 (ent8 k e))) R ∧ w.grownBy w' (some ab) := by
  have hb0 := (Below.refl w.heap.size w).alloc (Nat.le_refl _) (.cells #[.int .i64 k, .int .i64 e] 31)
  have h0 := h.below hb0
  have c0 := cell_of_row _ _ 0 _ _ _ h0.x
  have HS := Lib.hid (sub_len B g n h.m.len hg)
  have HSA := Lib.hid (sub_all h.a g)
  have F := Lib.hid (gget_yes mb ab n B g (w.alloc (.cells #[.int .i64 k, .int .i64 e] 31)) h0.m hg)
  have H0 := Lib.hid h0
  have HA := Lib.hid h
  have HM := Lib.hid hm
  have R0 : Hid ((w.alloc (.cells #[.int .i64 k, .int .i64 e] 31)).heap[w.heap.size]? = some (.cells #[.int .i64 k, .int .i64 e] 31 (0, 0))) := heap_here rfl
  have HX : Hid ((splice (sub B g) 0 (ent8 k e)).length = 128) := spl_len _ _ _ _ HS.out (by omega)
  have hw64 : IntKind.i64.wrap 0 = 0 := IntWalk.i64_in _ (by omega)
  clear h hb0 h0 hm
  go_enter Try.func21, Try.ntmps21
  go_wp2_with (first | (go_at_call 34; refine F.out.mono ?_; rintro e1 w1 ⟨rfl, b1⟩; have hst := st_new w1 (zeroB 1) (sub B g) zlen HS.out; have hln : (bytesV (sub B g)).length = 128 := (by rw [bytesV_len, HS.out]); have b2 := b1.alloc b1.size (.cells (bytesV (sub B g)).toArray 60); have Z1 : Hid ((w.alloc (.cells #[.int .i64 k, .int .i64 e] 31)).heap.size ≤ w1.heap.size) := b1.size; have R2 : Hid ((w1.alloc (.cells (bytesV (sub B g)).toArray 60)).heap[w.heap.size]? = some (.cells #[.int .i64 k, .int .i64 e] 31 (0, 0))) := (b2.block _ (Array.getElem?_eq_some_iff.1 R0.out).1).trans R0.out; have B2 : Hid (Below (w.alloc (.cells #[.int .i64 k, .int .i64 e] 31)).heap.size (w.alloc (.cells #[.int .i64 k, .int .i64 e] 31)) (w1.alloc (.cells (bytesV (sub B g)).toArray 60))) := b2; have Q2 : Hid (BytesAt (w1.alloc (.cells (bytesV (sub B g)).toArray 60)) w1.heap.size 60 (sub B g)) := heap_here rfl; have d0 := cell_of_row _ _ 0 _ _ _ R2.out; have d1 := cell_of_row _ _ 1 _ _ _ R2.out; clear b1 b2) | (go_at_call 35; refine (bytes_yes _ _ _ HM.out).mono ?_; rintro e2 w2 ⟨rfl, b3⟩; rw [agg8_ent]; clear hst hln d0 d1; have hst8 := st8_new w2 k e; have hln8 := len8 k e; have b4 := b3.alloc b3.size (.cells (bytesV (ent8 k e)).toArray 81); have B4 : Hid (Below (w.alloc (.cells #[.int .i64 k, .int .i64 e] 31)).heap.size (w.alloc (.cells #[.int .i64 k, .int .i64 e] 31)) (w2.alloc (.cells (bytesV (ent8 k e)).toArray 81)).drew) := (B2.out.trans (b4.mono B2.out.size)).drew; have Q4 : Hid (BytesAt (w2.alloc (.cells (bytesV (ent8 k e)).toArray 81)).drew w1.heap.size 60 (sub B g) ∧ BytesAt (w2.alloc (.cells (bytesV (ent8 k e)).toArray 81)).drew w2.heap.size 81 (ent8 k e)) := ⟨(Q2.out.below b4.drew), heap_here rfl⟩; clear b3 b4))
  obtain ⟨W4, hW4⟩ : ∃ W4, W4 = (w2.alloc (.cells (bytesV (ent8 k e)).toArray 81)).drew := ⟨_, rfl⟩
  obtain ⟨X, hX⟩ : ∃ X, X = splice (sub B g) 0 (ent8 k e) := ⟨_, rfl⟩
  have hrc : Hid ((Builtin.copy_ #[84, 84] 3 #[.slice (some ⟨w1.heap.size, 0, none⟩) 128 128, .slice (some ⟨w2.heap.size, 0, none⟩) 8 8]).run Try.prog (w2.alloc (.cells (bytesV (ent8 k e)).toArray 81)).drew = .ok (.int .i64 8) (W4.setRow w1.heap.size (bytesV X).toArray)) := by
    rw [hX, hW4]
    exact run_cp _ w1.heap.size 0 128 128 w2.heap.size 0 8 8 (sub B g) (ent8 k e) 60 Q4.out.1 (fun j y hj => by rw [Nat.zero_add, Q4.out.2.cell, hj]; rfl) rfl (by rw [HS.out, ent8_len]; omega)
  have B5 : Hid (Below (w.alloc (.cells #[.int .i64 k, .int .i64 e] 31)).heap.size (w.alloc (.cells #[.int .i64 k, .int .i64 e] 31)) (W4.setRow w1.heap.size (bytesV X).toArray)) := by
    rw [hW4]; exact below_setRow B4.out Z1.out _
  have Q5 : Hid (BytesAt (W4.setRow w1.heap.size (bytesV X).toArray) w1.heap.size 60 X) := by
    rw [hW4]; exact setRow_heap _ _ _ _ _ _ Q4.out.1
  rw [← hX] at HX
  have HXE := Lib.hid hX
  have HXA : Hid (AllB X) := by rw [hX]; exact splice_allB HSA.out (ent8_all HM.out) _
  have H5 := Lib.hid (H0.out.below B5.out.drew)
  have S0 : Hid ((W4.setRow w1.heap.size (bytesV X).toArray).drew.cell? ⟨xb, 0, none⟩ = some (.pointer (some ⟨mb, 0, none⟩)) ∧ (W4.setRow w1.heap.size (bytesV X).toArray).drew.rangeAt w1.heap.size 0 (bytesV X)) := ⟨cell_of_row _ _ 0 _ _ _ H5.out.x, rng_row (b := w1.heap.size) (t := 60) (B := X) Q5.out⟩
  clear hW4 B4 Q4 hst8 hln8 hX
  go_region_held3 (fun _ => True) (exact trivial) ((first | (refine step_copy_run rfl (.tmp 28) (.tmp 29) 84 84 rfl _ _ _ rfl rfl hrc.out ?_)))
  go_wp2_with fail
  have hlnX : (bytesV X).length = 128 := by rw [bytesV_len, HX.out]
  have hsz := size60
  have hu := Try.underlying60
  go_region_held3 (fun w' => w'.cell? ⟨xb, 0, none⟩ = some (.pointer (some ⟨mb, 0, none⟩)) ∧ w'.rangeAt w1.heap.size 0 (bytesV X)) ((first | exact S0.out | exact ⟨c9, r9⟩)) ((first | (go_at_call 25; refine (put_yes mb ab n B X g _ H5.out.m hg HX.out).mono ?_; rintro e9 w9 ⟨rfl, m9, g9⟩; have HM9 := Lib.hid m9; have HG9 := Lib.hid g9; have c9 : w9.cell? ⟨xb, 0, none⟩ = some (.pointer (some ⟨mb, 0, none⟩)) := (World.cell?_of_block (a := ⟨xb, 0, none⟩) (g9.block xb H5.out.lt (by simp [HA.out.n1.symm]))).trans S0.out.1; have r9 : w9.rangeAt w1.heap.size 0 (bytesV X) := rng_row (b := w1.heap.size) (t := 60) (B := X) ((g9.block w1.heap.size Q5.out.lt (by have := Z1.out; have := HA.out.m.lt.2; simp at *; omega)).trans Q5.out); clear m9 g9)))
  go_wp2_with fail
  go_end0
  have hb9 : Below w.heap.size w (W4.setRow w1.heap.size (bytesV X).toArray).drew := (((Below.refl w.heap.size w).alloc (Nat.le_refl _) _).trans (B5.out.mono (by simp))).drew
  rw [← HXE.out]
  exact ⟨⟨_, rfl⟩, H5.out.mem HM9.out (splice_allB H5.out.a HXA.out _) HG9.out, grown_trans (grown_below hb9 _) HG9.out⟩
set_option maxHeartbeats 4000000 in
theorem put_1 (xb mb ab tb rb n : Nat) (B : List Int) (R : List Rw) (g : Nat) (k e : Int) (w : World) (h : Rt w xb mb ab tb rb n B R) (hg : g < n) (hm : mayB k e = true) :
    Calls Try.prog 21 #[.pointer (some ⟨xb, 0, none⟩), .int .i64 g, .int .i64 1, .agg #[.int .i64 k, .int .i64 e]] w fun e' w' => (∃ v, e' = .returned v) ∧ Rt w' xb mb ab tb rb n (splice B (128 * g) (splice (sub B g) 8 (ent8 k e))) R ∧ w.grownBy w' (some ab) := by
  have hb0 := (Below.refl w.heap.size w).alloc (Nat.le_refl _) (.cells #[.int .i64 k, .int .i64 e] 31)
  have h0 := h.below hb0
  have c0 := cell_of_row _ _ 0 _ _ _ h0.x
  have HS := Lib.hid (sub_len B g n h.m.len hg)
  have HSA := Lib.hid (sub_all h.a g)
  have F := Lib.hid (gget_yes mb ab n B g (w.alloc (.cells #[.int .i64 k, .int .i64 e] 31)) h0.m hg)
  have H0 := Lib.hid h0
  have HA := Lib.hid h
  have HM := Lib.hid hm
  have R0 : Hid ((w.alloc (.cells #[.int .i64 k, .int .i64 e] 31)).heap[w.heap.size]? = some (.cells #[.int .i64 k, .int .i64 e] 31 (0, 0))) := heap_here rfl
  have HX : Hid ((splice (sub B g) 8 (ent8 k e)).length = 128) := spl_len _ _ _ _ HS.out (by omega)
  have hw64 : IntKind.i64.wrap 8 = 8 := IntWalk.i64_in _ (by omega)
  clear h hb0 h0 hm
  go_enter Try.func21, Try.ntmps21
  go_wp2_with (first | (go_at_call 34; refine F.out.mono ?_; rintro e1 w1 ⟨rfl, b1⟩; have hst := st_new w1 (zeroB 1) (sub B g) zlen HS.out; have hln : (bytesV (sub B g)).length = 128 := (by rw [bytesV_len, HS.out]); have b2 := b1.alloc b1.size (.cells (bytesV (sub B g)).toArray 60); have Z1 : Hid ((w.alloc (.cells #[.int .i64 k, .int .i64 e] 31)).heap.size ≤ w1.heap.size) := b1.size; have R2 : Hid ((w1.alloc (.cells (bytesV (sub B g)).toArray 60)).heap[w.heap.size]? = some (.cells #[.int .i64 k, .int .i64 e] 31 (0, 0))) := (b2.block _ (Array.getElem?_eq_some_iff.1 R0.out).1).trans R0.out; have B2 : Hid (Below (w.alloc (.cells #[.int .i64 k, .int .i64 e] 31)).heap.size (w.alloc (.cells #[.int .i64 k, .int .i64 e] 31)) (w1.alloc (.cells (bytesV (sub B g)).toArray 60))) := b2; have Q2 : Hid (BytesAt (w1.alloc (.cells (bytesV (sub B g)).toArray 60)) w1.heap.size 60 (sub B g)) := heap_here rfl; have d0 := cell_of_row _ _ 0 _ _ _ R2.out; have d1 := cell_of_row _ _ 1 _ _ _ R2.out; clear b1 b2) | (go_at_call 35; refine (bytes_yes _ _ _ HM.out).mono ?_; rintro e2 w2 ⟨rfl, b3⟩; rw [agg8_ent]; clear hst hln d0 d1; have hst8 := st8_new w2 k e; have hln8 := len8 k e; have b4 := b3.alloc b3.size (.cells (bytesV (ent8 k e)).toArray 81); have B4 : Hid (Below (w.alloc (.cells #[.int .i64 k, .int .i64 e] 31)).heap.size (w.alloc (.cells #[.int .i64 k, .int .i64 e] 31)) (w2.alloc (.cells (bytesV (ent8 k e)).toArray 81)).drew) := (B2.out.trans (b4.mono B2.out.size)).drew; have Q4 : Hid (BytesAt (w2.alloc (.cells (bytesV (ent8 k e)).toArray 81)).drew w1.heap.size 60 (sub B g) ∧ BytesAt (w2.alloc (.cells (bytesV (ent8 k e)).toArray 81)).drew w2.heap.size 81 (ent8 k e)) := ⟨(Q2.out.below b4.drew), heap_here rfl⟩; clear b3 b4))
  obtain ⟨W4, hW4⟩ : ∃ W4, W4 = (w2.alloc (.cells (bytesV (ent8 k e)).toArray 81)).drew := ⟨_, rfl⟩
  obtain ⟨X, hX⟩ : ∃ X, X = splice (sub B g) 8 (ent8 k e) := ⟨_, rfl⟩
  have hrc : Hid ((Builtin.copy_ #[84, 84] 3 #[.slice (some ⟨w1.heap.size, 8, none⟩) 120 120, .slice (some ⟨w2.heap.size, 0, none⟩) 8 8]).run Try.prog (w2.alloc (.cells (bytesV (ent8 k e)).toArray 81)).drew = .ok (.int .i64 8) (W4.setRow w1.heap.size (bytesV X).toArray)) := by
    rw [hX, hW4]
    exact run_cp _ w1.heap.size 8 120 120 w2.heap.size 0 8 8 (sub B g) (ent8 k e) 60 Q4.out.1 (fun j y hj => by rw [Nat.zero_add, Q4.out.2.cell, hj]; rfl) rfl (by rw [HS.out, ent8_len]; omega)
  have B5 : Hid (Below (w.alloc (.cells #[.int .i64 k, .int .i64 e] 31)).heap.size (w.alloc (.cells #[.int .i64 k, .int .i64 e] 31)) (W4.setRow w1.heap.size (bytesV X).toArray)) := by
    rw [hW4]; exact below_setRow B4.out Z1.out _
  have Q5 : Hid (BytesAt (W4.setRow w1.heap.size (bytesV X).toArray) w1.heap.size 60 X) := by
    rw [hW4]; exact setRow_heap _ _ _ _ _ _ Q4.out.1
  rw [← hX] at HX
  have HXE := Lib.hid hX
  have HXA : Hid (AllB X) := by rw [hX]; exact splice_allB HSA.out (ent8_all HM.out) _
  have H5 := Lib.hid (H0.out.below B5.out.drew)
  have S0 : Hid ((W4.setRow w1.heap.size (bytesV X).toArray).drew.cell? ⟨xb, 0, none⟩ = some (.pointer (some ⟨mb, 0, none⟩)) ∧ (W4.setRow w1.heap.size (bytesV X).toArray).drew.rangeAt w1.heap.size 0 (bytesV X)) := ⟨cell_of_row _ _ 0 _ _ _ H5.out.x, rng_row (b := w1.heap.size) (t := 60) (B := X) Q5.out⟩
  clear hW4 B4 Q4 hst8 hln8 hX
  go_region_held3 (fun _ => True) (exact trivial) ((first | (refine step_copy_run rfl (.tmp 28) (.tmp 29) 84 84 rfl _ _ _ rfl rfl hrc.out ?_)))
  go_wp2_with fail
  have hlnX : (bytesV X).length = 128 := by rw [bytesV_len, HX.out]
  have hsz := size60
  have hu := Try.underlying60
  go_region_held3 (fun w' => w'.cell? ⟨xb, 0, none⟩ = some (.pointer (some ⟨mb, 0, none⟩)) ∧ w'.rangeAt w1.heap.size 0 (bytesV X)) ((first | exact S0.out | exact ⟨c9, r9⟩)) ((first | (go_at_call 25; refine (put_yes mb ab n B X g _ H5.out.m hg HX.out).mono ?_; rintro e9 w9 ⟨rfl, m9, g9⟩; have HM9 := Lib.hid m9; have HG9 := Lib.hid g9; have c9 : w9.cell? ⟨xb, 0, none⟩ = some (.pointer (some ⟨mb, 0, none⟩)) := (World.cell?_of_block (a := ⟨xb, 0, none⟩) (g9.block xb H5.out.lt (by simp [HA.out.n1.symm]))).trans S0.out.1; have r9 : w9.rangeAt w1.heap.size 0 (bytesV X) := rng_row (b := w1.heap.size) (t := 60) (B := X) ((g9.block w1.heap.size Q5.out.lt (by have := Z1.out; have := HA.out.m.lt.2; simp at *; omega)).trans Q5.out); clear m9 g9)))
  go_wp2_with fail
  go_end0
  have hb9 : Below w.heap.size w (W4.setRow w1.heap.size (bytesV X).toArray).drew := (((Below.refl w.heap.size w).alloc (Nat.le_refl _) _).trans (B5.out.mono (by simp))).drew
  rw [← HXE.out]
  exact ⟨⟨_, rfl⟩, H5.out.mem HM9.out (splice_allB H5.out.a HXA.out _) HG9.out, grown_trans (grown_below hb9 _) HG9.out⟩
set_option maxHeartbeats 4000000 in
theorem put_2 (xb mb ab tb rb n : Nat) (B : List Int) (R : List Rw) (g : Nat) (k e : Int) (w : World) (h : Rt w xb mb ab tb rb n B R) (hg : g < n) (hm : mayB k e = true) :
    Calls Try.prog 21 #[.pointer (some ⟨xb, 0, none⟩), .int .i64 g, .int .i64 2, .agg #[.int .i64 k, .int .i64 e]] w fun e' w' => (∃ v, e' = .returned v) ∧ Rt w' xb mb ab tb rb n (splice B (128 * g) (splice (sub B g) 16 (ent8 k e))) R ∧ w.grownBy w' (some ab) := by
  have hb0 := (Below.refl w.heap.size w).alloc (Nat.le_refl _) (.cells #[.int .i64 k, .int .i64 e] 31)
  have h0 := h.below hb0
  have c0 := cell_of_row _ _ 0 _ _ _ h0.x
  have HS := Lib.hid (sub_len B g n h.m.len hg)
  have HSA := Lib.hid (sub_all h.a g)
  have F := Lib.hid (gget_yes mb ab n B g (w.alloc (.cells #[.int .i64 k, .int .i64 e] 31)) h0.m hg)
  have H0 := Lib.hid h0
  have HA := Lib.hid h
  have HM := Lib.hid hm
  have R0 : Hid ((w.alloc (.cells #[.int .i64 k, .int .i64 e] 31)).heap[w.heap.size]? = some (.cells #[.int .i64 k, .int .i64 e] 31 (0, 0))) := heap_here rfl
  have HX : Hid ((splice (sub B g) 16 (ent8 k e)).length = 128) := spl_len _ _ _ _ HS.out (by omega)
  have hw64 : IntKind.i64.wrap 16 = 16 := IntWalk.i64_in _ (by omega)
  clear h hb0 h0 hm
  go_enter Try.func21, Try.ntmps21
  go_wp2_with (first | (go_at_call 34; refine F.out.mono ?_; rintro e1 w1 ⟨rfl, b1⟩; have hst := st_new w1 (zeroB 1) (sub B g) zlen HS.out; have hln : (bytesV (sub B g)).length = 128 := (by rw [bytesV_len, HS.out]); have b2 := b1.alloc b1.size (.cells (bytesV (sub B g)).toArray 60); have Z1 : Hid ((w.alloc (.cells #[.int .i64 k, .int .i64 e] 31)).heap.size ≤ w1.heap.size) := b1.size; have R2 : Hid ((w1.alloc (.cells (bytesV (sub B g)).toArray 60)).heap[w.heap.size]? = some (.cells #[.int .i64 k, .int .i64 e] 31 (0, 0))) := (b2.block _ (Array.getElem?_eq_some_iff.1 R0.out).1).trans R0.out; have B2 : Hid (Below (w.alloc (.cells #[.int .i64 k, .int .i64 e] 31)).heap.size (w.alloc (.cells #[.int .i64 k, .int .i64 e] 31)) (w1.alloc (.cells (bytesV (sub B g)).toArray 60))) := b2; have Q2 : Hid (BytesAt (w1.alloc (.cells (bytesV (sub B g)).toArray 60)) w1.heap.size 60 (sub B g)) := heap_here rfl; have d0 := cell_of_row _ _ 0 _ _ _ R2.out; have d1 := cell_of_row _ _ 1 _ _ _ R2.out; clear b1 b2) | (go_at_call 35; refine (bytes_yes _ _ _ HM.out).mono ?_; rintro e2 w2 ⟨rfl, b3⟩; rw [agg8_ent]; clear hst hln d0 d1; have hst8 := st8_new w2 k e; have hln8 := len8 k e; have b4 := b3.alloc b3.size (.cells (bytesV (ent8 k e)).toArray 81); have B4 : Hid (Below (w.alloc (.cells #[.int .i64 k, .int .i64 e] 31)).heap.size (w.alloc (.cells #[.int .i64 k, .int .i64 e] 31)) (w2.alloc (.cells (bytesV (ent8 k e)).toArray 81)).drew) := (B2.out.trans (b4.mono B2.out.size)).drew; have Q4 : Hid (BytesAt (w2.alloc (.cells (bytesV (ent8 k e)).toArray 81)).drew w1.heap.size 60 (sub B g) ∧ BytesAt (w2.alloc (.cells (bytesV (ent8 k e)).toArray 81)).drew w2.heap.size 81 (ent8 k e)) := ⟨(Q2.out.below b4.drew), heap_here rfl⟩; clear b3 b4))
  obtain ⟨W4, hW4⟩ : ∃ W4, W4 = (w2.alloc (.cells (bytesV (ent8 k e)).toArray 81)).drew := ⟨_, rfl⟩
  obtain ⟨X, hX⟩ : ∃ X, X = splice (sub B g) 16 (ent8 k e) := ⟨_, rfl⟩
  have hrc : Hid ((Builtin.copy_ #[84, 84] 3 #[.slice (some ⟨w1.heap.size, 16, none⟩) 112 112, .slice (some ⟨w2.heap.size, 0, none⟩) 8 8]).run Try.prog (w2.alloc (.cells (bytesV (ent8 k e)).toArray 81)).drew = .ok (.int .i64 8) (W4.setRow w1.heap.size (bytesV X).toArray)) := by
    rw [hX, hW4]
    exact run_cp _ w1.heap.size 16 112 112 w2.heap.size 0 8 8 (sub B g) (ent8 k e) 60 Q4.out.1 (fun j y hj => by rw [Nat.zero_add, Q4.out.2.cell, hj]; rfl) rfl (by rw [HS.out, ent8_len]; omega)
  have B5 : Hid (Below (w.alloc (.cells #[.int .i64 k, .int .i64 e] 31)).heap.size (w.alloc (.cells #[.int .i64 k, .int .i64 e] 31)) (W4.setRow w1.heap.size (bytesV X).toArray)) := by
    rw [hW4]; exact below_setRow B4.out Z1.out _
  have Q5 : Hid (BytesAt (W4.setRow w1.heap.size (bytesV X).toArray) w1.heap.size 60 X) := by
    rw [hW4]; exact setRow_heap _ _ _ _ _ _ Q4.out.1
  rw [← hX] at HX
  have HXE := Lib.hid hX
  have HXA : Hid (AllB X) := by rw [hX]; exact splice_allB HSA.out (ent8_all HM.out) _
  have H5 := Lib.hid (H0.out.below B5.out.drew)
  have S0 : Hid ((W4.setRow w1.heap.size (bytesV X).toArray).drew.cell? ⟨xb, 0, none⟩ = some (.pointer (some ⟨mb, 0, none⟩)) ∧ (W4.setRow w1.heap.size (bytesV X).toArray).drew.rangeAt w1.heap.size 0 (bytesV X)) := ⟨cell_of_row _ _ 0 _ _ _ H5.out.x, rng_row (b := w1.heap.size) (t := 60) (B := X) Q5.out⟩
  clear hW4 B4 Q4 hst8 hln8 hX
  go_region_held3 (fun _ => True) (exact trivial) ((first | (refine step_copy_run rfl (.tmp 28) (.tmp 29) 84 84 rfl _ _ _ rfl rfl hrc.out ?_)))
  go_wp2_with fail
  have hlnX : (bytesV X).length = 128 := by rw [bytesV_len, HX.out]
  have hsz := size60
  have hu := Try.underlying60
  go_region_held3 (fun w' => w'.cell? ⟨xb, 0, none⟩ = some (.pointer (some ⟨mb, 0, none⟩)) ∧ w'.rangeAt w1.heap.size 0 (bytesV X)) ((first | exact S0.out | exact ⟨c9, r9⟩)) ((first | (go_at_call 25; refine (put_yes mb ab n B X g _ H5.out.m hg HX.out).mono ?_; rintro e9 w9 ⟨rfl, m9, g9⟩; have HM9 := Lib.hid m9; have HG9 := Lib.hid g9; have c9 : w9.cell? ⟨xb, 0, none⟩ = some (.pointer (some ⟨mb, 0, none⟩)) := (World.cell?_of_block (a := ⟨xb, 0, none⟩) (g9.block xb H5.out.lt (by simp [HA.out.n1.symm]))).trans S0.out.1; have r9 : w9.rangeAt w1.heap.size 0 (bytesV X) := rng_row (b := w1.heap.size) (t := 60) (B := X) ((g9.block w1.heap.size Q5.out.lt (by have := Z1.out; have := HA.out.m.lt.2; simp at *; omega)).trans Q5.out); clear m9 g9)))
  go_wp2_with fail
  go_end0
  have hb9 : Below w.heap.size w (W4.setRow w1.heap.size (bytesV X).toArray).drew := (((Below.refl w.heap.size w).alloc (Nat.le_refl _) _).trans (B5.out.mono (by simp))).drew
  rw [← HXE.out]
  exact ⟨⟨_, rfl⟩, H5.out.mem HM9.out (splice_allB H5.out.a HXA.out _) HG9.out, grown_trans (grown_below hb9 _) HG9.out⟩
set_option maxHeartbeats 4000000 in
theorem put_3 (xb mb ab tb rb n : Nat) (B : List Int) (R : List Rw) (g : Nat) (k e : Int) (w : World) (h : Rt w xb mb ab tb rb n B R) (hg : g < n) (hm : mayB k e = true) :
    Calls Try.prog 21 #[.pointer (some ⟨xb, 0, none⟩), .int .i64 g, .int .i64 3, .agg #[.int .i64 k, .int .i64 e]] w fun e' w' => (∃ v, e' = .returned v) ∧ Rt w' xb mb ab tb rb n (splice B (128 * g) (splice (sub B g) 24 (ent8 k e))) R ∧ w.grownBy w' (some ab) := by
  have hb0 := (Below.refl w.heap.size w).alloc (Nat.le_refl _) (.cells #[.int .i64 k, .int .i64 e] 31)
  have h0 := h.below hb0
  have c0 := cell_of_row _ _ 0 _ _ _ h0.x
  have HS := Lib.hid (sub_len B g n h.m.len hg)
  have HSA := Lib.hid (sub_all h.a g)
  have F := Lib.hid (gget_yes mb ab n B g (w.alloc (.cells #[.int .i64 k, .int .i64 e] 31)) h0.m hg)
  have H0 := Lib.hid h0
  have HA := Lib.hid h
  have HM := Lib.hid hm
  have R0 : Hid ((w.alloc (.cells #[.int .i64 k, .int .i64 e] 31)).heap[w.heap.size]? = some (.cells #[.int .i64 k, .int .i64 e] 31 (0, 0))) := heap_here rfl
  have HX : Hid ((splice (sub B g) 24 (ent8 k e)).length = 128) := spl_len _ _ _ _ HS.out (by omega)
  have hw64 : IntKind.i64.wrap 24 = 24 := IntWalk.i64_in _ (by omega)
  clear h hb0 h0 hm
  go_enter Try.func21, Try.ntmps21
  go_wp2_with (first | (go_at_call 34; refine F.out.mono ?_; rintro e1 w1 ⟨rfl, b1⟩; have hst := st_new w1 (zeroB 1) (sub B g) zlen HS.out; have hln : (bytesV (sub B g)).length = 128 := (by rw [bytesV_len, HS.out]); have b2 := b1.alloc b1.size (.cells (bytesV (sub B g)).toArray 60); have Z1 : Hid ((w.alloc (.cells #[.int .i64 k, .int .i64 e] 31)).heap.size ≤ w1.heap.size) := b1.size; have R2 : Hid ((w1.alloc (.cells (bytesV (sub B g)).toArray 60)).heap[w.heap.size]? = some (.cells #[.int .i64 k, .int .i64 e] 31 (0, 0))) := (b2.block _ (Array.getElem?_eq_some_iff.1 R0.out).1).trans R0.out; have B2 : Hid (Below (w.alloc (.cells #[.int .i64 k, .int .i64 e] 31)).heap.size (w.alloc (.cells #[.int .i64 k, .int .i64 e] 31)) (w1.alloc (.cells (bytesV (sub B g)).toArray 60))) := b2; have Q2 : Hid (BytesAt (w1.alloc (.cells (bytesV (sub B g)).toArray 60)) w1.heap.size 60 (sub B g)) := heap_here rfl; have d0 := cell_of_row _ _ 0 _ _ _ R2.out; have d1 := cell_of_row _ _ 1 _ _ _ R2.out; clear b1 b2) | (go_at_call 35; refine (bytes_yes _ _ _ HM.out).mono ?_; rintro e2 w2 ⟨rfl, b3⟩; rw [agg8_ent]; clear hst hln d0 d1; have hst8 := st8_new w2 k e; have hln8 := len8 k e; have b4 := b3.alloc b3.size (.cells (bytesV (ent8 k e)).toArray 81); have B4 : Hid (Below (w.alloc (.cells #[.int .i64 k, .int .i64 e] 31)).heap.size (w.alloc (.cells #[.int .i64 k, .int .i64 e] 31)) (w2.alloc (.cells (bytesV (ent8 k e)).toArray 81)).drew) := (B2.out.trans (b4.mono B2.out.size)).drew; have Q4 : Hid (BytesAt (w2.alloc (.cells (bytesV (ent8 k e)).toArray 81)).drew w1.heap.size 60 (sub B g) ∧ BytesAt (w2.alloc (.cells (bytesV (ent8 k e)).toArray 81)).drew w2.heap.size 81 (ent8 k e)) := ⟨(Q2.out.below b4.drew), heap_here rfl⟩; clear b3 b4))
  obtain ⟨W4, hW4⟩ : ∃ W4, W4 = (w2.alloc (.cells (bytesV (ent8 k e)).toArray 81)).drew := ⟨_, rfl⟩
  obtain ⟨X, hX⟩ : ∃ X, X = splice (sub B g) 24 (ent8 k e) := ⟨_, rfl⟩
  have hrc : Hid ((Builtin.copy_ #[84, 84] 3 #[.slice (some ⟨w1.heap.size, 24, none⟩) 104 104, .slice (some ⟨w2.heap.size, 0, none⟩) 8 8]).run Try.prog (w2.alloc (.cells (bytesV (ent8 k e)).toArray 81)).drew = .ok (.int .i64 8) (W4.setRow w1.heap.size (bytesV X).toArray)) := by
    rw [hX, hW4]
    exact run_cp _ w1.heap.size 24 104 104 w2.heap.size 0 8 8 (sub B g) (ent8 k e) 60 Q4.out.1 (fun j y hj => by rw [Nat.zero_add, Q4.out.2.cell, hj]; rfl) rfl (by rw [HS.out, ent8_len]; omega)
  have B5 : Hid (Below (w.alloc (.cells #[.int .i64 k, .int .i64 e] 31)).heap.size (w.alloc (.cells #[.int .i64 k, .int .i64 e] 31)) (W4.setRow w1.heap.size (bytesV X).toArray)) := by
    rw [hW4]; exact below_setRow B4.out Z1.out _
  have Q5 : Hid (BytesAt (W4.setRow w1.heap.size (bytesV X).toArray) w1.heap.size 60 X) := by
    rw [hW4]; exact setRow_heap _ _ _ _ _ _ Q4.out.1
  rw [← hX] at HX
  have HXE := Lib.hid hX
  have HXA : Hid (AllB X) := by rw [hX]; exact splice_allB HSA.out (ent8_all HM.out) _
  have H5 := Lib.hid (H0.out.below B5.out.drew)
  have S0 : Hid ((W4.setRow w1.heap.size (bytesV X).toArray).drew.cell? ⟨xb, 0, none⟩ = some (.pointer (some ⟨mb, 0, none⟩)) ∧ (W4.setRow w1.heap.size (bytesV X).toArray).drew.rangeAt w1.heap.size 0 (bytesV X)) := ⟨cell_of_row _ _ 0 _ _ _ H5.out.x, rng_row (b := w1.heap.size) (t := 60) (B := X) Q5.out⟩
  clear hW4 B4 Q4 hst8 hln8 hX
  go_region_held3 (fun _ => True) (exact trivial) ((first | (refine step_copy_run rfl (.tmp 28) (.tmp 29) 84 84 rfl _ _ _ rfl rfl hrc.out ?_)))
  go_wp2_with fail
  have hlnX : (bytesV X).length = 128 := by rw [bytesV_len, HX.out]
  have hsz := size60
  have hu := Try.underlying60
  go_region_held3 (fun w' => w'.cell? ⟨xb, 0, none⟩ = some (.pointer (some ⟨mb, 0, none⟩)) ∧ w'.rangeAt w1.heap.size 0 (bytesV X)) ((first | exact S0.out | exact ⟨c9, r9⟩)) ((first | (go_at_call 25; refine (put_yes mb ab n B X g _ H5.out.m hg HX.out).mono ?_; rintro e9 w9 ⟨rfl, m9, g9⟩; have HM9 := Lib.hid m9; have HG9 := Lib.hid g9; have c9 : w9.cell? ⟨xb, 0, none⟩ = some (.pointer (some ⟨mb, 0, none⟩)) := (World.cell?_of_block (a := ⟨xb, 0, none⟩) (g9.block xb H5.out.lt (by simp [HA.out.n1.symm]))).trans S0.out.1; have r9 : w9.rangeAt w1.heap.size 0 (bytesV X) := rng_row (b := w1.heap.size) (t := 60) (B := X) ((g9.block w1.heap.size Q5.out.lt (by have := Z1.out; have := HA.out.m.lt.2; simp at *; omega)).trans Q5.out); clear m9 g9)))
  go_wp2_with fail
  go_end0
  have hb9 : Below w.heap.size w (W4.setRow w1.heap.size (bytesV X).toArray).drew := (((Below.refl w.heap.size w).alloc (Nat.le_refl _) _).trans (B5.out.mono (by simp))).drew
  rw [← HXE.out]
  exact ⟨⟨_, rfl⟩, H5.out.mem HM9.out (splice_allB H5.out.a HXA.out _) HG9.out, grown_trans (grown_below hb9 _) HG9.out⟩
theorem put_any (xb mb ab tb rb n : Nat) (B : List Int) (R : List Rw) (g i : Nat) (k e : Int) (w : World) (h : Rt w xb mb ab tb rb n B R) (hg : g < n) (hi : i < 4) (hm : mayB k e = true) :
    Calls Try.prog 21 #[.pointer (some ⟨xb, 0, none⟩), .int .i64 g, .int .i64 i, .agg #[.int .i64 k, .int .i64 e]] w fun e' w' => (∃ v, e' = .returned v) ∧ Rt w' xb mb ab tb rb n (splice B (128 * g) (splice (sub B g) (8 * i) (ent8 k e))) R ∧ w.grownBy w' (some ab) := by
  rcases (show i = 0 ∨ i = 1 ∨ i = 2 ∨ i = 3 by omega) with rfl | rfl | rfl | rfl
  · exact put_0 xb mb ab tb rb n B R g k e w h hg hm
  · exact put_1 xb mb ab tb rb n B R g k e w h hg hm
  · exact put_2 xb mb ab tb rb n B R g k e w h hg hm
  · exact put_3 xb mb ab tb rb n B R g k e w h hg hm
end Go.Proofs.Ytfeoaphibkcejaa
