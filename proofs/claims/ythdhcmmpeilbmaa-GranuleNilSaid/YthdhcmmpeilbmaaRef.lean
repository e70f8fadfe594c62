/- Contracts of the reference's layer 7: May, Step, Hold and Let on rows. Conditions: those that each theorem states. -/
import Derived.Test.YthdhcmmpeilbmaaUpd
namespace Go.Proofs.Ythdhcmmpeilbmaa
open Go.ChangeShapes Go.WideShapes Go.ChangeAt Go.RowKit
set_option linter.unusedSimpArgs false

def mayB (f t : Int) : Bool := decide ((f = 0 ∧ t = 1) ∨ (f = 1 ∧ t ≠ 1 ∧ 0 ≤ t ∧ t ≤ 5) ∨ (2 ≤ f ∧ f ≤ 5 ∧ t = 1))
theorem may_step (f t : Int) : (stepF f t).isSome = mayB f t := by
  unfold stepF mayB
  split
  · simp; omega
  · split
    · simp; omega
    · simp; omega
theorem step_may {f t : Int} (h : mayB f t = true) : stepF f t = some (decide (2 ≤ t)) := by
  unfold stepF
  simp [mayB] at h
  split
  · simp; omega
  · split
    · simp; omega
    · exfalso; omega
theorem step_mayn {f t : Int} (h : mayB f t = false) : stepF f t = none := by
  have := may_step f t
  rw [h] at this
  simpa using this

theorem rmay_any (f t : Int) (w : World) :
    Calls Try.prog 17 #[.int .i64 f, .int .i64 t] w fun e w' => e = .returned (.bool (mayB f t)) ∧ w = w' := by
  go_enter Try.func17, Try.ntmps17
  go_wp2
  all_goals go_ret
  all_goals exact ⟨ret_bool (Bool.eq_iff_iff.2 (by simp [mayB] at *; omega)), rfl⟩

theorem pmay_any (f t : Int) (w : World) :
    Calls Try.prog 16 #[.int .i64 f, .int .i64 t] w fun e w' => e = .returned (.bool (mayB f t)) ∧ Below w.heap.size w w' := by
  have G := Lib.hid (may_step f t)
  go_enter Try.func16, Try.ntmps16
  go_wp2_with (first | (go_at_call 28; refine (steps_any _).mono ?_; rintro e w1 ⟨m, L, rfl, hst, hL, hb⟩; have G2 := Lib.hid (get_steps L hL f t); have HS := Lib.hid hst; clear hst) | (refine wpList_st_lookup stT rfl (.tmp 8) (.tmp 11) rfl m L rfl HS.out f t rfl ?_; rw [G2.out, G.out]))
  go_ret
  exact ⟨rfl, hb.alloc hb.size _⟩

set_option maxHeartbeats 1000000 in
theorem rStep_none (rb : Nat) (R : List Rw) (g : Nat) (s o k f t ow : Int) (w : World) (h : RowsAt w rb R) (h1 : g < R.length) (hr : rowD R g = (s, o, k)) (hM : mayB f t = false) :
    Calls Try.prog 24 #[.slice (some ⟨rb, 0, none⟩) R.length R.length, .int .i64 g, .int .i64 f, .int .i64 t, .int .u64 ow] w fun e w' => e = .returned (.int .i64 2) ∧ w = w' := by
  obtain ⟨c0, c1, c2⟩ := h.cells h1 hr
  have f0 := h.free (g * 3)
  have f1 := h.free (g * 3 + 1)
  have g1 : (g : Int) < (R.length : Int) := by omega
  have HH := Lib.hid h
  have HR := Lib.hid hr
  have HM := Lib.hid hM
  clear h hr hM
  go_enter Try.func24, Try.ntmps24
  go_wp2_with (go_at_call 17; refine (rmay_any _ _ _).mono ?_; rintro e w' ⟨rfl, rfl⟩; rw [HM.out])
  go_ret
  exact ⟨rfl, rfl⟩

set_option maxHeartbeats 1000000 in
theorem rStep_bad_true (rb : Nat) (R : List Rw) (g : Nat) (s o k f t ow : Int) (w : World) (h : RowsAt w rb R) (h1 : g < R.length) (hr : rowD R g = (s, o, k)) (hM : mayB f t = true) (hd : decide (2 ≤ t) = true) (ho : (ow != 0) = false) :
    Calls Try.prog 24 #[.slice (some ⟨rb, 0, none⟩) R.length R.length, .int .i64 g, .int .i64 f, .int .i64 t, .int .u64 ow] w fun e w' => e = .returned (.int .i64 2) ∧ w = w' := by
  obtain ⟨c0, c1, c2⟩ := h.cells h1 hr
  have f0 := h.free (g * 3)
  have f1 := h.free (g * 3 + 1)
  have g1 : (g : Int) < (R.length : Int) := by omega
  have HH := Lib.hid h
  have HR := Lib.hid hr
  have HM := Lib.hid hM
  clear h hr hM
  go_enter Try.func24, Try.ntmps24
  go_wp2_with (go_at_call 17; refine (rmay_any _ _ _).mono ?_; rintro e w' ⟨rfl, rfl⟩; rw [HM.out])
  go_ret
  exact ⟨rfl, rfl⟩

set_option maxHeartbeats 1000000 in
theorem rStep_state_true (rb : Nat) (R : List Rw) (g : Nat) (s o k f t ow : Int) (w : World) (h : RowsAt w rb R) (h1 : g < R.length) (hr : rowD R g = (s, o, k)) (hM : mayB f t = true) (hd : decide (2 ≤ t) = true) (ho : (ow != 0) = true) (hs : (s != f) = true) :
    Calls Try.prog 24 #[.slice (some ⟨rb, 0, none⟩) R.length R.length, .int .i64 g, .int .i64 f, .int .i64 t, .int .u64 ow] w fun e w' => e = .returned (.int .i64 7) ∧ w = w' := by
  obtain ⟨c0, c1, c2⟩ := h.cells h1 hr
  have f0 := h.free (g * 3)
  have f1 := h.free (g * 3 + 1)
  have g1 : (g : Int) < (R.length : Int) := by omega
  have HH := Lib.hid h
  have HR := Lib.hid hr
  have HM := Lib.hid hM
  clear h hr hM
  go_enter Try.func24, Try.ntmps24
  go_wp2_with (go_at_call 17; refine (rmay_any _ _ _).mono ?_; rintro e w' ⟨rfl, rfl⟩; rw [HM.out])
  go_ret
  exact ⟨rfl, rfl⟩

set_option maxHeartbeats 1000000 in
theorem rStep_use_true (rb : Nat) (R : List Rw) (g : Nat) (s o k f t ow : Int) (w : World) (h : RowsAt w rb R) (h1 : g < R.length) (hr : rowD R g = (s, o, k)) (hM : mayB f t = true) (hd : decide (2 ≤ t) = true) (ho : (ow != 0) = true) (hs : (s != f) = false) (hk : 0 < k) (hf : (f != 1) = true) :
    Calls Try.prog 24 #[.slice (some ⟨rb, 0, none⟩) R.length R.length, .int .i64 g, .int .i64 f, .int .i64 t, .int .u64 ow] w fun e w' => e = .returned (.int .i64 9) ∧ w = w' := by
  obtain ⟨c0, c1, c2⟩ := h.cells h1 hr
  have f0 := h.free (g * 3)
  have f1 := h.free (g * 3 + 1)
  have g1 : (g : Int) < (R.length : Int) := by omega
  have HH := Lib.hid h
  have HR := Lib.hid hr
  have HM := Lib.hid hM
  clear h hr hM
  go_enter Try.func24, Try.ntmps24
  go_wp2_with (go_at_call 17; refine (rmay_any _ _ _).mono ?_; rintro e w' ⟨rfl, rfl⟩; rw [HM.out])
  go_ret
  exact ⟨rfl, rfl⟩

set_option maxHeartbeats 1000000 in
theorem rStep_ok_true (rb : Nat) (R : List Rw) (g : Nat) (s o k f t ow : Int) (w : World) (h : RowsAt w rb R) (h1 : g < R.length) (hr : rowD R g = (s, o, k)) (hM : mayB f t = true) (hd : decide (2 ≤ t) = true) (ho : (ow != 0) = true) (hs : (s != f) = false) (hk : k ≤ 0) :
    Calls Try.prog 24 #[.slice (some ⟨rb, 0, none⟩) R.length R.length, .int .i64 g, .int .i64 f, .int .i64 t, .int .u64 ow] w fun e w' => e = .returned (.int .i64 0) ∧ UpdR w w' rb (R.set g (t, ow, k)) := by
  obtain ⟨c0, c1, c2⟩ := h.cells h1 hr
  have f0 := h.free (g * 3)
  have f1 := h.free (g * 3 + 1)
  have g1 : (g : Int) < (R.length : Int) := by omega
  have HH := Lib.hid h
  have HR := Lib.hid hr
  have HM := Lib.hid hM
  clear h hr hM
  go_enter Try.func24, Try.ntmps24
  go_wp2_with (go_at_call 17; refine (rmay_any _ _ _).mono ?_; rintro e w' ⟨rfl, rfl⟩; rw [HM.out])
  go_ret
  exact ⟨rfl, updR_step HH.out (Below.refl _ _) h1 HR.out⟩

set_option maxHeartbeats 1000000 in
theorem rStep_held_true (rb : Nat) (R : List Rw) (g : Nat) (s o k f t ow : Int) (w : World) (h : RowsAt w rb R) (h1 : g < R.length) (hr : rowD R g = (s, o, k)) (hM : mayB f t = true) (hd : decide (2 ≤ t) = true) (ho : (ow != 0) = true) (hs : (s != f) = false) (hk : 0 < k) (hf : (f != 1) = false) :
    Calls Try.prog 24 #[.slice (some ⟨rb, 0, none⟩) R.length R.length, .int .i64 g, .int .i64 f, .int .i64 t, .int .u64 ow] w fun e w' => e = .returned (.int .i64 0) ∧ UpdR w w' rb (R.set g (t, ow, k)) := by
  obtain ⟨c0, c1, c2⟩ := h.cells h1 hr
  have f0 := h.free (g * 3)
  have f1 := h.free (g * 3 + 1)
  have g1 : (g : Int) < (R.length : Int) := by omega
  have HH := Lib.hid h
  have HR := Lib.hid hr
  have HM := Lib.hid hM
  clear h hr hM
  go_enter Try.func24, Try.ntmps24
  go_wp2_with (go_at_call 17; refine (rmay_any _ _ _).mono ?_; rintro e w' ⟨rfl, rfl⟩; rw [HM.out])
  go_ret
  exact ⟨rfl, updR_step HH.out (Below.refl _ _) h1 HR.out⟩

set_option maxHeartbeats 1000000 in
theorem rStep_bad_false (rb : Nat) (R : List Rw) (g : Nat) (s o k f t ow : Int) (w : World) (h : RowsAt w rb R) (h1 : g < R.length) (hr : rowD R g = (s, o, k)) (hM : mayB f t = true) (hd : decide (2 ≤ t) = false) (ho : (ow != 0) = true) :
    Calls Try.prog 24 #[.slice (some ⟨rb, 0, none⟩) R.length R.length, .int .i64 g, .int .i64 f, .int .i64 t, .int .u64 ow] w fun e w' => e = .returned (.int .i64 2) ∧ w = w' := by
  obtain ⟨c0, c1, c2⟩ := h.cells h1 hr
  have f0 := h.free (g * 3)
  have f1 := h.free (g * 3 + 1)
  have g1 : (g : Int) < (R.length : Int) := by omega
  have HH := Lib.hid h
  have HR := Lib.hid hr
  have HM := Lib.hid hM
  clear h hr hM
  go_enter Try.func24, Try.ntmps24
  go_wp2_with (go_at_call 17; refine (rmay_any _ _ _).mono ?_; rintro e w' ⟨rfl, rfl⟩; rw [HM.out])
  go_ret
  exact ⟨rfl, rfl⟩

set_option maxHeartbeats 1000000 in
theorem rStep_state_false (rb : Nat) (R : List Rw) (g : Nat) (s o k f t ow : Int) (w : World) (h : RowsAt w rb R) (h1 : g < R.length) (hr : rowD R g = (s, o, k)) (hM : mayB f t = true) (hd : decide (2 ≤ t) = false) (ho : (ow != 0) = false) (hs : (s != f) = true) :
    Calls Try.prog 24 #[.slice (some ⟨rb, 0, none⟩) R.length R.length, .int .i64 g, .int .i64 f, .int .i64 t, .int .u64 ow] w fun e w' => e = .returned (.int .i64 7) ∧ w = w' := by
  obtain ⟨c0, c1, c2⟩ := h.cells h1 hr
  have f0 := h.free (g * 3)
  have f1 := h.free (g * 3 + 1)
  have g1 : (g : Int) < (R.length : Int) := by omega
  have HH := Lib.hid h
  have HR := Lib.hid hr
  have HM := Lib.hid hM
  clear h hr hM
  go_enter Try.func24, Try.ntmps24
  go_wp2_with (go_at_call 17; refine (rmay_any _ _ _).mono ?_; rintro e w' ⟨rfl, rfl⟩; rw [HM.out])
  go_ret
  exact ⟨rfl, rfl⟩

set_option maxHeartbeats 1000000 in
theorem rStep_use_false (rb : Nat) (R : List Rw) (g : Nat) (s o k f t ow : Int) (w : World) (h : RowsAt w rb R) (h1 : g < R.length) (hr : rowD R g = (s, o, k)) (hM : mayB f t = true) (hd : decide (2 ≤ t) = false) (ho : (ow != 0) = false) (hs : (s != f) = false) (hk : 0 < k) (hf : (f != 1) = true) :
    Calls Try.prog 24 #[.slice (some ⟨rb, 0, none⟩) R.length R.length, .int .i64 g, .int .i64 f, .int .i64 t, .int .u64 ow] w fun e w' => e = .returned (.int .i64 9) ∧ w = w' := by
  obtain ⟨c0, c1, c2⟩ := h.cells h1 hr
  have f0 := h.free (g * 3)
  have f1 := h.free (g * 3 + 1)
  have g1 : (g : Int) < (R.length : Int) := by omega
  have HH := Lib.hid h
  have HR := Lib.hid hr
  have HM := Lib.hid hM
  clear h hr hM
  go_enter Try.func24, Try.ntmps24
  go_wp2_with (go_at_call 17; refine (rmay_any _ _ _).mono ?_; rintro e w' ⟨rfl, rfl⟩; rw [HM.out])
  go_ret
  exact ⟨rfl, rfl⟩

set_option maxHeartbeats 1000000 in
theorem rStep_ok_false (rb : Nat) (R : List Rw) (g : Nat) (s o k f t ow : Int) (w : World) (h : RowsAt w rb R) (h1 : g < R.length) (hr : rowD R g = (s, o, k)) (hM : mayB f t = true) (hd : decide (2 ≤ t) = false) (ho : (ow != 0) = false) (hs : (s != f) = false) (hk : k ≤ 0) :
    Calls Try.prog 24 #[.slice (some ⟨rb, 0, none⟩) R.length R.length, .int .i64 g, .int .i64 f, .int .i64 t, .int .u64 ow] w fun e w' => e = .returned (.int .i64 0) ∧ UpdR w w' rb (R.set g (t, ow, k)) := by
  obtain ⟨c0, c1, c2⟩ := h.cells h1 hr
  have f0 := h.free (g * 3)
  have f1 := h.free (g * 3 + 1)
  have g1 : (g : Int) < (R.length : Int) := by omega
  have HH := Lib.hid h
  have HR := Lib.hid hr
  have HM := Lib.hid hM
  clear h hr hM
  go_enter Try.func24, Try.ntmps24
  go_wp2_with (go_at_call 17; refine (rmay_any _ _ _).mono ?_; rintro e w' ⟨rfl, rfl⟩; rw [HM.out])
  go_ret
  exact ⟨rfl, updR_step HH.out (Below.refl _ _) h1 HR.out⟩

set_option maxHeartbeats 1000000 in
theorem rStep_held_false (rb : Nat) (R : List Rw) (g : Nat) (s o k f t ow : Int) (w : World) (h : RowsAt w rb R) (h1 : g < R.length) (hr : rowD R g = (s, o, k)) (hM : mayB f t = true) (hd : decide (2 ≤ t) = false) (ho : (ow != 0) = false) (hs : (s != f) = false) (hk : 0 < k) (hf : (f != 1) = false) :
    Calls Try.prog 24 #[.slice (some ⟨rb, 0, none⟩) R.length R.length, .int .i64 g, .int .i64 f, .int .i64 t, .int .u64 ow] w fun e w' => e = .returned (.int .i64 0) ∧ UpdR w w' rb (R.set g (t, ow, k)) := by
  obtain ⟨c0, c1, c2⟩ := h.cells h1 hr
  have f0 := h.free (g * 3)
  have f1 := h.free (g * 3 + 1)
  have g1 : (g : Int) < (R.length : Int) := by omega
  have HH := Lib.hid h
  have HR := Lib.hid hr
  have HM := Lib.hid hM
  clear h hr hM
  go_enter Try.func24, Try.ntmps24
  go_wp2_with (go_at_call 17; refine (rmay_any _ _ _).mono ?_; rintro e w' ⟨rfl, rfl⟩; rw [HM.out])
  go_ret
  exact ⟨rfl, updR_step HH.out (Below.refl _ _) h1 HR.out⟩

theorem rStep_in (rb : Nat) (R : List Rw) (g : Nat) (s o k f t ow : Int) (w : World) (h : RowsAt w rb R) (h1 : g < R.length) (hr : rowD R g = (s, o, k)) :
    Calls Try.prog 24 #[.slice (some ⟨rb, 0, none⟩) R.length R.length, .int .i64 g, .int .i64 f, .int .i64 t, .int .u64 ow] w fun e w' => e = .returned (.int .i64 (stepR (s, o, k) f t ow).1) ∧ UpdR w w' rb (R.set g (stepR (s, o, k) f t ow).2) := by
  have same : ∀ {c : Int}, (Calls Try.prog 24 #[.slice (some ⟨rb, 0, none⟩) R.length R.length, .int .i64 g, .int .i64 f, .int .i64 t, .int .u64 ow] w fun e w' => e = .returned (.int .i64 c) ∧ w = w') → stepR (s, o, k) f t ow = (c, (s, o, k)) → Calls Try.prog 24 #[.slice (some ⟨rb, 0, none⟩) R.length R.length, .int .i64 g, .int .i64 f, .int .i64 t, .int .u64 ow] w fun e w' => e = .returned (.int .i64 (stepR (s, o, k) f t ow).1) ∧ UpdR w w' rb (R.set g (stepR (s, o, k) f t ow).2) := fun hc he => hc.mono fun e w' ⟨h2, h3⟩ => by
    rw [he]; subst h3; exact ⟨h2, updR_same h (Below.refl _ _) h1 hr⟩
  have new : (Calls Try.prog 24 #[.slice (some ⟨rb, 0, none⟩) R.length R.length, .int .i64 g, .int .i64 f, .int .i64 t, .int .u64 ow] w fun e w' => e = .returned (.int .i64 0) ∧ UpdR w w' rb (R.set g (t, ow, k))) → stepR (s, o, k) f t ow = (0, (t, ow, k)) → Calls Try.prog 24 #[.slice (some ⟨rb, 0, none⟩) R.length R.length, .int .i64 g, .int .i64 f, .int .i64 t, .int .u64 ow] w fun e w' => e = .returned (.int .i64 (stepR (s, o, k) f t ow).1) ∧ UpdR w w' rb (R.set g (stepR (s, o, k) f t ow).2) := fun hc he => hc.mono fun e w' ⟨h2, h3⟩ => by
    rw [he]; exact ⟨h2, h3⟩
  cases hM : mayB f t with
  | false => exact same (rStep_none rb R g s o k f t ow w h h1 hr hM) (by unfold stepR; rw [step_mayn hM])
  | true =>
    have hF := step_may hM
    cases hd : decide (2 ≤ t)
    all_goals rw [hd] at hF
    all_goals cases ho : (ow != 0)
    all_goals by_cases hs : s = f
    all_goals by_cases hk : 0 < k
    all_goals by_cases hf : f = 1
    all_goals first
      | exact same (rStep_bad_true rb R g s o k f t ow w h h1 hr hM hd ho) (by unfold stepR; rw [hF]; simp [ho])
      | exact same (rStep_bad_false rb R g s o k f t ow w h h1 hr hM hd ho) (by unfold stepR; rw [hF]; simp [ho])
      | exact same (rStep_state_true rb R g s o k f t ow w h h1 hr hM hd ho (bne_iff_ne.2 hs)) (by unfold stepR; rw [hF]; simp [ho, hs])
      | exact same (rStep_state_false rb R g s o k f t ow w h h1 hr hM hd ho (bne_iff_ne.2 hs)) (by unfold stepR; rw [hF]; simp [ho, hs])
      | exact same (rStep_use_true rb R g s o k f t ow w h h1 hr hM hd ho (by simp [hs]) hk (bne_iff_ne.2 hf)) (by unfold stepR; rw [hF]; simp [ho, hs, hk, hf])
      | exact same (rStep_use_false rb R g s o k f t ow w h h1 hr hM hd ho (by simp [hs]) hk (bne_iff_ne.2 hf)) (by unfold stepR; rw [hF]; simp [ho, hs, hk, hf])
      | exact new (rStep_held_true rb R g s o k f t ow w h h1 hr hM hd ho (by simp [hs]) hk (by simp [hf])) (by unfold stepR; rw [hF]; simp [ho, hs, hk, hf])
      | exact new (rStep_held_false rb R g s o k f t ow w h h1 hr hM hd ho (by simp [hs]) hk (by simp [hf])) (by unfold stepR; rw [hF]; simp [ho, hs, hk, hf])
      | exact new (rStep_ok_true rb R g s o k f t ow w h h1 hr hM hd ho (by simp [hs]) (by omega)) (by unfold stepR; rw [hF]; simp [ho, hs, hk])
      | exact new (rStep_ok_false rb R g s o k f t ow w h h1 hr hM hd ho (by simp [hs]) (by omega)) (by unfold stepR; rw [hF]; simp [ho, hs, hk])

theorem rStep_out (rb : Nat) (R : List Rw) (g f t ow : Int) (w : World) (h1 : g < 0 ∨ (R.length : Int) ≤ g) :
    Calls Try.prog 24 #[.slice (some ⟨rb, 0, none⟩) R.length R.length, .int .i64 g, .int .i64 f, .int .i64 t, .int .u64 ow] w fun e w' => e = .returned (.int .i64 2) ∧ w = w' := by
  rcases (show g < 0 ∨ (0 ≤ g ∧ (R.length : Int) ≤ g) by omega) with h2 | ⟨h2, h3⟩
  all_goals clear h1
  all_goals go_enter Try.func24, Try.ntmps24
  all_goals go_wp2_with fail
  all_goals go_ret
  all_goals exact ⟨rfl, rfl⟩
theorem rHold_out (rb : Nat) (R : List Rw) (g : Int) (w : World) (h1 : g < 0 ∨ (R.length : Int) ≤ g) :
    Calls Try.prog 25 #[.slice (some ⟨rb, 0, none⟩) R.length R.length, .int .i64 g] w fun e w' => e = .returned (.int .i64 2) ∧ w = w' := by
  rcases (show g < 0 ∨ (0 ≤ g ∧ (R.length : Int) ≤ g) by omega) with h2 | ⟨h2, h3⟩
  all_goals clear h1
  all_goals go_enter Try.func25, Try.ntmps25
  all_goals go_wp2_with fail
  all_goals go_ret
  all_goals exact ⟨rfl, rfl⟩
theorem rLet_out (rb : Nat) (R : List Rw) (g : Int) (w : World) (h1 : g < 0 ∨ (R.length : Int) ≤ g) :
    Calls Try.prog 26 #[.slice (some ⟨rb, 0, none⟩) R.length R.length, .int .i64 g] w fun e w' => e = .returned (.int .i64 2) ∧ w = w' := by
  rcases (show g < 0 ∨ (0 ≤ g ∧ (R.length : Int) ≤ g) by omega) with h2 | ⟨h2, h3⟩
  all_goals clear h1
  all_goals go_enter Try.func26, Try.ntmps26
  all_goals go_wp2_with fail
  all_goals go_ret
  all_goals exact ⟨rfl, rfl⟩
theorem rHold_in (rb : Nat) (R : List Rw) (g : Nat) (s o k : Int) (w : World) (h : RowsAt w rb R) (h1 : g < R.length) (hr : rowD R g = (s, o, k)) (hk0 : 0 ≤ k) (hk : k < 2147483647) :
    Calls Try.prog 25 #[.slice (some ⟨rb, 0, none⟩) R.length R.length, .int .i64 g] w fun e w' => e = .returned (.int .i64 0) ∧ UpdR w w' rb (R.set g (s, o, k + 1)) := by
  obtain ⟨c0, c1, c2⟩ := h.cells h1 hr
  have f2 := h.free (g * 3 + 2)
  have g1 : (g : Int) < (R.length : Int) := by omega
  have HH := Lib.hid h
  have HR := Lib.hid hr
  clear h hr
  go_enter Try.func25, Try.ntmps25
  go_wp2_with fail
  go_ret
  exact ⟨rfl, updR_held HH.out (Below.refl _ _) h1 HR.out⟩
theorem rLet_in (rb : Nat) (R : List Rw) (g : Nat) (s o k : Int) (w : World) (h : RowsAt w rb R) (h1 : g < R.length) (hr : rowD R g = (s, o, k)) (hk0 : 1 ≤ k) (hk : k ≤ 2147483647) :
    Calls Try.prog 26 #[.slice (some ⟨rb, 0, none⟩) R.length R.length, .int .i64 g] w fun e w' => e = .returned (.int .i64 0) ∧ UpdR w w' rb (R.set g (s, o, k - 1)) := by
  obtain ⟨c0, c1, c2⟩ := h.cells h1 hr
  have f2 := h.free (g * 3 + 2)
  have g1 : (g : Int) < (R.length : Int) := by omega
  have hq : (k == 0) = false := beq_eq_false_iff_ne.2 (by omega)
  have HH := Lib.hid h
  have HR := Lib.hid hr
  clear h hr
  go_enter Try.func26, Try.ntmps26
  go_wp2_with fail
  go_ret
  exact ⟨rfl, updR_held HH.out (Below.refl _ _) h1 HR.out⟩
theorem rLet_none (rb : Nat) (R : List Rw) (g : Nat) (s o : Int) (w : World) (h : RowsAt w rb R) (h1 : g < R.length) (hr : rowD R g = (s, o, 0)) :
    Calls Try.prog 26 #[.slice (some ⟨rb, 0, none⟩) R.length R.length, .int .i64 g] w fun e w' => e = .returned (.int .i64 6) ∧ w = w' := by
  obtain ⟨c0, c1, c2⟩ := h.cells h1 hr
  have g1 : (g : Int) < (R.length : Int) := by omega
  clear h hr
  go_enter Try.func26, Try.ntmps26
  go_wp2_with fail
  go_ret
  exact ⟨rfl, rfl⟩
end Go.Proofs.Ythdhcmmpeilbmaa
