/- The statements EntryPlaces and EntryNests: whatever page and level, slots, first pages and how many pages are what the chapter says. -/
import Derived.Test.YtjohobehhijbcaaKno
namespace Go.Proofs.Ytjohobehhijbcaa
open Go.ChangeShapes Go.WideShapes Go.ChangeAt Go.RowKit
set_option linter.unusedSimpArgs false
theorem own : ownKnob Try.prog.godebug = none := by kernel_rfl
theorem laidOut : laidOutB Try.prog = true := by kernel_rfl
theorem read3 : Try.prog.readableRec 3 = true ∧ 3 < Try.prog.types.size := ⟨by kernel_rfl, of_decide_eq_true (by kernel_rfl)⟩

namespace EntryPlaces
set_option maxHeartbeats 1000000 in
theorem walk (p l : Int) (w : World) :
    Calls Try.prog 4 #[.int .i64 p, .int .i64 l] w fun e w' => e = .returned (.bool true) ∧ Below w.heap.size w w' := by
  rcases (show (0 ≤ p ∧ p < 256 ∧ 0 ≤ l ∧ l < 4) ∨ ((p < 0 ∨ 256 ≤ p) ∧ 0 ≤ l ∧ l < 4) ∨ (l < 0 ∨ 4 ≤ l) by omega) with ⟨h1, h2, h3, h4⟩ | ⟨h1, h3, h4⟩ | h3
  · go_enter Try.func4, Try.ntmps4
    go_wp2_with (first | (go_at_call 13; refine (slot_yes _ _ _ h1 h2 h3 h4).mono ?_; rintro e w' ⟨rfl, rfl⟩) | (go_at_call 14; refine (first_yes _ _ _ h1 h2 h3 h4).mono ?_; rintro e w' ⟨rfl, rfl⟩) | (go_at_call 15; refine (many_yes _ _ h3 h4).mono ?_; rintro e w' ⟨rfl, rfl⟩) | (go_at_call 18; refine (rslot _ _ _ h1 h2 h3 h4).mono ?_; rintro e w' ⟨rfl, rfl⟩) | (go_at_call 19; refine (rfirst _ _ _ h1 h2 h3 h4).mono ?_; rintro e w' ⟨rfl, rfl⟩) | (go_at_call 17; refine (rmany _ _ h3 h4).mono ?_; rintro e w' ⟨rfl, rfl⟩) | (go_at_call 16; refine (there_yes _ _ _ (by omega) (by omega) h3 h4).mono ?_; rintro e w' ⟨rfl, rfl⟩) | (go_at_call 11; refine (num_any _ _).mono ?_; rintro e w' ⟨rfl, rfl⟩) | (go_at_call 12; refine (known_any _).mono ?_; rintro e w3 ⟨rfl, hb3⟩))
    go_ret
    exact ⟨rfl, hb3⟩
  · have H : Hid (p < 0 ∨ 256 ≤ p ∨ l < 0 ∨ 4 ≤ l) := by rcases h1 with h | h <;> simp [Hid, h]
    clear h1
    go_enter Try.func4, Try.ntmps4
    go_wp2_with (first | (go_at_call 13; refine (slot_no _ _ _ H.out).mono ?_; rintro e w' ⟨rfl, rfl⟩) | (go_at_call 14; refine (first_no _ _ _ H.out).mono ?_; rintro e w' ⟨rfl, rfl⟩) | (go_at_call 15; refine (many_yes _ _ h3 h4).mono ?_; rintro e w' ⟨rfl, rfl⟩) | (go_at_call 17; refine (rmany _ _ h3 h4).mono ?_; rintro e w' ⟨rfl, rfl⟩) | (go_at_call 16; with_reducible refine (there_yes 0 _ _ (by omega) (by omega) h3 h4).mono ?_; rintro e w' ⟨rfl, rfl⟩) | (go_at_call 16; refine (there_no _ _ _ H.out).mono ?_; rintro e w' ⟨rfl, rfl⟩) | (go_at_call 11; refine (num_any _ _).mono ?_; rintro e w' ⟨rfl, rfl⟩) | (go_at_call 12; refine (known_any _).mono ?_; rintro e w3 ⟨rfl, hb3⟩))
    go_ret
    exact ⟨rfl, hb3⟩
  · have H : Hid (p < 0 ∨ 256 ≤ p ∨ l < 0 ∨ 4 ≤ l) := by rcases h3 with h | h <;> simp [Hid, h]
    have H0 : Hid (l < 0 ∨ 4 ≤ l) := h3
    clear h3
    go_enter Try.func4, Try.ntmps4
    go_wp2_with (first | (go_at_call 13; refine (slot_no _ _ _ H.out).mono ?_; rintro e w' ⟨rfl, rfl⟩) | (go_at_call 14; refine (first_no _ _ _ H.out).mono ?_; rintro e w' ⟨rfl, rfl⟩) | (go_at_call 15; refine (many_no _ _ H0.out).mono ?_; rintro e w' ⟨rfl, rfl⟩) | (go_at_call 16; refine (there_no _ _ _ (by have := H0.out; omega)).mono ?_; rintro e w' ⟨rfl, rfl⟩) | (go_at_call 11; refine (num_any _ _).mono ?_; rintro e w' ⟨rfl, rfl⟩) | (go_at_call 12; refine (known_any _).mono ?_; rintro e w3 ⟨rfl, hb3⟩))
    go_ret
    exact ⟨rfl, hb3⟩
theorem hread : ∀ t ∈ Try.f4.params.toList, Try.prog.readableRec t = true ∧ t < Try.prog.types.size := by
  rw [Try.params4]
  intro t ht
  simp at ht
  subst ht
  exact read3

set_option maxRecDepth 100000 in
theorem lifted (os : Os) (started : os.Started) (H : Type) (enc : TypeId × Value → H) :
    ReturnsInHanded {} Try.checked os 4 .any (Rows.entryPlacesSpec.pre6 enc Try.prog Try.f4 Rows.entryPlacesRow.domain false) (Rows.entryPlacesSpec.post enc Try.prog Try.f4 false true false false) := by
  refine returnsInHanded_of_change (C := Try.checked) own started (by kernel_rfl) Try.func4
    (ChangeSpec.witness6 (enc := enc) (C := Try.checked) false ⟨#[], #[.int .i64 0, .int .i64 0], []⟩ 8 (by kernel_rfl) (by kernel_rfl) (by kernel_rfl) (by kernel_rfl)) ?_
  intro W base args ds gs before hval0 hW hcnd _
  have hval : ∀ (j : Nat) t v, Try.f4.params[j]? = some t → args[j]? = some v → Value.okWide Try.prog W .any base t v := hval0
  have hW' := hW
  obtain ⟨p, q, hA0, hV, rfl, hfz, hnd⟩ := hW
  have hA : DataW.TrodAll enc Try.prog W 0 (fun _ => true) true Try.f4.params.toList args.toList ds p := hA0
  have hA1 := hA
  rw [Try.params4] at hA hval
  obtain ⟨v0, vs0, d0, ds0, p0, q0, hargs, rfl, rfl, h0, r0⟩ := trodAll_cons hA
  obtain ⟨v1, vs1, d1, ds1, p1, q1, rfl, rfl, rfl, h1, r1⟩ := trodAll_cons r0
  obtain ⟨rfl, rfl, rfl⟩ := trodAll_nil r1
  obtain rfl : args = #[v0, v1] := by cases args; simp_all
  obtain ⟨rfl, rfl⟩ := trodVars_none hV
  obtain ⟨a0, rfl, rfl, rfl, w0⟩ := open_int Try.underlying3 (hval 0 3 v0 rfl rfl) h0
  obtain ⟨a1, rfl, rfl, rfl, w1⟩ := open_int Try.underlying3 (hval 1 3 v1 rfl rfl) h1
  clear hA0 hval0
  simp only [List.append_nil] at hW' hA1
  refine (walk a0 a1 W).mono fun e W' ⟨he, hg⟩ => ?_
  subst he
  exact ⟨_, rfl, post_true hW' hA1 rfl rfl (fun _ => rfl) rfl Try.underlying4 laidOut hread hg⟩

theorem over : Rows.entryPlacesRow.holds Try.pinned (OpenSpec.ofChange Rows.entryPlacesSpec) :=
  OpenClaim.holds_of_wide 4 Try.f4 rfl rfl rfl rfl rfl rfl rfl ⟨rfl, rfl, rfl, rfl, rfl⟩ rfl rfl rfl rfl rfl (by kernel_rfl) Try.func4 (by kernel_rfl)
    (of_decide_eq_true (by kernel_rfl)) (by unfold Func.isWrapper; first | (rw [if_pos (by decide +kernel)]; kernel_rfl) | (rw [if_neg (by decide +kernel)]; exact ⟨rfl, rfl⟩))
    (fun os started H enc _ => lifted os started H enc)

/-- The statement. -/
theorem proved : Rows.EntryPlacesSaid := over
end EntryPlaces
namespace EntryNests
/-- What the three functions answer at a page that is there, on a level above the last, and on the one below it. -/
structure At (p l M M' S F : Int) : Prop where
  s : ∀ w, Calls Try.prog 13 #[.int .i64 p, .int .i64 l] w fun e w' => e = .returned (.tuple #[.int .i64 S, .int .i64 0]) ∧ w = w'
  f : ∀ w, Calls Try.prog 14 #[.int .i64 p, .int .i64 l] w fun e w' => e = .returned (.tuple #[.int .i64 F, .int .i64 0]) ∧ w = w'
  m : ∀ w, Calls Try.prog 15 #[.int .i64 l] w fun e w' => e = .returned (.tuple #[.int .i64 M, .int .i64 0]) ∧ w = w'
  g : ∀ w, Calls Try.prog 14 #[.int .i64 p, .int .i64 (l + 1)] w fun e w' => e = .returned (.tuple #[.int .i64 (F + S * M), .int .i64 0]) ∧ w = w'
  n : ∀ w, Calls Try.prog 15 #[.int .i64 (l + 1)] w fun e w' => e = .returned (.tuple #[.int .i64 M', .int .i64 0]) ∧ w = w'

theorem at_of {p l M M' : Int} (h1 : 0 ≤ p) (h2 : p < 256) (h3 : 0 ≤ l) (h4 : l < 3) (hM : manyV l = M) (hM' : manyV (l + 1) = M') (hf : firstV p (l + 1) = firstV p l + slotV p l * M) : At p l M M' (slotV p l) (firstV p l) where
  s w := slot_yes p l w h1 h2 h3 (by omega)
  f w := first_yes p l w h1 h2 h3 (by omega)
  m w := hM ▸ many_yes l w h3 (by omega)
  g w := hf ▸ first_yes p (l + 1) w h1 h2 (by omega) (by omega)
  n w := hM' ▸ many_yes (l + 1) w (by omega) (by omega)

set_option maxHeartbeats 1000000 in
theorem core0 (p S F : Int) (w : World) (h1 : 0 ≤ p) (h2 : p < 256) (hS1 : 0 ≤ S) (hS2 : S < 4) (hF1 : 0 ≤ F) (hF2 : F < 256) (hF : F % 64 = 0) (A : Hid (At p 0 64 16 S F)) :
    Calls Try.prog 5 #[.int .i64 p, .int .i64 0] w fun e w' => e = .returned (.bool true) ∧ Below w.heap.size w w' := by
  have e1 : (F + S * 64) % 64 = 0 := by omega
  go_enter Try.func5, Try.ntmps5
  go_wp2_with (first | (go_at_call 13; refine (A.out.s _).mono ?_; rintro e w' ⟨rfl, rfl⟩) | (go_at_call 14; with_reducible refine (A.out.f _).mono ?_; rintro e w' ⟨rfl, rfl⟩) | (go_at_call 14; refine (A.out.g _).mono ?_; rintro e w' ⟨rfl, rfl⟩) | (go_at_call 15; with_reducible refine (A.out.m _).mono ?_; rintro e w' ⟨rfl, rfl⟩) | (go_at_call 15; refine (A.out.n _).mono ?_; rintro e w' ⟨rfl, rfl⟩) | (go_at_call 16; refine (there_yes _ _ _ h1 h2 (by omega) (by omega)).mono ?_; rintro e w' ⟨rfl, rfl⟩) | (go_at_call 11; refine (num_any _ _).mono ?_; rintro e w' ⟨rfl, rfl⟩) | (go_at_call 12; refine (known_any _).mono ?_; rintro e w3 ⟨rfl, hb3⟩))
  go_ret
  exact ⟨rfl, hb3⟩
set_option maxHeartbeats 1000000 in
theorem core1 (p S F : Int) (w : World) (h1 : 0 ≤ p) (h2 : p < 256) (hS1 : 0 ≤ S) (hS2 : S < 4) (hF1 : 0 ≤ F) (hF2 : F < 256) (hF : F % 16 = 0) (A : Hid (At p 1 16 4 S F)) :
    Calls Try.prog 5 #[.int .i64 p, .int .i64 1] w fun e w' => e = .returned (.bool true) ∧ Below w.heap.size w w' := by
  have e1 : (F + S * 16) % 16 = 0 := by omega
  go_enter Try.func5, Try.ntmps5
  go_wp2_with (first | (go_at_call 13; refine (A.out.s _).mono ?_; rintro e w' ⟨rfl, rfl⟩) | (go_at_call 14; with_reducible refine (A.out.f _).mono ?_; rintro e w' ⟨rfl, rfl⟩) | (go_at_call 14; refine (A.out.g _).mono ?_; rintro e w' ⟨rfl, rfl⟩) | (go_at_call 15; with_reducible refine (A.out.m _).mono ?_; rintro e w' ⟨rfl, rfl⟩) | (go_at_call 15; refine (A.out.n _).mono ?_; rintro e w' ⟨rfl, rfl⟩) | (go_at_call 16; refine (there_yes _ _ _ h1 h2 (by omega) (by omega)).mono ?_; rintro e w' ⟨rfl, rfl⟩) | (go_at_call 11; refine (num_any _ _).mono ?_; rintro e w' ⟨rfl, rfl⟩) | (go_at_call 12; refine (known_any _).mono ?_; rintro e w3 ⟨rfl, hb3⟩))
  go_ret
  exact ⟨rfl, hb3⟩
set_option maxHeartbeats 1000000 in
theorem core2 (p S F : Int) (w : World) (h1 : 0 ≤ p) (h2 : p < 256) (hS1 : 0 ≤ S) (hS2 : S < 4) (hF1 : 0 ≤ F) (hF2 : F < 256) (hF : F % 4 = 0) (A : Hid (At p 2 4 1 S F)) :
    Calls Try.prog 5 #[.int .i64 p, .int .i64 2] w fun e w' => e = .returned (.bool true) ∧ Below w.heap.size w w' := by
  have e1 : (F + S * 4) % 4 = 0 := by omega
  go_enter Try.func5, Try.ntmps5
  go_wp2_with (first | (go_at_call 13; refine (A.out.s _).mono ?_; rintro e w' ⟨rfl, rfl⟩) | (go_at_call 14; with_reducible refine (A.out.f _).mono ?_; rintro e w' ⟨rfl, rfl⟩) | (go_at_call 14; refine (A.out.g _).mono ?_; rintro e w' ⟨rfl, rfl⟩) | (go_at_call 15; with_reducible refine (A.out.m _).mono ?_; rintro e w' ⟨rfl, rfl⟩) | (go_at_call 15; refine (A.out.n _).mono ?_; rintro e w' ⟨rfl, rfl⟩) | (go_at_call 16; refine (there_yes _ _ _ h1 h2 (by omega) (by omega)).mono ?_; rintro e w' ⟨rfl, rfl⟩) | (go_at_call 11; refine (num_any _ _).mono ?_; rintro e w' ⟨rfl, rfl⟩) | (go_at_call 12; refine (known_any _).mono ?_; rintro e w3 ⟨rfl, hb3⟩))
  go_ret
  exact ⟨rfl, hb3⟩

theorem walk (p l : Int) (w : World) :
    Calls Try.prog 5 #[.int .i64 p, .int .i64 l] w fun e w' => e = .returned (.bool true) ∧ Below w.heap.size w w' := by
  by_cases hin : 0 ≤ p ∧ p < 256 ∧ 0 ≤ l ∧ l < 4
  · obtain ⟨h1, h2, h3, h4⟩ := hin
    rcases lvl h3 h4 with rfl | rfl | rfl | rfl
    · exact core0 p _ _ w h1 h2 (by unfold slotV; omega) (by unfold slotV; omega) (by simp only [firstV, many0]; omega) (by simp only [firstV, many0]; omega) (by simp only [firstV, many0]; omega)
        (at_of h1 h2 h3 (by omega) rfl rfl (by simp only [firstV, slotV, many0, show manyV (0 + 1) = 16 from rfl]; omega))
    · exact core1 p _ _ w h1 h2 (by unfold slotV; omega) (by unfold slotV; omega) (by simp only [firstV, many1]; omega) (by simp only [firstV, many1]; omega) (by simp only [firstV, many1]; omega)
        (at_of h1 h2 h3 (by omega) rfl rfl (by simp only [firstV, slotV, many1, show manyV (1 + 1) = 4 from rfl]; omega))
    · exact core2 p _ _ w h1 h2 (by unfold slotV; omega) (by unfold slotV; omega) (by simp only [firstV, many2]; omega) (by simp only [firstV, many2]; omega) (by simp only [firstV, many2]; omega)
        (at_of h1 h2 h3 (by omega) rfl rfl (by simp only [firstV, slotV, many2, show manyV (2 + 1) = 1 from rfl]; omega))
    · go_enter Try.func5, Try.ntmps5
      go_wp2_with (first | (go_at_call 13; refine (slot_yes _ _ _ h1 h2 h3 h4).mono ?_; rintro e w' ⟨rfl, rfl⟩) | (go_at_call 14; refine (first_yes _ _ _ h1 h2 h3 h4).mono ?_; rintro e w' ⟨rfl, rfl⟩) | (go_at_call 15; refine (many_yes _ _ h3 h4).mono ?_; rintro e w' ⟨rfl, rfl⟩) | (go_at_call 16; refine (there_yes _ _ _ h1 h2 h3 h4).mono ?_; rintro e w' ⟨rfl, rfl⟩) | (go_at_call 11; refine (num_any _ _).mono ?_; rintro e w' ⟨rfl, rfl⟩) | (go_at_call 12; refine (known_any _).mono ?_; rintro e w3 ⟨rfl, hb3⟩))
      go_ret
      exact ⟨rfl, hb3⟩
  · have H : Hid (p < 0 ∨ 256 ≤ p ∨ l < 0 ∨ 4 ≤ l) := by unfold Hid; omega
    clear hin
    by_cases hl : 0 ≤ l ∧ l < 4
    · obtain ⟨h3, h4⟩ := hl
      go_enter Try.func5, Try.ntmps5
      go_wp2_with (first | (go_at_call 13; refine (slot_no _ _ _ H.out).mono ?_; rintro e w' ⟨rfl, rfl⟩) | (go_at_call 14; refine (first_no _ _ _ H.out).mono ?_; rintro e w' ⟨rfl, rfl⟩) | (go_at_call 15; refine (many_yes _ _ h3 h4).mono ?_; rintro e w' ⟨rfl, rfl⟩) | (go_at_call 16; refine (there_no _ _ _ H.out).mono ?_; rintro e w' ⟨rfl, rfl⟩) | (go_at_call 11; refine (num_any _ _).mono ?_; rintro e w' ⟨rfl, rfl⟩) | (go_at_call 12; refine (known_any _).mono ?_; rintro e w3 ⟨rfl, hb3⟩))
      go_ret
      exact ⟨rfl, hb3⟩
    · have H0 : Hid (l < 0 ∨ 4 ≤ l) := by unfold Hid; omega
      clear hl
      go_enter Try.func5, Try.ntmps5
      go_wp2_with (first | (go_at_call 13; refine (slot_no _ _ _ H.out).mono ?_; rintro e w' ⟨rfl, rfl⟩) | (go_at_call 14; refine (first_no _ _ _ H.out).mono ?_; rintro e w' ⟨rfl, rfl⟩) | (go_at_call 15; refine (many_no _ _ H0.out).mono ?_; rintro e w' ⟨rfl, rfl⟩) | (go_at_call 16; refine (there_no _ _ _ H.out).mono ?_; rintro e w' ⟨rfl, rfl⟩) | (go_at_call 11; refine (num_any _ _).mono ?_; rintro e w' ⟨rfl, rfl⟩) | (go_at_call 12; refine (known_any _).mono ?_; rintro e w3 ⟨rfl, hb3⟩))
      go_ret
      exact ⟨rfl, hb3⟩
theorem hread : ∀ t ∈ Try.f5.params.toList, Try.prog.readableRec t = true ∧ t < Try.prog.types.size := by
  rw [Try.params5]
  intro t ht
  simp at ht
  subst ht
  exact read3

set_option maxRecDepth 100000 in
theorem lifted (os : Os) (started : os.Started) (H : Type) (enc : TypeId × Value → H) :
    ReturnsInHanded {} Try.checked os 5 .any (Rows.entryNestsSpec.pre6 enc Try.prog Try.f5 Rows.entryNestsRow.domain false) (Rows.entryNestsSpec.post enc Try.prog Try.f5 false true false false) := by
  refine returnsInHanded_of_change (C := Try.checked) own started (by kernel_rfl) Try.func5
    (ChangeSpec.witness6 (enc := enc) (C := Try.checked) false ⟨#[], #[.int .i64 0, .int .i64 0], []⟩ 8 (by kernel_rfl) (by kernel_rfl) (by kernel_rfl) (by kernel_rfl)) ?_
  intro W base args ds gs before hval0 hW hcnd _
  have hval : ∀ (j : Nat) t v, Try.f5.params[j]? = some t → args[j]? = some v → Value.okWide Try.prog W .any base t v := hval0
  have hW' := hW
  obtain ⟨p, q, hA0, hV, rfl, hfz, hnd⟩ := hW
  have hA : DataW.TrodAll enc Try.prog W 0 (fun _ => true) true Try.f5.params.toList args.toList ds p := hA0
  have hA1 := hA
  rw [Try.params5] at hA hval
  obtain ⟨v0, vs0, d0, ds0, p0, q0, hargs, rfl, rfl, h0, r0⟩ := trodAll_cons hA
  obtain ⟨v1, vs1, d1, ds1, p1, q1, rfl, rfl, rfl, h1, r1⟩ := trodAll_cons r0
  obtain ⟨rfl, rfl, rfl⟩ := trodAll_nil r1
  obtain rfl : args = #[v0, v1] := by cases args; simp_all
  obtain ⟨rfl, rfl⟩ := trodVars_none hV
  obtain ⟨a0, rfl, rfl, rfl, w0⟩ := open_int Try.underlying3 (hval 0 3 v0 rfl rfl) h0
  obtain ⟨a1, rfl, rfl, rfl, w1⟩ := open_int Try.underlying3 (hval 1 3 v1 rfl rfl) h1
  clear hA0 hval0
  simp only [List.append_nil] at hW' hA1
  refine (walk a0 a1 W).mono fun e W' ⟨he, hg⟩ => ?_
  subst he
  exact ⟨_, rfl, post_true hW' hA1 rfl rfl (fun _ => rfl) rfl Try.underlying4 laidOut hread hg⟩

theorem over : Rows.entryNestsRow.holds Try.pinned (OpenSpec.ofChange Rows.entryNestsSpec) :=
  OpenClaim.holds_of_wide 5 Try.f5 rfl rfl rfl rfl rfl rfl rfl ⟨rfl, rfl, rfl, rfl, rfl⟩ rfl rfl rfl rfl rfl (by kernel_rfl) Try.func5 (by kernel_rfl)
    (of_decide_eq_true (by kernel_rfl)) (by unfold Func.isWrapper; first | (rw [if_pos (by decide +kernel)]; kernel_rfl) | (rw [if_neg (by decide +kernel)]; exact ⟨rfl, rfl⟩))
    (fun os started H enc _ => lifted os started H enc)

/-- The statement. -/
theorem proved : Rows.EntryNestsSaid := over
end EntryNests
end Go.Proofs.Ytjohobehhijbcaa
