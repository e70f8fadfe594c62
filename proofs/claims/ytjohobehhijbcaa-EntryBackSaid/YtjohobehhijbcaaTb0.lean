/- Contracts: may there be such a table (the reference, and the program's look for one that may not be)? Conditions: those that each theorem states. -/
import Derived.Test.YtjohobehhijbcaaGr
namespace Go.Proofs.Ytjohobehhijbcaa
open Go.ChangeShapes Go.WideShapes Go.ChangeAt Go.RowKit
set_option linter.unusedSimpArgs false

/-- Four entries in memory. -/
structure E4 (w : World) (b o : Nat) (k0 g0 k1 g1 k2 g2 k3 g3 : Int) : Prop where
  lt : b < w.heap.size
  c0 : w.cell? ⟨b, o, none⟩ = some (.int .i64 k0)
  c1 : w.cell? ⟨b, o + 1, none⟩ = some (.int .i64 g0)
  c2 : w.cell? ⟨b, o + 2, none⟩ = some (.int .i64 k1)
  c3 : w.cell? ⟨b, o + 3, none⟩ = some (.int .i64 g1)
  c4 : w.cell? ⟨b, o + 4, none⟩ = some (.int .i64 k2)
  c5 : w.cell? ⟨b, o + 5, none⟩ = some (.int .i64 g2)
  c6 : w.cell? ⟨b, o + 6, none⟩ = some (.int .i64 k3)
  c7 : w.cell? ⟨b, o + 7, none⟩ = some (.int .i64 g3)
theorem E4.of {w w' : World} {b o : Nat} {k0 g0 k1 g1 k2 g2 k3 g3 : Int} (h : E4 w b o k0 g0 k1 g1 k2 g2 k3 g3) (hb : w'.heap[b]? = w.heap[b]?) (hlt : b < w'.heap.size) : E4 w' b o k0 g0 k1 g1 k2 g2 k3 g3 :=
  have e := fun (j : Nat) => World.cell?_of_block (w := w) (w' := w') (a := ⟨b, j, none⟩) hb
  ⟨hlt, (e _).trans h.c0, (e _).trans h.c1, (e _).trans h.c2, (e _).trans h.c3, (e _).trans h.c4, (e _).trans h.c5, (e _).trans h.c6, (e _).trans h.c7⟩
theorem E4.below {w w' : World} {b o : Nat} {k0 g0 k1 g1 k2 g2 k3 g3 : Int} (h : E4 w b o k0 g0 k1 g1 k2 g2 k3 g3) (hb : Below w.heap.size w w') : E4 w' b o k0 g0 k1 g1 k2 g2 k3 g3 :=
  h.of (hb.block b h.lt) (Nat.lt_of_lt_of_le h.lt hb.size)
theorem E4.grown {w w' : World} {b o : Nat} {k0 g0 k1 g1 k2 g2 k3 g3 : Int} {r : Nat} (h : E4 w b o k0 g0 k1 g1 k2 g2 k3 g3) (hb : w.grownBy w' (some r)) (hne : b ≠ r) : E4 w' b o k0 g0 k1 g1 k2 g2 k3 g3 :=
  h.of (hb.block b h.lt (by simp [hne])) (Nat.lt_of_lt_of_le h.lt hb.size)
def ok4 (k0 g0 k1 g1 k2 g2 k3 g3 : Int) : Bool := mayB k0 g0 && (mayB k1 g1 && (mayB k2 g2 && mayB k3 g3))
theorem ok4_cases (k0 g0 k1 g1 k2 g2 k3 g3 : Int) : mayB k0 g0 = false ∨ (mayB k0 g0 = true ∧ mayB k1 g1 = false) ∨ (mayB k0 g0 = true ∧ mayB k1 g1 = true ∧ mayB k2 g2 = false) ∨ (mayB k0 g0 = true ∧ mayB k1 g1 = true ∧ mayB k2 g2 = true ∧ mayB k3 g3 = false) ∨ (mayB k0 g0 = true ∧ mayB k1 g1 = true ∧ mayB k2 g2 = true ∧ mayB k3 g3 = true) := by
  cases mayB k0 g0 <;> cases mayB k1 g1 <;> cases mayB k2 g2 <;> cases mayB k3 g3 <;> simp

set_option maxHeartbeats 2000000 in
theorem rmay4 (b o c : Nat) (k0 g0 k1 g1 k2 g2 k3 g3 : Int) (w : World) (h : E4 w b o k0 g0 k1 g1 k2 g2 k3 g3) :
    Calls Try.prog 33 #[.slice (some ⟨b, o, none⟩) 4 c] w fun e w' => e = .returned (.bool (ok4 k0 g0 k1 g1 k2 g2 k3 g3)) ∧ Below w.heap.size w w' := by
  obtain ⟨lt, c0, c1, c2, c3, c4, c5, c6, c7⟩ := h
  have HE : Hid (E4 w b o k0 g0 k1 g1 k2 g2 k3 g3) := ⟨lt, c0, c1, c2, c3, c4, c5, c6, c7⟩
  have HB : Hid (Below w.heap.size w w) := Below.refl _ _
  unfold ok4
  clear lt
  rcases ok4_cases k0 g0 k1 g1 k2 g2 k3 g3 with m0 | ⟨m0, m1⟩ | ⟨m0, m1, m2⟩ | ⟨m0, m1, m2, m3⟩ | ⟨m0, m1, m2, m3⟩
  all_goals go_enter Try.func33, Try.ntmps33
  all_goals go_wp2_with fail
  all_goals refine wp_loop_rounds 5 ?_
  all_goals
    iterate 5
      try rw [rounds_succ]
      try go_wp2_with (go_at_call 22; refine (EntryMays.rmayq _ _ _).mono ?_; rintro e w' ⟨rfl, hb⟩; replace HE := Lib.hid (HE.out.below hb); replace HB := Lib.hid (HB.out.trans (hb.mono HB.out.size)); clear hb c0 c1 c2 c3 c4 c5 c6 c7; obtain ⟨lt, c0, c1, c2, c3, c4, c5, c6, c7⟩ := HE.out; clear lt)
  all_goals go_ret
  all_goals exact ⟨ret_bool (by simp [m0, *]), HB.out⟩

theorem not48 (k g : Int) (w : World) :
    Calls Try.prog 48 #[.agg #[.int .i64 k, .int .i64 g]] w fun e w' => e = .returned (.bool (!mayB k g)) ∧ Below w.heap.size w w' := by
  go_enter Try.func48, Try.ntmps48
  go_wp2_with (go_at_call 21; refine (EntryMays.mayq _ _ _).mono ?_; rintro e w' ⟨rfl, hb⟩)
  go_ret
  exact ⟨rfl, ((Below.refl _ _).alloc (Nat.le_refl _) _).trans (hb.mono (by simp))⟩

set_option maxHeartbeats 2000000 in
theorem index4 (b o c : Nat) (k0 g0 k1 g1 k2 g2 k3 g3 : Int) (w : World) (h : E4 w b o k0 g0 k1 g1 k2 g2 k3 g3) :
    Calls Try.prog 49 #[.slice (some ⟨b, o, none⟩) 4 c, .func (.func 48) #[] #[]] w fun e w' => (∃ n : Int, e = .returned (.int .i64 n) ∧ decide (0 ≤ n) = !ok4 k0 g0 k1 g1 k2 g2 k3 g3) ∧ Below w.heap.size w w' := by
  obtain ⟨lt, c0, c1, c2, c3, c4, c5, c6, c7⟩ := h
  have HE : Hid (E4 w b o k0 g0 k1 g1 k2 g2 k3 g3) := ⟨lt, c0, c1, c2, c3, c4, c5, c6, c7⟩
  have HB : Hid (Below w.heap.size w w) := Below.refl _ _
  unfold ok4
  clear lt
  rcases ok4_cases k0 g0 k1 g1 k2 g2 k3 g3 with m0 | ⟨m0, m1⟩ | ⟨m0, m1, m2⟩ | ⟨m0, m1, m2, m3⟩ | ⟨m0, m1, m2, m3⟩
  all_goals go_enter Try.func49, Try.ntmps49
  all_goals go_wp2_with fail
  all_goals refine wp_loop_rounds 5 ?_
  all_goals
    iterate 5
      try rw [rounds_succ]
      try go_wp2_with (go_at_call 48; refine (not48 _ _ _).mono ?_; rintro e w' ⟨rfl, hb⟩; replace HE := Lib.hid (HE.out.below hb); replace HB := Lib.hid (HB.out.trans (hb.mono HB.out.size)); clear hb c0 c1 c2 c3 c4 c5 c6 c7; obtain ⟨lt, c0, c1, c2, c3, c4, c5, c6, c7⟩ := HE.out; clear lt)
  all_goals go_ret
  all_goals exact ⟨⟨_, rfl, by simp [m0, *]⟩, HB.out⟩
theorem contains4 (b o c : Nat) (k0 g0 k1 g1 k2 g2 k3 g3 : Int) (w : World) (h : E4 w b o k0 g0 k1 g1 k2 g2 k3 g3) :
    Calls Try.prog 47 #[.slice (some ⟨b, o, none⟩) 4 c, .func (.func 48) #[] #[]] w fun e w' => e = .returned (.bool (!ok4 k0 g0 k1 g1 k2 g2 k3 g3)) ∧ Below w.heap.size w w' := by
  have HE := Lib.hid h
  clear h
  go_enter Try.func47, Try.ntmps47
  go_wp2_with (go_at_call 49; refine (index4 _ _ _ _ _ _ _ _ _ _ _ _ HE.out).mono ?_; rintro e w' ⟨⟨n, rfl, hn⟩, hb⟩)
  all_goals go_ret
  all_goals exact ⟨ret_bool (by rw [← hn]), hb⟩

/-- So many entries, whatever they are. -/
structure En (w : World) (x : Option Addr) (n : Nat) : Prop where
  loc : 0 < n → ∃ b o, x = some ⟨b, o, none⟩ ∧ b < w.heap.size ∧ ∀ i, i < n → ∃ k g : Int, w.cell? ⟨b, o + i * 2, none⟩ = some (.int .i64 k) ∧ w.cell? ⟨b, o + i * 2 + 1, none⟩ = some (.int .i64 g)
theorem En.below {w w' : World} {x : Option Addr} {n : Nat} (h : En w x n) (hb : Below w.heap.size w w') : En w' x n :=
  ⟨fun h0 => by
    obtain ⟨b, o, hx, hlt, hc⟩ := h.loc h0
    refine ⟨b, o, hx, Nat.lt_of_lt_of_le hlt hb.size, fun i hi => ?_⟩
    obtain ⟨k, g, h1, h2⟩ := hc i hi
    exact ⟨k, g, (hb.cell (p := ⟨b, o + i * 2, none⟩) hlt).trans h1, (hb.cell (p := ⟨b, o + i * 2 + 1, none⟩) hlt).trans h2⟩⟩

set_option maxHeartbeats 1000000 in
theorem rmay_ne (x : Option Addr) (n c : Nat) (w : World) (h : En w x n) (hn : n ≠ 4) (hm : n ≤ maxLen) :
    Calls Try.prog 33 #[.slice x n c] w fun e w' => e = .returned (.bool false) ∧ Below w.heap.size w w' := by
  unfold maxLen at hm
  go_enter Try.func33, Try.ntmps33
  go_wp2_with fail
  go_loopw [3] (fun i wr => ∃ k : Nat, k ≤ n ∧ i = .int .i64 k ∧ Below w.heap.size w wr) (fun i _ => n - (intOf i).toNat)
  case atStart => exact ⟨0, Nat.zero_le _, rfl, Below.refl _ _⟩
  case round =>
    obtain ⟨k, hk, rfl, hb⟩ := hrel
    by_cases hlt : k < n ∧ k < 5
    · obtain ⟨hl1, hl2⟩ := hlt
      obtain ⟨b, o, rfl, hbl, hc⟩ := (h.below hb).loc (by omega)
      obtain ⟨kk, gg, c0, c1⟩ := hc k hl1
      have HB := Lib.hid hb
      clear hb hc hbl
      cases hm0 : mayB kk gg
      · go_wp2_with (go_at_call 22; refine (EntryMays.rmayq _ _ _).mono ?_; rintro e w' ⟨rfl, hb⟩; replace HB := Lib.hid (HB.out.trans (hb.mono HB.out.size)); clear hb)
        all_goals first | (exfalso; omega) | skip
        go_ret
        exact ⟨rfl, HB.out⟩
      · go_wp2_with (go_at_call 22; refine (EntryMays.rmayq _ _ _).mono ?_; rintro e w' ⟨rfl, hb⟩; replace HB := Lib.hid (HB.out.trans (hb.mono HB.out.size)); clear hb)
        all_goals first | (exfalso; omega) | skip
        go_roundw
        case rel => exact ⟨k + 1, by omega, by go_num, HB.out⟩
        case measure => simp [intOf]; omega
    · rcases (show n ≤ k ∨ (k < n ∧ 5 ≤ k) by omega) with q | ⟨q1, q2⟩
      all_goals go_wp2_with fail
      all_goals first | (exfalso; omega) | skip
      all_goals go_ret
      all_goals refine ⟨ret_bool ?_, hb⟩
      all_goals (rw [Bool.eq_iff_iff]; simp; omega)
end Go.Proofs.Ytjohobehhijbcaa
