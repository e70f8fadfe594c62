/- The statement GranuleHeld: what is held so often is let go just so often, and makes no step from the host till then. -/
import Derived.Test.YthdhcmmpeilbmaaKno
namespace Go.Proofs.Ythdhcmmpeilbmaa
open Go.ChangeShapes Go.WideShapes Go.ChangeAt Go.RowKit
set_option linter.unusedSimpArgs false
namespace GranuleHeld

theorem use_lit {tb rb : Nat} {k : Int} {w : World} (h : Tab w tb rb [(0, 0, k)]) (hk : 0 < k) :
    Calls Try.prog 13 #[.pointer (some ⟨tb, 0, none⟩), .int .i64 0, .int .i64 0, .int .i64 1, .int .u64 0] w fun e w' => e = .returned (.int .i64 9) ∧ Upd w w' tb rb [(0, 0, k)] :=
  Step_lit (R := [(0, 0, k)]) (R' := [(0, 0, k)]) (g := 0) (f := 0) (t := 1) (ow := 0) (c := 9) (r' := (0, 0, k)) h (by simp) rfl (by simp [stepR, stepF, hk]) rfl

set_option maxHeartbeats 1000000 in
theorem walkin (n : Nat) (w : World) (hn : n ≤ 500) :
    Calls Try.prog 4 #[.int .i64 n] w fun e w' => e = .returned (.bool true) ∧ Below w.heap.size w w' := by
  go_enter Try.func4, Try.ntmps4
  go_wp2_with fail
  refine (new_yes 1 _ (by omega) (by omega)).mono ?_
  rintro e w1 ⟨rfl, t1, b1⟩
  have z1 := t1.lt.1
  go_wp2_with fail
  go_loopw [5] (fun i wr => ∃ k : Nat, k ≤ n ∧ i = .int .i64 k ∧ Tab wr (w.heap.size + 1) w.heap.size [(0, 0, (k : Int))] ∧ Below w.heap.size w wr) (fun i _ => n - (intOf i).toNat)
  case atStart => exact ⟨0, Nat.zero_le _, rfl, t1, b1⟩
  case round =>
    obtain ⟨k, hk, rfl, tk, bk⟩ := hrel
    by_cases hlt : k < n
    · have zk := tk.lt.1
      go_wp2_with (go_at_call 12; refine (Hold_lit (R := [(0, 0, (k : Int))]) (R' := [(0, 0, (k : Int) + 1)]) (g := 0) tk (by simp) rfl (by omega) (by omega) rfl).mono ?_; rintro e w2 ⟨rfl, u2⟩)
      have b2 := upd_below bk (by omega) u2 (by omega)
      have t2 := u2.tab
      go_roundw
      case rel => exact ⟨k + 1, by omega, by go_num, t2, b2⟩
      case measure => simp [intOf]; omega
    · obtain rfl : k = n := by omega
      clear t1 b1
      go_wp2_with fail
      go_loopw [6] (fun i wr => ∃ j : Nat, j ≤ k ∧ i = .int .i64 j ∧ Tab wr (w.heap.size + 1) w.heap.size [(0, 0, (k : Int) - j)] ∧ Below w.heap.size w wr) (fun i _ => k - (intOf i).toNat)
      case atStart => exact ⟨0, Nat.zero_le _, rfl, by simpa using tk, bk⟩
      case round =>
        obtain ⟨j, hj, rfl, tj, bj⟩ := hrel
        clear tk bk
        have zj := tj.lt.1
        by_cases hlj : j < k
        · go_wp2_with fail
          refine (Row_in _ _ [(0, 0, (k : Int) - j)] 0 0 0 _ _ tj (by simp) rfl).mono ?_
          rintro e w2 ⟨rfl, h2⟩
          have t2 := tj.below h2
          have b2 := bj.trans (h2.mono (by omega))
          have z2 := t2.lt.1
          clear tj bj h2
          go_wp2_with fail
          refine (use_lit (t2.below ((Below.refl _ _).alloc (Nat.le_refl _) _)) (by omega)).mono ?_
          rintro e w3 ⟨rfl, u3⟩
          have b3 := upd_below (b2.alloc (by omega) _) (by simp; omega) u3 (by omega)
          have t3 := u3.tab
          have z3 := t3.lt.1
          clear t2 b2 u3
          go_wp2_with fail
          refine (Let_lit (R := [(0, 0, (k : Int) - j)]) (R' := [(0, 0, (k : Int) - (j + 1 : Nat))]) (g := 0) t3 (by simp) rfl (by omega) (by omega) (by simp; omega)).mono ?_
          rintro e w4 ⟨rfl, u4⟩
          have b4 := upd_below b3 (by omega) u4 (by omega)
          have t4 := u4.tab
          clear t3 b3 u4
          go_wp2_with fail
          go_roundw
          case rel => exact ⟨j + 1, by omega, by go_num, t4, b4⟩
          case measure => simp [intOf]; omega
        · obtain rfl : j = k := by omega
          have tz : Tab wr (w.heap.size + 1) w.heap.size [(0, 0, 0)] := by simpa using tj
          clear tj
          go_wp2_with fail
          refine (Let_none _ _ [(0, 0, 0)] 0 0 0 _ tz (by decide) rfl).mono ?_
          rintro e w' ⟨rfl, rfl⟩
          go_wp2_with fail
          refine (Step_lit (R := [(0, 0, 0)]) (R' := [(1, 0, 0)]) (g := 0) (f := 0) (t := 1) (ow := 0) (c := 0) (r' := (1, 0, 0)) tz (by decide) rfl rfl rfl).mono ?_
          rintro e w3 ⟨rfl, u3⟩
          have b3 := upd_below bj (by omega) u3 (by omega)
          have z3 := u3.tab.lt.1
          clear tz bj u3
          go_wp2_with fail
          refine (known_any _).mono ?_
          rintro e w5 ⟨rfl, b5⟩
          go_wp2_with fail
          go_ret
          exact ⟨rfl, b3.trans (b5.mono (by omega))⟩

theorem walk (n : Int) (w : World) :
    Calls Try.prog 4 #[.int .i64 n] w fun e w' => e = .returned (.bool true) ∧ Below w.heap.size w w' := by
  by_cases h : 0 ≤ n ∧ n ≤ 500
  · obtain ⟨k, rfl⟩ := Int.eq_ofNat_of_zero_le h.1
    exact walkin k w (by omega)
  · rcases (show n < 0 ∨ (0 ≤ n ∧ 500 < n) by omega) with h1 | ⟨h1, h2⟩
    all_goals clear h
    all_goals go_enter Try.func4, Try.ntmps4
    all_goals go_wp2_with (go_at_call 8; refine (known_any _).mono ?_; rintro e w2 ⟨rfl, hb2⟩)
    all_goals go_ret
    all_goals exact ⟨rfl, hb2⟩
theorem hread : ∀ t ∈ Try.f4.params.toList, Try.prog.readableRec t = true ∧ t < Try.prog.types.size := by
  rw [Try.params4]
  intro t ht
  simp at ht
  subst ht
  exact read3

set_option maxRecDepth 100000 in
theorem lifted (os : Os) (started : os.Started) (H : Type) (enc : TypeId × Value → H) :
    ReturnsInHanded {} Try.checked os 4 .any (Rows.granuleHeldSpec.pre6 enc Try.prog Try.f4 Rows.granuleHeldRow.domain false) (Rows.granuleHeldSpec.post enc Try.prog Try.f4 false true false false) := by
  refine returnsInHanded_of_change (C := Try.checked) own started (by kernel_rfl) Try.func4
    (ChangeSpec.witness6 (enc := enc) (C := Try.checked) false ⟨#[], #[.int .i64 0], []⟩ 8 (by kernel_rfl) (by kernel_rfl) (by kernel_rfl) (by kernel_rfl)) ?_
  intro W base args ds gs before hval0 hW hcnd _
  have hval : ∀ (j : Nat) t v, Try.f4.params[j]? = some t → args[j]? = some v → Value.okWide Try.prog W .any base t v := hval0
  have hW' := hW
  obtain ⟨p, q, hA0, hV, rfl, hfz, hnd⟩ := hW
  have hA : DataW.TrodAll enc Try.prog W 0 (fun _ => true) true Try.f4.params.toList args.toList ds p := hA0
  have hA1 := hA
  rw [Try.params4] at hA hval
  obtain ⟨v0, vs0, d0, ds0, p0, q0, hargs, rfl, rfl, h0, r0⟩ := trodAll_cons hA
  obtain ⟨rfl, rfl, rfl⟩ := trodAll_nil r0
  obtain rfl : args = #[v0] := by cases args; simp_all
  obtain ⟨rfl, rfl⟩ := trodVars_none hV
  obtain ⟨a0, rfl, rfl, rfl, w0⟩ := open_int Try.underlying3 (hval 0 3 v0 rfl rfl) h0
  clear hA0 hval0
  simp only [List.append_nil] at hW' hA1
  refine (walk a0 W).mono fun e W' ⟨he, hg⟩ => ?_
  subst he
  exact ⟨_, rfl, post_true hW' hA1 rfl rfl (fun _ => rfl) rfl Try.underlying4 laidOut hread hg⟩

theorem over : Rows.granuleHeldRow.holds Try.pinned (OpenSpec.ofChange Rows.granuleHeldSpec) :=
  OpenClaim.holds_of_wide 4 Try.f4 rfl rfl rfl rfl rfl rfl rfl ⟨rfl, rfl, rfl, rfl, rfl⟩ rfl rfl rfl rfl rfl (by kernel_rfl) Try.func4 (by kernel_rfl)
    (of_decide_eq_true (by kernel_rfl)) (by unfold Func.isWrapper; first | (rw [if_pos (by decide +kernel)]; kernel_rfl) | (rw [if_neg (by decide +kernel)]; exact ⟨rfl, rfl⟩))
    (fun os started H enc _ => lifted os started H enc)

/-- The statement. -/
theorem proved : Rows.GranuleHeldSaid := over
end GranuleHeld
end Go.Proofs.Ythdhcmmpeilbmaa
