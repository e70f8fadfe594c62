/- Contract: the chapter's rows ('known') are true, in whatever memory; and the statement GranuleMay. No condition. -/
import Derived.Test.YthdhcmmpeilbmaaNew
namespace Go.Proofs.Ythdhcmmpeilbmaa
open Go.ChangeShapes Go.WideShapes Go.ChangeAt Go.RowKit
set_option linter.unusedSimpArgs false

theorem upd_below {B : Nat} {a w w' : World} {tb rb : Nat} {R : List Rw} (hb : Below B a w) (hB : B ≤ w.heap.size) (h : Upd w w' tb rb R) (hr : B ≤ rb) : Below B a w' :=
  hb.grown h.only hB (fun k hk => by simp at hk; omega)
theorem Step_lit {tb rb : Nat} {R R' : List Rw} {g : Nat} {s o k f t ow c : Int} {r' : Rw} {w : World} (h : Tab w tb rb R) (h1 : g < R.length) (hr : rowD R g = (s, o, k)) (hs : stepR (s, o, k) f t ow = (c, r')) (hR : R.set g r' = R') :
    Calls Try.prog 13 #[.pointer (some ⟨tb, 0, none⟩), .int .i64 g, .int .i64 f, .int .i64 t, .int .u64 ow] w fun e w' => e = .returned (.int .i64 c) ∧ Upd w w' tb rb R' := by
  have := Step_in tb rb R g s o k f t ow w h h1 hr
  rw [hs] at this
  subst hR
  exact this
theorem Hold_lit {tb rb : Nat} {R R' : List Rw} {g : Nat} {s o k : Int} {w : World} (h : Tab w tb rb R) (h1 : g < R.length) (hr : rowD R g = (s, o, k)) (hk0 : 0 ≤ k) (hk : k < 2147483647) (hR : R.set g (s, o, k + 1) = R') :
    Calls Try.prog 12 #[.pointer (some ⟨tb, 0, none⟩), .int .i64 g] w fun e w' => e = .returned (.int .i64 0) ∧ Upd w w' tb rb R' := hR ▸ Hold_in tb rb R g s o k w h h1 hr hk0 hk
theorem Let_lit {tb rb : Nat} {R R' : List Rw} {g : Nat} {s o k : Int} {w : World} (h : Tab w tb rb R) (h1 : g < R.length) (hr : rowD R g = (s, o, k)) (hk0 : 1 ≤ k) (hk : k ≤ 2147483647) (hR : R.set g (s, o, k - 1) = R') :
    Calls Try.prog 14 #[.pointer (some ⟨tb, 0, none⟩), .int .i64 g] w fun e w' => e = .returned (.int .i64 0) ∧ Upd w w' tb rb R' := hR ▸ Let_in tb rb R g s o k w h h1 hr hk0 hk

set_option maxRecDepth 100000 in
set_option maxHeartbeats 1000000 in
theorem known_any (w : World) :
    Calls Try.prog 8 #[] w fun e w' => e = .returned (.bool true) ∧ Below w.heap.size w w' := by
  go_enter Try.func8, Try.ntmps8
  go_wp2_with fail
  refine (new_yes 2 _ (by omega) (by omega)).mono ?_
  rintro e w1 ⟨rfl, t1, b1⟩
  have z1 := t1.lt.1
  go_wp2_with fail
  refine (Step_lit (R := [(0, 0, 0), (0, 0, 0)]) (R' := [(1, 0, 0), (0, 0, 0)]) (g := 0) (f := 0) (t := 1) (ow := 0) (c := 0) (r' := (1, 0, 0)) t1 (by decide) rfl rfl rfl).mono ?_
  rintro e w2 ⟨rfl, u2⟩
  have b2 := upd_below b1 (by omega) u2 (by omega)
  have t2 := u2.tab
  have z2 := t2.lt.1
  clear t1 b1 u2
  go_wp2_with fail
  refine (Step_lit (R := [(1, 0, 0), (0, 0, 0)]) (R' := [(5, 7, 0), (0, 0, 0)]) (g := 0) (f := 1) (t := 5) (ow := 7) (c := 0) (r' := (5, 7, 0)) t2 (by decide) rfl rfl rfl).mono ?_
  rintro e w3 ⟨rfl, u3⟩
  have b3 := upd_below b2 (by omega) u3 (by omega)
  have t3 := u3.tab
  have z3 := t3.lt.1
  clear t2 b2 u3
  go_wp2_with fail
  refine (Row_in _ _ [(5, 7, 0), (0, 0, 0)] 0 5 7 0 _ t3 (by decide) rfl).mono ?_
  rintro e w4 ⟨rfl, h4⟩
  have q4 := t3.below h4
  have b4 := b3.trans (h4.mono (by omega))
  have z4 := q4.lt.1
  clear t3 b3 h4
  go_wp2_with fail
  have t5 := q4.below ((Below.refl _ _).alloc (Nat.le_refl _) (.cells #[.int .i64 5, .int .u64 7, .int .i64 0] 35))
  have rr := heap_here (w := w4) (o := .cells #[.int .i64 5, .int .u64 7, .int .i64 0] 35) rfl
  have bb := b4.alloc (by omega) (.cells #[.int .i64 5, .int .u64 7, .int .i64 0] 35)
  have b5 := bb
  have z5 := t5.lt.1
  have hbx : w4.heap.size < (w4.alloc (.cells #[.int .i64 5, .int .u64 7, .int .i64 0] 35)).heap.size := by simp
  go_wp2_with fail
  refine (Hold_lit (R := [(5, 7, 0), (0, 0, 0)]) (R' := [(5, 7, 1), (0, 0, 0)]) (g := 0) t5 (by decide) rfl (by omega) (by omega) rfl).mono ?_
  rintro e w6 ⟨rfl, u6⟩
  have b6 := upd_below b5 (by omega) u6 (by omega)
  have t6 := u6.tab
  have z6 := t6.lt.1
  have rr := (u6.only.block w4.heap.size (by omega) (by simp; omega)).trans rr
  have hbx : w4.heap.size < w6.heap.size := by have := u6.only.size; omega
  clear t5 b5 u6
  go_wp2_with fail
  refine (Step_lit (R := [(5, 7, 1), (0, 0, 0)]) (R' := [(5, 7, 1), (0, 0, 0)]) (g := 0) (f := 5) (t := 1) (ow := 0) (c := 9) (r' := (5, 7, 1)) t6 (by decide) rfl rfl rfl).mono ?_
  rintro e w7 ⟨rfl, u7⟩
  have b7 := upd_below b6 (by omega) u7 (by omega)
  have t7 := u7.tab
  have z7 := t7.lt.1
  have rr := (u7.only.block w4.heap.size (by omega) (by simp; omega)).trans rr
  have hbx : w4.heap.size < w7.heap.size := by have := u7.only.size; omega
  clear t6 b6 u7
  go_wp2_with fail
  refine (Let_lit (R := [(5, 7, 1), (0, 0, 0)]) (R' := [(5, 7, 0), (0, 0, 0)]) (g := 0) t7 (by decide) rfl (by omega) (by omega) rfl).mono ?_
  rintro e w8 ⟨rfl, u8⟩
  have b8 := upd_below b7 (by omega) u8 (by omega)
  have t8 := u8.tab
  have z8 := t8.lt.1
  have rr := (u8.only.block w4.heap.size (by omega) (by simp; omega)).trans rr
  have hbx : w4.heap.size < w8.heap.size := by have := u8.only.size; omega
  clear t7 b7 u8
  go_wp2_with fail
  refine (Let_none _ _ [(5, 7, 0), (0, 0, 0)] 0 5 7 _ t8 (by decide) rfl).mono ?_
  rintro e w' ⟨rfl, rfl⟩
  go_wp2_with fail
  refine (Step_lit (R := [(5, 7, 0), (0, 0, 0)]) (R' := [(5, 7, 0), (0, 0, 0)]) (g := 1) (f := 0) (t := 5) (ow := 7) (c := 2) (r' := (0, 0, 0)) t8 (by decide) rfl rfl rfl).mono ?_
  rintro e w9 ⟨rfl, u9⟩
  have b9 := upd_below b8 (by omega) u9 (by omega)
  have t9 := u9.tab
  have z9 := t9.lt.1
  have rr := (u9.only.block w4.heap.size (by omega) (by simp; omega)).trans rr
  have hbx : w4.heap.size < w9.heap.size := by have := u9.only.size; omega
  clear t8 b8 u9
  go_wp2_with fail
  refine (Step_lit (R := [(5, 7, 0), (0, 0, 0)]) (R' := [(5, 7, 0), (0, 0, 0)]) (g := 1) (f := 1) (t := 5) (ow := 7) (c := 7) (r' := (0, 0, 0)) t9 (by decide) rfl rfl rfl).mono ?_
  rintro e w10 ⟨rfl, u10⟩
  have b10 := upd_below b9 (by omega) u10 (by omega)
  have t10 := u10.tab
  have z10 := t10.lt.1
  have rr := (u10.only.block w4.heap.size (by omega) (by simp; omega)).trans rr
  have hbx : w4.heap.size < w10.heap.size := by have := u10.only.size; omega
  clear t9 b9 u10
  have c0 := cell_of_row _ _ 0 _ _ _ rr
  have c1 := cell_of_row _ _ 1 _ _ _ rr
  have c2 := cell_of_row _ _ 2 _ _ _ rr
  simp at c0 c1 c2
  clear rr
  go_wp2_with fail
  go_ret
  exact ⟨rfl, b10⟩

theorem own : ownKnob Try.prog.godebug = none := by kernel_rfl
theorem laidOut : laidOutB Try.prog = true := by kernel_rfl
theorem read3 : Try.prog.readableRec 3 = true ∧ 3 < Try.prog.types.size := ⟨by kernel_rfl, of_decide_eq_true (by kernel_rfl)⟩
theorem read30 : Try.prog.readableRec 30 = true ∧ 30 < Try.prog.types.size := ⟨by kernel_rfl, of_decide_eq_true (by kernel_rfl)⟩

namespace GranuleMay
theorem walk (f t : Int) (w : World) :
    Calls Try.prog 6 #[.int .i64 f, .int .i64 t] w fun e w' => e = .returned (.bool true) ∧ Below w.heap.size w w' := by
  go_enter Try.func6, Try.ntmps6
  go_wp2_with (first | (go_at_call 16; refine (pmay_any _ _ _).mono ?_; rintro e w1 ⟨rfl, hb1⟩) | (go_at_call 17; refine (rmay_any _ _ _).mono ?_; rintro e w' ⟨rfl, rfl⟩) | (go_at_call 8; refine (known_any _).mono ?_; rintro e w2 ⟨rfl, hb2⟩))
  go_ret
  exact ⟨rfl, hb1.trans (hb2.mono hb1.size)⟩
theorem hread : ∀ t ∈ Try.f6.params.toList, Try.prog.readableRec t = true ∧ t < Try.prog.types.size := by
  rw [Try.params6]
  intro t ht
  simp at ht
  subst ht
  exact read30

set_option maxRecDepth 100000 in
theorem lifted (os : Os) (started : os.Started) (H : Type) (enc : TypeId × Value → H) :
    ReturnsInHanded {} Try.checked os 6 .any (Rows.granuleMaySpec.pre6 enc Try.prog Try.f6 Rows.granuleMayRow.domain false) (Rows.granuleMaySpec.post enc Try.prog Try.f6 false true false false) := by
  refine returnsInHanded_of_change (C := Try.checked) own started (by kernel_rfl) Try.func6
    (ChangeSpec.witness6 (enc := enc) (C := Try.checked) false ⟨#[], #[.int .i64 0, .int .i64 0], []⟩ 8 (by kernel_rfl) (by kernel_rfl) (by kernel_rfl) (by kernel_rfl)) ?_
  intro W base args ds gs before hval0 hW hcnd _
  have hval : ∀ (j : Nat) t v, Try.f6.params[j]? = some t → args[j]? = some v → Value.okWide Try.prog W .any base t v := hval0
  have hW' := hW
  obtain ⟨p, q, hA0, hV, rfl, hfz, hnd⟩ := hW
  have hA : DataW.TrodAll enc Try.prog W 0 (fun _ => true) true Try.f6.params.toList args.toList ds p := hA0
  have hA1 := hA
  rw [Try.params6] at hA hval
  obtain ⟨v0, vs0, d0, ds0, p0, q0, hargs, rfl, rfl, h0, r0⟩ := trodAll_cons hA
  obtain ⟨v1, vs1, d1, ds1, p1, q1, rfl, rfl, rfl, h1, r1⟩ := trodAll_cons r0
  obtain ⟨rfl, rfl, rfl⟩ := trodAll_nil r1
  obtain rfl : args = #[v0, v1] := by cases args; simp_all
  obtain ⟨rfl, rfl⟩ := trodVars_none hV
  obtain ⟨a0, rfl, rfl, rfl, w0⟩ := open_int Try.underlying30 (hval 0 30 v0 rfl rfl) h0
  obtain ⟨a1, rfl, rfl, rfl, w1⟩ := open_int Try.underlying30 (hval 1 30 v1 rfl rfl) h1
  clear hA0 hval0
  simp only [List.append_nil] at hW' hA1
  refine (walk a0 a1 W).mono fun e W' ⟨he, hg⟩ => ?_
  subst he
  exact ⟨_, rfl, post_true hW' hA1 rfl rfl (fun _ => rfl) rfl Try.underlying4 laidOut hread hg⟩

theorem over : Rows.granuleMayRow.holds Try.pinned (OpenSpec.ofChange Rows.granuleMaySpec) :=
  OpenClaim.holds_of_wide 6 Try.f6 rfl rfl rfl rfl rfl rfl rfl ⟨rfl, rfl, rfl, rfl, rfl⟩ rfl rfl rfl rfl rfl (by kernel_rfl) Try.func6 (by kernel_rfl)
    (of_decide_eq_true (by kernel_rfl)) (by unfold Func.isWrapper; first | (rw [if_pos (by decide +kernel)]; kernel_rfl) | (rw [if_neg (by decide +kernel)]; exact ⟨rfl, rfl⟩))
    (fun os started H enc _ => lifted os started H enc)

/-- The statement. -/
theorem proved : Rows.GranuleMaySaid := over
end GranuleMay
end Go.Proofs.Ythdhcmmpeilbmaa
