/- Contract of layer 9's Create. Conditions: those that each theorem states. -/
import Derived.Test.YtfeoaphibkcejaaLs
namespace Go.Proofs.Ytfeoaphibkcejaa
open Go.ChangeShapes Go.WideShapes Go.ChangeAt Go.RowKit
set_option linter.unusedSimpArgs false
set_option maxRecDepth 100000
attribute [local go_sem] zeroV

theorem tabT_of {R : List Rw} {g : Nat} {o k : Int} (hg : g < R.length) (hr : rowD R g = (4, o, k)) : tabT R (g : Int) = true := by simp [tabT, hr, hg]
def Rwv (w : World) (b : Nat) (s o k : Int) : Prop := w.heap[b]? = some (.cells #[.int .i64 s, .int .u64 o, .int .i64 k] 56 (0, 0))
theorem Rwv.lt {w : World} {b : Nat} {s o k : Int} (h : Rwv w b s o k) : b < w.heap.size := (Array.getElem?_eq_some_iff.1 h).1
theorem Rwv.below {w w' : World} {b : Nat} {s o k : Int} (h : Rwv w b s o k) (hb : Below w.heap.size w w') : Rwv w' b s o k := (hb.block _ h.lt).trans h
theorem Rwv.cells {w : World} {b : Nat} {s o k : Int} (h : Rwv w b s o k) : w.cell? ⟨b, 0, none⟩ = some (.int .i64 s) ∧ w.cell? ⟨b, 1, none⟩ = some (.int .u64 o) ∧ w.cell? ⟨b, 2, none⟩ = some (.int .i64 k) :=
  ⟨cell_of_row _ _ 0 _ _ _ h, cell_of_row _ _ 1 _ _ _ h, cell_of_row _ _ 2 _ _ _ h⟩
/-- All old blocks but two lie as they lay. -/
structure Tw (w w' : World) (ab rb : Nat) : Prop where
  os : w'.os = w.os
  tape : w'.tape = w.tape
  output : w'.output = w.output
  size : w.heap.size ≤ w'.heap.size
  block : ∀ k, k < w.heap.size → k ≠ ab → k ≠ rb → w'.heap[k]? = w.heap[k]?
theorem Tw.below {w w' : World} {ab rb : Nat} (h : Below w.heap.size w w') : Tw w w' ab rb := ⟨h.os, h.tape, h.output, h.size, fun k hk _ _ => h.block k hk⟩
theorem Tw.grown1 {w w' : World} {ab rb : Nat} (h : w.grownBy w' (some ab)) : Tw w w' ab rb := ⟨h.os, h.tape, h.output, h.size, fun k hk h1 _ => h.block k hk (by simp [h1])⟩
theorem Tw.grown2 {w w' : World} {ab rb : Nat} (h : w.grownBy w' (some rb)) : Tw w w' ab rb := ⟨h.os, h.tape, h.output, h.size, fun k hk _ h2 => h.block k hk (by simp [h2])⟩
theorem Tw.trans {a b c : World} {ab rb : Nat} (h : Tw a b ab rb) (k : Tw b c ab rb) : Tw a c ab rb :=
  ⟨k.os.trans h.os, k.tape.trans h.tape, k.output.trans h.output, Nat.le_trans h.size k.size, fun i hi h1 h2 => (k.block i (Nat.lt_of_lt_of_le hi h.size) h1 h2).trans (h.block i hi h1 h2)⟩
def T0 : List Int := tabN 0 0 0 0 0 0 0 0 4
theorem T0_all : AllB T0 :=
  splice_allB (splice_allB (splice_allB (splice_allB (allz 1) (ent8_all rfl) _) (ent8_all rfl) _) (ent8_all rfl) _) (ent8_all rfl) _
def putB (B : List Int) (g i : Nat) (k e : Int) : List Int := splice B (128 * g) (splice (sub B g) (8 * i) (ent8 k e))
set_option maxHeartbeats 8000000 in
theorem Create_table (xb mb ab tb rb n : Nat) (B : List Int) (R : List Rw) (root table page lv : Nat) (owner k1 s2 o2 k2 : Int) (a0 a1 a2 : Nat) (a3 a4 : Int) (w : World) (h : Rt w xb mb ab tb rb n B R) (hroot : root < n) (htab : table < n)
    (hr1 : rowD R root = (4, owner, k1)) (hr2 : rowD R table = (s2, o2, k2)) (how : owner ≠ 0) (hp : page < 256) (hl : lv < 3) (hx : lookF B R page lv 0 root = (a0, a1, a2, a3, a4)) (ha : a0 < lv) :
    Calls Try.prog 10 #[.pointer (some ⟨xb, 0, none⟩), .int .i64 root, .int .u64 owner, .int .i64 table, .int .i64 page, .int .i64 ((lv : Int) + 1)] w fun e w' => e = .returned (.int .i64 8) ∧ Below w.heap.size w w' := by
  have hRl := h.len
  have H0 := Lib.hid h
  have c1 := cell_of_row _ _ 1 _ _ _ h.x
  have F1 := Lib.hid (fun W (hW : Below w.heap.size w W) => Row_in tb rb R root 4 owner k1 W (h.below hW).t (by omega) hr1)
  have F2 := Lib.hid (fun W (hW : Below w.heap.size w W) => Row_in tb rb R table s2 o2 k2 W (h.below hW).t (by omega) hr2)
  have h3 := fun W (hW : Below w.heap.size w W) => look_any xb mb ab tb rb n B R root page lv W (h.below hW) hroot hp (by omega)
  rw [hx] at h3
  unfold walkV at h3
  have F3 := Lib.hid h3
  have ho1 : (owner == 0) = false := by simpa using how
  have hw64 : IntKind.i64.wrap ((lv : Int) + 1 - 1) = (lv : Int) := by rw [show (lv : Int) + 1 - 1 = lv by omega]; exact IntWalk.i64_in _ (by omega)
  have HHX := Lib.hid h
  clear h h3 hx hr1 hr2 how
  go_enter Try.func10, Try.ntmps10
  go_wp2_with (first | (go_at_call 14; refine (there_yes _ _ _ _ _ _ _ _ _ H0.out).mono ?_; rintro e w1 ⟨rfl, rfl⟩))
  refine (F1.out _ (Below.refl _ _)).mono ?_
  rintro e w1 ⟨rfl, b1⟩
  have B1 := Lib.hid (b1.alloc b1.size (.cells #[.int .i64 4, .int .u64 owner, .int .i64 k1] 56))
  have r1 : Rwv (w1.alloc (.cells #[.int .i64 4, .int .u64 owner, .int .i64 k1] 56)) w1.heap.size 4 owner k1 := heap_here rfl
  have Q1 := Lib.hid r1
  have c1' := cell_of_row _ _ 1 _ _ _ (H0.out.below B1.out).x
  have hz1 := Lib.hid b1.size
  clear b1 r1 c1
  go_wp2_with fail
  refine (F2.out _ B1.out).mono ?_
  rintro e w2 ⟨rfl, b2⟩
  have b2' := b2.alloc b2.size (.cells #[.int .i64 s2, .int .u64 o2, .int .i64 k2] 56)
  have B2 := Lib.hid (B1.out.trans (b2'.mono B1.out.size))
  have r2 : Rwv (w2.alloc (.cells #[.int .i64 s2, .int .u64 o2, .int .i64 k2] 56)) w2.heap.size s2 o2 k2 := heap_here rfl
  have P2 := Lib.hid r2
  have Q2 := Lib.hid (Q1.out.below b2')
  obtain ⟨x0, x1, x2⟩ := Q2.out.cells
  clear b2 b2' r2 c1' B1 Q1
  go_wp2_with fail
  all_goals first | (exfalso; omega) | skip
  refine (F3.out _ B2.out).mono ?_
  rintro e w3 ⟨rfl, b3⟩
  have b3' := b3.alloc b3.size (.cells #[.int .i64 a0, .int .i64 a1, .int .i64 a2, .int .i64 a3, .int .i64 a4] 33)
  have B3 := Lib.hid (B2.out.trans (b3'.mono B2.out.size))
  clear b3 b3'
  go_wp2_with fail
  all_goals first | (exfalso; omega) | skip
  go_ret
  exact ⟨rfl, B3.out⟩
set_option maxHeartbeats 8000000 in
theorem Create_ok (xb mb ab tb rb n : Nat) (B : List Int) (R : List Rw) (root table page lv : Nat) (owner k1 o2 : Int) (a1 a2 : Nat) (w : World) (h : Rt w xb mb ab tb rb n B R) (hroot : root < n) (htab : table < n)
    (hr1 : rowD R root = (4, owner, k1)) (hr2 : rowD R table = (1, o2, 0)) (how : owner ≠ 0) (hp : page < 256) (hl : lv < 3) (hx : lookF B R page lv 0 root = (lv, a1, a2, 0, 0)) (h1 : a1 < n) (h2 : a2 < 4) (htn : n ≤ 4096) :
    Calls Try.prog 10 #[.pointer (some ⟨xb, 0, none⟩), .int .i64 root, .int .u64 owner, .int .i64 table, .int .i64 page, .int .i64 ((lv : Int) + 1)] w fun e w' => e = .returned (.int .i64 0) ∧ Rt w' xb mb ab tb rb n (putB (splice B (128 * table) T0) a1 a2 1 table) (R.set table (4, owner, 0)) ∧ Tw w w' ab rb := by
  have hRl := h.len
  have H0 := Lib.hid h
  have c1 := cell_of_row _ _ 1 _ _ _ h.x
  have F1 := Lib.hid (fun W (hW : Below w.heap.size w W) => Row_in tb rb R root 4 owner k1 W (h.below hW).t (by omega) hr1)
  have F2 := Lib.hid (fun W (hW : Below w.heap.size w W) => Row_in tb rb R table 1 o2 0 W (h.below hW).t (by omega) hr2)
  have h3 := fun W (hW : Below w.heap.size w W) => look_any xb mb ab tb rb n B R root page lv W (h.below hW) hroot hp (by omega)
  rw [hx] at h3
  unfold walkV at h3
  have F3 := Lib.hid h3
  have ho1 : (owner == 0) = false := by simpa using how
  have hw64 : IntKind.i64.wrap ((lv : Int) + 1 - 1) = (lv : Int) := by rw [show (lv : Int) + 1 - 1 = lv by omega]; exact IntWalk.i64_in _ (by omega)
  have HHX := Lib.hid h
  have ho2 : (owner != 0) = true := by simpa using how
  have F4 := Lib.hid (fun W (hW : Rt W xb mb ab tb rb n B R) => Step_in tb rb R table 1 o2 0 1 4 owner W hW.t (by omega) hr2)
  have hst4 : stepR (1, o2, 0) 1 4 owner = (0, (4, owner, 0)) := by
    unfold stepR
    rw [show stepF 1 4 = some true from rfl]
    simp [ho2]
  rw [hst4] at F4
  clear h h3 hx hr1 hr2 how hst4
  go_enter Try.func10, Try.ntmps10
  go_wp2_with (first | (go_at_call 14; refine (there_yes _ _ _ _ _ _ _ _ _ H0.out).mono ?_; rintro e w1 ⟨rfl, rfl⟩))
  refine (F1.out _ (Below.refl _ _)).mono ?_
  rintro e w1 ⟨rfl, b1⟩
  have B1 := Lib.hid (b1.alloc b1.size (.cells #[.int .i64 4, .int .u64 owner, .int .i64 k1] 56))
  have r1 : Rwv (w1.alloc (.cells #[.int .i64 4, .int .u64 owner, .int .i64 k1] 56)) w1.heap.size 4 owner k1 := heap_here rfl
  have Q1 := Lib.hid r1
  have c1' := cell_of_row _ _ 1 _ _ _ (H0.out.below B1.out).x
  have hz1 := Lib.hid b1.size
  clear b1 r1 c1
  go_wp2_with fail
  refine (F2.out _ B1.out).mono ?_
  rintro e w2 ⟨rfl, b2⟩
  have b2' := b2.alloc b2.size (.cells #[.int .i64 1, .int .u64 o2, .int .i64 0] 56)
  have B2 := Lib.hid (B1.out.trans (b2'.mono B1.out.size))
  have r2 : Rwv (w2.alloc (.cells #[.int .i64 1, .int .u64 o2, .int .i64 0] 56)) w2.heap.size 1 o2 0 := heap_here rfl
  have P2 := Lib.hid r2
  have Q2 := Lib.hid (Q1.out.below b2')
  obtain ⟨x0, x1, x2⟩ := Q2.out.cells
  clear b2 b2' r2 c1' B1 Q1
  go_wp2_with fail
  all_goals first | (exfalso; omega) | skip
  refine (F3.out _ B2.out).mono ?_
  rintro e w3 ⟨rfl, b3⟩
  have hz3 : Hid (w.heap.size ≤ w3.heap.size) := Nat.le_trans B2.out.size b3.size
  have b3' := b3.alloc b3.size (.cells #[.int .i64 lv, .int .i64 a1, .int .i64 a2, .int .i64 0, .int .i64 0] 33)
  have B3 := Lib.hid (B2.out.trans (b3'.mono B2.out.size))
  have P3 := Lib.hid (P2.out.below b3')
  have r3 : Wk (w3.alloc (.cells #[.int .i64 lv, .int .i64 a1, .int .i64 a2, .int .i64 0, .int .i64 0] 33)) w3.heap.size lv a1 a2 0 0 := heap_here rfl
  have Q3 := Lib.hid r3
  obtain ⟨y0, y1, y2⟩ := P3.out.cells
  clear b3 b3' r3 x0 x1 x2 P2 Q2
  go_wp2_with fail
  all_goals first | (exfalso; omega) | skip
  obtain ⟨W4, hW4⟩ : ∃ W4, W4 = (w3.alloc (.cells #[.int .i64 lv, .int .i64 a1, .int .i64 a2, .int .i64 0, .int .i64 0] 33)).alloc (.cells #[.int .i64 0, .int .i64 0, .int .i64 0, .int .i64 0, .int .i64 0, .int .i64 0, .int .i64 0, .int .i64 0] 31) := ⟨_, rfl⟩
  have r4 : W4.heap[w3.heap.size + 1]? = some (.cells #[.int .i64 0, .int .i64 0, .int .i64 0, .int .i64 0, .int .i64 0, .int .i64 0, .int .i64 0, .int .i64 0] 31 (0, 0)) := by rw [hW4]; exact heap_here (by simp)
  have b34 := (Below.refl (w3.alloc (.cells #[.int .i64 lv, .int .i64 a1, .int .i64 a2, .int .i64 0, .int .i64 0] 33)).heap.size (w3.alloc (.cells #[.int .i64 lv, .int .i64 a1, .int .i64 a2, .int .i64 0, .int .i64 0] 33))).alloc (Nat.le_refl _) (.cells #[.int .i64 0, .int .i64 0, .int .i64 0, .int .i64 0, .int .i64 0, .int .i64 0, .int .i64 0, .int .i64 0] 31)
  rw [← hW4] at b34 ⊢
  have e4 : E4 W4 (w3.heap.size + 1) 0 0 0 0 0 0 0 0 0 := ⟨(Array.getElem?_eq_some_iff.1 r4).1, cell_of_row _ _ 0 _ _ _ r4, cell_of_row _ _ 1 _ _ _ r4, cell_of_row _ _ 2 _ _ _ r4, cell_of_row _ _ 3 _ _ _ r4, cell_of_row _ _ 4 _ _ _ r4, cell_of_row _ _ 5 _ _ _ r4, cell_of_row _ _ 6 _ _ _ r4, cell_of_row _ _ 7 _ _ _ r4⟩
  have B4 := Lib.hid (B3.out.trans (b34.mono B3.out.size))
  have Q4 := Lib.hid (Q3.out.below b34)
  have z4 : Hid (w.heap.size ≤ w3.heap.size ∧ w3.heap.size < W4.heap.size) := by
    have s3 := hz3.out
    have := b34.size
    simp at this
    exact ⟨s3, by omega⟩
  clear hW4 r4 b34 y0 y1 y2 P3 B3 Q3
  refine (tb_yes (w3.heap.size + 1) 0 4 0 0 0 0 0 0 0 0 W4 e4 rfl rfl rfl rfl).mono ?_
  rintro e w5 ⟨rfl, b5⟩
  have hT0 : T0.length = 128 := tabN_len _ _ _ _ _ _ _ _ _
  rw [show tabN 0 0 0 0 0 0 0 0 4 = T0 from rfl]
  have hst := st_new w5 (zeroB 1) T0 zlen hT0
  have hln : (bytesV T0).length = 128 := by rw [bytesV_len, hT0]
  have b5' := b5.alloc b5.size (.cells (bytesV T0).toArray 60)
  have B5 := Lib.hid (B4.out.trans (b5'.mono B4.out.size))
  have Q5 := Lib.hid (Q4.out.below b5')
  have z5 : Hid (w.heap.size ≤ w3.heap.size ∧ w3.heap.size < w5.heap.size ∧ w.heap.size ≤ w5.heap.size) := by
    have := z4.out
    have := b5.size
    exact ⟨by omega, by omega, by omega⟩
  have T5 : Hid (BytesAt (w5.alloc (.cells (bytesV T0).toArray 60)) w5.heap.size 60 T0) := heap_here rfl
  have HT0 := Lib.hid hT0
  have c5 := cell_of_row _ _ 1 _ _ _ (H0.out.below B5.out).x
  clear e4 b5 b5' B4 Q4 hT0
  go_wp2_with fail
  have h5 := H0.out.below B5.out
  have hz5 := z5
  refine (F4.out _ h5).mono ?_
  rintro e w6 ⟨rfl, u6⟩
  have h6 := h5.tab u6 (by rw [List.length_set]; exact hRl)
  have hrb := HHX.out.t.lt.2
  have T6 : Hid (BytesAt w6 w5.heap.size 60 T0) := T5.out.grown u6.only (by have := hz5.out; simp; omega)
  have Q6 : Hid (Wk w6 w3.heap.size lv a1 a2 0 0) := (u6.only.block _ Q5.out.lt (by have := hz5.out; simp; omega)).trans Q5.out
  have X6 : Hid (Tw w w6 ab rb) := (Tw.below B5.out).trans (Tw.grown2 u6.only)
  have H6 := Lib.hid h6
  clear h5 u6 h6 T5 Q5 B5 hrb c5 hst hln
  have hsz := size60
  have hu := Try.underlying60
  have hlnX : (bytesV T0).length = 128 := by rw [bytesV_len, HT0.out]
  have S0 : Hid (w6.drew.cell? ⟨xb, 0, none⟩ = some (.pointer (some ⟨mb, 0, none⟩)) ∧ w6.drew.rangeAt w5.heap.size 0 (bytesV T0)) := ⟨cell_of_row _ _ 0 _ _ _ (H6.out.below ((Below.refl _ _).drew)).x, rng_row (b := w5.heap.size) (t := 60) (B := T0) T6.out⟩
  go_wp2_with fail
  go_region_held3 (fun w' => w'.cell? ⟨xb, 0, none⟩ = some (.pointer (some ⟨mb, 0, none⟩)) ∧ w'.rangeAt w5.heap.size 0 (bytesV T0)) ((first | exact S0.out | exact ⟨c9, r9⟩)) ((first | (go_at_call 25; refine (put_yes mb ab n B T0 table _ (H6.out.below ((Below.refl _ _).drew)).m htab HT0.out).mono ?_; rintro e9 w9 ⟨rfl, m9, g9⟩; have HM9 := Lib.hid m9; have HG9 := Lib.hid g9; have c9 : w9.cell? ⟨xb, 0, none⟩ = some (.pointer (some ⟨mb, 0, none⟩)) := (World.cell?_of_block (a := ⟨xb, 0, none⟩) (g9.block xb (H6.out.below ((Below.refl _ _).drew)).lt (by simp [HHX.out.n1.symm]))).trans S0.out.1; have r9 : w9.rangeAt w5.heap.size 0 (bytesV T0) := rng_row (b := w5.heap.size) (t := 60) (B := T0) ((g9.block w5.heap.size T6.out.lt (by have := hz5.out; have := HHX.out.m.lt.2; simp at *; omega)).trans T6.out); clear m9 g9)))
  have h6d := H6.out.below ((Below.refl w6.heap.size w6).drew)
  have h9 := h6d.mem HM9.out (splice_allB h6d.a T0_all _) HG9.out
  have q9 : Wk w9 w3.heap.size lv a1 a2 0 0 := (HG9.out.block w3.heap.size Q6.out.lt (by have := z5.out; have := HHX.out.m.lt.2; simp at *; omega)).trans Q6.out
  have X9 : Hid (Tw w w9 ab rb) := X6.out.trans ((Tw.below ((Below.refl _ _).drew)).trans (Tw.grown1 HG9.out))
  obtain ⟨x0, x1, x2, x3, x4⟩ := q9.cells
  have F9 := Lib.hid (put_any xb mb ab tb rb n _ _ a1 a2 1 table w9 h9 h1 h2 (mayB_iff.2 ⟨by omega, by omega, by omega, by omega, .inl rfl⟩))
  clear h6d h9 q9 c9 r9
  go_wp2_with (first | (go_at_call 21; refine F9.out.mono ?_; rintro e8 w8 ⟨⟨v, rfl⟩, hR8, g8⟩; have HR8 := Lib.hid hR8; have HG8 := Lib.hid g8; clear hR8 g8 x0 x1 x2 x3 x4))
  go_ret
  exact ⟨rfl, HR8.out, X9.out.trans (Tw.grown1 HG8.out)⟩
end Go.Proofs.Ytfeoaphibkcejaa
