/- The law's own state, and its calls. Conditions: those that each theorem states. -/
import Derived.Test.YtfeoaphibkcejaaKe
namespace Go.Proofs.Ytfeoaphibkcejaa
open Go.ChangeShapes Go.WideShapes Go.ChangeAt Go.RowKit
set_option linter.unusedSimpArgs false
set_option maxRecDepth 100000

/-- The law's state. -/
structure Ks (w W : World) (pb xb mb ab tb rb wb : Nat) (B : List Int) (R : List Rw) (E : Nat → Nat → Int × Int) : Prop where
  p : W.heap[pb]? = some (.cells #[.pointer (some ⟨mb, 0, none⟩), .pointer (some ⟨tb, 0, none⟩), .pointer (some ⟨xb, 0, none⟩), .pointer (some ⟨wb, 0, none⟩)] 72 (0, 0))
  rt : Rt W xb mb ab tb rb 8 B R
  eq : EqE B E
  b : Below w.heap.size w W
  g1 : w.heap.size ≤ ab
  g2 : w.heap.size ≤ rb
  n1 : pb ≠ ab
  n2 : pb ≠ rb
theorem Ks.below {w W W' : World} {pb xb mb ab tb rb wb : Nat} {B : List Int} {R : List Rw} {E : Nat → Nat → Int × Int} (h : Ks w W pb xb mb ab tb rb wb B R E) (hb : Below W.heap.size W W') : Ks w W' pb xb mb ab tb rb wb B R E :=
  ⟨(hb.block _ (Array.getElem?_eq_some_iff.1 h.p).1).trans h.p, h.rt.below hb, h.eq, h.b.trans (hb.mono h.b.size), h.g1, h.g2, h.n1, h.n2⟩
theorem Ks.tw {w W W' : World} {pb xb mb ab tb rb wb : Nat} {B B' : List Int} {R R' : List Rw} {E E' : Nat → Nat → Int × Int} (h : Ks w W pb xb mb ab tb rb wb B R E) (t : Tw W W' ab rb) (hr : Rt W' xb mb ab tb rb 8 B' R') (he : EqE B' E') : Ks w W' pb xb mb ab tb rb wb B' R' E' :=
  ⟨(t.block _ (Array.getElem?_eq_some_iff.1 h.p).1 h.n1 h.n2).trans h.p, hr, he,
   ⟨t.os.trans h.b.os, t.tape.trans h.b.tape, t.output.trans h.b.output, Nat.le_trans h.b.size t.size, fun k hk => (t.block k (Nat.lt_of_lt_of_le hk h.b.size) (by have := h.g1; omega) (by have := h.g2; omega)).trans (h.b.block k hk)⟩, h.g1, h.g2, h.n1, h.n2⟩
/-- A walk told, in a block. -/
def Wv (W : World) (b : Nat) (x : Nat × Nat × Nat × Int × Int) : Prop := Wk W b x.1 x.2.1 x.2.2.1 x.2.2.2.1 x.2.2.2.2
theorem k_step {w W : World} {pb xb mb ab tb rb wb : Nat} {B : List Int} {R : List Rw} {E : Nat → Nat → Int × Int} (h : Ks w W pb xb mb ab tb rb wb B R E) (g : Nat) (s o k f t ow c : Int) (r' : Rw) (R' : List Rw) (hg : g < 8) (hr : rowD R g = (s, o, k)) (hs : stepR (s, o, k) f t ow = (c, r')) (hR : R.set g r' = R') :
    Calls Try.prog 24 #[.pointer (some ⟨tb, 0, none⟩), .int .i64 g, .int .i64 f, .int .i64 t, .int .u64 ow] W fun e W' => e = .returned (.int .i64 c) ∧ Ks w W' pb xb mb ab tb rb wb B R' E ∧ Tw W W' ab rb := by
  have h1 := Step_in tb rb R g s o k f t ow W h.rt.t (by rw [h.rt.len]; exact hg) hr
  rw [hs, hR] at h1
  refine h1.mono fun e W' ⟨he, hu⟩ => ⟨he, ?_, Tw.grown2 hu.only⟩
  exact h.tw (Tw.grown2 hu.only) (h.rt.tab hu (by rw [← hR, List.length_set]; exact h.rt.len)) h.eq
theorem k_walk {w W : World} {pb xb mb ab tb rb wb : Nat} {B : List Int} {R : List Rw} {E : Nat → Nat → Int × Int} (h : Ks w W pb xb mb ab tb rb wb B R E) (page : Nat) (x : Nat × Nat × Nat × Int × Int) (hT : tabT R 0 = true) (hp : page < 256) (hx : lookE E R page 3 0 0 = x) :
    Calls Try.prog 5 #[.pointer (some ⟨xb, 0, none⟩), .int .i64 0, .int .i64 page] W fun e W' => e = .returned (.tuple #[walkV x, .int .i64 0]) ∧ Below W.heap.size W W' := by
  have h1 := Walk_yes xb mb ab tb rb 8 B R 0 page W h.rt (by omega) hT hp
  rw [look_eq h.eq h.rt.len page 3 0 0 (by omega), hx] at h1
  exact h1
theorem k_set_table {w W : World} {pb xb mb ab tb rb wb : Nat} {B : List Int} {R : List Rw} {E : Nat → Nat → Int × Int} (h : Ks w W pb xb mb ab tb rb wb B R E) (page : Nat) (k e : Int) (a0 a1 a2 : Nat) (a3 a4 : Int) (hT : tabT R 0 = true) (hp : page < 256) (hx : lookE E R page 3 0 0 = (a0, a1, a2, a3, a4)) (h3 : a0 < 3) (hl : levelB k e 3 = true) :
    Calls Try.prog 9 #[.pointer (some ⟨xb, 0, none⟩), .int .i64 0, .int .i64 page, .agg #[.int .i64 k, .int .i64 e]] W fun e' W' => e' = .returned (.int .i64 8) ∧ Below W.heap.size W W' := by
  exact Set_table xb mb ab tb rb 8 B R 0 page k e a0 a1 a2 a3 a4 W h.rt (by omega) hT hp (by rw [look_eq h.eq h.rt.len page 3 0 0 (by omega)]; exact hx) h3 hl
theorem k_set_ok {w W : World} {pb xb mb ab tb rb wb : Nat} {B : List Int} {R : List Rw} {E : Nat → Nat → Int × Int} (h : Ks w W pb xb mb ab tb rb wb B R E) (page : Nat) (k e : Int) (a1 a2 : Nat) (a3 a4 : Int) (hT : tabT R 0 = true) (hp : page < 256) (hx : lookE E R page 3 0 0 = (3, a1, a2, a3, a4)) (h1 : a1 < 8) (h2 : a2 < 4) (hl : levelB k e 3 = true) (hm : mayB k e = true) :
    Calls Try.prog 9 #[.pointer (some ⟨xb, 0, none⟩), .int .i64 0, .int .i64 page, .agg #[.int .i64 k, .int .i64 e]] W fun e' W' => e' = .returned (.int .i64 0) ∧ (∃ B', Ks w W' pb xb mb ab tb rb wb B' R (upd E a1 a2 (k, e))) ∧ Tw W W' ab rb := by
  refine (Set_ok xb mb ab tb rb 8 B R 0 page k e a1 a2 a3 a4 W h.rt (by omega) hT hp (by rw [look_eq h.eq h.rt.len page 3 0 0 (by omega)]; exact hx) h1 h2 hl hm).mono fun e' W' ⟨he, hr, hg⟩ => ⟨he, ⟨putB B a1 a2 k e, ?_⟩, Tw.grown1 hg⟩
  exact h.tw (Tw.grown1 hg) hr (EqE_put h.eq h.rt.m.len h1 h2 hm)
theorem k_create_table {w W : World} {pb xb mb ab tb rb wb : Nat} {B : List Int} {R : List Rw} {E : Nat → Nat → Int × Int} (h : Ks w W pb xb mb ab tb rb wb B R E) (table page lv : Nat) (owner k1 s2 o2 k2 : Int) (a0 a1 a2 : Nat) (a3 a4 : Int) (htab : table < 8)
    (hr1 : rowD R 0 = (4, owner, k1)) (hr2 : rowD R table = (s2, o2, k2)) (how : owner ≠ 0) (hp : page < 256) (hl : lv < 3) (hx : lookE E R page lv 0 0 = (a0, a1, a2, a3, a4)) (ha : a0 < lv) :
    Calls Try.prog 10 #[.pointer (some ⟨xb, 0, none⟩), .int .i64 0, .int .u64 owner, .int .i64 table, .int .i64 page, .int .i64 ((lv : Int) + 1)] W fun e W' => e = .returned (.int .i64 8) ∧ Below W.heap.size W W' := by
  exact Create_table xb mb ab tb rb 8 B R 0 table page lv owner k1 s2 o2 k2 a0 a1 a2 a3 a4 W h.rt (by omega) htab hr1 hr2 how hp hl (by rw [look_eq h.eq h.rt.len page lv 0 0 (by omega)]; exact hx) ha
theorem k_create_ok {w W : World} {pb xb mb ab tb rb wb : Nat} {B : List Int} {R : List Rw} {E : Nat → Nat → Int × Int} (h : Ks w W pb xb mb ab tb rb wb B R E) (table page lv : Nat) (owner k1 o2 : Int) (a1 a2 : Nat) (R' : List Rw) (htab : table < 8)
    (hr1 : rowD R 0 = (4, owner, k1)) (hr2 : rowD R table = (1, o2, 0)) (how : owner ≠ 0) (hp : page < 256) (hl : lv < 3) (hx : lookE E R page lv 0 0 = (lv, a1, a2, 0, 0)) (h1 : a1 < 8) (h2 : a2 < 4) (hE : ∀ i, i < 4 → E table i = (0, 0)) (hR : R.set table (4, owner, 0) = R') :
    Calls Try.prog 10 #[.pointer (some ⟨xb, 0, none⟩), .int .i64 0, .int .u64 owner, .int .i64 table, .int .i64 page, .int .i64 ((lv : Int) + 1)] W fun e W' => e = .returned (.int .i64 0) ∧ (∃ B', Ks w W' pb xb mb ab tb rb wb B' R' (upd E a1 a2 (1, (table : Int)))) ∧ Tw W W' ab rb := by
  refine (Create_ok xb mb ab tb rb 8 B R 0 table page lv owner k1 o2 a1 a2 W h.rt (by omega) htab hr1 hr2 how hp hl (by rw [look_eq h.eq h.rt.len page lv 0 0 (by omega)]; exact hx) h1 h2 (by omega)).mono fun e W' ⟨he, hr, hg⟩ => ⟨he, ⟨putB (splice B (128 * table) T0) a1 a2 1 table, ?_⟩, hg⟩
  rw [hR] at hr
  have hT := EqE_T0 h.eq h.rt.m.len htab hE
  exact h.tw hg hr (EqE_put hT (by rw [splice_len _ _ _ (by rw [show T0.length = 128 from tabN_len _ _ _ _ _ _ _ _ _, h.rt.m.len]; omega), h.rt.m.len]) h1 h2 (mayB_iff.2 ⟨by omega, by omega, by omega, by omega, .inl rfl⟩))
end Go.Proofs.Ytfeoaphibkcejaa
