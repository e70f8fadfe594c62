/- What the loop over a function of the statement MachineWhole keeps, and its plain laws. Conditions: those that each theorem states. -/
import Derived.Test.YtkpcomldjnahhaaWhx
namespace Go.Proofs.Ytkpcomldjnahhaa
open Go.ChangeShapes Go.WideShapes Go.ChangeAt Go.RowKit Go.Shelf
set_option linter.unusedSimpArgs false
attribute [local go_sem] zeroV

theorem own_start {F : Fence} {n : Nat} {P : Program} {c : Code} {Q : Exit → Act → World → Prop} {a : Act} {w : World} (h : ∀ a0, a0 = a → c.wpIn F n P Q a0 w) : c.wpIn F n P Q a w := h a rfl
theorem fold_told (B : List Int) (x : Nat) (T : Array Value) : ((#[139, 140] : Array Tmp).zip (told B x)).foldl (fun t (p, v) => t.setIfInBounds p v) T = (T.setIfInBounds 139 (.int .i64 (x : Int))).setIfInBounds 140 (.agg (bytesV (subT B x)).toArray) := by simp [told]
theorem wpQuiet_skipw {P : Program} {ops : Array Oper} {C : World → Prop} {Q : Act → Prop} {op : Oper} {rest : List Oper} {a : Act} (hw : Region.wanted op (yielded ops a.tmps) = false)
    (h : wpQuiet P ops C Q rest (a.put op.dst undef)) : wpQuiet P ops C Q (op :: rest) a := by
  unfold wpQuiet
  rw [if_neg (by simp [hw])]
  exact h
/-- All but one block lies as it lay; and what lay below N. -/
structure Rk (N G : Nat) (W W' : World) : Prop where
  b : Below N W W'
  k : ∀ i, i < W.heap.size → i ≠ G → W'.heap[i]? = W.heap[i]?
theorem Rk.refl (N G : Nat) (W : World) : Rk N G W W := ⟨Below.refl _ _, fun _ _ _ => rfl⟩
theorem Rk.trans {N G : Nat} {A B C : World} (h : Rk N G A B) (k : Rk N G B C) : Rk N G A C := ⟨h.b.trans k.b, fun i hi hn => (k.k i (Nat.lt_of_lt_of_le hi h.b.size) hn).trans (h.k i hi hn)⟩
theorem Rk.of {N G : Nat} {W W' : World} (h : Below W.heap.size W W') (hN : N ≤ W.heap.size) : Rk N G W W' := ⟨h.mono hN, fun i hi _ => h.block i hi⟩
theorem Rk.next {N G : Nat} {A W W' : World} (h : Rk N G A W) (hN : N ≤ A.heap.size) (k : Below W.heap.size W W') : Rk N G A W' := h.trans (Rk.of k (Nat.le_trans hN h.b.size))
theorem Rk.set {N G : Nat} {A W : World} (h : Rk N G A W) (hG : N ≤ G) (v : Value) : Rk N G A (W.setCell ⟨G, 0, none⟩ v) :=
  ⟨h.b.setCell (p := ⟨G, 0, none⟩) hG v, fun i hi hn => (heap_setCell_other _ _ _ _ hn).trans (h.k i hi hn)⟩
theorem Rk.keeps {N G : Nat} {W W' : World} {cs : Array Value} {t : TypeId} {fr : Nat × Nat} (h : Rk N G W W') (hG : W.heap[G]? = some (.cells cs t fr)) (B : Nat) : KeepsFrom B W W' :=
  ⟨h.b.size, fun k o _ hk ho => (h.k k (Array.getElem?_eq_some_iff.1 hk).1 (fun e => by rw [e, hG] at hk; cases hk; cases ho)).trans hk⟩
theorem Rk.kq {N G M : Nat} {W W' : World} {cs : Array Value} {t : TypeId} {fr : Nat × Nat} (h : Rk N G W W') (hG : W.heap[G]? = some (.cells cs t fr)) (hM : M ≤ G) (hW : G < W.heap.size) : Kq M W W' :=
  ⟨⟨h.b.size, fun k o hk ho => (h.k k (Array.getElem?_eq_some_iff.1 hk).1 (fun e => by rw [e, hG] at hk; cases hk; cases ho)).trans hk⟩, fun k hk => h.k k (by omega) (by omega)⟩
/-- What the law stands on in that loop: the next granule is j. -/
structure Iv (N : Nat) (A W : World) (n G wb db cap : Nat) (B : List Int) (j : Nat) : Prop where
  num : W.heap[N]? = some (.cells #[.int .i64 n] 3 (0, 0))
  res : W.heap[N + 1]? = some (.cells #[.bool false] 4 (0, 0))
  b : Below N A W
  g : W.heap[G]? = some (.cells #[.int .i64 j] 3 (0, 0))
  was : Rr W wb db n cap B
  n1 : G ≠ wb
  n2 : G ≠ db
  n3 : N + 1 < G
theorem Iv.lt {N : Nat} {A W : World} {n G wb db cap : Nat} {B : List Int} {j : Nat} (h : Iv N A W n G wb db cap B j) : G < W.heap.size := (Array.getElem?_eq_some_iff.1 h.g).1
theorem Iv.rk {N : Nat} {A W W' : World} {n G wb db cap : Nat} {B : List Int} {j j' : Nat} (h : Iv N A W n G wb db cap B j) (k : Rk (N + 2) G W W') (hg : W'.heap[G]? = some (.cells #[.int .i64 j'] 3 (0, 0))) : Iv N A W' n G wb db cap B j' :=
  have l := h.lt
  have l3 := h.n3
  ⟨(k.k _ (by omega) (by omega)).trans h.num, (k.k _ (by omega) (by omega)).trans h.res, h.b.trans (k.b.mono (by omega)), hg, h.was.keep (k.k _ h.was.rlt h.n1.symm) (k.k _ h.was.lt h.n2.symm) k.b.size, h.n1, h.n2, h.n3⟩
theorem Iv.below {N : Nat} {A W W' : World} {n G wb db cap : Nat} {B : List Int} {j : Nat} (h : Iv N A W n G wb db cap B j) (k : Below W.heap.size W W') : Iv N A W' n G wb db cap B j :=
  have l := h.lt
  have l3 := h.n3
  h.rk (Rk.of k (by omega)) ((k.block _ h.lt).trans h.g)
theorem Iv.set {N : Nat} {A W : World} {n G wb db cap : Nat} {B : List Int} {j : Nat} (h : Iv N A W n G wb db cap B j) (j' : Nat) : Iv N A (W.setCell ⟨G, 0, none⟩ (.int .i64 j')) n G wb db cap B j' :=
  have l := h.lt
  have l3 := h.n3
  h.rk ((Rk.refl _ _ _).set (by omega) _) (heap_setCell_same W G 0 _ _ (.int .i64 j') h.g)
theorem Iv.own {N : Nat} {A W W' : World} {n G wb db cap M : Nat} {B : List Int} {j : Nat} {row : Option Nat} (h : Iv N A W n G wb db cap B j) (hg : W.grownBy W' row) (hr : ∀ r, row = some r → M ≤ r) (hG : G < M) (hw : wb < M) (hd : db < M) : Iv N A W' n G wb db cap B j := by
  have l := h.lt
  have l3 := h.n3
  have key : ∀ i, i < M → i < W.heap.size → W'.heap[i]? = W.heap[i]? := fun i hi hs => hg.block i hs (fun e => by have := hr i e.symm; omega)
  exact ⟨(key _ (by omega) (by omega)).trans h.num, (key _ (by omega) (by omega)).trans h.res, h.b.trans ⟨hg.os, hg.tape, hg.output, hg.size, fun k hk => key k (by omega) (by omega)⟩, (key _ hG l).trans h.g,
    h.was.keep (key _ hw h.was.rlt) (key _ hd h.was.lt) hg.size, h.n1, h.n2, h.n3⟩
/-- The number in a cell. -/
def atG (W : World) (G : Nat) : Nat := match W.cell? ⟨G, 0, none⟩ with | some (.int _ k) => k.toNat | _ => 0
theorem atG_of {W : World} {G j : Nat} (h : W.heap[G]? = some (.cells #[.int .i64 (j : Int)] 3 (0, 0))) : atG W G = j := by
  unfold atG
  rw [cell_of_row _ _ 0 _ _ _ h]
  simp

theorem nz_mono {B : List Int} {i j : Nat} (h : i ≤ j) : ∃ l, nz B j = nz B i ++ l := by
  induction j with
  | zero => exact ⟨[], by rw [show i = 0 by omega]; simp⟩
  | succ j ih =>
    by_cases e : i = j + 1
    · exact ⟨[], by rw [e]; simp⟩
    · obtain ⟨l, hl⟩ := ih (by omega)
      by_cases hz : sub B j = zeroB 1
      · exact ⟨l, by rw [nz_no hz, hl]⟩
      · exact ⟨l ++ [j], by rw [nz_yes hz, hl, List.append_assoc]⟩
theorem nz_skip {B : List Int} {i j : Nat} (h : i ≤ j) (hz : ∀ k, i ≤ k → k < j → sub B k = zeroB 1) : nz B j = nz B i := by
  induction j with
  | zero => rw [show i = 0 by omega]
  | succ j ih =>
    by_cases e : i = j + 1
    · rw [e]
    · rw [nz_no (hz j (by omega) (by omega)), ih (by omega) (fun k h1 h2 => hz k h1 (by omega))]
/-- Nothing more is there. -/
theorem nz_end {B : List Int} {i n : Nat} (h : nz B n = nz B i) (k : Nat) (h1 : i ≤ k) (h2 : k < n) : sub B k = zeroB 1 := by
  apply Decidable.byContradiction
  intro hz
  obtain ⟨l1, e1⟩ := nz_mono (B := B) h1
  obtain ⟨l2, e2⟩ := nz_mono (B := B) (show k + 1 ≤ n by omega)
  rw [nz_yes hz, e1] at e2
  rw [e2] at h
  have := congrArg List.length h
  simp at this
/-- What is told out of turn is no part of what is to be told. -/
theorem nz_wrong {B : List Int} {j i n x : Nat} (hj : j ≤ i) (hi : i ≤ n) (hz : ∀ k, j ≤ k → k < i → sub B k = zeroB 1) (hx : i < n → sub B i ≠ zeroB 1) (hne : x = i → n ≤ i) : ∀ m, m < n → nz B j ++ [x] ≠ nz B (m + 1) := by
  intro m hm e
  rw [← nz_skip hj hz] at e
  by_cases h : m + 1 ≤ i
  · obtain ⟨l, hl⟩ := nz_mono (B := B) h
    rw [hl] at e
    have := congrArg List.length e
    simp at this
  · have hin : i < n := by omega
    obtain ⟨l, hl⟩ := nz_mono (B := B) (show i + 1 ≤ m + 1 by omega)
    rw [hl, nz_yes (hx hin), List.append_assoc] at e
    have := List.append_cancel_left e
    simp at this
    have := hne this.1
    omega
end Go.Proofs.Ytkpcomldjnahhaa
