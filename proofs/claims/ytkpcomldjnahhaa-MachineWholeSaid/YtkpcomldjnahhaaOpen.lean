/- Opening an argument that is a slice of structs of one-cell fields, over any program (the guide's lemma, to be copied); and the acts of layer 7 out of it. No condition. -/
import Derived.Test.YtkpcomldjnahhaaKit
import Derived.Deep.Slices
import Derived.Deep.Fields
import Derived.ChangeSame
namespace Go.Proofs.Ytkpcomldjnahhaa
open Go.ChangeShapes Go.WideShapes Go.Deep Go.ChangeAt Go.RowKit
section
variable {H : Type} {enc : TypeId × Value → H} {P : Program} {w : World} {base : Nat} {spare : Nat → Bool} {held : Bool}
theorem open_slice_fields {t e : TypeId} {fs : Array Field} {fuel : Nat} {cs : List Value} {x : DataW H × List MemPlace} (ht : P.underlying t = some (.slice e)) (he : P.underlying e = some (.struct fs))
    (hone : oneCellFields P fs = true) (hC : P.cellsOf e = fs.size) (h : DataW.trod enc P w base spare held fuel t cs = some x) :
    (cs = [.slice none 0 0] ∧ x = (.nil, [])) ∨
    ∃ (a : Addr) (len cap m : Nat) (D : Nat → DataW H) (Pl : Nat → List MemPlace), cs = [.slice (some a) len cap] ∧ base ≤ a.block ∧ len ≤ cap ∧ cap ≤ maxLen ∧ m = (if spare a.block then cap else len) ∧
      x = (.slice ((List.range len).map D) ((List.range (m - len)).map fun j => D (len + j)), MemPlace.row a (m * fs.size) ++ (List.range m).flatMap Pl) ∧
      ∀ i, i < m → ∃ (ys : List (DataW H × List MemPlace)) (n : Nat), D i = .agg (ys.map (·.1)) ∧ Pl i = ys.flatMap (·.2) ∧ ys.length = fs.size ∧
        ∀ (j : Nat) (f : Field), fs[j]? = some f → ∃ (v : Value) (y : DataW H × List MemPlace), w.cell? (a.add (i * fs.size + j)) = some v ∧ ys[j]? = some y ∧ DataW.trod enc P w base spare held n f.type [v] = some y := by
  rcases open_slice ht h with h0 | ⟨a, len, cap, m, n, D, Pl, hcs, hb, hl, hm, hmm, hx, hi⟩
  · exact .inl h0
  · refine .inr ⟨a, len, cap, m, D, Pl, hcs, hb, hl, hm, hmm, by rw [hC] at hx; exact hx, fun i him => ?_⟩
    obtain ⟨cs', hc, ht'⟩ := hi i him
    rw [hC] at hc
    obtain ⟨ys, n', hn', hy, hlen, hyl, hf⟩ := DataW.trod_struct he ht'
    obtain ⟨_, hcl, hat⟩ := World.cells?_some hc
    simp only [Prod.mk.injEq] at hy
    refine ⟨ys, n', hy.1, hy.2, hyl, fun j f hj => ?_⟩
    obtain ⟨ho, hk⟩ := hone_of hone j f hj
    have hjl : j < fs.size := (Array.getElem?_eq_some_iff.1 hj).1
    have hcell := hat j hjl
    have hv : cs'[j]? = some (cs'[j]'(by omega)) := List.getElem?_eq_getElem (by omega)
    have h1 := hf j f hj
    rw [ho, hk] at h1
    have hone' : (cs'.drop j).take 1 = [cs'[j]'(by omega)] := by
      rw [List.drop_eq_getElem_cons (by omega)]
      rfl
    rw [hone'] at h1
    have hys : ys[j]? = some (ys[j]'(by omega)) := List.getElem?_eq_getElem (by omega)
    refine ⟨_, _, ?_, hys, h1.trans hys⟩
    rw [← Go.Deep.add_add, hcell, hv]
end

section
variable {H : Type} {enc : TypeId × Value → H} {P : Program} {w : World} {base : Nat} {spare : Nat → Bool} {held : Bool}
/-- A slice of structs of integers that came in: a place, and in each cell an integer of its field's kind. 'n': how many fields; 'K': their kinds. -/
theorem open_int_structs {r : Reach} {b0 : Nat} {t e : TypeId} {fs : Array Field} {K : Nat → IntKind} {v : Value} {d : DataW H} {p : List MemPlace} (ht : P.underlying t = some (.slice e)) (he : P.underlying e = some (.struct fs))
    (hone : oneCellFields P fs = true) (hC : P.cellsOf e = fs.size) (h0 : 0 < fs.size) (hK : ∀ j f, fs[j]? = some f → P.underlying f.type = some (.int (K j)))
    (hv : Value.okWide P w r b0 t v) (h : DataW.Trod enc P w base spare held t v d p) :
    ∃ (x : Option Addr) (len cap b off : Nat) (A : Nat → Nat → Int), v = .slice x len cap ∧ len ≤ maxLen ∧ (0 < len → x = some ⟨b, off, none⟩ ∧ b < w.heap.size) ∧
      ∀ i j, i < len → j < fs.size → w.cell? ⟨b, off + i * fs.size + j, none⟩ = some (.int (K j) (A i j)) ∧ (Lit.int (K j) (A i j)).wf = true := by
  obtain ⟨x, len, cap, rfl⟩ := okWide_slice ht hv
  obtain ⟨fuel, hf⟩ := h
  rcases open_slice_fields ht he hone hC hf with ⟨hcs, _⟩ | ⟨a, len', cap', m, D, Pl, hcs, _, hlc, hcm, hm, _, hi⟩
  · simp [Value.cells] at hcs
    obtain ⟨rfl, rfl, rfl⟩ := hcs
    exact ⟨none, 0, 0, 0, 0, fun _ _ => 0, rfl, by simp [maxLen], by simp, by simp⟩
  · simp [Value.cells] at hcs
    obtain ⟨rfl, rfl, rfl⟩ := hcs
    have hlm : len ≤ m := by rw [hm]; split <;> omega
    have key : ∀ i j, ∃ z, i < len → j < fs.size → w.cell? (a.add (i * fs.size + j)) = some (.int (K j) z) ∧ (Lit.int (K j) z).wf = true := fun i j => by
      by_cases hij : i < len ∧ j < fs.size
      · obtain ⟨ys, n, _, _, _, hfl⟩ := hi i (by omega)
        obtain ⟨u, y, hc, _, htr⟩ := hfl j fs[j] (by simp [hij.2])
        obtain ⟨z, hz, _, hw⟩ := DataW.trod_int (hK j fs[j] (by simp [hij.2])) htr
        simp at hz
        subst hz
        exact ⟨z, fun _ _ => ⟨hc, hw⟩⟩
      · exact ⟨0, fun h1 h2 => absurd ⟨h1, h2⟩ hij⟩
    have hA : ∃ A : Nat → Nat → Int, ∀ i j, i < len → j < fs.size → w.cell? (a.add (i * fs.size + j)) = some (.int (K j) (A i j)) ∧ (Lit.int (K j) (A i j)).wf = true := by
      have h1 : ∀ i, ∃ B : Nat → Int, ∀ j, i < len → j < fs.size → w.cell? (a.add (i * fs.size + j)) = some (.int (K j) (B j)) ∧ (Lit.int (K j) (B j)).wf = true := fun i => Classical.axiomOfChoice (key i)
      exact Classical.axiomOfChoice h1
    obtain ⟨A, hA⟩ := hA
    by_cases hl : 0 < len
    · have hc := (hA 0 0 hl h0).1
      have ha : a.add (0 * fs.size + 0) = a := by simp [Addr.add]
      rw [ha] at hc
      obtain ⟨b, off, spot⟩ := a
      have hsp : spot = none := by
        cases spot with
        | none => rfl
        | some q =>
          exfalso
          unfold World.cell? at hc
          split at hc <;> simp at hc
      subst hsp
      refine ⟨_, len, cap, b, off, A, rfl, by omega, fun _ => ⟨rfl, block_lt_of_cell hc⟩, fun i j h1 h2 => ?_⟩
      have := hA i j h1 h2
      have e : (⟨b, off, none⟩ : Addr).add (i * fs.size + j) = ⟨b, off + i * fs.size + j, none⟩ := by
        unfold Addr.add
        split
        · rename_i hz; simp_all
        · simp [Nat.add_assoc]
      rw [e] at this
      exact this
    · exact ⟨_, len, cap, 0, 0, A, rfl, by omega, fun h => absurd h hl, fun i j h1 _ => by omega⟩
end
end Go.Proofs.Ytkpcomldjnahhaa
