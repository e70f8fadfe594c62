/- A table's bytes are told as they were put together. Conditions: those that each theorem states. -/
import Derived.Test.YtjohobehhijbcaaTb4
import Derived.Test.YtjohobehhijbcaaTb5
namespace Go.Proofs.Ytjohobehhijbcaa
open Go.ChangeShapes Go.WideShapes Go.ChangeAt Go.RowKit
set_option linter.unusedSimpArgs false

theorem byD_spl (B : List Int) (o : Nat) (k g : Int) (i : Nat) (hl : B.length = 128) (ho : o + 8 ≤ 128) : byD (splice B o (ent8 k g)) i = if o ≤ i ∧ i < o + 8 then byD (ent8 k g) (i - o) else byD B i := by
  have l4 : (B.take o).length = o := by simp; omega
  unfold byD
  simp only [List.getD_eq_getElem?_getD]
  congr 1
  simp only [splice, ent8_len]
  by_cases h1 : i < o
  · rw [if_neg (by omega), List.getElem?_append_left (by omega), List.getElem?_take, if_pos h1]
  · by_cases h2 : i < o + 8
    · rw [if_pos ⟨by omega, h2⟩, List.getElem?_append_right (by omega), l4, List.getElem?_append_left (by rw [ent8_len]; omega)]
    · rw [if_neg (by omega), List.getElem?_append_right (by omega), List.getElem?_append_right (by rw [ent8_len, l4]; omega), List.getElem?_drop]
      rw [l4, ent8_len]
      have : o + 8 + (i - o - 8) = i := by omega
      rw [this]
theorem byD_tab (k0 g0 k1 g1 k2 g2 k3 g3 : Int) (i : Nat) : byD (tabN k0 g0 k1 g1 k2 g2 k3 g3 4) i = if 24 ≤ i ∧ i < 24 + 8 then byD (ent8 k3 g3) (i - 24) else if 16 ≤ i ∧ i < 16 + 8 then byD (ent8 k2 g2) (i - 16) else if 8 ≤ i ∧ i < 8 + 8 then byD (ent8 k1 g1) (i - 8) else if 0 ≤ i ∧ i < 0 + 8 then byD (ent8 k0 g0) (i - 0) else byD zeroB i := by
  show byD (splice (splice (splice (splice zeroB 0 (ent8 k0 g0)) 8 (ent8 k1 g1)) 16 (ent8 k2 g2)) 24 (ent8 k3 g3)) i = _
  have h1 := spl_len zeroB 0 k0 g0 zlen (by omega)
  have h2 := spl_len _ 8 k1 g1 h1 (by omega)
  have h3 := spl_len _ 16 k2 g2 h2 (by omega)
  rw [byD_spl _ 24 k3 g3 i h3 (by omega), byD_spl _ 16 k2 g2 i h2 (by omega), byD_spl _ 8 k1 g1 i h1 (by omega), byD_spl _ 0 k0 g0 i zlen (by omega)]
theorem ent_all {k g : Int} (h : mayB k g = true) : AllB (ent8 k g) := fun x hx => by
  obtain ⟨h1, h2, h3, h4, _⟩ := mayB_iff.1 h
  simp [ent8] at hx
  omega
theorem zero_all : AllB zeroB := fun x hx => by
  have := List.eq_of_mem_replicate hx
  omega
theorem splice_allB {B X : List Int} (hB : AllB B) (hX : AllB X) (o : Nat) : AllB (splice B o X) := fun x hx => by
  simp only [splice, List.mem_append] at hx
  rcases hx with h | h | h
  · exact hB x (List.mem_of_mem_take h)
  · exact hX x h
  · exact hB x (List.mem_of_mem_drop h)
theorem tab_all {k0 g0 k1 g1 k2 g2 k3 g3 : Int} (m0 : mayB k0 g0 = true) (m1 : mayB k1 g1 = true) (m2 : mayB k2 g2 = true) (m3 : mayB k3 g3 = true) : AllB (tabN k0 g0 k1 g1 k2 g2 k3 g3 4) :=
  splice_allB (splice_allB (splice_allB (splice_allB zero_all (ent_all m0) _) (ent_all m1) _) (ent_all m2) _) (ent_all m3) _
theorem ok_ent {k g : Int} (h : mayB k g = true) : okB k (g % 256) (g / 256) 0 0 0 0 0 = true := by
  obtain ⟨h1, h2, h3, h4, h5⟩ := mayB_iff.1 h
  rw [okB_iff]
  exact ⟨⟨h1, h2, by omega, by omega, by omega⟩, rfl, rfl, rfl, rfl, rfl⟩
theorem tab_back {k0 g0 k1 g1 k2 g2 k3 g3 : Int} (m0 : mayB k0 g0 = true) (m1 : mayB k1 g1 = true) (m2 : mayB k2 g2 = true) (m3 : mayB k3 g3 = true) :
    (∀ i, i < 4 → okAt (tabN k0 g0 k1 g1 k2 g2 k3 g3 4) i = true) ∧ kAt (tabN k0 g0 k1 g1 k2 g2 k3 g3 4) 0 = k0 ∧ gAt (tabN k0 g0 k1 g1 k2 g2 k3 g3 4) 0 = g0 ∧ kAt (tabN k0 g0 k1 g1 k2 g2 k3 g3 4) 1 = k1 ∧ gAt (tabN k0 g0 k1 g1 k2 g2 k3 g3 4) 1 = g1 ∧
      kAt (tabN k0 g0 k1 g1 k2 g2 k3 g3 4) 2 = k2 ∧ gAt (tabN k0 g0 k1 g1 k2 g2 k3 g3 4) 2 = g2 ∧ kAt (tabN k0 g0 k1 g1 k2 g2 k3 g3 4) 3 = k3 ∧ gAt (tabN k0 g0 k1 g1 k2 g2 k3 g3 4) 3 = g3 := by
  have o0 := ok_ent m0
  have o1 := ok_ent m1
  have o2 := ok_ent m2
  have o3 := ok_ent m3
  refine ⟨fun i hi => ?_, ?_, ?_, ?_, ?_, ?_, ?_, ?_, ?_⟩
  · rcases (show i = 0 ∨ i = 1 ∨ i = 2 ∨ i = 3 by omega) with rfl | rfl | rfl | rfl
    · simp only [okAt, byD_tab]
      simpa [byD, ent8] using o0
    · simp only [okAt, byD_tab]
      simpa [byD, ent8] using o1
    · simp only [okAt, byD_tab]
      simpa [byD, ent8] using o2
    · simp only [okAt, byD_tab]
      simpa [byD, ent8] using o3
  all_goals simp only [kAt, gAt, byD_tab]
  all_goals simp [byD, ent8]
  all_goals omega
/-- An entry's bytes are read as it. -/
theorem of_ent {k g : Int} (h : mayB k g = true) (w : World) :
    Calls Try.prog 9 #[.agg (bytesV (ent8 k g)).toArray] w fun e w' => e = .returned (.tuple #[.agg #[.int .i64 k, .int .i64 g], .int .i64 0]) ∧ Below w.heap.size w w' := by
  obtain ⟨h1, h2, h3, h4, _⟩ := mayB_iff.1 h
  have := of_any k (g % 256) (g / 256) 0 0 0 0 0 w (by omega) (by omega) (by omega)
  rw [ofV_yes (ok_ent h), show g % 256 + 256 * (g / 256) = g by omega] at this
  exact this
theorem st8_zero (w : World) : (storeCells ⟨w.heap.size, 0, none⟩ (bytesV zero8) 0).run Try.prog (w.alloc (.cells #[.int .u8 0, .int .u8 0, .int .u8 0, .int .u8 0, .int .u8 0, .int .u8 0, .int .u8 0, .int .u8 0] 22)) = .ok () (w.alloc (.cells (bytesV zero8).toArray 22)) :=
  run_storeCells_new (P := Try.prog) w 22 _ (bytesV zero8).toArray (by rw [size22]; rfl) rfl (all_oneCell_toArray (one_bytes _))
theorem agg8_zero : agg8 0 0 0 0 0 0 0 0 = .agg (bytesV zero8).toArray := rfl
theorem len8z : (bytesV zero8).length = 8 := rfl
end Go.Proofs.Ytjohobehhijbcaa
