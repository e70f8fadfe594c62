/- Contract: two lists of entries are the same. Conditions: those that each theorem states. -/
import Derived.Test.YtjohobehhijbcaaTb3
namespace Go.Proofs.Ytjohobehhijbcaa
open Go.ChangeShapes Go.WideShapes Go.ChangeAt Go.RowKit
set_option linter.unusedSimpArgs false

theorem same_nil (x y : Option Addr) (c d : Nat) (w : World) :
    Calls Try.prog 37 #[.slice x 0 c, .slice y 0 d] w fun e w' => e = .returned (.bool true) ∧ Below w.heap.size w w' := by
  go_enter Try.func37, Try.ntmps37
  go_wp2_with fail
  refine wp_loop_rounds 1 ?_
  rw [rounds_succ]
  go_wp2_with fail
  go_ret
  exact ⟨rfl, Below.refl _ _⟩
set_option maxHeartbeats 4000000 in
set_option maxRecDepth 100000 in
theorem same_4 (b o c b' o' c' : Nat) (k0 g0 k1 g1 k2 g2 k3 g3 : Int) (w : World) (h : E4 w b o k0 g0 k1 g1 k2 g2 k3 g3) (h' : E4 w b' o' k0 g0 k1 g1 k2 g2 k3 g3) :
    Calls Try.prog 37 #[.slice (some ⟨b, o, none⟩) 4 c, .slice (some ⟨b', o', none⟩) 4 c'] w fun e w' => e = .returned (.bool true) ∧ Below w.heap.size w w' := by
  obtain ⟨_, c0, c1, c2, c3, c4, c5, c6, c7⟩ := h
  obtain ⟨_, d0, d1, d2, d3, d4, d5, d6, d7⟩ := h'
  go_enter Try.func37, Try.ntmps37
  go_wp2_with fail
  refine wp_loop_rounds 5 ?_
  iterate 4
    rw [rounds_succ]
    go_wp2_with fail
    go_quiet (fail)
    go_wp2_with fail
  rw [rounds_succ]
  go_wp2_with fail
  go_ret
  exact ⟨rfl, below_drewN (Below.refl _ _) _⟩
end Go.Proofs.Ytjohobehhijbcaa
