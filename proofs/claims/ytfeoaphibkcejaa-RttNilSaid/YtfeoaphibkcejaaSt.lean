/- Contract: the table of steps. No condition. -/
import Derived.Test.YtfeoaphibkcejaaRows
import Derived.Test.YtfeoaphibkcejaaSteps
namespace Go.Proofs.Ytfeoaphibkcejaa
open Go.ChangeShapes Go.WideShapes Go.ChangeAt Go.RowKit
set_option linter.unusedSimpArgs false

theorem zero59 (w : World) : (zeroValue 90).run Try.prog w = .ok (.agg #[.bool false]) w := by kernel_rfl
theorem info54 : ∃ i, Try.prog.info? 54 = some i := by
  have h : (Try.prog.info? 54).isSome = true := by kernel_rfl
  exact Option.isSome_iff_exists.1 h
theorem stT : StTypes Try.prog 92 94 54 90 := ⟨Try.underlying92, Try.underlying94, Try.underlying54, by kernel_rfl, info54, zero59⟩

theorem set_last (w : World) (o o' : Obj) : { (w.alloc o).drew with heap := (w.alloc o).drew.heap.setIfInBounds w.heap.size o' } = (w.alloc o').drew := by
  have : (w.heap.push o).setIfInBounds w.heap.size o' = w.heap.push o' := by
    apply Array.ext
    · simp
    · intro i h1 h2
      simp at h1 h2
      by_cases hi : i = w.heap.size
      · subst hi; simp
      · rw [Array.getElem_setIfInBounds_ne (by simp; omega) (by omega)]
        simp [Array.getElem_push, show i < w.heap.size by omega]
  show ({ os := _, tape := _, drawn := _, output := _, heap := (w.heap.push o).setIfInBounds w.heap.size o' } : World) = _
  rw [this]
  rfl
theorem run_ins (w : World) (L : StL) (a b : Int) (v : Bool) (hn : stGet L a b = none) :
    (Instr.mapUpdate 92 (.map (some w.heap.size)) (.agg #[.int .i64 a, .int .i64 b]) (.agg #[.bool v])).run Try.prog (w.alloc (.map (stEnts L) L.length)).drew = .ok () (w.alloc (.map (stEnts (L ++ [((a, b), v)])) (L ++ [((a, b), v)]).length)).drew := by
  have h := run_st_new stT (w := (w.alloc (.map (stEnts L) L.length)).drew) (m := w.heap.size) (L := L) (heap_here (w := w) rfl) a b v hn
  exact h.trans (congrArg (Result.ok ()) (set_last w _ _))
def la : StL := [((0, 1), false)]
def lb : StL := [((1, 0), false)]
def lab : StL := [((0, 1), false), ((1, 0), false)]
def lba : StL := [((1, 0), false), ((0, 1), false)]
theorem ins1 (w : World) : (Instr.mapUpdate 92 (.map (some w.heap.size)) (.agg #[.int .i64 0, .int .i64 1]) (.agg #[.bool false])).run Try.prog (w.alloc (.map #[] 0)).drew = .ok () (w.alloc (.map (stEnts la) 1)).drew := run_ins w [] 0 1 false rfl
theorem ins2 (w : World) : (Instr.mapUpdate 92 (.map (some w.heap.size)) (.agg #[.int .i64 1, .int .i64 0]) (.agg #[.bool false])).run Try.prog (w.alloc (.map #[] 0)).drew = .ok () (w.alloc (.map (stEnts lb) 1)).drew := run_ins w [] 1 0 false rfl
theorem ins3 (w : World) : (Instr.mapUpdate 92 (.map (some w.heap.size)) (.agg #[.int .i64 1, .int .i64 0]) (.agg #[.bool false])).run Try.prog (w.alloc (.map (stEnts la) 1)).drew = .ok () (w.alloc (.map (stEnts lab) 2)).drew := run_ins w la 1 0 false rfl
theorem ins4 (w : World) : (Instr.mapUpdate 92 (.map (some w.heap.size)) (.agg #[.int .i64 0, .int .i64 1]) (.agg #[.bool false])).run Try.prog (w.alloc (.map (stEnts lb) 1)).drew = .ok () (w.alloc (.map (stEnts lba) 2)).drew := run_ins w lb 0 1 false rfl
attribute [local go_sem] ins1 ins2 ins3 ins4

/-- The entries behind k rounds of the loop. -/
def addK (L : StL) (k : Nat) : StL := L ++ (List.range k).flatMap fun (j : Nat) => ([((1, (2 + (j : Int))), true), (((2 + (j : Int)), 1), false)] : StL)
theorem addK_succ (L : StL) (k : Nat) : addK L (k + 1) = (addK L k ++ [((1, (2 + k : Int)), true)]) ++ [(((2 + k : Int), 1), false)] := by
  simp [addK, List.range_succ]

set_option maxHeartbeats 1000000 in
theorem steps_any (w : World) : Calls Try.prog 39 #[] w fun e w' => ∃ m L, e = .returned (.map (some m)) ∧ StMap w' m L ∧ (L = addK lab 4 ∨ L = addK lba 4) ∧ Below w.heap.size w w' := by
  go_enter Try.func39, Try.ntmps39
  go_wp2
  have hmm := @run_makeMap Try.prog
  go_region
  all_goals go_wp2
  · go_loopw [3, 12] (fun _ i wr => ∃ k : Nat, k ≤ 4 ∧ i = .int .i64 k ∧ StMap wr w.heap.size (addK lab k) ∧ wr.heap[w.heap.size + 1]? = some (.cells #[.int .i64 2, .int .i64 3, .int .i64 4, .int .i64 5] 54 (0, 0)) ∧ Below w.heap.size w wr) (fun _ i _ => 4 - (intOf i).toNat)
    case atStart => exact ⟨0, by omega, rfl, by rw [show addK lab 0 = lab from rfl]; exact heap_past (by simp) (heap_here rfl), heap_here (by simp), (((Below.refl _ _).alloc (by simp) _).alloc (by simp) _).drew⟩
    case round =>
      obtain ⟨k, hk, rfl, hst, hrow, hbel⟩ := hrel
      by_cases hlt : k < 4
      · have hc : wr.cell? ⟨w.heap.size + 1, k, none⟩ = some (.int .i64 (2 + k)) := by
          rw [cell_of_row _ _ k _ _ _ hrow]
          have : k = 0 ∨ k = 1 ∨ k = 2 ∨ k = 3 := by omega
          rcases this with rfl | rfl | rfl | rfl <;> rfl
        have hn1 : stGet (addK lab k) 1 (2 + k) = none := by
          have : k = 0 ∨ k = 1 ∨ k = 2 ∨ k = 3 := by omega
          rcases this with rfl | rfl | rfl | rfl <;> decide
        have hn2 : stGet (addK lab k ++ [((1, (2 + k : Int)), true)]) (2 + k) 1 = none := by
          have : k = 0 ∨ k = 1 ∨ k = 2 ∨ k = 3 := by omega
          rcases this with rfl | rfl | rfl | rfl <;> decide
        have N1 := Lib.hid hn1
        have N2 := Lib.hid hn2
        have HS := Lib.hid hst
        have HR := Lib.hid hrow
        clear hn1 hn2 hst hrow
        go_wp2_with (first | (refine wpList_st_new stT rfl (.tmp 16) (.tmp 18) (.tmp 19) rfl w.heap.size _ rfl HS.out 1 (2 + k) true rfl rfl N1.out ?_; intro w1 hs1 hg1; have HS1 := Lib.hid hs1; clear hs1) | (refine wpList_st_new stT rfl (.tmp 20) (.tmp 22) (.tmp 23) rfl w.heap.size _ rfl HS1.out (2 + k) 1 false rfl rfl N2.out ?_; intro w2 hs2 hg2; have HS2 := Lib.hid hs2; clear hs2))
        have HA : Hid (addK lab (k + 1) = _) := addK_succ lab k
        go_roundw
        case rel => exact ⟨k + 1, by omega, by go_num, by rw [HA.out]; exact HS2.out, ((hg2.block _ (by have := hg1.size; have := (Array.getElem?_eq_some_iff.1 HR.out).1; omega) (by simp)).trans (hg1.block _ (by have := (Array.getElem?_eq_some_iff.1 HR.out).1; omega) (by simp))).trans HR.out,
          (hbel.grown hg1 hbel.size (fun q hq => by simp at hq; omega)).grown hg2 (Nat.le_trans hbel.size hg1.size) (fun q hq => by simp at hq; omega)⟩
        case measure => simp [intOf]; omega
      · obtain rfl : k = 4 := by omega
        go_wp2
        go_ret
        exact ⟨_, _, rfl, hst, .inl rfl, hbel⟩
  · go_loopw [3, 12] (fun _ i wr => ∃ k : Nat, k ≤ 4 ∧ i = .int .i64 k ∧ StMap wr w.heap.size (addK lba k) ∧ wr.heap[w.heap.size + 1]? = some (.cells #[.int .i64 2, .int .i64 3, .int .i64 4, .int .i64 5] 54 (0, 0)) ∧ Below w.heap.size w wr) (fun _ i _ => 4 - (intOf i).toNat)
    case atStart => exact ⟨0, by omega, rfl, by rw [show addK lba 0 = lba from rfl]; exact heap_past (by simp) (heap_here rfl), heap_here (by simp), (((Below.refl _ _).alloc (by simp) _).alloc (by simp) _).drew⟩
    case round =>
      obtain ⟨k, hk, rfl, hst, hrow, hbel⟩ := hrel
      by_cases hlt : k < 4
      · have hc : wr.cell? ⟨w.heap.size + 1, k, none⟩ = some (.int .i64 (2 + k)) := by
          rw [cell_of_row _ _ k _ _ _ hrow]
          have : k = 0 ∨ k = 1 ∨ k = 2 ∨ k = 3 := by omega
          rcases this with rfl | rfl | rfl | rfl <;> rfl
        have hn1 : stGet (addK lba k) 1 (2 + k) = none := by
          have : k = 0 ∨ k = 1 ∨ k = 2 ∨ k = 3 := by omega
          rcases this with rfl | rfl | rfl | rfl <;> decide
        have hn2 : stGet (addK lba k ++ [((1, (2 + k : Int)), true)]) (2 + k) 1 = none := by
          have : k = 0 ∨ k = 1 ∨ k = 2 ∨ k = 3 := by omega
          rcases this with rfl | rfl | rfl | rfl <;> decide
        have N1 := Lib.hid hn1
        have N2 := Lib.hid hn2
        have HS := Lib.hid hst
        have HR := Lib.hid hrow
        clear hn1 hn2 hst hrow
        go_wp2_with (first | (refine wpList_st_new stT rfl (.tmp 16) (.tmp 18) (.tmp 19) rfl w.heap.size _ rfl HS.out 1 (2 + k) true rfl rfl N1.out ?_; intro w1 hs1 hg1; have HS1 := Lib.hid hs1; clear hs1) | (refine wpList_st_new stT rfl (.tmp 20) (.tmp 22) (.tmp 23) rfl w.heap.size _ rfl HS1.out (2 + k) 1 false rfl rfl N2.out ?_; intro w2 hs2 hg2; have HS2 := Lib.hid hs2; clear hs2))
        have HA : Hid (addK lba (k + 1) = _) := addK_succ lba k
        go_roundw
        case rel => exact ⟨k + 1, by omega, by go_num, by rw [HA.out]; exact HS2.out, ((hg2.block _ (by have := hg1.size; have := (Array.getElem?_eq_some_iff.1 HR.out).1; omega) (by simp)).trans (hg1.block _ (by have := (Array.getElem?_eq_some_iff.1 HR.out).1; omega) (by simp))).trans HR.out,
          (hbel.grown hg1 hbel.size (fun q hq => by simp at hq; omega)).grown hg2 (Nat.le_trans hbel.size hg1.size) (fun q hq => by simp at hq; omega)⟩
        case measure => simp [intOf]; omega
      · obtain rfl : k = 4 := by omega
        go_wp2
        go_ret
        exact ⟨_, _, rfl, hst, .inr rfl, hbel⟩

/-- Which steps there are, and whether an owner must be. -/
def stepF (a b : Int) : Option Bool :=
  if (a = 0 ∧ b = 1) ∨ (a = 1 ∧ b = 0) ∨ (2 ≤ a ∧ a ≤ 5 ∧ b = 1) then some false else if a = 1 ∧ 2 ≤ b ∧ b ≤ 5 then some true else none
theorem get_steps (L : StL) (h : L = addK lab 4 ∨ L = addK lba 4) (a b : Int) : stGet L a b = stepF a b := by
  by_cases hin : 0 ≤ a ∧ a ≤ 5 ∧ 0 ≤ b ∧ b ≤ 5
  · obtain ⟨a0, a5, b0, b5⟩ := hin
    have ha : a = 0 ∨ a = 1 ∨ a = 2 ∨ a = 3 ∨ a = 4 ∨ a = 5 := by omega
    have hb : b = 0 ∨ b = 1 ∨ b = 2 ∨ b = 3 ∨ b = 4 ∨ b = 5 := by omega
    rcases h with rfl | rfl <;> rcases ha with rfl | rfl | rfl | rfl | rfl | rfl <;> rcases hb with rfl | rfl | rfl | rfl | rfl | rfl <;> rfl
  · have e : ∀ M : StL, (M = lab ∨ M = lba) → addK M 4 = M ++ [((1, 2), true), ((2, 1), false), ((1, 3), true), ((3, 1), false), ((1, 4), true), ((4, 1), false), ((1, 5), true), ((5, 1), false)] := by
      rintro M (rfl | rfl) <;> rfl
    rcases h with rfl | rfl
    all_goals
      rw [e _ (by simp)]
      simp only [lab, lba, List.cons_append, List.nil_append, stGet, stepF]
      iterate 12 rw [if_neg (by omega)]
end Go.Proofs.Ytfeoaphibkcejaa
