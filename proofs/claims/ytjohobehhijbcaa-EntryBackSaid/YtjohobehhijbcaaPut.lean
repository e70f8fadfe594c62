/- Contracts: the reference's eight bytes of a number (Put), and of an entry (Bytes). Conditions: those that each theorem states. -/
import Derived.Test.YtjohobehhijbcaaOf
import Derived.Laws.CopyOwn
import Derived.Maps.AppendAt
import Derived.Deep.RegionLaw
namespace Go.Proofs.Ytjohobehhijbcaa
open Go.ChangeShapes Go.WideShapes Go.ChangeAt Go.RowKit
set_option linter.unusedSimpArgs false

theorem inf5 : (Try.prog.info? 5).map (fun i => (i.zero, i.size, i.bytes)) = some (some (.int .u8 0), 1, 1) := by kernel_rfl

/-- The first k bytes of a number, the lowest first. -/
def lowB (n : Int) (k : Nat) : List Int := (List.range k).map fun j => n / 256 ^ j % 256
theorem lowB_succ (n : Int) (k : Nat) : lowB n (k + 1) = lowB n k ++ [n / 256 ^ k % 256] := by simp [lowB, List.range_succ]
theorem lowB_len (n : Int) (k : Nat) : (lowB n k).length = k := by simp [lowB]

set_option maxHeartbeats 1000000 in
theorem put_any (n : Int) (w : World) (h0 : 0 ≤ n) (h1 : n < 18446744073709551616) :
    Calls Try.prog 46 #[.int .u64 n, .int .i64 8] w fun e w' => ∃ v, e = .returned v ∧ w'.ownsRow w.heap.size 5 1 v 8 ((lowB n 8).map (Value.int .u8)) ∧ Below w.heap.size w w' := by
  obtain ⟨i0, hi, hz0, hz1, hz2⟩ := info_parts inf5
  have hb64 : Hid (n < 18446744073709551616) := h1
  clear h1
  go_enter Try.func46, Try.ntmps46
  go_wp2
  go_loopw [0, 5, 6] (fun m v i wr => ∃ k : Nat, k ≤ 8 ∧ i = .int .i64 k ∧ m = .int .u64 (n / 256 ^ k) ∧ wr.ownsRow w.heap.size 5 1 v k ((lowB n k).map (Value.int .u8)) ∧ Below w.heap.size w wr) (fun _ _ i _ => 8 - (intOf i).toNat)
  case atStart => exact ⟨0, Nat.zero_le _, rfl, by simp, World.ownsRow_nil _ _ _ _, Below.refl _ _⟩
  case round =>
    obtain ⟨k, hk, rfl, rfl, hown, hbel⟩ := hrel
    by_cases hlt : k < 8
    · obtain ⟨m, hm⟩ : ∃ m, m = n / 256 ^ k := ⟨_, rfl⟩
      have m0 : 0 ≤ m := hm ▸ Int.ediv_nonneg h0 (Int.le_of_lt (Int.pow_pos (by decide)))
      have m1 : m ≤ 18446744073709551615 := by
        have := Int.ediv_le_self (256 ^ k) h0
        have := hb64.out
        omega
      have HM : Hid (m = n / 256 ^ k) := hm
      rw [← hm]
      clear hm
      go_wp2_with (at_builtin; go_loud (refine wpList_append_own _ rfl _ _ 64 rfl w.heap.size 5 i0 (.int .u8 0) 1 1 Try.underlying64 hi hz0 hz1 hz2 rfl (by decide) _ _ _ rfl (hown.alloc _) ⟨wr.heap.size, 0, none⟩ 1 1 [.int .u8 (m % 256)] rfl rfl ?c1 ?c2 ?c3 ?c4 ?c5 ?_))
      case c1 => exact cell_one_new _ _ _
      case c2 => intro u hu; simp at hu; subst hu; rfl
      case c3 => unfold maxLen; omega
      case c4 => omega
      case c5 => have := hbel.size; simp; omega
      intro v' w1 hown' hgrow _
      have hn' : w1.ownsRow w.heap.size 5 1 v' (k + 1) ((lowB n (k + 1)).map (Value.int .u8)) := by
        rw [lowB_succ, ← HM.out]; simpa using hown'
      have hb' : Below w.heap.size w w1 := (hbel.alloc hbel.size _).grown hgrow (by have := hbel.size; simp; omega) (fun q hq => by
        rcases hown.2 with ⟨rfl, _⟩ | ⟨g, cap, cur, rfl, hg, _⟩ <;> simp [Value.ownBlock] at hq
        omega)
      have hq : Hid (m / 256 = n / 256 ^ (k + 1)) := by
        show m / 256 = n / 256 ^ (k + 1)
        rw [HM.out, Int.ediv_ediv_of_nonneg (Int.le_of_lt (Int.pow_pos (by decide))), Int.pow_succ]
      clear hown hown' hgrow hbel
      go_wp2
      go_roundw
      case rel => exact ⟨k + 1, by omega, by go_num, by rw [hq.out], hn', hb'⟩
      case measure => simp [intOf]; omega
    · go_wp2
      go_ret
      obtain rfl : k = 8 := by omega
      exact ⟨_, rfl, hown, hbel⟩

theorem low8 (k g : Int) (h1 : 0 ≤ k) (h2 : k ≤ 6) (h3 : 0 ≤ g) (h4 : g < 4096) : lowB (k + 256 * g) 8 = [k, g % 256, g / 256, 0, 0, 0, 0, 0] := by
  simp only [lowB, show List.range 8 = [0, 1, 2, 3, 4, 5, 6, 7] from rfl, List.map_cons, List.map_nil]
  simp only [List.cons.injEq, and_true]
  refine ⟨?_, ?_, ?_, ?_, ?_, ?_, ?_, ?_⟩ <;> omega

/-- The eight bytes of an entry's number lie in a row of the call's own. -/
theorem put8 (k g : Int) (w : World) (h1 : 0 ≤ k) (h2 : k ≤ 6) (h3 : 0 ≤ g) (h4 : g < 4096) :
    Calls Try.prog 46 #[.int .u64 (k + 256 * g), .int .i64 8] w fun e w' => ∃ (b cap : Nat), e = .returned (.slice (some ⟨b, 0, none⟩) 8 cap) ∧ w.heap.size ≤ b ∧
      (∀ (j : Nat) (u : Value), [Value.int .u8 k, .int .u8 (g % 256), .int .u8 (g / 256), .int .u8 0, .int .u8 0, .int .u8 0, .int .u8 0, .int .u8 0][j]? = some u → w'.cell? ((⟨b, 0, none⟩ : Addr).add j) = some u) ∧ Below w.heap.size w w' := by
  refine (put_any (k + 256 * g) w (by omega) (by omega)).mono ?_
  rintro e w' ⟨v, rfl, hown, hb⟩
  rw [low8 k g h1 h2 h3 h4] at hown
  obtain ⟨_, ⟨_, hz⟩ | ⟨b, cap, cur, rfl, hge, hrow, hle, _, hsz, htake⟩⟩ := hown
  · omega
  · refine ⟨b, cap, rfl, hge, ?_, hb⟩
    intro j u hj
    have hc := cell_of_row w' b j cur 5 (0, 0) hrow
    have ha : (⟨b, 0, none⟩ : Addr).add j = ⟨b, j, none⟩ := by unfold Addr.add; split <;> simp_all
    rw [ha, hc]
    have hj8 : j < 8 := by
      have := (List.getElem?_eq_some_iff.1 hj).1
      simpa using this
    have := congrArg (fun l => l[j]?) htake
    simp only [Nat.mul_one, List.getElem?_take, hj8, if_true] at this
    rw [← Array.getElem?_toList, this]
    simpa using hj

set_option maxHeartbeats 1000000 in
theorem rbytes_yes (k g : Int) (w : World) (h : mayB k g = true) :
    Calls Try.prog 31 #[.agg #[.int .i64 k, .int .i64 g]] w fun e w' => e = .returned (agg8 k (g % 256) (g / 256) 0 0 0 0 0) ∧ Below w.heap.size w w' := by
  obtain ⟨h1, h2, h3, h4, h5⟩ := mayB_iff.1 h
  clear h h5
  have q1 : IntKind.u64.wrap k = k := IntWalk.u64_in _ (by omega)
  have q2 : IntKind.u64.wrap g = g := IntWalk.u64_in _ (by omega)
  have q3 : IntKind.u64.wrap (256 * g) = 256 * g := IntWalk.u64_in _ (by omega)
  have q4 : IntKind.u64.wrap (k + 256 * g) = k + 256 * g := IntWalk.u64_in _ (by omega)
  go_enter Try.func31, Try.ntmps31
  go_wp2
  go_region_law (first | (refine step_copy_splice rfl (.tmp 4) (.tmp 13) 64 64 rfl 5 Try.underlying64 (by kernel_rfl) _ _ _ _ _ _ rfl rfl (w.heap.size + 1 + 1) 0 [.int .u8 0, .int .u8 0, .int .u8 0, .int .u8 0, .int .u8 0, .int .u8 0, .int .u8 0, .int .u8 0] 22 hrow [.int .u8 k, .int .u8 (g % 256), .int .u8 (g / 256), .int .u8 0, .int .u8 0, .int .u8 0, .int .u8 0, .int .u8 0] rfl (fun _ => ⟨rfl, _, rfl, hcells⟩) (by simp) (by simp [Value.oneCell']) (w.heap.size + 1 + 1) ((w.alloc (.cells #[.int .i64 k, .int .i64 g] 25)).alloc (.cells #[.int .u8 0, .int .u8 0, .int .u8 0, .int .u8 0, .int .u8 0, .int .u8 0, .int .u8 0, .int .u8 0] 22)) hbel (by omega) ?_; intro w4 hg4 hb4) | (go_simp; go_at_call 46; refine (put8 k g _ h1 h2 h3 h4).mono ?_; rintro e w' ⟨b, cap, rfl, hbb, hcells, hb⟩; have hrow := (hb.block (w.heap.size + 1 + 1) (by simp)).trans (heap_here (by simp)); have hbel : Below (w.heap.size + 1 + 1) ((w.alloc (.cells #[.int .i64 k, .int .i64 g] 25)).alloc (.cells #[.int .u8 0, .int .u8 0, .int .u8 0, .int .u8 0, .int .u8 0, .int .u8 0, .int .u8 0, .int .u8 0] 22)) w' := ((Below.refl _ _).alloc (by simp) _).drew.trans (hb.mono (by simp <;> omega))))
  all_goals
    have r3 : w4.heap[w.heap.size + 1 + 1]? = some (.cells #[.int .u8 k, .int .u8 (g % 256), .int .u8 (g / 256), .int .u8 0, .int .u8 0, .int .u8 0, .int .u8 0, .int .u8 0] 22 (0, 0)) := hg4.out
    have r2 : w4.heap[w.heap.size + 1]? = some (.cells #[.int .u8 0, .int .u8 0, .int .u8 0, .int .u8 0, .int .u8 0, .int .u8 0, .int .u8 0, .int .u8 0] 22 (0, 0)) := (hb4.block _ (by omega)).trans (heap_here (by simp))
    have hlow : Below w.heap.size w w4 := (((Below.refl _ _).alloc (by simp) _).alloc (by simp) _).trans (hb4.mono (by omega))
    have hsz := hb4.size
    simp at hsz
    clear hg4 hb4 hcells hb hrow hbel
    have c0 := cell_of_row _ _ 0 _ _ _ r3
    have d0 := cell_of_row _ _ 0 _ _ _ r2
    have f0 := frozen_of_row _ _ 0 _ _ r2
    have c1 := cell_of_row _ _ 1 _ _ _ r3
    have d1 := cell_of_row _ _ 1 _ _ _ r2
    have f1 := frozen_of_row _ _ 1 _ _ r2
    have c2 := cell_of_row _ _ 2 _ _ _ r3
    have d2 := cell_of_row _ _ 2 _ _ _ r2
    have f2 := frozen_of_row _ _ 2 _ _ r2
    have c3 := cell_of_row _ _ 3 _ _ _ r3
    have d3 := cell_of_row _ _ 3 _ _ _ r2
    have f3 := frozen_of_row _ _ 3 _ _ r2
    have c4 := cell_of_row _ _ 4 _ _ _ r3
    have d4 := cell_of_row _ _ 4 _ _ _ r2
    have f4 := frozen_of_row _ _ 4 _ _ r2
    have c5 := cell_of_row _ _ 5 _ _ _ r3
    have d5 := cell_of_row _ _ 5 _ _ _ r2
    have f5 := frozen_of_row _ _ 5 _ _ r2
    have c6 := cell_of_row _ _ 6 _ _ _ r3
    have d6 := cell_of_row _ _ 6 _ _ _ r2
    have f6 := frozen_of_row _ _ 6 _ _ r2
    have c7 := cell_of_row _ _ 7 _ _ _ r3
    have d7 := cell_of_row _ _ 7 _ _ _ r2
    have f7 := frozen_of_row _ _ 7 _ _ r2
    simp at c0 d0 c1 d1 c2 d2 c3 d3 c4 d4 c5 d5 c6 d6 c7 d7
    have R2 := Lib.hid r2
    clear r2 r3
    go_wp2
    refine ret_row rfl (w.heap.size + 1) 22 _ (0, 0) _ Try.underlying22 rfl ?_ rfl (heap_setCell_same _ _ _ _ _ _ (heap_setCell_same _ _ _ _ _ _ (heap_setCell_same _ _ _ _ _ _ (heap_setCell_same _ _ _ _ _ _ (heap_setCell_same _ _ _ _ _ _ (heap_setCell_same _ _ _ _ _ _ (heap_setCell_same _ _ _ _ _ _ (heap_setCell_same _ _ _ _ _ _ R2.out)))))))) rfl ?_
    · kernel_rfl
    · exact ⟨rfl, ((((((((hlow.setCell (by simp) _).setCell (by simp) _).setCell (by simp) _).setCell (by simp) _).setCell (by simp) _).setCell (by simp) _).setCell (by simp) _).setCell (by simp) _)⟩
end Go.Proofs.Ytjohobehhijbcaa
