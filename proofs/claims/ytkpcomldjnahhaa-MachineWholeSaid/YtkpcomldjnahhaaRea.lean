/- Contract of layer 6's Read: some of a memory's bytes. Conditions: those that each theorem states. -/
import Derived.Test.YtkpcomldjnahhaaWrt
namespace Go.Proofs.Ytkpcomldjnahhaa
open Go.ChangeShapes Go.WideShapes Go.ChangeAt Go.RowKit
set_option linter.unusedSimpArgs false

theorem read_neg (mb ab n : Nat) (B : List Int) (a k : Int) (w : World) (h : Mem w mb ab n B) (hk : k < 0) :
    Calls Try.prog 13 #[.pointer (some ⟨mb, 0, none⟩), .int .u64 a, .int .i64 k] w fun e w' => e = .returned (.tuple #[.slice none 0 0, .int .i64 2]) ∧ w = w' := by
  have hpn := h.pos
  have hx := h.max
  have H := Lib.hid h
  clear h
  go_enter Try.func13, Try.ntmps13
  go_wp2_with (first | (go_at_call 15; refine (gran _ _ _ _ _ H.out).mono ?_; rintro e w1 ⟨rfl, rfl⟩))
  all_goals first | (exfalso; omega) | skip
  go_ret2
  exact ⟨rfl, rfl⟩
theorem read_out (mb ab n : Nat) (B : List Int) (a k : Int) (w : World) (h : Mem w mb ab n B) (h0 : 0 ≤ a) (h1 : a < 18446744073709551616) (hk : 0 < k) (k1 : k < 9223372036854775808) (ho : 128 * n < a + k) :
    Calls Try.prog 13 #[.pointer (some ⟨mb, 0, none⟩), .int .u64 a, .int .i64 k] w fun e w' => e = .returned (.tuple #[.slice none 0 0, .int .i64 6]) ∧ w = w' := by
  have hpn := h.pos
  have hx := h.max
  have H := Lib.hid h
  clear h
  go_enter Try.func13, Try.ntmps13
  go_wp2_with (first | (go_at_call 15; refine (gran _ _ _ _ _ H.out).mono ?_; rintro e w1 ⟨rfl, rfl⟩) | (go_at_call 27; refine (within_no _ _ _ _ _ _ _ H.out (by omega) (by omega) (by omega) (by omega) (by omega)).mono ?_; rintro e w1 ⟨rfl, rfl⟩))
  all_goals first | (exfalso; omega) | skip
  go_ret2
  exact ⟨rfl, rfl⟩

theorem take_take_drop (B : List Int) (a j m : Nat) : (B.drop a).take j ++ (B.drop (a + j)).take m = (B.drop a).take (j + m) := by
  rw [List.take_add, List.drop_drop]

theorem shape {w : World} {base n : Nat} {v : Value} {L : List Value} (h : w.ownsRow base 5 1 v n L) (_h0 : 0 < n) : ∃ x cap, v = .slice x n cap := by
  obtain ⟨_, ⟨_, hz⟩ | ⟨b, cap, cur, rfl, _⟩⟩ := h
  · omega
  · exact ⟨_, _, rfl⟩

set_option maxHeartbeats 2000000 in
set_option maxRecDepth 100000 in
theorem read_in (mb ab n : Nat) (B : List Int) (a k : Nat) (w : World) (h : Mem w mb ab n B) (h1 : a < 18446744073709551616) (ho : k = 0 ∨ a + k ≤ 128 * n) :
    Calls Try.prog 13 #[.pointer (some ⟨mb, 0, none⟩), .int .u64 a, .int .i64 k] w fun e w' => ∃ v, e = .returned (.tuple #[v, .int .i64 0]) ∧ w'.ownsRow w.heap.size 5 1 v k (bytesV ((B.drop a).take k)) ∧ Below w.heap.size w w' := by
  have hpn := h.pos
  have hx := h.max
  have hlt := h.lt
  obtain ⟨i0, hi, hz0, hz1, hz2⟩ := info_parts inf5
  have H := Lib.hid h
  clear h
  go_enter Try.func13, Try.ntmps13
  go_wp2_with (first | (go_at_call 15; refine (gran _ _ _ _ _ H.out).mono ?_; rintro e w1 ⟨rfl, rfl⟩) | (go_at_call 27; refine (within_yes _ _ _ _ _ _ _ H.out (by omega) (by omega) (by omega) (by omega) (by omega)).mono ?_; rintro e w1 ⟨rfl, rfl⟩))
  all_goals first | (exfalso; omega) | skip
  go_loopw [8] (fun v wr => ∃ j : Nat, j ≤ k ∧ (∃ x cap, v = .slice x j cap) ∧ wr.ownsRow w.heap.size 5 1 v j (bytesV ((B.drop a).take j)) ∧ Below w.heap.size w wr) (fun v _ => k - (match v with | .slice _ j _ => j | _ => 0))
  case atStart => exact ⟨0, Nat.zero_le _, ⟨none, 0, rfl⟩, World.ownsRow_nil _ _ _ _, Below.refl _ _⟩
  case round =>
    obtain ⟨j, hj, ⟨x, cap, rfl⟩, hown, hbel⟩ := hrel
    by_cases hjk : j < k
    · obtain ⟨q, hq⟩ : ∃ q : Nat, q = a + j := ⟨_, rfl⟩
      have eq : Hid ((a : Int) + j = (q : Int)) := by show _ = _; omega
      have HM := Lib.hid (H.out.below hbel)
      have c0 := cell_of_row wr mb 0 _ _ _ HM.out.mem
      have hs1 : (q : Int) % 128 < 128 := by omega
      have hs2 : (q : Int) % 128 ≤ 128 := by omega
      have hs3 : 0 ≤ (q : Int) % 128 := by omega
      have hs4 : (q : Int) / 128 < n := by omega
      have hs5 : 0 ≤ (q : Int) / 128 := by omega
      have HQ := Lib.hid hq
      clear hq
      obtain ⟨m, hm⟩ : ∃ m : Nat, m = Nat.min (k - j) (128 - q % 128) := ⟨_, rfl⟩
      have hm1 : 0 < m ∧ j + m ≤ k ∧ m ≤ 128 - q % 128 := by rw [hm]; simp only [Nat.min_def]; split <;> omega
      have hl : (bytesV ((B.drop q).take m)).length = m := by have := HM.out.len; have := HQ.out; rw [bytesV_len]; simp; omega
      have Hl := Lib.hid hl
      have Hm := Lib.hid hm
      clear hl hm
      have hnews : Hid (∀ (i : Nat) (u : Value), (bytesV ((B.drop q).take m))[i]? = some u → wr.cell? (((⟨ab, q / 128 * 128 + q % 128, none⟩ : Addr)).add i) = some u) := by
        intro i u hu
        rw [Addr.add_lit, show q / 128 * 128 + q % 128 = q by omega, HM.out.all.cell]
        rw [bytesV_get, List.getElem?_take] at hu
        split at hu
        · rw [List.getElem?_drop] at hu
          exact hu
        · cases hu
      by_cases hmin : (q : Int) % 128 + k - j < 128
      · have hy1 : (q : Int) % 128 ≤ (q : Int) % 128 + k - j := by omega
        have hy2 : (q : Int) % 128 + k - j ≤ 128 := by omega
        have hmm : m = k - j := by have := Hm.out; simp only [Nat.min_def] at this; split at this <;> omega
        go_wp2_with (first | (go_at_call 8; refine (of_any _ _ (by omega) (by omega)).mono ?_; rintro e w1 ⟨rfl, rfl⟩; rw [eq.out]) | (at_builtin; go_loud (refine wpList_append_own _ rfl _ _ 31 rfl w.heap.size 5 i0 (.int .u8 0) 1 1 Try.underlying31 hi hz0 hz1 hz2 rfl (by decide) _ _ _ rfl hown ⟨ab, q / 128 * 128 + q % 128, none⟩ _ _ (bytesV ((B.drop q).take m)) rfl ?c0 hnews.out (one_bytes _) ?c3 ?c4 ?c5 ?_)))
        case c0 => rw [Hl.out, hmm]; omega
        case c3 => unfold maxLen; omega
        case c4 => omega
        case c5 => exact hbel.size
        intro v' w1 hown' hgrow _
        rw [show j + (q % 128 + k - j - q % 128) = j + m by omega] at hown'
        have hn' : w1.ownsRow w.heap.size 5 1 v' (j + m) (bytesV ((B.drop a).take (j + m))) := by
          rw [← take_take_drop, ← HQ.out]; unfold bytesV at hown' ⊢; rw [List.map_append]; rw [← hmm] at hown'; exact hown'
        have hb' : Below w.heap.size w w1 := hbel.grown hgrow hbel.size (fun q hq => by
          rcases hown.2 with ⟨h, _⟩ | ⟨g, cap, cur, h, hg, _⟩ <;> rw [h] at hq <;> simp [Value.ownBlock] at hq
          omega)
        have hv' := shape hn' (by omega)
        clear hown hown' hgrow hbel
        go_wp2_with fail
        go_roundw
        case rel => exact ⟨j + m, by omega, hv', hn', hb'⟩
        case measure => obtain ⟨x', c', rfl⟩ := hv'; simp; omega
      · have hmm : m = 128 - q % 128 := by have := Hm.out; simp only [Nat.min_def] at this; split at this <;> omega
        go_wp2_with (first | (go_at_call 8; refine (of_any _ _ (by omega) (by omega)).mono ?_; rintro e w1 ⟨rfl, rfl⟩; rw [eq.out]) | (at_builtin; go_loud (refine wpList_append_own _ rfl _ _ 31 rfl w.heap.size 5 i0 (.int .u8 0) 1 1 Try.underlying31 hi hz0 hz1 hz2 rfl (by decide) _ _ _ rfl hown ⟨ab, q / 128 * 128 + q % 128, none⟩ _ _ (bytesV ((B.drop q).take m)) rfl ?c0 hnews.out (one_bytes _) ?c3 ?c4 ?c5 ?_)))
        case c0 => rw [Hl.out, hmm]; omega
        case c3 => unfold maxLen; omega
        case c4 => omega
        case c5 => exact hbel.size
        intro v' w1 hown' hgrow _
        rw [show j + (128 - q % 128) = j + m by omega] at hown'
        have hn' : w1.ownsRow w.heap.size 5 1 v' (j + m) (bytesV ((B.drop a).take (j + m))) := by
          rw [← take_take_drop, ← HQ.out]; unfold bytesV at hown' ⊢; rw [List.map_append]; rw [← hmm] at hown'; exact hown'
        have hb' : Below w.heap.size w w1 := hbel.grown hgrow hbel.size (fun q hq => by
          rcases hown.2 with ⟨h, _⟩ | ⟨g, cap, cur, h, hg, _⟩ <;> rw [h] at hq <;> simp [Value.ownBlock] at hq
          omega)
        have hv' := shape hn' (by omega)
        clear hown hown' hgrow hbel
        go_wp2_with fail
        go_roundw
        case rel => exact ⟨j + m, by omega, hv', hn', hb'⟩
        case measure => obtain ⟨x', c', rfl⟩ := hv'; simp; omega
    · go_wp2_with fail
      go_ret2
      obtain rfl : j = k := by omega
      exact ⟨_, rfl, hown, hbel⟩
end Go.Proofs.Ytkpcomldjnahhaa
