/- Contract of layer 6's Write: bytes over a memory's bytes. Conditions: those that each theorem states. -/
import Derived.Test.YtkpcomldjnahhaaWrd
import Derived.Deep.RegionHeld3
namespace Go.Proofs.Ytkpcomldjnahhaa
open Go.ChangeShapes Go.WideShapes Go.ChangeAt Go.RowKit
set_option linter.unusedSimpArgs false

/-- 'copy' as one step of a region that draws its order, its run known. -/
theorem step_copy_run {P : Program} {ops : Array Oper} {o : Oper} {a : Act} {w w2 : World} {K : Act → World → Prop} {Q : Exit → Act → World → Prop} {E : Prop} (hgd : o.guard = none) (d s : Operand) (dT sT : TypeId)
    (ho : o.op = .call { callee := .builtin .copy, args := #[d, s], argTypes := #[dT, sT] }) (vd vs r : Value) (hd : a.eval d = vd) (hs : a.eval s = vs)
    (hrun : (Builtin.copy_ #[dT, sT] o.type #[vd, vs]).run P w = .ok r w2) (h : K (a.put o.dst r) w2) :
    if Region.wanted o (yielded ops a.tmps) = true then Oper.wp P o a w K Q else E := by
  have hw : Region.wanted o (yielded ops a.tmps) = true := by simp [Region.wanted, hgd]
  rw [if_pos hw]
  unfold Oper.wp
  simp [execOp, ho, resolve, invoke, builtin, hd, hs, hrun, Result.andThen]
  exact h

theorem Mem.drew {w : World} {mb ab n : Nat} {B : List Int} (h : Mem w mb ab n B) : Mem w.drew mb ab n B := ⟨h.mem, h.all, h.ne, h.len, h.pos, h.max⟩
theorem grown_drew {w w1 : World} {r : Option Nat} (h : w.grownBy w1 r) : w.grownBy w1.drew r := grown_trans h (grown_below ((Below.refl _ _).drew) r)

theorem splice_take (B X : List Int) (a k m : Nat) (h : a + k + m ≤ B.length) (hk : k + m ≤ X.length) : splice (splice B a (X.take k)) (a + k) ((X.drop k).take m) = splice B a (X.take (k + m)) := by
  have l1 : (X.take k).length = k := by simp; omega
  have l2 : ((X.drop k).take m).length = m := by simp; omega
  have l3 : (X.take (k + m)).length = k + m := by simp; omega
  have l4 : (B.take a).length = a := by simp; omega
  simp only [splice, l1, l2, l3]
  rw [← List.append_assoc (B.take a) (X.take k) _]
  rw [List.take_left' (by simp; omega)]
  rw [← List.drop_drop (i := m) (j := a + k) (l := B.take a ++ X.take k ++ B.drop (a + k))] 
  rw [List.drop_left' (by simp; omega), List.drop_drop, List.take_add]
  simp [List.append_assoc, Nat.add_assoc]

theorem within_yes (mb ab n : Nat) (B : List Int) (a k : Int) (w : World) (h : Mem w mb ab n B) (h0 : 0 ≤ a) (h1 : a < 18446744073709551616) (k0 : -9223372036854775808 ≤ k) (k1 : k < 9223372036854775808) (hy : k = 0 ∨ 0 < k ∧ a + k ≤ 128 * n) :
    Calls Try.prog 27 #[.pointer (some ⟨mb, 0, none⟩), .int .u64 a, .int .i64 k] w fun e w' => e = .returned (.bool true) ∧ w = w' := by
  have := within_any mb ab n B a k w h h0 h1 k0 k1
  rwa [show decide (k = 0 ∨ 0 < k ∧ a + k ≤ 128 * n) = true from decide_eq_true hy] at this
theorem within_no (mb ab n : Nat) (B : List Int) (a k : Int) (w : World) (h : Mem w mb ab n B) (h0 : 0 ≤ a) (h1 : a < 18446744073709551616) (k0 : -9223372036854775808 ≤ k) (k1 : k < 9223372036854775808) (hy : ¬(k = 0 ∨ 0 < k ∧ a + k ≤ 128 * n)) :
    Calls Try.prog 27 #[.pointer (some ⟨mb, 0, none⟩), .int .u64 a, .int .i64 k] w fun e w' => e = .returned (.bool false) ∧ w = w' := by
  have := within_any mb ab n B a k w h h0 h1 k0 k1
  rwa [show decide (k = 0 ∨ 0 < k ∧ a + k ≤ 128 * n) = false from decide_eq_false hy] at this

theorem write_out (mb ab n : Nat) (B : List Int) (a : Int) (x : Option Addr) (L c : Nat) (w : World) (h : Mem w mb ab n B) (h0 : 0 ≤ a) (h1 : a < 18446744073709551616) (hL : L ≤ maxLen) (hp : 0 < L) (ho : 128 * n < a + L) :
    Calls Try.prog 11 #[.pointer (some ⟨mb, 0, none⟩), .int .u64 a, .slice x L c] w fun e w' => e = .returned (.int .i64 6) ∧ w = w' := by
  have hpn := h.pos
  have hx := h.max
  unfold maxLen at hL
  have H := Lib.hid h
  clear h
  go_enter Try.func11, Try.ntmps11
  go_wp2_with (first | (go_at_call 15; refine (gran _ _ _ _ _ H.out).mono ?_; rintro e w1 ⟨rfl, rfl⟩) | (go_at_call 27; refine (within_no _ _ _ _ _ _ _ H.out (by omega) (by omega) (by omega) (by omega) (by omega)).mono ?_; rintro e w1 ⟨rfl, rfl⟩))
  all_goals first | (exfalso; omega) | skip
  go_ret
  exact ⟨rfl, rfl⟩
theorem write_nil (mb ab n : Nat) (B : List Int) (a : Int) (x : Option Addr) (c : Nat) (w : World) (h : Mem w mb ab n B) (h0 : 0 ≤ a) (h1 : a < 18446744073709551616) :
    Calls Try.prog 11 #[.pointer (some ⟨mb, 0, none⟩), .int .u64 a, .slice x 0 c] w fun e w' => e = .returned (.int .i64 0) ∧ w = w' := by
  have hpn := h.pos
  have hx := h.max
  have H := Lib.hid h
  clear h
  go_enter Try.func11, Try.ntmps11
  go_wp2_with (first | (go_at_call 15; refine (gran _ _ _ _ _ H.out).mono ?_; rintro e w1 ⟨rfl, rfl⟩) | (go_at_call 27; refine (within_yes _ _ _ _ _ _ _ H.out (by omega) (by omega) (by omega) (by omega) (by omega)).mono ?_; rintro e w1 ⟨rfl, rfl⟩))
  all_goals first | (exfalso; omega) | skip
  all_goals refine wp_loop_rounds 1 ?_
  all_goals rw [rounds_succ]
  all_goals go_wp2_with fail
  go_ret
  exact ⟨rfl, rfl⟩

set_option maxHeartbeats 2000000 in
set_option maxRecDepth 100000 in
theorem write_in (mb ab n : Nat) (B X : List Int) (a sb so c : Nat) (w : World) (h : Mem w mb ab n B) (hs : ∀ j x, X[j]? = some x → w.cell? ⟨sb, so + j, none⟩ = some (.int .u8 x)) (hne : sb ≠ ab) (hlt : sb < w.heap.size) (hc : X.length ≤ c) (ho : a + X.length ≤ 128 * n) (h0 : 0 < X.length) :
    Calls Try.prog 11 #[.pointer (some ⟨mb, 0, none⟩), .int .u64 a, .slice (some ⟨sb, so, none⟩) X.length c] w fun e w' => e = .returned (.int .i64 0) ∧ Mem w' mb ab n (splice B a X) ∧ w.grownBy w' (some ab) := by
  have hpn := h.pos
  have hx := h.max
  have hS := Lib.hid hs
  have H := Lib.hid h
  obtain ⟨L, hL⟩ : ∃ L, X.length = L := ⟨_, rfl⟩
  have HL := Lib.hid hL
  rw [hL] at ho h0 hc ⊢
  clear hL
  clear h hs
  go_enter Try.func11, Try.ntmps11
  go_wp2_with (first | (go_at_call 15; refine (gran _ _ _ _ _ H.out).mono ?_; rintro e w1 ⟨rfl, rfl⟩) | (go_at_call 27; refine (within_yes _ _ _ _ _ _ _ H.out (by omega) (by omega) (by omega) (by omega) (by omega)).mono ?_; rintro e w1 ⟨rfl, rfl⟩))
  all_goals first | (exfalso; omega) | skip
  go_loopw [7] (fun i wr => ∃ k : Nat, k ≤ L ∧ i = .int .i64 k ∧ Mem wr mb ab n (splice B a (X.take k)) ∧ w.grownBy wr (some ab)) (fun i _ => L - (intOf i).toNat)
  case atStart => exact ⟨0, Nat.zero_le _, rfl, by simpa [splice] using H.out, grown_refl _ _⟩
  case round =>
    obtain ⟨k, hk, rfl, hM, hG⟩ := hrel
    by_cases hkl : k < L
    · have c0 := cell_of_row wr mb 0 _ _ _ hM.mem
      have HM := Lib.hid hM
      have HG := Lib.hid hG
      clear hM hG
      obtain ⟨q, hq⟩ : ∃ q : Nat, q = a + k := ⟨_, rfl⟩
      have eq : Hid ((a : Int) + k = (q : Int)) := by show _ = _; omega
      have hs1 : (q : Int) % 128 < 128 := by omega
      have hs2 : (q : Int) % 128 ≤ 128 := by omega
      have hs3 : 0 ≤ (q : Int) % 128 := by omega
      have hs4 : (q : Int) / 128 < n := by omega
      have hs5 : 0 ≤ (q : Int) / 128 := by omega
      have hs6 : k ≠ c := by omega
      have HQ := Lib.hid hq
      clear hq
      obtain ⟨m, hm⟩ : ∃ m : Nat, m = Nat.min (L - k) (128 - q % 128) := ⟨_, rfl⟩
      have hm1 : 0 < m ∧ k + m ≤ L ∧ m ≤ 128 - q % 128 := by rw [hm]; simp only [Nat.min_def]; split <;> omega
      obtain ⟨B2, hB2⟩ : ∃ B2, B2 = splice B a (X.take (k + m)) := ⟨_, rfl⟩
      have hM2 : Mem (wr.drew.setRow ab (bytesV B2).toArray) mb ab n B2 := mem_row HM.out.drew (by
        have l := H.out.len
        have l2 := HL.out
        rw [hB2, splice_len _ _ _ (by simp; omega), splice_len _ _ _ (by simp; omega)])
      have hG2 : w.grownBy (wr.drew.setRow ab (bytesV B2).toArray) (some ab) := grown_setRow (grown_drew HG.out) _
      have hrc : (Builtin.copy_ #[31, 31] 3 #[.slice (some (if 128 = ((q : Int) % 128).toNat then ⟨ab, ((q : Int) / 128).toNat * 128, none⟩ else ⟨ab, ((q : Int) / 128).toNat * 128 + ((q : Int) % 128).toNat, none⟩)) (128 - ((q : Int) % 128).toNat) (128 - ((q : Int) % 128).toNat), .slice (if c = k then some ⟨sb, so, none⟩ else some ⟨sb, so + k, none⟩) (L - k) (c - k)]).run Try.prog wr.drew = .ok (.int .i64 m) (wr.drew.setRow ab (bytesV B2).toArray) := by
        have l := H.out.len
        have l2 := HL.out
        have lm : ((X.drop k).take m).length = m := by simp; omega
        have e1 : ((q : Int) / 128).toNat * 128 + ((q : Int) % 128).toNat = q := by omega
        have e2 : ((q : Int) % 128).toNat = q % 128 := by omega
        rw [if_neg (by omega), if_neg (by omega), e1, e2]
        rw [run_cp wr.drew ab q _ _ sb (so + k) _ _ (splice B a (X.take k)) ((X.drop k).take m) 52 HM.out.drew.all ?_ ?_ ?_]
        · rw [lm, HQ.out, splice_take B X a k m (by omega) (by omega), hB2]
        · intro j x hj
          rw [List.getElem?_take] at hj
          split at hj
          · rw [List.getElem?_drop] at hj
            rw [Nat.add_assoc]
            exact (World.cell?_of_block (w := w) (w' := wr.drew) (a := ⟨sb, so + (k + j), none⟩) (HG.out.block sb hlt (by simp [hne]))).trans (hS.out (k + j) x hj)
          · cases hj
        · rw [lm, hm]
        · have := HM.out.len
          have := HQ.out
          omega
      have S0 : wr.drew.cell? ⟨mb, 0, none⟩ = some (.slice (some ⟨ab, 0, none⟩) n n) := cell_of_row _ _ 0 _ _ _ HM.out.drew.mem
      have S1 : (wr.drew.setRow ab (bytesV B2).toArray).cell? ⟨mb, 0, none⟩ = some (.slice (some ⟨ab, 0, none⟩) n n) := cell_of_row _ _ 0 _ _ _ hM2.mem
      have hwr : IntKind.i64.wrap ((k : Int) + (m : Int)) = (k : Int) + m := IntWalk.i64_in _ (by omega)
      have HRC := Lib.hid hrc
      have HM2 := Lib.hid hM2
      have HG2 := Lib.hid hG2
      have HB2 := Lib.hid hB2
      have Hm := Lib.hid hm
      clear hrc hM2 hG2 hB2 hm
      go_wp2_with (go_at_call 8; refine (of_any _ _ (by omega) (by omega)).mono ?_; rintro e w1 ⟨rfl, rfl⟩; rw [eq.out])
      go_region_held3 (fun w' => w'.cell? ⟨mb, 0, none⟩ = some (.slice (some ⟨ab, 0, none⟩) n n)) ((first | exact S0 | exact S1)) ((first | (refine step_copy_run rfl (.tmp 41) (.tmp 44) 31 31 rfl _ _ _ rfl rfl HRC.out ?_)))
      go_wp2_with fail
      go_roundw
      case rel => exact ⟨k + m, by omega, by go_num, by rw [← HB2.out]; exact HM2.out, HG2.out⟩
      case measure => simp [intOf]; omega
    · obtain rfl : k = L := by omega
      go_wp2_with fail
      go_ret
      refine ⟨rfl, ?_, hG⟩
      have := HL.out
      rwa [List.take_of_length_le (by omega)] at hM
end Go.Proofs.Ytkpcomldjnahhaa
