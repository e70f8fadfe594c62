/- Contracts of layer 6's memory that is only read, whatever its capacity: Granules, Copy, Same, and the reference's Get. Conditions: those that each theorem states. -/
import Derived.Test.YtkpcomldjnahhaaPly
namespace Go.Proofs.Ytkpcomldjnahhaa
open Go.ChangeShapes Go.WideShapes Go.ChangeAt Go.RowKit
set_option linter.unusedSimpArgs false
attribute [local go_sem] zeroV

/-- A memory to be read: its struct in block mb, its bytes in block ab, whatever its capacity. -/
structure Rm (w : World) (mb ab n cap : Nat) (B : List Int) : Prop where
  mem : w.heap[mb]? = some (.cells #[.slice (some ⟨ab, 0, none⟩) n cap] 65 (0, 0))
  cells : ∀ i x, B[i]? = some x → w.cell? ⟨ab, i, none⟩ = some (.int .u8 x)
  lt : ab < w.heap.size
  len : B.length = 128 * n
  pos : 1 ≤ n
  max : n ≤ 4096
  cap : n ≤ cap
theorem Rm.of {w : World} {mb ab n : Nat} {B : List Int} (h : Mem w mb ab n B) : Rm w mb ab n n B :=
  ⟨h.mem, fun i x hi => by rw [h.all.cell, hi]; rfl, h.lt.2, h.len, h.pos, h.max, Nat.le_refl _⟩
theorem Rm.mlt {w : World} {mb ab n cap : Nat} {B : List Int} (h : Rm w mb ab n cap B) : mb < w.heap.size := (Array.getElem?_eq_some_iff.1 h.mem).1
theorem Rm.keep {w w' : World} {mb ab n cap : Nat} {B : List Int} (h : Rm w mb ab n cap B) (h1 : w'.heap[mb]? = w.heap[mb]?) (h2 : w'.heap[ab]? = w.heap[ab]?) (hs : w.heap.size ≤ w'.heap.size) : Rm w' mb ab n cap B :=
  ⟨h1.trans h.mem, fun i x hi => (World.cell?_of_block (a := ⟨ab, i, none⟩) h2).trans (h.cells i x hi), Nat.lt_of_lt_of_le h.lt hs, h.len, h.pos, h.max, h.cap⟩
theorem Rm.below {w w' : World} {mb ab n cap : Nat} {B : List Int} (h : Rm w mb ab n cap B) (hb : Below w.heap.size w w') : Rm w' mb ab n cap B :=
  h.keep (hb.block _ h.mlt) (hb.block _ h.lt) hb.size
theorem Rm.grown {w w' : World} {mb ab n cap : Nat} {B : List Int} {r : Option Nat} (h : Rm w mb ab n cap B) (hg : w.grownBy w' r) (h1 : some mb ≠ r) (h2 : some ab ≠ r) : Rm w' mb ab n cap B :=
  h.keep (hg.block _ h.mlt h1) (hg.block _ h.lt h2) hg.size
theorem Rm.drewN {w : World} {mb ab n cap : Nat} {B : List Int} (h : Rm w mb ab n cap B) (q : Nat) : Rm (w.drewN q) mb ab n cap B := ⟨h.mem, h.cells, h.lt, h.len, h.pos, h.max, h.cap⟩
theorem rgran (mb ab n cap : Nat) (B : List Int) (w : World) (h : Rm w mb ab n cap B) :
    Calls Try.prog 15 #[.pointer (some ⟨mb, 0, none⟩)] w fun e w' => e = .returned (.int .i64 n) ∧ w = w' := by
  have c0 := cell_of_row w mb 0 _ _ _ h.mem
  have hn := h.max
  go_enter Try.func15, Try.ntmps15
  go_wp2
  go_ret
  exact ⟨rfl, rfl⟩

theorem sl_ne (a : Addr) (n c : Nat) (w : World) : (binOp .eql 63 (.slice (some a) n c) (.slice none 0 0)).run Try.prog w = .ok (.bool false) w := by rfl
theorem bs0 (w : World) : (Instr.buildSlice 63 0 #[]).run Try.prog w = .ok (.slice (some ⟨w.heap.size, 0, none⟩) 0 0) (w.alloc (.cells #[] 52)) := by
  obtain ⟨i0, hi, hz0, hz1, hz2⟩ := info_parts inf52
  simp [Instr.buildSlice, run_underlying Try.underlying63, sizeOf, typeInfo, hi, hz1, Instr.fill, newRow]
  rw [show Array.range 0 = #[] from Array.eq_empty_of_size_eq_zero (by simp)]
  simp
attribute [local go_sem] sl_ne bs0
/-- The rows are copied. -/
theorem clone (ab n cap : Nat) (B : List Int) (w : World) (hc : ∀ i x, B[i]? = some x → w.cell? ⟨ab, i, none⟩ = some (.int .u8 x)) (hl : B.length = 128 * n) (hp : 1 ≤ n) (hm : n ≤ 4096) :
    Calls Try.prog 35 #[.slice (some ⟨ab, 0, none⟩) n cap] w fun e w' => ∃ g c, e = .returned (.slice (some ⟨g, 0, none⟩) n c) ∧ w.heap.size ≤ g ∧ n ≤ c ∧ g < w'.heap.size ∧ (∀ i x, B[i]? = some x → w'.cell? ⟨g, i, none⟩ = some (.int .u8 x)) ∧ Below w.heap.size w w' := by
  obtain ⟨i0, hi, hz0, hz1, hz2⟩ := info_parts inf52
  go_enter Try.func35, Try.ntmps35
  have hrep : (Value.agg (List.replicate 128 (Value.int .u8 0)).toArray).cells.size = 128 := by simp only [Value.cells, List.size_toArray, List.length_replicate]
  generalize (Value.agg (List.replicate 128 (Value.int .u8 0)).toArray) = Z at hz0 hrep
  go_wp2_with (at_builtin; go_loud (refine wpList_append_own _ rfl _ _ 63 rfl w.heap.size 52 i0 Z 128 128 Try.underlying63 hi hz0 hz1 hz2 hrep (by decide) _ _ _ rfl (World.ownsRow_made w #[] 0 (Nat.le_refl _) (by simp [maxLen]) (by simp)) ⟨ab, 0, none⟩ n cap (bytesV B) rfl ?c0 ?cn (one_bytes _) ?c3 ?c4 ?c5 ?_))
  case c0 => rw [bytesV_len, hl]; omega
  case cn => 
    intro i u hu
    rw [bytesV_get] at hu
    cases hb : B[i]? with
    | none => rw [hb] at hu; cases hu
    | some x =>
      rw [hb] at hu
      cases hu
      rw [Addr.add_lit, Nat.zero_add]
      have := hc i x hb
      exact ((Below.refl _ w).alloc (Nat.le_refl _) _).cell (p := ⟨ab, i, none⟩) (World.block_lt_of_cell? w _ this) |>.trans this
  case c3 => unfold maxLen; omega
  case c4 => omega
  case c5 => simp
  intro v' w1 hown hgrow hnn
  have hb : Below w.heap.size w w1 := ((Below.refl _ w).alloc (Nat.le_refl _) _).grown hgrow (by simp) (fun k hk => by simp [Value.ownBlock] at hk; omega)
  obtain ⟨g, c, rfl, hg, hc1, hlt⟩ : ∃ g c, v' = .slice (some ⟨g, 0, none⟩) n c ∧ w.heap.size ≤ g ∧ n ≤ c ∧ g < w1.heap.size := by
    obtain ⟨_, ⟨_, h0⟩ | ⟨g, c, cur, rfl, hg, hcur, hnc, _⟩⟩ := hown
    · omega
    · exact ⟨g, c, rfl, hg, hnc, (Array.getElem?_eq_some_iff.1 hcur).1⟩
  have hcs : ∀ i x, B[i]? = some x → w1.cell? ⟨g, i, none⟩ = some (.int .u8 x) := fun i x hx => by
    have := hown.cells (g := g) rfl i (.int .u8 x) (by rw [bytesV_get, hx]; rfl)
    rwa [Addr.add_lit, Nat.zero_add] at this
  clear hown hgrow hnn
  go_wp2
  go_ret
  exact ⟨g, c, rfl, hg, hc1, hlt, hcs, hb⟩
/-- Another memory, that goes on apart. -/
theorem copy (mb ab n cap : Nat) (B : List Int) (w : World) (h : Rm w mb ab n cap B) :
    Calls Try.prog 22 #[.pointer (some ⟨mb, 0, none⟩)] w fun e w' => ∃ g k c, e = .returned (.pointer (some ⟨k, 0, none⟩)) ∧ w.heap.size ≤ g ∧ w.heap.size ≤ k ∧ g ≠ k ∧ Rm w' k g n c B ∧ Below w.heap.size w w' := by
  have hp := h.pos
  have hm := h.max
  have c0 := cell_of_row w mb 0 _ _ _ h.mem
  have H := Lib.hid h
  clear h
  go_enter Try.func22, Try.ntmps22
  go_wp2_with (first | (go_at_call 15; refine (rgran _ _ _ _ _ _ H.out).mono ?_; rintro e w1 ⟨rfl, rfl⟩) | (go_at_call 35; refine (clone _ _ _ _ _ H.out.cells H.out.len hp hm).mono ?_; rintro e w1 ⟨g, c, rfl, hg, hc1, hlt, hcs, hb⟩))
  all_goals first | (exfalso; omega) | skip
  go_ret
  refine ⟨g, w1.heap.size, c, rfl, hg, hb.size, by omega, ⟨heap_here rfl, fun i x hx => ?_, by simp; omega, H.out.len, hp, hm, hc1⟩, hb.alloc hb.size _⟩
  exact (((Below.refl _ w1).alloc (Nat.le_refl _) _).cell (p := ⟨g, i, none⟩) hlt).trans (hcs i x hx)
theorem rng_cells {w : World} {b : Nat} {B : List Int} (h : ∀ i x, B[i]? = some x → w.cell? ⟨b, i, none⟩ = some (.int .u8 x)) (g o : Nat) (ho : o = g * 128) : w.rangeAt b o (bytesV (sub B g)) := fun j v hj => by
  subst ho
  rw [bytesV_get, sub, List.getElem?_take] at hj
  split at hj
  · rw [List.getElem?_drop] at hj
    cases hb : B[128 * g + j]? with
    | none => rw [hb] at hj; cases hj
    | some x =>
      rw [hb] at hj
      cases hj
      rw [Nat.mul_comm g 128]
      exact h _ x hb
  · cases hj
theorem subs_eq {X Y : List Int} {n : Nat} (hX : X.length = 128 * n) (hY : Y.length = 128 * n) (h : ∀ i, i < n → sub X i = sub Y i) : X = Y := by
  apply List.ext_getElem?
  intro i
  by_cases hi : i < 128 * n
  · have := congrArg (fun l => l[i % 128]?) (h (i / 128) (by omega))
    simp only [sub, List.getElem?_take, List.getElem?_drop, show i % 128 < 128 by omega, if_true, show 128 * (i / 128) + i % 128 = i by omega] at this
    exact this
  · rw [List.getElem?_eq_none (by omega), List.getElem?_eq_none (by omega)]
/-- A granule is read, in a quiet region. -/
theorem wpQuiet_ld {ops : Array Oper} {C : World → Prop} {Q : Act → Prop} {op : Oper} {rest : List Oper} {a : Act} (hw : Region.wanted op (yielded ops a.tmps) = true) (x : Operand) (ho : op.op = .load 52 x)
    (b o : Nat) (X : List Int) (hx : a.eval x = .pointer (some ⟨b, o, none⟩)) (hl : X.length = 128) (hr : ∀ w, C w → w.rangeAt b o (bytesV X))
    (h : wpQuiet Try.prog ops C Q rest (a.put op.dst (.agg (bytesV X).toArray))) : wpQuiet Try.prog ops C Q (op :: rest) a := by
  unfold wpQuiet
  rw [if_pos hw]
  refine ⟨_, fun w hC => ?_, h⟩
  unfold Oper.quietAt execOp
  simp only [ho, hx, Instr.loadAt, Instr.sureAddr, Sem.run_bind, Sem.run_pure, Result.andThen_ok, run_loadVar_mid w b o 52 (bytesV X) _ (hr w hC) Try.underlying52 rfl (by rw [size52, bytesV_len, hl])]
  exact ⟨rfl, rfl⟩
set_option maxHeartbeats 1000000 in
set_option maxRecDepth 100000 in
/-- The same rows? -/
theorem equal (a b n ca cb : Nat) (X Y : List Int) (w : World) (hx : ∀ i x, X[i]? = some x → w.cell? ⟨a, i, none⟩ = some (.int .u8 x)) (hy : ∀ i x, Y[i]? = some x → w.cell? ⟨b, i, none⟩ = some (.int .u8 x)) (hX : X.length = 128 * n) (hY : Y.length = 128 * n) (hm : n ≤ 4096) :
    Calls Try.prog 37 #[.slice (some ⟨a, 0, none⟩) n ca, .slice (some ⟨b, 0, none⟩) n cb] w fun e w' => e = .returned (.bool (decide (X = Y))) ∧ Below w.heap.size w w' := by
  have HX := Lib.hid hx
  have HY := Lib.hid hy
  clear hx hy
  go_enter Try.func37, Try.ntmps37
  go_wp2
  go_loopw [13] (fun j wr => ∃ k : Nat, j = .int .i64 k ∧ k ≤ n ∧ (∀ i, i < k → sub X i = sub Y i) ∧ ∃ q, wr = w.drewN q) (fun j _ => n - (match j with | .int _ k => k.toNat | _ => 0))
  case atStart => exact ⟨0, rfl, Nat.zero_le _, fun i h => by omega, 0, rfl⟩
  case round =>
    obtain ⟨k, rfl, hk, hall, q, rfl⟩ := hrel
    by_cases hkn : k < n
    · have HA := Lib.hid hall
      clear hall
      have hsx := sub_len X k n hX hkn
      have hsy := sub_len Y k n hY hkn
      have S0 : (w.drewN q).drew.rangeAt a (k * 128) (bytesV (sub X k)) ∧ (w.drewN q).drew.rangeAt b (k * 128) (bytesV (sub Y k)) := ⟨rng_cells (w := w) HX.out k _ rfl, rng_cells (w := w) HY.out k _ rfl⟩
      have HS := Lib.hid S0
      have hln : (bytesV (sub X k)).length = 128 := by rw [bytesV_len, hsx]
      have hln2 : (bytesV (sub Y k)).length = 128 := by rw [bytesV_len, hsy]
      have hsz := size52
      have hu := Try.underlying52
      have heq := eqB (sub X k) (sub Y k) hsx hsy
      clear S0
      by_cases he : sub X k = sub Y k
      · simp only [he, decide_true] at heq
        have HE := Lib.hid he
        rw [he] at HS hsx hln
        clear he
        go_wp2
        refine wp_region_quiet_lit (by kernel_rfl) (by kernel_rfl) ?_
        iterate 3 (go_big_quiet_step (fail))
        refine wpQuiet_ld rfl (.tmp 18) rfl a (k * 128) (sub Y k) rfl hsx (fun w' hw' => by obtain ⟨nq, rfl⟩ := hw'; exact HS.out.1) ?_
        simp only [Act.put, List.setIfInBounds_toArray, List.set_cons_zero, List.set_cons_succ]
        iterate 3 (go_big_quiet_step (fail))
        refine wpQuiet_ld rfl (.tmp 22) rfl b (k * 128) (sub Y k) rfl hsy (fun w' hw' => by obtain ⟨nq, rfl⟩ := hw'; exact HS.out.2) ?_
        simp only [Act.put, List.setIfInBounds_toArray, List.set_cons_zero, List.set_cons_succ]
        iterate 1 (go_big_quiet_step (fail))
        refine wpQuiet_nil ?_
        rintro _ ⟨nq, rfl⟩
        go_wp2
        go_roundw
        case rel => exact ⟨k + 1, by simp, by omega, fun i hi => by
          rcases (show i < k ∨ i = k by omega) with h | rfl
          · exact HA.out i h
          · exact HE.out, q + nq, rfl⟩
        case measure => simp; omega
      · simp only [he, decide_false] at heq
        have HE := Lib.hid he
        clear he
        go_wp2
        refine wp_region_quiet_lit (by kernel_rfl) (by kernel_rfl) ?_
        iterate 3 (go_big_quiet_step (fail))
        refine wpQuiet_ld rfl (.tmp 18) rfl a (k * 128) (sub X k) rfl hsx (fun w' hw' => by obtain ⟨nq, rfl⟩ := hw'; exact HS.out.1) ?_
        simp only [Act.put, List.setIfInBounds_toArray, List.set_cons_zero, List.set_cons_succ]
        iterate 3 (go_big_quiet_step (fail))
        refine wpQuiet_ld rfl (.tmp 22) rfl b (k * 128) (sub Y k) rfl hsy (fun w' hw' => by obtain ⟨nq, rfl⟩ := hw'; exact HS.out.2) ?_
        simp only [Act.put, List.setIfInBounds_toArray, List.set_cons_zero, List.set_cons_succ]
        iterate 1 (go_big_quiet_step (fail))
        refine wpQuiet_nil ?_
        rintro _ ⟨nq, rfl⟩
        go_wp2
        go_ret
        have hne : decide (X = Y) = false := decide_eq_false (fun e => HE.out (by rw [e]))
        exact ⟨by rw [hne]; rfl, below_drewN (below_drewN (Below.refl _ w) q) nq⟩
    · have HA := Lib.hid hall
      clear hall
      have hkk : k = n := by omega
      subst hkk
      go_wp2
      go_ret
      refine ⟨?_, below_drewN (Below.refl _ w) q⟩
      rw [subs_eq hX hY HA.out]
      simp
end Go.Proofs.Ytkpcomldjnahhaa
