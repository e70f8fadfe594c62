/- MachineWords, walked: a word is its eight bytes, the lowest first, and no other byte changes as it is set. Conditions: those that each theorem states. -/
import Derived.Test.YtkpcomldjnahhaaMpl
namespace Go.Proofs.Ytkpcomldjnahhaa
open Go.ChangeShapes Go.WideShapes Go.ChangeAt Go.RowKit
set_option linter.unusedSimpArgs false

theorem BytesAt.setCell {w : World} {b t : Nat} {B : List Int} (h : BytesAt w b t B) (i : Nat) (v : Int) : BytesAt (w.setCell ⟨b, i, none⟩ (.int .u8 v)) b t (B.set i v) := by
  unfold BytesAt
  rw [heap_setCell_same _ _ _ _ _ _ h]
  simp [bytesV, List.map_set]
theorem BytesAt.grown {w w' : World} {b t : Nat} {B : List Int} {r : Option Nat} (h : BytesAt w b t B) (hg : w.grownBy w' r) (hne : some b ≠ r) : BytesAt w' b t B := (hg.block b h.lt hne).trans h
theorem Mem.grown {w w' : World} {mb ab n : Nat} {B : List Int} {r : Option Nat} (h : Mem w mb ab n B) (hg : w.grownBy w' r) (h1 : some mb ≠ r) (h2 : some ab ≠ r) : Mem w' mb ab n B :=
  ⟨(hg.block _ h.lt.1 h1).trans h.mem, h.all.grown hg h2, h.ne, h.len, h.pos, h.max⟩
theorem grown_setCell {w w1 : World} {r : Nat} (h : w.grownBy w1 (some r)) (o : Nat) (v : Value) : w.grownBy (w1.setCell ⟨r, o, none⟩ v) (some r) :=
  ⟨h.os, h.tape, h.output, by simpa using h.size, fun k hk hne => (heap_setCell_other w1 ⟨r, o, none⟩ k v (by simpa using hne)).trans (h.block k hk hne)⟩
theorem grown_setC (w : World) (b i : Nat) (v : Value) : w.grownBy (w.setCell ⟨b, i, none⟩ v) (some b) :=
  grown_setCell (grown_refl _ _) _ _
theorem run_bytes (n : Nat) (h : n ≤ 4096) (w : World) : (Instr.makeSlice 31 (.int .i64 (128 * (n : Int))) (.int .i64 (128 * (n : Int)))).run Try.prog w = .ok (.slice (some ⟨w.heap.size, 0, none⟩) (128 * n) (128 * n)) (w.alloc (.cells (bytesV (zeroB n)).toArray 5)) := by
  obtain ⟨i, hi, hz, hs, hb⟩ := info_parts inf5
  have hr := run_make (P := Try.prog) w 31 5 i _ Try.underlying31 hi hz .i64 .i64 ((128 * n : Nat) : Int) ((128 * n : Nat) : Int) (by omega) (by omega) (by rw [hb]; omega) (by omega)
  simp only [Int.toNat_natCast, hs] at hr
  rw [show (128 : Int) * (n : Int) = ((128 * n : Nat) : Int) by omega, hr]
  show Result.ok _ (w.alloc (.cells (madeCells #[.int .u8 0] (128 * n * 1)) 5)) = _
  congr 3
  apply Array.ext'
  apply List.ext_getElem?
  intro i
  by_cases hi : i < 128 * n
  · simp [madeCells, bytesV, zeroB, hi, List.getElem?_replicate, Nat.mod_one]
  · rw [List.getElem?_eq_none (by simp [madeCells]; omega), List.getElem?_eq_none (by simp [bytesV, zeroB]; omega)]
theorem splice_all (B L : List Int) (h : L.length = B.length) : splice B 0 L = L := by
  simp [splice, h]
theorem splice_set (B : List Int) (a k : Nat) (x : Int) (h : a + k < B.length) : (splice B a (lowB x k)).set (a + k) (x / 2 ^ (8 * k) % 256) = splice B a (lowB x (k + 1)) := by
  have l4 : (B.take a).length = a := by simp; omega
  rw [lowB_succ]
  simp only [splice, lowB_len, List.length_append, List.length_singleton]
  rw [← List.append_assoc (B.take a) (lowB x k), List.set_append_right _ _ (by simp [lowB_len]; omega)]
  rw [List.drop_eq_getElem_cons (by omega)]
  simp only [List.length_append, lowB_len, l4, Nat.sub_self, List.set_cons_zero]
  simp [List.append_assoc, Nat.add_assoc]
theorem str_block {w : World} {b n : Nat} {L : List Int} (h : BytesAt w b 5 L) (hl : L.length = n) : (convert 31 9 (.slice (some ⟨b, 0, none⟩) n n)).run Try.prog w = .ok (.string (strOfNums L)) w := by
  refine run_convert_bytes_arg (P := Try.prog) w 31 5 Try.underlying31 Try.underlying5 b 0 n n L hl (fun i hi => ?_) 9 Try.underlying9
  rw [Nat.zero_add]
  exact byD_cell h i (by omega)

namespace MachineWords
/-- The memory, and the law's own bytes beside it. -/
structure Side (w0 w : World) (mb ab cb n : Nat) (B L : List Int) : Prop where
  mem : Mem w mb ab n B
  own : BytesAt w cb 5 L
  len : L.length = 128 * n
  b : Below w0.heap.size w0 w
  h1 : w0.heap.size ≤ ab
  h2 : w0.heap.size ≤ cb
  n1 : cb ≠ ab
  n2 : cb ≠ mb
theorem Side.store {w0 w : World} {mb ab cb n : Nat} {B L : List Int} (h : Side w0 w mb ab cb n B L) (i : Nat) (v : Int) : Side w0 (w.setCell ⟨cb, i, none⟩ (.int .u8 v)) mb ab cb n B (L.set i v) :=
  ⟨h.mem.grown (grown_setC _ _ _ _) (by simp [Ne.symm h.n2]) (by simp [Ne.symm h.n1]), h.own.setCell i v, by simp [h.len], below_grown h.b h.b.size (grown_setC _ _ _ _) h.h2, h.h1, h.h2, h.n1, h.n2⟩
theorem Side.next {w0 w w' : World} {mb ab cb n : Nat} {B B' L : List Int} (h : Side w0 w mb ab cb n B L) (m : Mem w' mb ab n B') (g : w.grownBy w' (some ab)) : Side w0 w' mb ab cb n B' L :=
  ⟨m, h.own.grown g (by simp [h.n1]), h.len, below_grown h.b h.b.size g h.h1, h.h1, h.h2, h.n1, h.n2⟩

/-- From where the bytes are read again on. -/
theorem write0 (mb ab n sb : Nat) (B X : List Int) (w : World) (h : Mem w mb ab n B) (hs : BytesAt w sb 5 X) (hne : sb ≠ ab) (hl : X.length = 128 * n) :
    Calls Try.prog 11 #[.pointer (some ⟨mb, 0, none⟩), .int .u64 0, .slice (some ⟨sb, 0, none⟩) (128 * n) (128 * n)] w fun e w' => e = .returned (.int .i64 0) ∧ Mem w' mb ab n X ∧ w.grownBy w' (some ab) := by
  have hp := h.pos
  have hbl := h.len
  have := write_in mb ab n B X 0 sb 0 (128 * n) w h (fun j x hj => by rw [Nat.zero_add, hs.cell, hj]; rfl) hne hs.lt (by omega) (by omega) (by omega)
  rw [hl, splice_all B X (by omega)] at this
  exact this
theorem read0 (mb ab n : Nat) (B : List Int) (w : World) (h : Mem w mb ab n B) :
    Calls Try.prog 13 #[.pointer (some ⟨mb, 0, none⟩), .int .u64 0, .int .i64 (128 * (n : Int))] w fun e w' => ∃ v, e = .returned (.tuple #[v, .int .i64 0]) ∧ w'.ownsRow w.heap.size 5 1 v (128 * n) (bytesV B) ∧ Below w.heap.size w w' := by
  have hp := h.pos
  have hbl := h.len
  have := read_in mb ab n B 0 (128 * n) w h (by omega) (by omega)
  rw [List.drop_zero, List.take_of_length_le (by omega)] at this
  exact this

set_option maxHeartbeats 2000000 in
set_option maxRecDepth 100000 in
theorem walkin (n : Nat) (a x f : Int) (w : World) (h0 : 1 ≤ n) (h1 : n ≤ 64) (a0 : 0 ≤ a) (a1 : a < 18446744073709551616) (x1 : x < 18446744073709551616) :
    Calls Try.prog 4 #[.int .i64 n, .int .u64 a, .int .u64 x, .int .u8 f] w fun e w' => e = .returned (.bool true) ∧ Below w.heap.size w w' := by
  have hX := Lib.hid x1
  clear x1
  go_enter Try.func4, Try.ntmps4
  go_wp2_with fail
  refine (new_yes n _ h0 (by omega)).mono ?_
  rintro e w1 ⟨rfl, m1, b1⟩
  have hmk := run_bytes n (by omega) w1
  have z1 := m1.lt.1
  go_wp2_with fail
  have S1 : Side w (w1.alloc (.cells (bytesV (zeroB n)).toArray 5)) (w.heap.size + 1) w.heap.size w1.heap.size n (zeroB n) (zeroB n) :=
    ⟨m1.below ((Below.refl _ _).alloc (Nat.le_refl _) _), heap_here rfl, by simp [zeroB], b1.alloc b1.size _, Nat.le_refl _, b1.size, by omega, by omega⟩
  obtain ⟨c, hc⟩ : ∃ c, w1.heap.size = c := ⟨_, rfl⟩
  rw [hc] at S1 ⊢
  clear hmk m1 b1 z1 hc
  go_loopw [12] (fun i wr => ∃ (k : Nat) (L : List Int), k ≤ 128 * n ∧ i = .int .i64 k ∧ Side w wr (w.heap.size + 1) w.heap.size c n (zeroB n) L) (fun i _ => 128 * n - (intOf i).toNat)
  case atStart => exact ⟨0, _, Nat.zero_le _, rfl, S1⟩
  case round =>
    obtain ⟨k, L, hk, rfl, S2⟩ := hrel
    clear S1
    by_cases hkl : k < 128 * n
    · have hl := S2.len
      have hcell := byD_cell S2.own k (by omega)
      have hfr := S2.own.froz k
      have H2 := Lib.hid S2
      clear S2 hl
      go_wp2_with fail
      go_roundw
      case rel => exact ⟨k + 1, _, by omega, by go_num, H2.out.store k _⟩
      case measure => simp [intOf]; omega
    · obtain rfl : k = 128 * n := by omega
      have H2 := Lib.hid S2
      clear S2
      go_wp2_with (go_at_call 11; refine (write0 _ _ n _ _ _ _ H2.out.mem H2.out.own H2.out.n1 H2.out.len).mono ?_; rintro e w3 ⟨rfl, m3, g3⟩; have H3 := Lib.hid (H2.out.next m3 g3); clear H2 m3 g3)
      have hLl := H3.out.len
      by_cases q1 : a % 8 = 0
      · by_cases q2 : a < 128 * n
        · obtain ⟨a', rfl⟩ := Int.eq_ofNat_of_zero_le a0
          have q3 : a' + 8 ≤ 128 * n := by omega
          refine (set_in _ _ n _ a' x _ H3.out.mem (by omega) (by omega) hX.out).mono ?_
          rintro e w4 ⟨rfl, m4, g4⟩
          have S4 := H3.out.next m4 g4
          clear m4 g4
          have H4 := Lib.hid S4
          clear S4 H3
          go_wp2_with fail
          go_loopw [13] (fun i ws => ∃ k : Nat, k ≤ 8 ∧ i = .int .i64 k ∧ Side w ws (w.heap.size + 1) w.heap.size c n (splice L a' (lowB x 8)) (splice L a' (lowB x k))) (fun i _ => 8 - (intOf i).toNat)
          case atStart => exact ⟨0, Nat.zero_le _, rfl, by simpa [splice, lowB] using H4.out⟩
          case round =>
            obtain ⟨k, hk, rfl, S5⟩ := hrel
            clear H4
            by_cases hkl : k < 8
            · have hS : Hid (∀ x', x' = x / 2 ^ (8 * k) % 256 → Side w (wr.setCell ⟨c, a' + k, none⟩ (.int .u8 x')) (w.heap.size + 1) w.heap.size c n (splice L a' (lowB x 8)) (splice L a' (lowB x (k + 1)))) := by
                rintro x' rfl
                rw [← splice_set L a' k x (by omega)]
                exact S5.store (a' + k) _
              have hl := S5.len
              obtain ⟨y, hcell⟩ : ∃ y, wr.cell? ⟨c, a' + k, none⟩ = some (.int .u8 y) := ⟨_, byD_cell S5.own (a' + k) (by omega)⟩
              have hfr := S5.own.froz (a' + k)
              have HL := Lib.hid hLl
              clear S5 hl hLl q1 q2
              have hadd : IntKind.i64.wrap ((a' : Int) + (k : Int)) = (a' : Int) + (k : Int) := IntWalk.i64_in _ (by omega)
              have ha64 : IntKind.i64.wrap (a' : Int) = (a' : Int) := IntWalk.i64_in _ (by omega)
              rcases (show k = 0 ∨ k = 1 ∨ k = 2 ∨ k = 3 ∨ k = 4 ∨ k = 5 ∨ k = 6 ∨ k = 7 by omega) with rfl | rfl | rfl | rfl | rfl | rfl | rfl | rfl
              · have hx1 := hX.out
                simp only [Nat.add_zero] at hcell hfr
                clear hadd
                go_wp2_with fail
                go_roundw
                case rel => exact ⟨1, by omega, by go_num, hS.out _ (by simp)⟩
                case measure => simp [intOf]
              · go_wp2_with fail
                go_roundw
                case rel => exact ⟨2, by omega, by go_num, hS.out _ (by simp)⟩
                case measure => simp [intOf]
              · go_wp2_with fail
                go_roundw
                case rel => exact ⟨3, by omega, by go_num, hS.out _ (by simp)⟩
                case measure => simp [intOf]
              · go_wp2_with fail
                go_roundw
                case rel => exact ⟨4, by omega, by go_num, hS.out _ (by simp)⟩
                case measure => simp [intOf]
              · go_wp2_with fail
                go_roundw
                case rel => exact ⟨5, by omega, by go_num, hS.out _ (by simp)⟩
                case measure => simp [intOf]
              · go_wp2_with fail
                go_roundw
                case rel => exact ⟨6, by omega, by go_num, hS.out _ (by simp)⟩
                case measure => simp [intOf]
              · go_wp2_with fail
                go_roundw
                case rel => exact ⟨7, by omega, by go_num, hS.out _ (by simp)⟩
                case measure => simp [intOf]
              · go_wp2_with fail
                go_roundw
                case rel => exact ⟨8, by omega, by go_num, hS.out _ (by simp)⟩
                case measure => simp [intOf]
            · obtain rfl : k = 8 := by omega
              have H4 := Lib.hid S5
              clear S5
              go_wp2_with (first | (go_at_call 13; refine (read0 _ _ n _ _ H4.out.mem).mono ?_; rintro e w5 ⟨v, rfl, o5, b5⟩; have hs5 := run_str o5; have ht5 := str_block (H4.out.own.below b5) H4.out.len; have B5 := Lib.hid (H4.out.b.trans (b5.mono H4.out.b.size)); clear o5 b5) | (go_at_call 9; refine (known _).mono ?_; rintro e w6 ⟨rfl, b6⟩; have B6 := Lib.hid (B5.out.trans (b6.mono B5.out.size)); clear b6))
              all_goals go_ret
              all_goals exact ⟨rfl, B6.out⟩
        · refine (set_out _ _ n _ a x _ H3.out.mem a0 a1 q1 (by omega)).mono ?_
          rintro e w4 ⟨rfl, rfl⟩
          have H4 := H3
          clear H3
          go_wp2_with (first | (go_at_call 13; refine (read0 _ _ n _ _ H4.out.mem).mono ?_; rintro e w5 ⟨v, rfl, o5, b5⟩; have hs5 := run_str o5; have ht5 := str_block (H4.out.own.below b5) H4.out.len; have B5 := Lib.hid (H4.out.b.trans (b5.mono H4.out.b.size)); clear o5 b5) | (go_at_call 9; refine (known _).mono ?_; rintro e w6 ⟨rfl, b6⟩; have B6 := Lib.hid (B5.out.trans (b6.mono B5.out.size)); clear b6))
          all_goals go_ret
          all_goals exact ⟨rfl, B6.out⟩
      · refine (set_al _ _ n _ a x _ H3.out.mem a0 a1 q1).mono ?_
        rintro e w4 ⟨rfl, rfl⟩
        have H4 := H3
        clear H3
        go_wp2_with (first | (go_at_call 13; refine (read0 _ _ n _ _ H4.out.mem).mono ?_; rintro e w5 ⟨v, rfl, o5, b5⟩; have hs5 := run_str o5; have ht5 := str_block (H4.out.own.below b5) H4.out.len; have B5 := Lib.hid (H4.out.b.trans (b5.mono H4.out.b.size)); clear o5 b5) | (go_at_call 9; refine (known _).mono ?_; rintro e w6 ⟨rfl, b6⟩; have B6 := Lib.hid (B5.out.trans (b6.mono B5.out.size)); clear b6))
        all_goals go_ret
        all_goals exact ⟨rfl, B6.out⟩
theorem walk (g a x f : Int) (w : World) (a0 : 0 ≤ a) (a1 : a < 18446744073709551616) (x1 : x < 18446744073709551616) :
    Calls Try.prog 4 #[.int .i64 g, .int .u64 a, .int .u64 x, .int .u8 f] w fun e w' => e = .returned (.bool true) ∧ Below w.heap.size w w' := by
  by_cases h : 1 ≤ g ∧ g ≤ 64
  · obtain ⟨n, rfl⟩ := Int.eq_ofNat_of_zero_le (show 0 ≤ g by omega)
    exact walkin n a x f w (by omega) (by omega) a0 a1 x1
  · rcases (show g < 1 ∨ (1 ≤ g ∧ 64 < g) by omega) with h1 | ⟨h1, h2⟩
    all_goals clear h
    all_goals go_enter Try.func4, Try.ntmps4
    all_goals go_wp2_with (go_at_call 9; refine (known _).mono ?_; rintro e w2 ⟨rfl, hb2⟩)
    all_goals go_ret
    all_goals exact ⟨rfl, hb2⟩

theorem hread : ∀ t ∈ Try.f4.params.toList, Try.prog.readableRec t = true ∧ t < Try.prog.types.size := by
  rw [Try.params4]
  intro t ht
  simp at ht
  rcases ht with rfl | rfl | rfl
  · exact read3
  · exact read22
  · exact read5

set_option maxRecDepth 100000 in
theorem lifted (os : Os) (started : os.Started) (H : Type) (enc : TypeId × Value → H) :
    ReturnsInHanded {} Try.checked os 4 .any (Rows.machineWordsSpec.pre6 enc Try.prog Try.f4 Rows.machineWordsRow.domain false) (Rows.machineWordsSpec.post enc Try.prog Try.f4 false true false false) := by
  refine returnsInHanded_of_change (C := Try.checked) own started (by kernel_rfl) Try.func4
    (ChangeSpec.witness6 (enc := enc) (C := Try.checked) false ⟨#[], #[.int .i64 0, .int .u64 0, .int .u64 0, .int .u8 0], []⟩ 8 (by kernel_rfl) (by kernel_rfl) (by kernel_rfl) (by kernel_rfl)) ?_
  intro W base args ds gs before hval0 hW hcnd _
  have hval : ∀ (j : Nat) t v, Try.f4.params[j]? = some t → args[j]? = some v → Value.okWide Try.prog W .any base t v := hval0
  have hW' := hW
  obtain ⟨p, q, hA0, hV, rfl, hfz, hnd⟩ := hW
  have hA : DataW.TrodAll enc Try.prog W 0 (fun _ => true) true Try.f4.params.toList args.toList ds p := hA0
  have hA1 := hA
  rw [Try.params4] at hA hval
  obtain ⟨v0, vs0, d0, ds0, p0, q0, hargs, rfl, rfl, h0, r0⟩ := trodAll_cons hA
  obtain ⟨v1, vs1, d1, ds1, p1, q1, rfl, rfl, rfl, h1, r1⟩ := trodAll_cons r0
  obtain ⟨v2, vs2, d2, ds2, p2, q2, rfl, rfl, rfl, h2, r2⟩ := trodAll_cons r1
  obtain ⟨v3, vs3, d3, ds3, p3, q3, rfl, rfl, rfl, h3, r3⟩ := trodAll_cons r2
  obtain ⟨rfl, rfl, rfl⟩ := trodAll_nil r3
  obtain rfl : args = #[v0, v1, v2, v3] := by cases args; simp_all
  obtain ⟨rfl, rfl⟩ := trodVars_none hV
  obtain ⟨a0, rfl, rfl, rfl, w0⟩ := open_int Try.underlying3 (hval 0 3 v0 rfl rfl) h0
  obtain ⟨a1, rfl, rfl, rfl, w1⟩ := open_int Try.underlying22 (hval 1 22 v1 rfl rfl) h1
  obtain ⟨a2, rfl, rfl, rfl, w2⟩ := open_int Try.underlying22 (hval 2 22 v2 rfl rfl) h2
  obtain ⟨a3, rfl, rfl, rfl, w3⟩ := open_int Try.underlying5 (hval 3 5 v3 rfl rfl) h3
  clear hA0 hval0
  simp only [List.append_nil] at hW' hA1
  refine (walk a0 a1 a2 a3 W (u64_range w1).1 (u64_range w1).2 (u64_range w2).2).mono fun e W' ⟨he, hg⟩ => ?_
  subst he
  exact ⟨_, rfl, post_true hW' hA1 rfl rfl (fun _ => rfl) rfl Try.underlying4 laidOut hread hg⟩

theorem over : Rows.machineWordsRow.holds Try.pinned (OpenSpec.ofChange Rows.machineWordsSpec) :=
  OpenClaim.holds_of_wide 4 Try.f4 rfl rfl rfl rfl rfl rfl rfl ⟨rfl, rfl, rfl, rfl, rfl⟩ rfl rfl rfl rfl rfl (by kernel_rfl) Try.func4 (by kernel_rfl)
    (of_decide_eq_true (by kernel_rfl)) (by unfold Func.isWrapper; first | (rw [if_pos (by decide +kernel)]; kernel_rfl) | (rw [if_neg (by decide +kernel)]; exact ⟨rfl, rfl⟩))
    (fun os started H enc _ => lifted os started H enc)

/-- The statement. -/
theorem proved : Rows.MachineWordsSaid := over
end MachineWords
end Go.Proofs.Ytkpcomldjnahhaa
