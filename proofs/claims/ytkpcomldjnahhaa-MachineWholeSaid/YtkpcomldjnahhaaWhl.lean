/- The statement MachineWhole: all granules that are not noughts are gone over, rising; a copy goes on apart; which are the same. -/
import Derived.Test.YtkpcomldjnahhaaWhy
namespace Go.Proofs.Ytkpcomldjnahhaa
open Go.ChangeShapes Go.WideShapes Go.ChangeAt Go.RowKit Go.Shelf
set_option linter.unusedSimpArgs false
attribute [local go_sem] Oper.semAt_some
namespace MachineWhole
theorem fn_ne (a : Value) (w : World) : (binOp .eql 59 (.func (.func 36) #[] #[a]) Value.nilFunc).run Try.prog w = .ok (.bool false) w := by rfl
attribute [local go_sem] fn_ne zeroV
theorem results_bool {fn : Func} {p : Tmp} (h : fn.results = #[.cell p 4]) (tmps : Array Value) (w : World) (b : Nat) (v : Value)
    (hp : tmps.getD p undef = .pointer (some ⟨b, 0, none⟩)) (hc : w.cell? ⟨b, 0, none⟩ = some v) : (results fn tmps).run Try.prog w = .ok v w := by
  have hp' : tmps[p]?.getD undef = .pointer (some ⟨b, 0, none⟩) := by simpa using hp
  simp [results, h, hp', asAddr, loadVar, isAgg, underlying, Try.underlying4, load, Sem.run, hc, Result.andThen]
/-- The law's own two variables: granules, and the result. -/
structure Lw (w W : World) (n : Int) : Prop where
  num : W.heap[w.heap.size]? = some (.cells #[.int .i64 n] 3 (0, 0))
  res : W.heap[w.heap.size + 1]? = some (.cells #[.bool false] 4 (0, 0))
  b : Below w.heap.size w W
theorem Lw.lt {w W : World} {n : Int} (h : Lw w W n) : w.heap.size + 1 < W.heap.size := (Array.getElem?_eq_some_iff.1 h.res).1
theorem Lw.below {w W W' : World} {n : Int} (h : Lw w W n) (hb : Below (w.heap.size + 2) W W') : Lw w W' n :=
  ⟨(hb.block _ (by omega)).trans h.num, (hb.block _ (by omega)).trans h.res, h.b.trans (hb.mono (by omega))⟩
theorem Lw.belowS {w W W' : World} {n : Int} (h : Lw w W n) (hb : Below W.heap.size W W') : Lw w W' n := h.below (hb.mono (by have := h.lt; omega))
/-- The end, no loop over a function being behind. -/
theorem end0 {w W : World} {n : Int} {tmps : Array Value} (h : Lw w W n) (hp : tmps.getD 6 undef = .pointer (some ⟨w.heap.size + 1, 0, none⟩)) :
    LeavesInM Fence.wide 9 Try.prog Try.f6 tmps (fun e w' => e = .returned (.bool true) ∧ Below w.heap.size w w') [] .returning (W.setCell ⟨w.heap.size + 1, 0, none⟩ (.bool true)) := by
  refine ⟨_, results_bool rfl _ _ (w.heap.size + 1) (.bool true) hp ?_, rfl, h.b.setCell (p := ⟨w.heap.size + 1, 0, none⟩) (Nat.le_succ _) _⟩
  exact cell_of_row _ _ 0 _ _ _ (heap_setCell_same W (w.heap.size + 1) 0 _ _ (.bool true) h.res)
/-- The end, a loop over a function being behind. -/
theorem endD {w W : World} {n : Int} {tmps : Array Value} {D : Nat} (h : Lw w W n) (hD : w.heap.size ≤ D) (hK : W.heap[D]? = some (.deferred (some []))) (hp : tmps.getD 6 undef = .pointer (some ⟨w.heap.size + 1, 0, none⟩)) :
    LeavesInM Fence.wide 9 Try.prog Try.f6 tmps (fun e w' => e = .returned (.bool true) ∧ Below w.heap.size w w') [{ target := .collected D, args := #[] }] .returning (W.setCell ⟨w.heap.size + 1, 0, none⟩ (.bool true)) := by
  have hne : D ≠ w.heap.size + 1 := fun e => by have := h.res; rw [← e, hK] at this; cases this
  have hK1 : (W.setCell ⟨w.heap.size + 1, 0, none⟩ (.bool true)).heap[D]? = some (.deferred (some [])) := (heap_setCell_other _ _ _ _ hne).trans hK
  have hr := heap_setCell_same W (w.heap.size + 1) 0 _ _ (.bool true) h.res
  have hr1 := ((World.putObj_heap_other (o := .deferred none) (show w.heap.size + 1 ≠ D by omega)).trans hr)
  have hb := h.b.setCell (p := ⟨w.heap.size + 1, 0, none⟩) (Nat.le_succ _) (.bool true)
  refine ⟨by simp, .inl ⟨_, _, rfl, run_takeDeferred hK1, ?_⟩⟩
  refine ⟨_, results_bool rfl _ _ (w.heap.size + 1) (.bool true) hp (cell_of_row _ _ 0 _ _ _ hr1), rfl, ?_⟩
  exact hb.grown (grownBy_putObj' _ _ _) hb.size (fun k hk => by cases hk; omega)
/-- A list of acts that came in. -/
structure La (w : World) (x : Option Addr) (len b off : Nat) : Prop where
  loc : 0 < len → x = some ⟨b, off, none⟩ ∧ b < w.heap.size
  acts : ∀ i, i < len → ∃ kd g a z y L c Z, ActAt w.heap.size w b (off + i * 5) kd g a z y L c Z

theorem _root_.Go.Proofs.Ytkpcomldjnahhaa.Arg.up {N N' : Nat} {w : World} {x : Option Addr} {X : List Int} (h : Arg N w x X) (hN : N ≤ N') (hs : N' ≤ w.heap.size) : Arg N' w x X :=
  ⟨fun hp => (let ⟨b, o, e, hb, hc⟩ := h.loc hp; ⟨b, o, e, Nat.lt_of_lt_of_le hb hN, hc⟩), hs, h.all⟩

set_option maxRecDepth 100000 in
set_option maxHeartbeats 4000000 in
theorem walkin (n : Nat) (x : Option Addr) (len cap b off : Nat) (x2 : Option Addr) (len2 cap2 b2 off2 : Nat) (w : World) (h0 : 1 ≤ n) (h1 : n ≤ 64) (hl : len ≤ 40) (hl2 : len2 ≤ 40) (hA : La w x len b off) (hA2 : La w x2 len2 b2 off2) :
    Calls Try.prog 6 #[.int .i64 n, .slice x len cap, .slice x2 len2 cap2] w fun e w' => e = .returned (.bool true) ∧ Below w.heap.size w w' := by
  have HA := Lib.hid hA
  have HA2 := Lib.hid hA2
  clear hA hA2
  refine (callsIn_wide (n := 9)).1 ?_
  refine callsIn_of_wp_marks Try.func6 rfl trivial ?_ rfl
  simp only [Try.ntmps6, List.size_toArray, List.length_cons, List.length_nil, Nat.reduceAdd, Nat.reduceSub, Array.replicate_succ, Array.replicate_zero, List.push_toArray, List.append_toArray, List.nil_append, List.cons_append]
  gi_wp2
  obtain ⟨W0, hW0⟩ : ∃ W0, W0 = (w.alloc (.cells #[.int .i64 n] 3)).alloc (.cells #[.bool false] 4) := ⟨_, rfl⟩
  have hs0 : W0.heap.size = w.heap.size + 2 := by rw [hW0]; simp
  have hL0 : Lw w W0 n := by
    rw [hW0]
    exact ⟨heap_past (by simp) (heap_here rfl), heap_here (by simp), ((Below.refl _ _).alloc (by simp) _).alloc (by simp) _⟩
  rw [← hW0]
  clear hW0
  refine ⟨trivial, ?_⟩
  refine (callsIn_wide.2 (new_yes n _ h0 (by omega))).mono ?_
  rintro e w1 ⟨rfl, m1, b1⟩
  have hL1 := hL0.belowS b1
  rw [hs0] at m1 ⊢
  have HL1 := Lib.hid hL1
  have cn := cell_of_row _ _ 0 _ _ _ hL1.num
  have z1 := m1.lt.1
  clear hL0 hL1
  gi_wp2
  refine ⟨trivial, ?_⟩
  refine (callsIn_wide.2 (rnew n _ h0 (by omega))).mono ?_
  rintro e w2 ⟨rfl, r2, c2⟩
  have m2 := m1.below c2
  have HL2 := Lib.hid (HL1.out.belowS c2)
  obtain ⟨c, hc⟩ : ∃ c, w1.heap.size = c := ⟨_, rfl⟩
  rw [hc] at r2 ⊢
  have hT : Hid (Both (w.heap.size + 2) w2 (w.heap.size + 2 + 1) (w.heap.size + 2) (c + 1) c n (zeroB n)) := ⟨m2, r2, allz n, by omega, by omega, by omega, by omega, by omega, by omega, by omega⟩
  have hcn : w.heap.size + 3 < c := by omega
  clear m1 b1 r2 c2 m2 z1 hc HL1 cn hs0
  gi_wp2
  gi_loopw [10] (fun i wr => ∃ (j : Nat) (B : List Int), j ≤ len ∧ i = .int .i64 j ∧ Both (w.heap.size + 2) wr (w.heap.size + 2 + 1) (w.heap.size + 2) (c + 1) c n B ∧ Lw w wr n) (fun i _ => len - (intOf i).toNat)
  case atStart => exact ⟨0, _, Nat.zero_le _, rfl, hT.out, HL2.out⟩
  case round =>
    obtain ⟨j, B, hj, rfl, hB, hw⟩ := hrel
    clear hT HL2
    by_cases hjl : j < len
    · obtain ⟨kd, ag, aa, az, y, L, ac, Z, hA⟩ := HA.out.acts j hjl
      have hbl := (HA.out.loc (by omega)).2
      obtain rfl := (HA.out.loc (by omega)).1
      have hA1 := hA.below hw.b hbl
      have hag := hA1.arg
      have c0 := hA1.c0
      have c1 := hA1.c1
      have c2 := hA1.c2
      have c3 := hA1.c3
      have c4 := hA1.c4
      simp only [Nat.add_zero] at c0
      have HA1 := Lib.hid hA1
      have HB := Lib.hid hB
      have HW := Lib.hid hw
      clear hA hA1 hB hw hbl hag
      by_cases hbig : 1000 < L
      · gi_wp2_with (refine ⟨trivial, ?_⟩; gi_at_call 9; refine (callsIn_wide.2 (known _)).mono ?_; rintro e w6 ⟨rfl, b6⟩; have B6 := Lib.hid (HW.out.belowS b6); have cr6 := cell_of_row _ _ 0 _ _ _ B6.out.res; have fr6 := frozen_of_row _ _ 0 _ _ B6.out.res; clear b6)
        all_goals first | (exfalso; omega) | skip
        exact end0 B6.out rfl
      · gi_wp2_with (refine ⟨trivial, ?_⟩; gi_at_call 16; refine (callsIn_wide.2 (do_any _ _ _ _ _ _ _ _ _ _ _ _ _ _ _ _ HB.out HA1.out.ha.1 HA1.out.ha.2 HA1.out.hx HA1.out.hZ HA1.out.hL.1 HA1.out.hL.2 (HA1.out.arg.up (by omega) HB.out.le))).mono ?_; rintro e w6 ⟨rfl, B', hB', hW'⟩; have HB' := Lib.hid hB'; have HW' := Lib.hid (HW.out.below hW'); clear hB' hW')
        all_goals first | (exfalso; omega) | skip
        go_roundw
        case rel => exact ⟨j + 1, B', by omega, by go_num, HB'.out, HW'.out⟩
        case measure => simp [intOf]; omega
    · have hjl2 : j = len := by omega
      subst hjl2
      have HB := Lib.hid hB
      have HW := Lib.hid hw
      have hall := hB.all
      clear hB hw
      gi_wp2
      refine ⟨trivial, ?_⟩
      refine (callsIn_wide.2 (copy _ _ _ _ _ _ (Rm.of HB.out.mem))).mono ?_
      rintro e w3 ⟨g3, k3, c3, rfl, hg3, hk3, hne3, hr3, hb3⟩
      have HB3 := Lib.hid (HB.out.below hb3)
      have HW3 := Lib.hid (HW.out.belowS hb3)
      have HR3 := Lib.hid hr3
      have HN3 := Lib.hid (show wr.heap.size ≤ g3 ∧ wr.heap.size ≤ k3 ∧ w.heap.size + 2 + 1 < wr.heap.size ∧ w.heap.size + 2 < wr.heap.size ∧ c < wr.heap.size ∧ c + 1 < wr.heap.size ∧ wr.heap.size ≤ w3.heap.size from ⟨hg3, hk3, HB.out.mem.lt.1, HB.out.mem.lt.2, HB.out.ref.lt.2, HB.out.ref.lt.1, hb3.size⟩)
      clear HB HW hr3 hb3 hg3 hk3 hne3
      gi_wp2
      refine ⟨trivial, ?_⟩
      refine (callsIn_wide.2 (whole _ _ _ _ _ _ (Rm.of HB3.out.mem))).mono ?_
      rintro e w4 ⟨g4, k4, c4, q4, rfl, hq4, hr4, hg4, hk4, hqq, hb4⟩
      have HB4 := Lib.hid (HB3.out.below hb4)
      have HW4 := Lib.hid (HW3.out.belowS hb4)
      have HR4 := Lib.hid (HR3.out.below hb4)
      have HI4 : Hid (It w4 q4 k4 g4 c4 n B) := ⟨hq4, hr4⟩
      have HN4 := Lib.hid (show w3.heap.size ≤ g4 ∧ w3.heap.size ≤ k4 ∧ w3.heap.size ≤ q4 ∧ w3.heap.size ≤ w4.heap.size from ⟨hg4, hk4, hqq, hb4.size⟩)
      have crf := cell_of_row _ _ 0 _ _ _ HB4.out.ref.ref
      clear HB3 HW3 HR3 hq4 hr4 hb4 hg4 hk4 hqq
      gi_wp2_with (gi_at_builtin; refine wpListIn_was rfl _ _ rfl rfl c n B rfl HB4.out.ref.all HB4.out.ref.len h0 (by omega) ?_; intro d cap w5 hd hdl hcap hdc hb5)
      obtain ⟨w6, hw6⟩ : ∃ w6, w6 = w5.alloc (.cells #[.slice (some ⟨d, 0, none⟩) (128 * n) cap] 50) := ⟨_, rfl⟩
      have hb6 : Below w4.heap.size w4 w6 := by rw [hw6]; exact hb5.alloc hb5.size _
      have HB6 := Lib.hid (HB4.out.below hb6)
      have HW6 := Lib.hid (HW4.out.belowS hb6)
      have HC6 : Hid (Cp w6 (w.heap.size + 2) c n k3 g3 c3 q4 k4 g4 c4 w5.heap.size d cap B) := by
        have hs5 := hb5.size
        have hs4 := HN4.out
        have hs3 := HN3.out
        refine ⟨HR4.out.below hb6, HI4.out.below hb6, ⟨by rw [hw6]; exact heap_here rfl, fun i x hi => ?_, by rw [hw6]; simp; omega, HB4.out.ref.len, HB4.out.ref.max, hcap⟩, by omega, by omega, by omega, by omega, by omega, by omega, by omega⟩
        rw [hw6]
        exact (((Below.refl _ w5).alloc (Nat.le_refl _) _).cell (p := ⟨d, i, none⟩) hdl).trans (hdc i x hi)
      rw [← hw6]
      have HZ6 := Lib.hid (show w.heap.size + 2 + 1 < w5.heap.size ∧ w5.heap.size < w6.heap.size from by
        have hs5 := hb5.size
        have hs4 := HN4.out
        have hs3 := HN3.out
        exact ⟨by omega, by rw [hw6]; simp⟩)
      obtain ⟨wb, hwb⟩ : ∃ wb, w5.heap.size = wb := ⟨_, rfl⟩
      rw [hwb] at HC6 HZ6 ⊢
      clear hw6 hb6 hd hdl hcap hdc hb5 HB4 HW4 HR4 HI4 crf HN3 HN4 hwb
      gi_wp2_with (first | (refine ⟨trivial, ?_⟩; gi_at_call 24; (with_reducible refine (callsIn_wide.2 (same_self _ _ _ _ _ _ _ _ _ HC6.out.cp (Rm.of HB6.out.mem))).mono ?_); rintro e w7 ⟨rfl, hb7⟩; have HB7 := Lib.hid (HB6.out.below hb7); have HW7 := Lib.hid (HW6.out.belowS hb7); have HC7 := Lib.hid (HC6.out.below hb7); clear hb7 HB6 HW6 HC6) | (refine ⟨trivial, ?_⟩; gi_at_call 24; (with_reducible refine (callsIn_wide.2 (same_self _ _ _ _ _ _ _ _ _ (Rm.of HB7.out.mem) (Rm.of HB7.out.mem))).mono ?_); rintro e w8 ⟨rfl, hb8⟩; have HB8 := Lib.hid (HB7.out.below hb8); have HW8 := Lib.hid (HW7.out.belowS hb8); have HC8 := Lib.hid (HC7.out.below hb8); clear hb8 HB7 HW7 HC7))
      gi_loopw [14] (fun i wr => ∃ (j : Nat) (B' : List Int), j ≤ len2 ∧ i = .int .i64 j ∧ Both (w.heap.size + 2) wr (w.heap.size + 2 + 1) (w.heap.size + 2) (c + 1) c n B' ∧ Lw w wr n ∧ Cp wr (w.heap.size + 2) c n k3 g3 c3 q4 k4 g4 c4 wb d cap B) (fun i _ => len2 - (intOf i).toNat)
      case atStart => exact ⟨0, _, Nat.zero_le _, rfl, HB8.out, HW8.out, HC8.out⟩
      case round =>
        obtain ⟨i, B', hi, rfl, hB, hw, hC⟩ := hrel
        clear HB8 HW8 HC8
        by_cases hil : i < len2
        · obtain ⟨kd, ag, aa, az, y, L, ac, Z, hA⟩ := HA2.out.acts i hil
          have hbl := (HA2.out.loc (by omega)).2
          obtain rfl := (HA2.out.loc (by omega)).1
          have hA1 := hA.below hw.b hbl
          have c0 := hA1.c0
          have c1 := hA1.c1
          have c2 := hA1.c2
          have c3 := hA1.c3
          have c4 := hA1.c4
          simp only [Nat.add_zero] at c0
          have HA1 := Lib.hid hA1
          have HB := Lib.hid hB
          have HW := Lib.hid hw
          have HC := Lib.hid hC
          clear hA hA1 hB hw hC hbl
          by_cases hbig : 1000 < L
          · gi_wp2_with (refine ⟨trivial, ?_⟩; gi_at_call 9; refine (callsIn_wide.2 (known _)).mono ?_; rintro e w6 ⟨rfl, b6⟩; have B6 := Lib.hid (HW.out.belowS b6); have cr6 := cell_of_row _ _ 0 _ _ _ B6.out.res; have fr6 := frozen_of_row _ _ 0 _ _ B6.out.res; clear b6)
            all_goals first | (exfalso; omega) | skip
            exact end0 B6.out rfl
          · gi_wp2_with (refine ⟨trivial, ?_⟩; gi_at_call 16; refine (callsIn_wide.2 (ko_any _ _ _ _ _ _ _ _ _ _ _ _ _ _ _ _ HB.out HA1.out.ha.1 HA1.out.ha.2 HA1.out.hx HA1.out.hZ HA1.out.hL.1 HA1.out.hL.2 (HA1.out.arg.up (by omega) HB.out.le))).mono ?_; rintro e w6 ⟨rfl, B'', hB', hW'⟩; have HB' := Lib.hid hB'; have HW' := Lib.hid (HW.out.below hW'.b); have HC' := Lib.hid (HC.out.kb hW'); clear hB' hW')
            all_goals first | (exfalso; omega) | skip
            go_roundw
            case rel => exact ⟨i + 1, B'', by omega, by go_num, HB'.out, HW'.out, HC'.out⟩
            case measure => simp [intOf]; omega
        · have hil2 : i = len2 := by omega
          subst hil2
          have HB := Lib.hid hB
          have HW := Lib.hid hw
          have HC := Lib.hid hC
          clear hB hw hC HA2 HA
          gi_wp2
          have HS1 : Hid (∀ w', Below wr.heap.size wr w' → (convert 31 9 (.slice (some ⟨d, 0, none⟩) (128 * n) cap)).run Try.prog w' = .ok (.string (strOfNums B)) w') := fun w' hw' => str_cap (HC.out.below hw').was.cells (HC.out.was.len)
          have HS2 : Hid (∀ w', Below wr.heap.size wr w' → (convert 31 9 (.slice (some ⟨c, 0, none⟩) (128 * n) (128 * n))).run Try.prog w' = .ok (.string (strOfNums B')) w') := fun w' hw' => str_block (HB.out.below hw').ref.all HB.out.ref.len
          obtain ⟨bb, HE⟩ : ∃ bb : Bool, Hid (decide (B = B') = bb ∧ decide (B' = B) = bb ∧ decide (strOfNums B = strOfNums B') = bb) := by
            refine ⟨decide (B = B'), rfl, by simp [eq_comm], ?_⟩
            by_cases h : B = B'
            · simp [h]
            · have h2 : ¬ strOfNums B = strOfNums B' := fun h3 => h (strOf_inj _ _ hall HB.out.all h3)
              simp [h, h2]
          have HQ : Hid (((strOfNums B).toList == (strOfNums B').toList) = bb) := (str_beq _ _).trans HE.out.2.2
          refine wpIn_region_fence open0_wide (hnd_of (by kernel_rfl)) (by kernel_rfl) ?_
          refine wpQuiet_pure (v := (.pointer (some ⟨k3, 0, none⟩))) rfl (fun w => rfl) ?_
          simp only [Act.put, List.setIfInBounds_toArray, List.set_cons_zero, List.set_cons_succ]
          refine wpQuiet_pure (v := (.pointer (some ⟨w.heap.size + 2 + 1, 0, none⟩))) rfl (fun w => rfl) ?_
          simp only [Act.put, List.setIfInBounds_toArray, List.set_cons_zero, List.set_cons_succ]
          refine wpQuiet_call rfl 24 #[.pointer (some ⟨k3, 0, none⟩), .pointer (some ⟨w.heap.size + 2 + 1, 0, none⟩)] (.bool bb) (fun w => by go_simp) (fun w' hw' => ?_) ?_
          · refine (same _ _ _ _ _ _ _ _ _ w' ((HC.out.below hw').cp) (Rm.of (HB.out.below hw').mem)).mono ?_
            rintro e w2 ⟨he, b2⟩
            exact ⟨by rw [he]; exact ret_bool (HE.out.1), hw'.trans (b2.mono hw'.size)⟩
          simp only [Act.put, List.setIfInBounds_toArray, List.set_cons_zero, List.set_cons_succ]
          refine wpQuiet_pure (v := (.pointer (some ⟨wb, 0, none⟩))) rfl (fun w => rfl) ?_
          simp only [Act.put, List.setIfInBounds_toArray, List.set_cons_zero, List.set_cons_succ]
          refine wpQuiet_cell rfl 31 (.tmp 119) rfl wb 0 (.slice (some ⟨d, 0, none⟩) (128 * n) cap) rfl agg31 (fun w' hw' => cell_of_row _ _ 0 _ _ _ ((HC.out.below hw').was.ref)) ?_
          simp only [Act.put, List.setIfInBounds_toArray, List.set_cons_zero, List.set_cons_succ]
          refine wpQuiet_valC (v := .string (strOfNums B)) rfl (fun w' hw' => ?_) ?_
          · have := HS1.out w' hw'
            go_simp
          simp only [Act.put, List.setIfInBounds_toArray, List.set_cons_zero, List.set_cons_succ]
          refine wpQuiet_pure (v := (.pointer (some ⟨c + 1, 0, none⟩))) rfl (fun w => rfl) ?_
          simp only [Act.put, List.setIfInBounds_toArray, List.set_cons_zero, List.set_cons_succ]
          refine wpQuiet_pure (v := (.pointer (some ⟨c + 1, 0, none⟩))) rfl (fun w => rfl) ?_
          simp only [Act.put, List.setIfInBounds_toArray, List.set_cons_zero, List.set_cons_succ]
          refine wpQuiet_pure (v := (.pointer (some ⟨c + 1, 0, none⟩))) rfl (fun w => rfl) ?_
          simp only [Act.put, List.setIfInBounds_toArray, List.set_cons_zero, List.set_cons_succ]
          refine wpQuiet_cell rfl 31 (.tmp 124) rfl (c + 1) 0 (.slice (some ⟨c, 0, none⟩) (128 * n) (128 * n)) rfl agg31 (fun w' hw' => cell_of_row _ _ 0 _ _ _ ((HB.out.below hw').ref.ref)) ?_
          simp only [Act.put, List.setIfInBounds_toArray, List.set_cons_zero, List.set_cons_succ]
          refine wpQuiet_valC (v := .string (strOfNums B')) rfl (fun w' hw' => ?_) ?_
          · have := HS2.out w' hw'
            go_simp
          simp only [Act.put, List.setIfInBounds_toArray, List.set_cons_zero, List.set_cons_succ]
          refine wpQuiet_pure (v := (.bool bb)) rfl (fun w => by have := HQ.out; go_simp) ?_
          simp only [Act.put, List.setIfInBounds_toArray, List.set_cons_zero, List.set_cons_succ]
          refine wpQuiet_pure (v := (.bool false)) rfl (fun w => by have := bool_neq bb w; go_simp) ?_
          simp only [Act.put, List.setIfInBounds_toArray, List.set_cons_zero, List.set_cons_succ]
          refine wpQuiet_pure (v := (.bool false)) rfl (fun w => rfl) ?_
          simp only [Act.put, List.setIfInBounds_toArray, List.set_cons_zero, List.set_cons_succ]
          refine wpQuiet_pure (v := (.pointer (some ⟨w.heap.size + 2 + 1, 0, none⟩))) rfl (fun w => rfl) ?_
          simp only [Act.put, List.setIfInBounds_toArray, List.set_cons_zero, List.set_cons_succ]
          refine wpQuiet_pure (v := (.pointer (some ⟨k3, 0, none⟩))) rfl (fun w => rfl) ?_
          simp only [Act.put, List.setIfInBounds_toArray, List.set_cons_zero, List.set_cons_succ]
          refine wpQuiet_call rfl 24 #[.pointer (some ⟨w.heap.size + 2 + 1, 0, none⟩), .pointer (some ⟨k3, 0, none⟩)] (.bool bb) (fun w => by go_simp) (fun w' hw' => ?_) ?_
          · refine (same _ _ _ _ _ _ _ _ _ w' (Rm.of (HB.out.below hw').mem) ((HC.out.below hw').cp)).mono ?_
            rintro e w2 ⟨he, b2⟩
            exact ⟨by rw [he]; exact ret_bool (HE.out.2.1), hw'.trans (b2.mono hw'.size)⟩
          simp only [Act.put, List.setIfInBounds_toArray, List.set_cons_zero, List.set_cons_succ]
          refine wpQuiet_pure (v := (.pointer (some ⟨k3, 0, none⟩))) rfl (fun w => rfl) ?_
          simp only [Act.put, List.setIfInBounds_toArray, List.set_cons_zero, List.set_cons_succ]
          refine wpQuiet_pure (v := (.pointer (some ⟨w.heap.size + 2 + 1, 0, none⟩))) rfl (fun w => rfl) ?_
          simp only [Act.put, List.setIfInBounds_toArray, List.set_cons_zero, List.set_cons_succ]
          refine wpQuiet_call rfl 24 #[.pointer (some ⟨k3, 0, none⟩), .pointer (some ⟨w.heap.size + 2 + 1, 0, none⟩)] (.bool bb) (fun w => by go_simp) (fun w' hw' => ?_) ?_
          · refine (same _ _ _ _ _ _ _ _ _ w' ((HC.out.below hw').cp) (Rm.of (HB.out.below hw').mem)).mono ?_
            rintro e w2 ⟨he, b2⟩
            exact ⟨by rw [he]; exact ret_bool (HE.out.1), hw'.trans (b2.mono hw'.size)⟩
          simp only [Act.put, List.setIfInBounds_toArray, List.set_cons_zero, List.set_cons_succ]
          refine wpQuiet_pure (v := (.bool false)) rfl (fun w => by have := bool_neq bb w; go_simp) ?_
          simp only [Act.put, List.setIfInBounds_toArray, List.set_cons_zero, List.set_cons_succ]
          refine wpQuiet_pure (v := (.bool false)) rfl (fun w => rfl) ?_
          simp only [Act.put, List.setIfInBounds_toArray, List.set_cons_zero, List.set_cons_succ]
          refine wpQuiet_nil ?_
          intro w9 hb9
          have HB9 := Lib.hid (HB.out.below hb9)
          have HW9 := Lib.hid (HW.out.belowS hb9)
          have HC9 := Lib.hid (HC.out.below hb9)
          clear hb9 HB HW HC HQ HS1 HS2 HE
          have hG0 : Hid (Iv w.heap.size w (w9.alloc (.cells #[.int .i64 (0 : Nat)] 3)) n w9.heap.size wb d cap B 0) := by
            have hz := HZ6.out
            have h9 := Rr.rlt HC9.out.was
            have h9d := HC9.out.was.lt
            have hl9 := HW9.out.lt
            have bb := (Below.refl w9.heap.size w9).alloc (Nat.le_refl _) (.cells #[.int .i64 (0 : Nat)] 3)
            refine ⟨(bb.block _ (by omega)).trans HW9.out.num, (bb.block _ (by omega)).trans HW9.out.res, HW9.out.b.trans (bb.mono HW9.out.b.size), heap_here rfl, HC9.out.was.below bb, by omega, by omega, by omega⟩
          have HX : Hid (wb < w9.heap.size ∧ d < w9.heap.size) := ⟨Rr.rlt HC9.out.was, HC9.out.was.lt⟩
          have HI9 := Lib.hid HC9.out.it
          clear HB9 HW9 HC9 HZ6
          gi_wp2
          obtain ⟨W0, hW0⟩ : ∃ W0, W0 = w9.alloc (.cells #[.int .i64 0] 3) := ⟨_, rfl⟩
          obtain ⟨G, hGG⟩ : ∃ G, G = w9.heap.size := ⟨_, rfl⟩
          have hG0' : Hid (Iv w.heap.size w W0 n G wb d cap B 0) := by rw [hW0, hGG]; exact hG0.out
          have HB0 : Hid (Below w9.heap.size w9 W0 ∧ W0.heap.size = G + 1 ∧ w9.heap.size = G ∧ wb < G ∧ d < G) := ⟨by rw [hW0]; exact (Below.refl _ _).alloc (Nat.le_refl _) _, by rw [hW0, hGG]; simp, hGG.symm, by rw [hGG]; exact HX.out.1, by rw [hGG]; exact HX.out.2⟩
          rw [← hW0, ← hGG]
          clear hW0 hG0 HX hGG
          refine own_start fun a0 ha0 => ?_
          have HA0 := Lib.hid ha0
          clear ha0
          refine wpIn_rangeFunc_ownH (F := Fence.wide) (n := 9) (α := Nat) (encs := told B) (Kp := Kq w9.heap.size) (S := fun xs => xs = nz B n) (Sp := fun xs => ∃ j, j < n ∧ xs = nz B (j + 1)) (N := n) rfl (by omega) (gf := 36) (lb := #[.pointer (some ⟨q4, 0, none⟩)]) (by rw [HA0.out]; rfl) trivial (enters_of Try.func36 (by kernel_rfl) rfl)
            (whole_stops q4 k4 g4 c4 n B w9 HI9.out) Kq.trans (fun W l o o' hl ho hc hw => ⟨walksK_b (w := W0) W l o o' hl ho hc hw, fun k hk => World.putObj_heap_other (by have := HB0.out; omega)⟩) HB0.out.1 (fun _ => rfl)
            (fun pre W => ∃ j, j ≤ n ∧ pre = nz B j ∧ Iv w.heap.size w W n G wb d cap B j)
            (fun _ pre _ => ∀ m, m < n → pre ≠ nz B (m + 1))
            (fun s X Y row hs hg hr => by obtain ⟨j, h1, h2, h3⟩ := hs; have hb0 := HB0.out; exact ⟨j, h1, h2, h3.own (M := W0.heap.size) hg (fun r e => (hr r e).1) (by omega) (by omega) (by omega)⟩)
            (fun _ => ownFrom_pure _ _)
            ⟨0, Nat.zero_le _, rfl, hG0'.out⟩
            (fun x a' W => ∃ Bx, W0.heap.size ≤ Bx ∧ BytesAt W Bx 52 (subT B x) ∧ a' = { tmps := (((a0.tmps.setIfInBounds 139 (.int .i64 (x : Int))).setIfInBounds 140 (.agg (bytesV (subT B x)).toArray)).setIfInBounds 16 (.int .i64 (x : Int))).setIfInBounds 17 (.pointer (some ⟨Bx, 0, none⟩)), defers := [] })
            (fun x a' _ X Y row hs hg hr => by obtain ⟨Bx, h1, h2, h3⟩ := hs; exact ⟨Bx, h1, h2.grown hg (fun e => by obtain ⟨o, ho, hc⟩ := (hr Bx e.symm).2; rw [show X.heap[Bx]? = _ from h2] at ho; cases ho; cases hc), h3⟩)
            ?assign ?body ?done ?stop
          case stop =>
            rintro D c pre W _ ⟨m, hm, rfl⟩ h _
            exact absurd rfl (h m hm)
          case assign =>
            rintro l pre x W K ⟨j, hj, rfl, hI⟩ hK
            rw [fold_told]
            have ha0 := HA0.out
            subst ha0
            simp only [List.setIfInBounds_toArray, List.set_cons_zero, List.set_cons_succ]
            have hst := st_new W (zeroB 1) (subT B x) zlen (subT_len B x)
            have hln : (bytesV (subT B x)).length = 128 := by rw [bytesV_len, subT_len]
            gi_wp2
            have hbw := (Below.refl W.heap.size W).alloc (Nat.le_refl _) (.cells (bytesV (subT B x)).toArray 52)
            refine hK _ _ ((KeepsOthers.alloc _ _).from _) ((Rk.of (N := 0) (G := G) hbw (Nat.zero_le _)).kq hI.g (by have := HB0.out; omega) hI.lt) ⟨j, hj, rfl, hI.below hbw⟩ ⟨W.heap.size, by have := HB0.out; have := hI.lt; omega, heap_here rfl, ?_⟩
            simp only [List.setIfInBounds_toArray, List.set_cons_zero, List.set_cons_succ]
          case body =>
            rintro l pre x a' W hl ⟨r, hr⟩ ⟨j, hj, rfl, hI⟩ ⟨Bx, hBx, hX, rfl⟩ hlt
            have ha0 := HA0.out
            subst ha0
            simp only [List.setIfInBounds_toArray, List.set_cons_zero, List.set_cons_succ]
            have HI := Lib.hid hI
            have HX := Lib.hid hX
            clear hI hX hr
            gi_wp2
            gi_loopw [] (fun wr => ∃ i : Nat, j ≤ i ∧ i ≤ n ∧ (∀ k, j ≤ k → k < i → sub B k = zeroB 1) ∧ Iv w.heap.size w wr n G wb d cap B i ∧ Rk (w.heap.size + 2) G W wr ∧ BytesAt wr Bx 52 (subT B x)) (fun wr => n - atG wr G)
            case atStart => exact ⟨j, Nat.le_refl _, hj, fun k h1 h2 => by omega, HI.out, Rk.refl _ _ _, HX.out⟩
            case round =>
              obtain ⟨i, hji, hin, hz, hIi, hk, hXi⟩ := hrel
              have HJ := Lib.hid hIi
              have HK := Lib.hid hk
              have HXi := Lib.hid hXi
              have HZ := Lib.hid hz
              have HGw : Hid (atG wr G = i) := atG_of hIi.g
              have HI0 : Hid (w.heap.size + 2 ≤ W.heap.size) := by
                have h1 := HI.out.lt
                have h2 := HI.out.n3
                show _ ≤ _
                omega
              clear hIi hk hXi hz
              by_cases hi : i < n
              · have hsl := sub_len B i n HJ.out.was.len hi
                have heq := eqB (sub B i) (zeroB 1) hsl zlen
                by_cases he : sub B i = zeroB 1
                · have HE := Lib.hid he
                  simp only [he, decide_true] at heq
                  have cG0 := cell_of_row _ _ 0 _ _ _ HJ.out.g
                  have cN0 := cell_of_row _ _ 0 _ _ _ HJ.out.num
                  gi_wp2_with (refine ⟨trivial, ?_⟩; gi_at_call 21; refine (((open0_round l).calls _ _ _ _ _ _).2 (rgetc wb d n cap B i _ HJ.out.was hi)).mono ?_; rintro e w2 ⟨rfl, b2⟩; have HJ2 := Lib.hid (HJ.out.below b2); have HK2 := Lib.hid (HK.out.next (by have := HI0.out; omega) b2); have HX2 := Lib.hid (HXi.out.below b2); have cG := cell_of_row _ _ 0 _ _ _ HJ2.out.g; have fG := frozen_of_row _ _ 0 _ _ HJ2.out.g; have cN := cell_of_row _ _ 0 _ _ _ HJ2.out.num; clear b2 HJ HK HXi)
                  clear heq
                  go_roundw
                  case rel => exact ⟨i + 1, by omega, by omega, fun k h1 h2 => (by
                    rcases (show k < i ∨ k = i by omega) with h | rfl
                    · exact HZ.out k h1 h
                    · exact HE.out), HJ2.out.set (i + 1), HK2.out.set (by have := HI.out.n3; omega) _, BytesAt.grown HX2.out (grownBy_setCell' _ _ _) (by have := HB0.out; simp; omega)⟩
                  case measure =>
                    have hh := (HJ2.out.set (i + 1)).g
                    rw [show ((i : Int) + 1) = ((i + 1 : Nat) : Int) by omega, atG_of hh, HGw.out]
                    omega
                · have HE := Lib.hid he
                  simp only [he, decide_false] at heq
                  have cG0 := cell_of_row _ _ 0 _ _ _ HJ.out.g
                  have cN0 := cell_of_row _ _ 0 _ _ _ HJ.out.num
                  gi_wp2_with (refine ⟨trivial, ?_⟩; gi_at_call 21; refine (((open0_round l).calls _ _ _ _ _ _).2 (rgetc wb d n cap B i _ HJ.out.was hi)).mono ?_; rintro e w2 ⟨rfl, b2⟩; have HJ2 := Lib.hid (HJ.out.below b2); have HK2 := Lib.hid (HK.out.next (by have := HI0.out; omega) b2); have HX2 := Lib.hid (HXi.out.below b2); have cG := cell_of_row _ _ 0 _ _ _ HJ2.out.g; have fG := frozen_of_row _ _ 0 _ _ HJ2.out.g; have cN := cell_of_row _ _ 0 _ _ _ HJ2.out.num; clear b2 HJ HK HXi)
                  clear heq he cG cN fG
                  have HKK := HK2
                  have HNE : Hid (i < n → sub B i ≠ zeroB 1) := fun _ => HE.out
                  by_cases hxi : x = i
                  · have HN1 : Hid (((x : Int) == (i : Int)) = true ∧ ((x : Int) != (i : Int)) = false) := by show _ ∧ _; simp [hxi]
                    have HN2 : Hid (decide ((n : Int) ≤ (i : Int)) = false) := by show _ = _; simp; omega
                    have HN3 : Hid (∀ w, (Op.equalIn 10000 52 (.agg (bytesV (subT B x)).toArray) (.agg (bytesV (sub B i)).toArray)).run Try.prog w = .ok true w) := fun w => by
                      have := eqB (sub B i) (sub B i) hsl hsl w
                      rw [hxi, subT_of HJ2.out.was.len hi]
                      simpa using this
                    have HXI := Lib.hid hxi
                    clear hxi
                    refine wpIn_region_fence (open0_round l) (hnd_of (by kernel_rfl)) (by kernel_rfl) ?_
                    refine wpQuiet_pure (v := .int .i64 (x : Int)) rfl (fun w => rfl) ?_
                    simp only [Act.put, List.setIfInBounds_toArray, List.set_cons_zero, List.set_cons_succ]
                    refine wpQuiet_cell rfl 3 (.tmp 15) rfl G 0 (.int .i64 (i : Int)) rfl agg3 (fun w' hw' => cell_of_row _ _ 0 _ _ _ (HJ2.out.below hw').g) ?_
                    simp only [Act.put, List.setIfInBounds_toArray, List.set_cons_zero, List.set_cons_succ]
                    refine wpQuiet_pure (v := .bool false) rfl (fun w => by have := HN1.out; go_simp) ?_
                    simp only [Act.put, List.setIfInBounds_toArray, List.set_cons_zero, List.set_cons_succ]
                    refine wpQuiet_pure (v := .bool false) rfl (fun w => rfl) ?_
                    simp only [Act.put, List.setIfInBounds_toArray, List.set_cons_zero, List.set_cons_succ]
                    refine wpQuiet_cell rfl 3 (.tmp 15) rfl G 0 (.int .i64 (i : Int)) rfl agg3 (fun w' hw' => cell_of_row _ _ 0 _ _ _ (HJ2.out.below hw').g) ?_
                    simp only [Act.put, List.setIfInBounds_toArray, List.set_cons_zero, List.set_cons_succ]
                    refine wpQuiet_cell rfl 3 (.tmp 3) rfl w.heap.size 0 (.int .i64 (n : Int)) rfl agg3 (fun w' hw' => cell_of_row _ _ 0 _ _ _ (HJ2.out.below hw').num) ?_
                    simp only [Act.put, List.setIfInBounds_toArray, List.set_cons_zero, List.set_cons_succ]
                    refine wpQuiet_pure (v := .bool false) rfl (fun w => by have := HN2.out; go_simp) ?_
                    simp only [Act.put, List.setIfInBounds_toArray, List.set_cons_zero, List.set_cons_succ]
                    refine wpQuiet_pure (v := .bool false) rfl (fun w => rfl) ?_
                    simp only [Act.put, List.setIfInBounds_toArray, List.set_cons_zero, List.set_cons_succ]
                    refine wpQuiet_pure (v := .bool false) rfl (fun w => rfl) ?_
                    simp only [Act.put, List.setIfInBounds_toArray, List.set_cons_zero, List.set_cons_succ]
                    refine wpQuiet_ld rfl (.tmp 17) rfl Bx 0 (subT B x) rfl (subT_len B x) (fun w' hw' => rng_row (HX2.out.below hw')) ?_
                    simp only [Act.put, List.setIfInBounds_toArray, List.set_cons_zero, List.set_cons_succ]
                    refine wpQuiet_cell rfl 3 (.tmp 15) rfl G 0 (.int .i64 (i : Int)) rfl agg3 (fun w' hw' => cell_of_row _ _ 0 _ _ _ (HJ2.out.below hw').g) ?_
                    simp only [Act.put, List.setIfInBounds_toArray, List.set_cons_zero, List.set_cons_succ]
                    refine wpQuiet_call rfl 21 #[.pointer (some ⟨wb, 0, none⟩), .int .i64 (i : Int)] (.agg (bytesV (sub B i)).toArray) (fun w => by go_simp) (fun w' hw' => ?_) ?_
                    · refine (rgetc wb d n cap B i _ (HJ2.out.below hw').was hi).mono ?_
                      rintro e w5 ⟨rfl, b5⟩
                      exact ⟨rfl, hw'.trans (b5.mono hw'.size)⟩
                    simp only [Act.put, List.setIfInBounds_toArray, List.set_cons_zero, List.set_cons_succ]
                    refine wpQuiet_pure (v := .bool false) rfl (fun w => by have := HN3.out w; go_simp) ?_
                    simp only [Act.put, List.setIfInBounds_toArray, List.set_cons_zero, List.set_cons_succ]
                    refine wpQuiet_pure (v := .bool false) rfl (fun w => rfl) ?_
                    simp only [Act.put, List.setIfInBounds_toArray, List.set_cons_zero, List.set_cons_succ]
                    refine wpQuiet_nil ?_
                    intro w4 hw4
                    have HJ4 := Lib.hid (HJ2.out.below hw4)
                    have HK4 := Lib.hid (HKK.out.next HI0.out hw4)
                    have HX4 := Lib.hid (HX2.out.below hw4)
                    have cG4 := cell_of_row _ _ 0 _ _ _ HJ4.out.g
                    have fG4 := frozen_of_row _ _ 0 _ _ HJ4.out.g
                    have cR4 := cell_of_row _ _ 0 _ _ _ HJ4.out.res
                    have fR4 := frozen_of_row _ _ 0 _ _ HJ4.out.res
                    clear hw4
                    gi_wp2
                    refine ⟨(HK4.out.set (by have := HJ4.out.n3; omega) _).keeps HI.out.g _, (HK4.out.set (by have := HJ4.out.n3; omega) _).kq HI.out.g (by have := HB0.out; omega) HI.out.lt, x + 1, by have := HXI.out; omega, ?_, ?_⟩
                    · rw [← nz_skip hji HZ.out, ← HXI.out, nz_yes (by rw [HXI.out]; exact HE.out)]
                    · have := HJ4.out.set (x + 1)
                      simpa [HXI.out] using this
                  · have HN1 : Hid (((x : Int) == (i : Int)) = false ∧ ((x : Int) != (i : Int)) = true) := by show _ ∧ _; simp; omega
                    have HXW : Hid (x = i → n ≤ i) := fun h => absurd h hxi
                    clear hxi
                    refine wpIn_region_fence (open0_round l) (hnd_of (by kernel_rfl)) (by kernel_rfl) ?_
                    refine wpQuiet_pure (v := .int .i64 (x : Int)) rfl (fun w => rfl) ?_
                    simp only [Act.put, List.setIfInBounds_toArray, List.set_cons_zero, List.set_cons_succ]
                    refine wpQuiet_cell rfl 3 (.tmp 15) rfl G 0 (.int .i64 (i : Int)) rfl agg3 (fun w' hw' => cell_of_row _ _ 0 _ _ _ (HJ2.out.below hw').g) ?_
                    simp only [Act.put, List.setIfInBounds_toArray, List.set_cons_zero, List.set_cons_succ]
                    refine wpQuiet_pure (v := .bool true) rfl (fun w => by have := HN1.out; go_simp) ?_
                    simp only [Act.put, List.setIfInBounds_toArray, List.set_cons_zero, List.set_cons_succ]
                    refine wpQuiet_pure (v := .bool true) rfl (fun w => rfl) ?_
                    simp only [Act.put, List.setIfInBounds_toArray, List.set_cons_zero, List.set_cons_succ]
                    refine wpQuiet_skipw rfl ?_
                    simp only [Act.put, List.setIfInBounds_toArray, List.set_cons_zero, List.set_cons_succ]
                    refine wpQuiet_skipw rfl ?_
                    simp only [Act.put, List.setIfInBounds_toArray, List.set_cons_zero, List.set_cons_succ]
                    refine wpQuiet_skipw rfl ?_
                    simp only [Act.put, List.setIfInBounds_toArray, List.set_cons_zero, List.set_cons_succ]
                    refine wpQuiet_pure (v := .bool true) rfl (fun w => rfl) ?_
                    simp only [Act.put, List.setIfInBounds_toArray, List.set_cons_zero, List.set_cons_succ]
                    refine wpQuiet_pure (v := .bool true) rfl (fun w => rfl) ?_
                    simp only [Act.put, List.setIfInBounds_toArray, List.set_cons_zero, List.set_cons_succ]
                    refine wpQuiet_skipw rfl ?_
                    simp only [Act.put, List.setIfInBounds_toArray, List.set_cons_zero, List.set_cons_succ]
                    refine wpQuiet_skipw rfl ?_
                    simp only [Act.put, List.setIfInBounds_toArray, List.set_cons_zero, List.set_cons_succ]
                    refine wpQuiet_skipw rfl ?_
                    simp only [Act.put, List.setIfInBounds_toArray, List.set_cons_zero, List.set_cons_succ]
                    refine wpQuiet_skipw rfl ?_
                    simp only [Act.put, List.setIfInBounds_toArray, List.set_cons_zero, List.set_cons_succ]
                    refine wpQuiet_pure (v := .bool true) rfl (fun w => rfl) ?_
                    simp only [Act.put, List.setIfInBounds_toArray, List.set_cons_zero, List.set_cons_succ]
                    refine wpQuiet_nil ?_
                    intro w4 hw4
                    have HJ4 := Lib.hid (HJ2.out.below hw4)
                    have HK4 := Lib.hid (HKK.out.next HI0.out hw4)
                    have HX4 := Lib.hid (HX2.out.below hw4)
                    have cG4 := cell_of_row _ _ 0 _ _ _ HJ4.out.g
                    have fG4 := frozen_of_row _ _ 0 _ _ HJ4.out.g
                    have cR4 := cell_of_row _ _ 0 _ _ _ HJ4.out.res
                    have fR4 := frozen_of_row _ _ 0 _ _ HJ4.out.res
                    clear hw4
                    gi_wp2
                    refine ⟨(HK4.out.keeps HI.out.g _).trans ((KeepsOthers.setCell _ _ _).from _), ?_⟩
                    exact nz_wrong hji hin HZ.out HNE.out HXW.out
              · have hin2 : i = n := by omega
                subst hin2
                have cG0 := cell_of_row _ _ 0 _ _ _ HJ.out.g
                have cN0 := cell_of_row _ _ 0 _ _ _ HJ.out.num
                gi_wp2_with (refine wpListIn_skipw (fun _ => trivial) rfl ?_)
                clear cG0 cN0
                have HKK := HK
                have HNE : Hid (i < i → sub B i ≠ zeroB 1) := fun h => by omega
                have HXW : Hid (x = i → i ≤ i) := fun _ => Nat.le_refl _
                by_cases hxi : x = i
                · have HN1 : Hid (((x : Int) == (i : Int)) = true ∧ ((x : Int) != (i : Int)) = false) := by show _ ∧ _; simp [hxi]
                  have HN2 : Hid (decide ((i : Int) ≤ (i : Int)) = true) := by show _ = _; simp
                  clear hxi
                  refine wpIn_region_fence (open0_round l) (hnd_of (by kernel_rfl)) (by kernel_rfl) ?_
                  refine wpQuiet_pure (v := .int .i64 (x : Int)) rfl (fun w => rfl) ?_
                  simp only [Act.put, List.setIfInBounds_toArray, List.set_cons_zero, List.set_cons_succ]
                  refine wpQuiet_cell rfl 3 (.tmp 15) rfl G 0 (.int .i64 (i : Int)) rfl agg3 (fun w' hw' => cell_of_row _ _ 0 _ _ _ (HJ.out.below hw').g) ?_
                  simp only [Act.put, List.setIfInBounds_toArray, List.set_cons_zero, List.set_cons_succ]
                  refine wpQuiet_pure (v := .bool false) rfl (fun w => by have := HN1.out; go_simp) ?_
                  simp only [Act.put, List.setIfInBounds_toArray, List.set_cons_zero, List.set_cons_succ]
                  refine wpQuiet_pure (v := .bool false) rfl (fun w => rfl) ?_
                  simp only [Act.put, List.setIfInBounds_toArray, List.set_cons_zero, List.set_cons_succ]
                  refine wpQuiet_cell rfl 3 (.tmp 15) rfl G 0 (.int .i64 (i : Int)) rfl agg3 (fun w' hw' => cell_of_row _ _ 0 _ _ _ (HJ.out.below hw').g) ?_
                  simp only [Act.put, List.setIfInBounds_toArray, List.set_cons_zero, List.set_cons_succ]
                  refine wpQuiet_cell rfl 3 (.tmp 3) rfl w.heap.size 0 (.int .i64 (i : Int)) rfl agg3 (fun w' hw' => cell_of_row _ _ 0 _ _ _ (HJ.out.below hw').num) ?_
                  simp only [Act.put, List.setIfInBounds_toArray, List.set_cons_zero, List.set_cons_succ]
                  refine wpQuiet_pure (v := .bool true) rfl (fun w => by have := HN2.out; go_simp) ?_
                  simp only [Act.put, List.setIfInBounds_toArray, List.set_cons_zero, List.set_cons_succ]
                  refine wpQuiet_pure (v := .bool true) rfl (fun w => rfl) ?_
                  simp only [Act.put, List.setIfInBounds_toArray, List.set_cons_zero, List.set_cons_succ]
                  refine wpQuiet_pure (v := .bool true) rfl (fun w => rfl) ?_
                  simp only [Act.put, List.setIfInBounds_toArray, List.set_cons_zero, List.set_cons_succ]
                  refine wpQuiet_skipw rfl ?_
                  simp only [Act.put, List.setIfInBounds_toArray, List.set_cons_zero, List.set_cons_succ]
                  refine wpQuiet_skipw rfl ?_
                  simp only [Act.put, List.setIfInBounds_toArray, List.set_cons_zero, List.set_cons_succ]
                  refine wpQuiet_skipw rfl ?_
                  simp only [Act.put, List.setIfInBounds_toArray, List.set_cons_zero, List.set_cons_succ]
                  refine wpQuiet_skipw rfl ?_
                  simp only [Act.put, List.setIfInBounds_toArray, List.set_cons_zero, List.set_cons_succ]
                  refine wpQuiet_pure (v := .bool true) rfl (fun w => rfl) ?_
                  simp only [Act.put, List.setIfInBounds_toArray, List.set_cons_zero, List.set_cons_succ]
                  refine wpQuiet_nil ?_
                  intro w4 hw4
                  have HJ4 := Lib.hid (HJ.out.below hw4)
                  have HK4 := Lib.hid (HKK.out.next HI0.out hw4)
                  have HX4 := Lib.hid (HXi.out.below hw4)
                  have cG4 := cell_of_row _ _ 0 _ _ _ HJ4.out.g
                  have fG4 := frozen_of_row _ _ 0 _ _ HJ4.out.g
                  have cR4 := cell_of_row _ _ 0 _ _ _ HJ4.out.res
                  have fR4 := frozen_of_row _ _ 0 _ _ HJ4.out.res
                  clear hw4
                  gi_wp2
                  refine ⟨(HK4.out.keeps HI.out.g _).trans ((KeepsOthers.setCell _ _ _).from _), ?_⟩
                  exact nz_wrong hji hin HZ.out HNE.out HXW.out
                · have HN1 : Hid (((x : Int) == (i : Int)) = false ∧ ((x : Int) != (i : Int)) = true) := by show _ ∧ _; simp; omega
                  clear hxi
                  refine wpIn_region_fence (open0_round l) (hnd_of (by kernel_rfl)) (by kernel_rfl) ?_
                  refine wpQuiet_pure (v := .int .i64 (x : Int)) rfl (fun w => rfl) ?_
                  simp only [Act.put, List.setIfInBounds_toArray, List.set_cons_zero, List.set_cons_succ]
                  refine wpQuiet_cell rfl 3 (.tmp 15) rfl G 0 (.int .i64 (i : Int)) rfl agg3 (fun w' hw' => cell_of_row _ _ 0 _ _ _ (HJ.out.below hw').g) ?_
                  simp only [Act.put, List.setIfInBounds_toArray, List.set_cons_zero, List.set_cons_succ]
                  refine wpQuiet_pure (v := .bool true) rfl (fun w => by have := HN1.out; go_simp) ?_
                  simp only [Act.put, List.setIfInBounds_toArray, List.set_cons_zero, List.set_cons_succ]
                  refine wpQuiet_pure (v := .bool true) rfl (fun w => rfl) ?_
                  simp only [Act.put, List.setIfInBounds_toArray, List.set_cons_zero, List.set_cons_succ]
                  refine wpQuiet_skipw rfl ?_
                  simp only [Act.put, List.setIfInBounds_toArray, List.set_cons_zero, List.set_cons_succ]
                  refine wpQuiet_skipw rfl ?_
                  simp only [Act.put, List.setIfInBounds_toArray, List.set_cons_zero, List.set_cons_succ]
                  refine wpQuiet_skipw rfl ?_
                  simp only [Act.put, List.setIfInBounds_toArray, List.set_cons_zero, List.set_cons_succ]
                  refine wpQuiet_pure (v := .bool true) rfl (fun w => rfl) ?_
                  simp only [Act.put, List.setIfInBounds_toArray, List.set_cons_zero, List.set_cons_succ]
                  refine wpQuiet_pure (v := .bool true) rfl (fun w => rfl) ?_
                  simp only [Act.put, List.setIfInBounds_toArray, List.set_cons_zero, List.set_cons_succ]
                  refine wpQuiet_skipw rfl ?_
                  simp only [Act.put, List.setIfInBounds_toArray, List.set_cons_zero, List.set_cons_succ]
                  refine wpQuiet_skipw rfl ?_
                  simp only [Act.put, List.setIfInBounds_toArray, List.set_cons_zero, List.set_cons_succ]
                  refine wpQuiet_skipw rfl ?_
                  simp only [Act.put, List.setIfInBounds_toArray, List.set_cons_zero, List.set_cons_succ]
                  refine wpQuiet_skipw rfl ?_
                  simp only [Act.put, List.setIfInBounds_toArray, List.set_cons_zero, List.set_cons_succ]
                  refine wpQuiet_pure (v := .bool true) rfl (fun w => rfl) ?_
                  simp only [Act.put, List.setIfInBounds_toArray, List.set_cons_zero, List.set_cons_succ]
                  refine wpQuiet_nil ?_
                  intro w4 hw4
                  have HJ4 := Lib.hid (HJ.out.below hw4)
                  have HK4 := Lib.hid (HKK.out.next HI0.out hw4)
                  have HX4 := Lib.hid (HXi.out.below hw4)
                  have cG4 := cell_of_row _ _ 0 _ _ _ HJ4.out.g
                  have fG4 := frozen_of_row _ _ 0 _ _ HJ4.out.g
                  have cR4 := cell_of_row _ _ 0 _ _ _ HJ4.out.res
                  have fR4 := frozen_of_row _ _ 0 _ _ HJ4.out.res
                  clear hw4
                  gi_wp2
                  refine ⟨(HK4.out.keeps HI.out.g _).trans ((KeepsOthers.setCell _ _ _).from _), ?_⟩
                  exact nz_wrong hji hin HZ.out HNE.out HXW.out

          case done =>
            rintro D xs W hD rfl ⟨j, hj, hnz, hI⟩ hK
            have HI := Lib.hid hI
            have HE : Hid (∀ k, j ≤ k → k < n → sub B k = zeroB 1) := fun k h1 h2 => nz_end hnz k h1 h2
            have HK := Lib.hid hK
            have hHD : Hid (w.heap.size + 1 < D ∧ D ≠ G) := ⟨by have := HB0.out; have := HI.out.n3; omega, by have := HB0.out; omega⟩
            clear hI hK hnz
            have ha0 := HA0.out
            subst ha0
            simp only [List.setIfInBounds_toArray, List.set_cons_zero, List.set_cons_succ]
            gi_wp2
            gi_loopw [] (fun wr => ∃ i : Nat, j ≤ i ∧ i ≤ n ∧ Iv w.heap.size w wr n G wb d cap B i ∧ wr.heap[D]? = some (.deferred (some []))) (fun wr => n - atG wr G)
            case atStart => exact ⟨j, Nat.le_refl _, hj, HI.out, HK.out⟩
            case round =>
              obtain ⟨i, hji, hin, hIi, hKi⟩ := hrel
              have HGw : Hid (atG wr G = i) := atG_of hIi.g
              have HJ := Lib.hid hIi
              have HKi := Lib.hid hKi
              have cG0 := cell_of_row _ _ 0 _ _ _ HJ.out.g
              have cN0 := cell_of_row _ _ 0 _ _ _ HJ.out.num
              clear hIi hKi HI HK
              by_cases hi : i < n
              · have hz := HE.out i hji hi
                have heq : ∀ w, (Op.equalIn 10000 52 (.agg (bytesV (zeroB 1)).toArray) (.agg (bytesV (zeroB 1)).toArray)).run Try.prog w = .ok true w := fun w => by simpa using eqB (zeroB 1) (zeroB 1) zlen zlen w
                gi_wp2_with (refine ⟨trivial, ?_⟩; gi_at_call 21; refine (callsIn_wide.2 (rgetc wb d n cap B i _ HJ.out.was hi)).mono ?_; rintro e w2 ⟨rfl, b2⟩; have HJ2 := Lib.hid (HJ.out.below b2); have HK2 : Hid (w2.heap[D]? = some (.deferred (some []))) := (b2.block _ (Array.getElem?_eq_some_iff.1 HKi.out).1).trans HKi.out; have cG := cell_of_row _ _ 0 _ _ _ HJ2.out.g; have fG := frozen_of_row _ _ 0 _ _ HJ2.out.g; have cN := cell_of_row _ _ 0 _ _ _ HJ2.out.num; clear b2 HJ HKi)
                clear heq
                go_roundw
                case rel => exact ⟨i + 1, by omega, by omega, HJ2.out.set (i + 1), (heap_setCell_other _ _ _ _ hHD.out.2).trans HK2.out⟩
                case measure =>
                  have hh := (HJ2.out.set (i + 1)).g
                  rw [show ((i : Int) + 1) = ((i + 1 : Nat) : Int) by omega, atG_of hh, HGw.out]
                  omega
              · have hin2 : i = n := by omega
                subst hin2
                gi_wp2_with (refine ⟨trivial, ?_⟩; gi_at_call 9; refine (callsIn_wide.2 (known _)).mono ?_; rintro e w6 ⟨rfl, b6⟩; have B6 := Lib.hid (HJ.out.below b6); have K6 : Hid (w6.heap[D]? = some (.deferred (some []))) := (b6.block _ (Array.getElem?_eq_some_iff.1 HKi.out).1).trans HKi.out; have cr6 := cell_of_row _ _ 0 _ _ _ B6.out.res; have fr6 := frozen_of_row _ _ 0 _ _ B6.out.res; clear b6 cG0 cN0)
                exact endD ⟨B6.out.num, B6.out.res, B6.out.b⟩ (by have := hHD.out.1; omega) K6.out rfl
end MachineWhole
end Go.Proofs.Ytkpcomldjnahhaa
