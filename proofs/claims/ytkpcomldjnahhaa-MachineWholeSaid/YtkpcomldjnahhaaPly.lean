/- The statement MachinePlays: memory as it is written, and what is refused. -/
import Derived.Test.YtkpcomldjnahhaaAct
import Derived.Deep.CondSized
namespace Go.Proofs.Ytkpcomldjnahhaa
open Go.ChangeShapes Go.WideShapes Go.ChangeAt Go.RowKit
set_option linter.unusedSimpArgs false
attribute [local go_sem] zeroV
theorem Both.drewN {N : Nat} {w : World} {mb ab rb cb n : Nat} {B : List Int} (h : Both N w mb ab rb cb n B) (q : Nat) : Both N (w.drewN q) mb ab rb cb n B :=
  ⟨⟨h.mem.mem, h.mem.all, h.mem.ne, h.mem.len, h.mem.pos, h.mem.max⟩, ⟨h.ref.ref, h.ref.all, h.ref.ne, h.ref.len, h.ref.pos, h.ref.max⟩, h.all, h.h1, h.h2, h.h3, h.h4, h.n1, h.n2, h.n3⟩
/-- A granule is read, at a guarded operation. -/
theorem wpList_ld_g {ops : Array Oper} {rest : List Oper} {op : Oper} {a : Act} {w : World} {Q : Exit → Act → World → Prop} (x : Operand) (ho : op.op = .load 52 x) (hw : Region.wanted op (yielded ops a.tmps) = true)
    (b o : Nat) (X : List Int) (hx : a.eval x = .pointer (some ⟨b, o, none⟩)) (hl : X.length = 128) (hr : w.rangeAt b o (bytesV X))
    (h : wpList Try.prog ops Q rest (a.put op.dst (.agg (bytesV X).toArray)) w) : wpList Try.prog ops Q (op :: rest) a w := by
  unfold wpList
  rw [if_pos hw]
  exact .inl (wp_load_mid 52 x ho b o hx (bytesV X) _ hr Try.underlying52 rfl (by rw [size52, bytesV_len, hl]) h)
theorem eqB (X Y : List Int) (hX : X.length = 128) (hY : Y.length = 128) (w : World) : (Op.equalIn 10000 52 (.agg (bytesV X).toArray) (.agg (bytesV Y).toArray)).run Try.prog w = .ok (decide (X = Y)) w := by
  obtain ⟨i, hi, _, _, _⟩ := info_parts inf5
  exact run_equalIn_ints w 9998 Try.underlying52 hi (by kernel_rfl) Try.underlying5 X Y hX hY
theorem eqB_self (X : List Int) (hX : X.length = 128) (w : World) : (Op.equalIn 10000 52 (.agg (bytesV X).toArray) (.agg (bytesV X).toArray)).run Try.prog w = .ok true w := by
  rw [eqB X X hX hX]; simp
theorem shape0 {w : World} {base n : Nat} {v : Value} {L : List Value} (h : w.ownsRow base 5 1 v n L) : ∃ x cap, v = .slice x n cap := by
  obtain ⟨_, ⟨rfl, rfl⟩ | ⟨b, cap, cur, rfl, _⟩⟩ := h
  · exact ⟨_, _, rfl⟩
  · exact ⟨_, _, rfl⟩
theorem str_part {w : World} {b : Nat} {B : List Int} (h : BytesAt w b 5 B) (a k c : Nat) (hl : a + k ≤ B.length) : (convert 31 9 (.slice (some ⟨b, a, none⟩) k c)).run Try.prog w = .ok (.string (strOfNums ((B.drop a).take k))) w := by
  refine run_convert_bytes_arg (P := Try.prog) w 31 5 Try.underlying31 Try.underlying5 b a k c _ (by simp; omega) (fun i hi => ?_) 9 Try.underlying9
  rw [byD_cell h (a + i) (by omega), byD]
  simp [List.getD_eq_getElem?_getD, List.getElem?_take, hi, List.getElem?_drop]
namespace MachinePlays
set_option maxRecDepth 100000 in
set_option maxHeartbeats 40000000 in
theorem walkin (n : Nat) (x : Option Addr) (len cap b off : Nat) (a : Nat) (k g : Int) (w : World) (h0 : 1 ≤ n) (h1 : n ≤ 64) (hl : len ≤ 60) (hloc : 0 < len → x = some ⟨b, off, none⟩ ∧ b < w.heap.size)
    (hacts : ∀ i, i < len → ∃ kd g a z y L c Z, ActAt w.heap.size w b (off + i * 5) kd g a z y L c Z) (a1 : a < 18446744073709551616) (k0 : -9223372036854775808 ≤ k) (k1 : k < 9223372036854775808) :
    Calls Try.prog 5 #[.int .i64 n, .slice x len cap, .int .u64 a, .int .i64 k, .int .i64 g] w fun e w' => e = .returned (.bool true) ∧ Below w.heap.size w w' := by
  have HA := Lib.hid hacts
  have HLOC := Lib.hid hloc
  have A1 := Lib.hid a1
  have K0 := Lib.hid k0
  have K1 := Lib.hid k1
  clear hacts hloc a1 k0 k1
  go_enter Try.func5, Try.ntmps5
  go_wp2_with fail
  refine (new_yes n _ h0 (by omega)).mono ?_
  rintro e w1 ⟨rfl, m1, b1⟩
  have z1 := m1.lt.1
  go_wp2_with fail
  refine (rnew n _ h0 (by omega)).mono ?_
  rintro e w2 ⟨rfl, r2, b2⟩
  have m2 := m1.below b2
  have HB2 := Lib.hid (b1.trans (b2.mono b1.size))
  obtain ⟨c, hc⟩ : ∃ c, w1.heap.size = c := ⟨_, rfl⟩
  rw [hc] at r2 ⊢
  have hT : Hid (Both w.heap.size w2 (w.heap.size + 1) w.heap.size (c + 1) c n (zeroB n)) := ⟨m2, r2, allz n, by omega, by omega, by omega, by omega, by omega, by omega, by omega⟩
  clear m1 b1 r2 b2 m2 z1 hc
  go_wp2_with (go_at_call 15; refine (gran _ _ _ _ _ hT.out.mem).mono ?_; rintro e w3 ⟨rfl, rfl⟩)
  go_loopw [14] (fun i wr => ∃ (j : Nat) (B : List Int), j ≤ len ∧ i = .int .i64 j ∧ Both w.heap.size wr (w.heap.size + 1) w.heap.size (c + 1) c n B ∧ Below w.heap.size w wr) (fun i _ => len - (intOf i).toNat)
  case atStart => exact ⟨0, _, Nat.zero_le _, rfl, hT.out, HB2.out⟩
  case round =>
    obtain ⟨j, B, hj, rfl, hB, hw⟩ := hrel
    clear hT HB2
    by_cases hjl : j < len
    · obtain ⟨kd, ag, aa, az, y, L, ac, Z, hA⟩ := HA.out j hjl
      have hbl := (HLOC.out (by omega)).2
      obtain rfl := (HLOC.out (by omega)).1
      have hA1 := hA.below hw hbl
      have c0 := hA1.c0
      have c1 := hA1.c1
      have c2 := hA1.c2
      have c3 := hA1.c3
      have c4 := hA1.c4
      simp only [Nat.add_zero] at c0
      have HA1 := Lib.hid hA1
      have HB := Lib.hid hB
      have HW := Lib.hid hw
      clear hA hA1 hB hw hbl
      by_cases hbig : 1000 < L
      · go_wp2_with (go_at_call 9; refine (known _).mono ?_; rintro e w6 ⟨rfl, b6⟩; have B6 := Lib.hid (HW.out.trans (b6.mono HW.out.size)); clear b6)
        all_goals first | (exfalso; omega) | skip
        all_goals go_ret
        all_goals exact ⟨rfl, B6.out⟩
      · go_wp2_with (go_at_call 16; refine (do_any _ _ _ _ _ _ _ _ _ _ _ _ _ _ _ _ HB.out HA1.out.ha.1 HA1.out.ha.2 HA1.out.hx HA1.out.hZ HA1.out.hL.1 HA1.out.hL.2 HA1.out.arg).mono ?_; rintro e w6 ⟨rfl, B', hB', hW'⟩; have HB' := Lib.hid hB'; have HW' := Lib.hid (HW.out.trans hW'); clear hB' hW')
        all_goals first | (exfalso; omega) | skip
        go_roundw
        case rel => exact ⟨j + 1, B', by omega, by go_num, HB'.out, HW'.out⟩
        case measure => simp [intOf]; omega
    · obtain rfl : j = len := by omega
      have HB := Lib.hid hB
      have HW := Lib.hid hw
      clear hB hw
      rcases (show ¬ a % 8 = 0 ∨ (a % 8 = 0 ∧ 128 * n < a + 8) ∨ (a % 8 = 0 ∧ a + 8 ≤ 128 * n) by omega) with qa | ⟨qa, qb⟩ | ⟨qa, qb⟩
      · go_wp2_with (first | (go_at_call 17; refine (get_al _ _ _ _ _ _ HB.out.mem (by omega) (by have := A1.out; omega) (by omega)).mono ?_; rintro e w3 ⟨rfl, rfl⟩))
        all_goals first | (exfalso; omega) | skip
        rcases (show k < 0 ∨ (0 < k ∧ 128 * n < a + k) ∨ k = 0 ∨ (0 < k ∧ a + k ≤ 128 * n) by omega) with hk | ⟨hk, hko⟩ | rfl | ⟨hk, hko⟩
        · go_wp2_with (first | (go_at_call 13; refine (read_neg _ _ _ _ _ _ _ HB.out.mem hk).mono ?_; rintro e w3 ⟨rfl, rfl⟩))
          all_goals first | (exfalso; omega) | skip
          by_cases hg0 : 0 ≤ g ∧ g < n
          · obtain ⟨g', rfl⟩ := Int.eq_ofNat_of_zero_le hg0.1
            have hg2 : g' < n := by omega
            go_wp2_with (first | (go_at_call 20; refine (gget_yes _ _ _ _ _ _ HB.out.mem hg2).mono ?_; rintro e w4 ⟨rfl, b4⟩; have HB4 := Lib.hid (HB.out.below b4); have HW4 := Lib.hid (HW.out.trans (b4.mono HW.out.size)); clear b4; have hsl := sub_len B g' n HB4.out.mem.len hg2; have hst := st_new w4 (zeroB 1) (sub B g') zlen hsl; have hln : (bytesV (sub B g')).length = 128 := (by rw [bytesV_len, hsl]); have heq := eqB_self (sub B g') hsl))
            all_goals first | (exfalso; omega) | skip
            have HB5 := Lib.hid (HB4.out.below ((Below.refl _ _).alloc (Nat.le_refl _) (.cells (bytesV (sub B g')).toArray 52))).ref.drew
            have HW5 := Lib.hid (HW4.out.alloc (o := .cells (bytesV (sub B g')).toArray 52) HW4.out.size).drew
            have S0 := Lib.hid (rng_row (show BytesAt (w4.alloc (.cells (bytesV (sub B g')).toArray 52)).drew w4.heap.size 52 (sub B g') from heap_here rfl))
            have HS : Hid (∀ w6, Below (w4.alloc (.cells (bytesV (sub B g')).toArray 52)).drew.heap.size (w4.alloc (.cells (bytesV (sub B g')).toArray 52)).drew w6 → w6.rangeAt w4.heap.size 0 (bytesV (sub B g'))) := fun w6 b6 => rng_row (BytesAt.below (show BytesAt (w4.alloc (.cells (bytesV (sub B g')).toArray 52)).drew w4.heap.size 52 (sub B g') from heap_here rfl) b6)
            have hsz := size52
            have hu := Try.underlying52
            go_region_held3 (fun w' => w'.rangeAt w4.heap.size 0 (bytesV (sub B g'))) ((first | exact S0.out | exact HS.out _ b6 | exact HS.out _ b7')) ((first | (go_at_call 21; refine (rget _ _ _ _ _ _ HB5.out hg2).mono ?_; rintro e w6 ⟨rfl, b6⟩) | (go_at_call 9; refine (known _).mono ?_; rintro e w7 ⟨rfl, b7⟩; have b7' := b6.trans (b7.mono b6.size))))
            go_wp2_with fail
            go_ret
            exact ⟨rfl, HW5.out.trans (b7'.mono HW5.out.size)⟩
          · have hg : g < 0 ∨ n ≤ g := by omega
            rcases (show g < 0 ∨ (0 ≤ g ∧ n ≤ g) by omega) with qg | ⟨qg1, qg2⟩
            all_goals go_wp2_with (first | (go_at_call 20; refine (gget_no _ _ _ _ _ _ HB.out.mem hg).mono ?_; rintro e w4 ⟨rfl, b4⟩; have HW4 := Lib.hid (HW.out.trans (b4.mono HW.out.size)); clear b4; have hst := st_new w4 (zeroB 1) (zeroB 1) zlen zlen; have hln : (bytesV (zeroB 1)).length = 128 := (by rw [bytesV_len, zlen]); have heq := eqB_self (zeroB 1) zlen; have HW5 := Lib.hid (HW4.out.alloc (o := .cells (bytesV (zeroB 1)).toArray 52) HW4.out.size); have HR := Lib.hid (rng_row (show BytesAt (w4.alloc (.cells (bytesV (zeroB 1)).toArray 52)) w4.heap.size 52 (zeroB 1) from heap_here rfl))) | (refine wpList_ld_g (.tmp 17) rfl (by rfl) w4.heap.size 0 (zeroB 1) rfl zlen HR.out ?_) | (go_at_call 9; refine (known _).mono ?_; rintro e w7 ⟨rfl, b7⟩; have B7 := Lib.hid (HW5.out.trans (b7.mono HW5.out.size)); clear b7))
            all_goals first | (exfalso; omega) | skip
            all_goals go_ret
            all_goals exact ⟨rfl, B7.out⟩
        · have k1 := K1.out
          go_wp2_with (first | (go_at_call 13; refine (read_out _ _ _ _ _ _ _ HB.out.mem (by omega) (by have := A1.out; omega) hk k1 (by omega)).mono ?_; rintro e w3 ⟨rfl, rfl⟩) | (go_at_call 18; refine (rwithin_no _ _ _ _ _ _ _ HB.out.ref (by omega) (by have := A1.out; omega) (by omega) k1 (by omega)).mono ?_; rintro e w3 ⟨rfl, rfl⟩))
          all_goals first | (exfalso; omega) | skip
          by_cases hg0 : 0 ≤ g ∧ g < n
          · obtain ⟨g', rfl⟩ := Int.eq_ofNat_of_zero_le hg0.1
            have hg2 : g' < n := by omega
            go_wp2_with (first | (go_at_call 20; refine (gget_yes _ _ _ _ _ _ HB.out.mem hg2).mono ?_; rintro e w4 ⟨rfl, b4⟩; have HB4 := Lib.hid (HB.out.below b4); have HW4 := Lib.hid (HW.out.trans (b4.mono HW.out.size)); clear b4; have hsl := sub_len B g' n HB4.out.mem.len hg2; have hst := st_new w4 (zeroB 1) (sub B g') zlen hsl; have hln : (bytesV (sub B g')).length = 128 := (by rw [bytesV_len, hsl]); have heq := eqB_self (sub B g') hsl))
            all_goals first | (exfalso; omega) | skip
            have HB5 := Lib.hid (HB4.out.below ((Below.refl _ _).alloc (Nat.le_refl _) (.cells (bytesV (sub B g')).toArray 52))).ref.drew
            have HW5 := Lib.hid (HW4.out.alloc (o := .cells (bytesV (sub B g')).toArray 52) HW4.out.size).drew
            have S0 := Lib.hid (rng_row (show BytesAt (w4.alloc (.cells (bytesV (sub B g')).toArray 52)).drew w4.heap.size 52 (sub B g') from heap_here rfl))
            have HS : Hid (∀ w6, Below (w4.alloc (.cells (bytesV (sub B g')).toArray 52)).drew.heap.size (w4.alloc (.cells (bytesV (sub B g')).toArray 52)).drew w6 → w6.rangeAt w4.heap.size 0 (bytesV (sub B g'))) := fun w6 b6 => rng_row (BytesAt.below (show BytesAt (w4.alloc (.cells (bytesV (sub B g')).toArray 52)).drew w4.heap.size 52 (sub B g') from heap_here rfl) b6)
            have hsz := size52
            have hu := Try.underlying52
            go_region_held3 (fun w' => w'.rangeAt w4.heap.size 0 (bytesV (sub B g'))) ((first | exact S0.out | exact HS.out _ b6 | exact HS.out _ b7')) ((first | (go_at_call 21; refine (rget _ _ _ _ _ _ HB5.out hg2).mono ?_; rintro e w6 ⟨rfl, b6⟩) | (go_at_call 9; refine (known _).mono ?_; rintro e w7 ⟨rfl, b7⟩; have b7' := b6.trans (b7.mono b6.size))))
            go_wp2_with fail
            go_ret
            exact ⟨rfl, HW5.out.trans (b7'.mono HW5.out.size)⟩
          · have hg : g < 0 ∨ n ≤ g := by omega
            rcases (show g < 0 ∨ (0 ≤ g ∧ n ≤ g) by omega) with qg | ⟨qg1, qg2⟩
            all_goals go_wp2_with (first | (go_at_call 20; refine (gget_no _ _ _ _ _ _ HB.out.mem hg).mono ?_; rintro e w4 ⟨rfl, b4⟩; have HW4 := Lib.hid (HW.out.trans (b4.mono HW.out.size)); clear b4; have hst := st_new w4 (zeroB 1) (zeroB 1) zlen zlen; have hln : (bytesV (zeroB 1)).length = 128 := (by rw [bytesV_len, zlen]); have heq := eqB_self (zeroB 1) zlen; have HW5 := Lib.hid (HW4.out.alloc (o := .cells (bytesV (zeroB 1)).toArray 52) HW4.out.size); have HR := Lib.hid (rng_row (show BytesAt (w4.alloc (.cells (bytesV (zeroB 1)).toArray 52)) w4.heap.size 52 (zeroB 1) from heap_here rfl))) | (refine wpList_ld_g (.tmp 17) rfl (by rfl) w4.heap.size 0 (zeroB 1) rfl zlen HR.out ?_) | (go_at_call 9; refine (known _).mono ?_; rintro e w7 ⟨rfl, b7⟩; have B7 := Lib.hid (HW5.out.trans (b7.mono HW5.out.size)); clear b7))
            all_goals first | (exfalso; omega) | skip
            all_goals go_ret
            all_goals exact ⟨rfl, B7.out⟩
        · go_wp2_with (first | (go_at_call 13; refine (read_in _ _ _ _ _ 0 _ HB.out.mem A1.out (by omega)).mono ?_; rintro e w3 ⟨v, rfl, o3, b3⟩; obtain ⟨vx, vc, rfl⟩ := shape0 o3; have B3 := Lib.hid (HB.out.below b3); have W3 := Lib.hid (HW.out.trans (b3.mono HW.out.size)); clear o3 b3 HB HW; have HB := B3; have HW := W3; clear B3 W3) | (go_at_call 18; refine (rwithin_yes _ _ _ _ _ _ _ HB.out.ref (by omega) (by have := A1.out; omega) (by omega) (by omega) (by omega)).mono ?_; rintro e w3 ⟨rfl, rfl⟩))
          all_goals first | (exfalso; omega) | skip
          go_quiet (fail)
          have HBd := Lib.hid (fun q => HB.out.drewN q)
          have HWd := Lib.hid (fun q => below_drewN HW.out q)
          clear HB HW
          have HB := HBd
          have HW := HWd
          clear HBd HWd
          by_cases hg0 : 0 ≤ g ∧ g < n
          · obtain ⟨g', rfl⟩ := Int.eq_ofNat_of_zero_le hg0.1
            have hg2 : g' < n := by omega
            go_wp2_with (first | (go_at_call 20; refine (gget_yes _ _ _ _ _ _ (HB.out _).mem hg2).mono ?_; rintro e w4 ⟨rfl, b4⟩; have HB4 := Lib.hid ((HB.out _).below b4); have HW4 := Lib.hid ((HW.out _).trans (b4.mono (HW.out _).size)); clear b4; have hsl := sub_len B g' n HB4.out.mem.len hg2; have hst := st_new w4 (zeroB 1) (sub B g') zlen hsl; have hln : (bytesV (sub B g')).length = 128 := (by rw [bytesV_len, hsl]); have heq := eqB_self (sub B g') hsl))
            all_goals first | (exfalso; omega) | skip
            have HB5 := Lib.hid (HB4.out.below ((Below.refl _ _).alloc (Nat.le_refl _) (.cells (bytesV (sub B g')).toArray 52))).ref.drew
            have HW5 := Lib.hid (HW4.out.alloc (o := .cells (bytesV (sub B g')).toArray 52) HW4.out.size).drew
            have S0 := Lib.hid (rng_row (show BytesAt (w4.alloc (.cells (bytesV (sub B g')).toArray 52)).drew w4.heap.size 52 (sub B g') from heap_here rfl))
            have HS : Hid (∀ w6, Below (w4.alloc (.cells (bytesV (sub B g')).toArray 52)).drew.heap.size (w4.alloc (.cells (bytesV (sub B g')).toArray 52)).drew w6 → w6.rangeAt w4.heap.size 0 (bytesV (sub B g'))) := fun w6 b6 => rng_row (BytesAt.below (show BytesAt (w4.alloc (.cells (bytesV (sub B g')).toArray 52)).drew w4.heap.size 52 (sub B g') from heap_here rfl) b6)
            have hsz := size52
            have hu := Try.underlying52
            go_region_held3 (fun w' => w'.rangeAt w4.heap.size 0 (bytesV (sub B g'))) ((first | exact S0.out | exact HS.out _ b6 | exact HS.out _ b7')) ((first | (go_at_call 21; refine (rget _ _ _ _ _ _ HB5.out hg2).mono ?_; rintro e w6 ⟨rfl, b6⟩) | (go_at_call 9; refine (known _).mono ?_; rintro e w7 ⟨rfl, b7⟩; have b7' := b6.trans (b7.mono b6.size))))
            go_wp2_with fail
            go_ret
            exact ⟨rfl, HW5.out.trans (b7'.mono HW5.out.size)⟩
          · have hg : g < 0 ∨ n ≤ g := by omega
            rcases (show g < 0 ∨ (0 ≤ g ∧ n ≤ g) by omega) with qg | ⟨qg1, qg2⟩
            all_goals go_wp2_with (first | (go_at_call 20; refine (gget_no _ _ _ _ _ _ (HB.out _).mem hg).mono ?_; rintro e w4 ⟨rfl, b4⟩; have HW4 := Lib.hid ((HW.out _).trans (b4.mono (HW.out _).size)); clear b4; have hst := st_new w4 (zeroB 1) (zeroB 1) zlen zlen; have hln : (bytesV (zeroB 1)).length = 128 := (by rw [bytesV_len, zlen]); have heq := eqB_self (zeroB 1) zlen; have HW5 := Lib.hid (HW4.out.alloc (o := .cells (bytesV (zeroB 1)).toArray 52) HW4.out.size); have HR := Lib.hid (rng_row (show BytesAt (w4.alloc (.cells (bytesV (zeroB 1)).toArray 52)) w4.heap.size 52 (zeroB 1) from heap_here rfl))) | (refine wpList_ld_g (.tmp 17) rfl (by rfl) w4.heap.size 0 (zeroB 1) rfl zlen HR.out ?_) | (go_at_call 9; refine (known _).mono ?_; rintro e w7 ⟨rfl, b7⟩; have B7 := Lib.hid (HW5.out.trans (b7.mono HW5.out.size)); clear b7))
            all_goals first | (exfalso; omega) | skip
            all_goals go_ret
            all_goals exact ⟨rfl, B7.out⟩
        · obtain ⟨k', rfl⟩ := Int.eq_ofNat_of_zero_le (show 0 ≤ k by omega)
          have hk1 : 0 < k' := by omega
          have hk2 : a + k' ≤ 128 * n := by omega
          clear hk hko
          go_wp2_with fail
          refine (read_in _ _ _ _ _ _ _ HB.out.mem A1.out (by omega)).mono ?_
          rintro e w3 ⟨v, rfl, o3, b3⟩
          have HS3D := Lib.hid (fun q => run_str (w := w3.drewN q) o3)
          have HS3 := Lib.hid (run_str o3)
          obtain ⟨vb, vc, rfl, _⟩ := owns_cells o3 (by omega)
          have B3 := Lib.hid (HB.out.below b3)
          have W3 := Lib.hid (HW.out.trans (b3.mono HW.out.size))
          have hlen3 := B3.out.ref.len
          have HS4 := Lib.hid (fun q => str_part (w := w3.drewN q) B3.out.ref.all a k' (128 * n - a) (by omega))
          have HK1 := Lib.hid hk1
          have HK2 := Lib.hid hk2
          clear o3 b3 HB HW hlen3 hk1 hk2 K0 K1
          have HB := B3
          have HW := W3
          clear B3 W3
          go_wp2_with (go_at_call 18; refine (rwithin_yes _ _ _ _ _ _ _ HB.out.ref (by omega) (by have := A1.out; omega) (by omega) (by have := HK2.out; omega) (by have := HK1.out; have := HK2.out; omega)).mono ?_; rintro e w4 ⟨rfl, rfl⟩)
          have f3 := cell_of_row _ (c + 1) 0 _ _ _ HB.out.ref.ref
          have hs3 := HS3D.out
          have hs4 := HS4.out
          have hk1 := HK1.out
          have hk2 := HK2.out
          have hk3 : (a : Int) ≤ a + k' := by omega
          have hk4 : (a : Int) + k' ≤ 128 * n := by omega
          have hk5 : IntKind.i64.wrap ((a : Int) + (k' : Int)) = (a : Int) + k' := IntWalk.i64_in _ (by omega)
          have hk6 : ¬ 128 * n = a := by omega
          have hk7 : IntKind.i64.wrap (a : Int) = (a : Int) := IntWalk.i64_in _ (by omega)
          clear h0 hl hk2
          go_quiet (fail)
          have HBd := Lib.hid (fun q => HB.out.drewN q)
          have HWd := Lib.hid (fun q => below_drewN HW.out q)
          clear HB HW
          have HB := HBd
          have HW := HWd
          clear HBd HWd
          by_cases hg0 : 0 ≤ g ∧ g < n
          · obtain ⟨g', rfl⟩ := Int.eq_ofNat_of_zero_le hg0.1
            have hg2 : g' < n := by omega
            go_wp2_with (first | (go_at_call 20; refine (gget_yes _ _ _ _ _ _ (HB.out _).mem hg2).mono ?_; rintro e w4 ⟨rfl, b4⟩; have HB4 := Lib.hid ((HB.out _).below b4); have HW4 := Lib.hid ((HW.out _).trans (b4.mono (HW.out _).size)); clear b4; have hsl := sub_len B g' n HB4.out.mem.len hg2; have hst := st_new w4 (zeroB 1) (sub B g') zlen hsl; have hln : (bytesV (sub B g')).length = 128 := (by rw [bytesV_len, hsl]); have heq := eqB_self (sub B g') hsl))
            all_goals first | (exfalso; omega) | skip
            have HB5 := Lib.hid (HB4.out.below ((Below.refl _ _).alloc (Nat.le_refl _) (.cells (bytesV (sub B g')).toArray 52))).ref.drew
            have HW5 := Lib.hid (HW4.out.alloc (o := .cells (bytesV (sub B g')).toArray 52) HW4.out.size).drew
            have S0 := Lib.hid (rng_row (show BytesAt (w4.alloc (.cells (bytesV (sub B g')).toArray 52)).drew w4.heap.size 52 (sub B g') from heap_here rfl))
            have HS : Hid (∀ w6, Below (w4.alloc (.cells (bytesV (sub B g')).toArray 52)).drew.heap.size (w4.alloc (.cells (bytesV (sub B g')).toArray 52)).drew w6 → w6.rangeAt w4.heap.size 0 (bytesV (sub B g'))) := fun w6 b6 => rng_row (BytesAt.below (show BytesAt (w4.alloc (.cells (bytesV (sub B g')).toArray 52)).drew w4.heap.size 52 (sub B g') from heap_here rfl) b6)
            have hsz := size52
            have hu := Try.underlying52
            go_region_held3 (fun w' => w'.rangeAt w4.heap.size 0 (bytesV (sub B g'))) ((first | exact S0.out | exact HS.out _ b6 | exact HS.out _ b7')) ((first | (go_at_call 21; refine (rget _ _ _ _ _ _ HB5.out hg2).mono ?_; rintro e w6 ⟨rfl, b6⟩) | (go_at_call 9; refine (known _).mono ?_; rintro e w7 ⟨rfl, b7⟩; have b7' := b6.trans (b7.mono b6.size))))
            go_wp2_with fail
            go_ret
            exact ⟨rfl, HW5.out.trans (b7'.mono HW5.out.size)⟩
          · have hg : g < 0 ∨ n ≤ g := by omega
            rcases (show g < 0 ∨ (0 ≤ g ∧ n ≤ g) by omega) with qg | ⟨qg1, qg2⟩
            all_goals go_wp2_with (first | (go_at_call 20; refine (gget_no _ _ _ _ _ _ (HB.out _).mem hg).mono ?_; rintro e w4 ⟨rfl, b4⟩; have HW4 := Lib.hid ((HW.out _).trans (b4.mono (HW.out _).size)); clear b4; have hst := st_new w4 (zeroB 1) (zeroB 1) zlen zlen; have hln : (bytesV (zeroB 1)).length = 128 := (by rw [bytesV_len, zlen]); have heq := eqB_self (zeroB 1) zlen; have HW5 := Lib.hid (HW4.out.alloc (o := .cells (bytesV (zeroB 1)).toArray 52) HW4.out.size); have HR := Lib.hid (rng_row (show BytesAt (w4.alloc (.cells (bytesV (zeroB 1)).toArray 52)) w4.heap.size 52 (zeroB 1) from heap_here rfl))) | (refine wpList_ld_g (.tmp 17) rfl (by rfl) w4.heap.size 0 (zeroB 1) rfl zlen HR.out ?_) | (go_at_call 9; refine (known _).mono ?_; rintro e w7 ⟨rfl, b7⟩; have B7 := Lib.hid (HW5.out.trans (b7.mono HW5.out.size)); clear b7))
            all_goals first | (exfalso; omega) | skip
            all_goals go_ret
            all_goals exact ⟨rfl, B7.out⟩
      · go_wp2_with (first | (go_at_call 17; refine (get_out _ _ _ _ _ _ HB.out.mem (by omega) (by have := A1.out; omega) (by omega) (by omega)).mono ?_; rintro e w3 ⟨rfl, rfl⟩) | (go_at_call 18; refine (rwithin_no _ _ _ _ _ _ _ HB.out.ref (by omega) (by have := A1.out; omega) (by omega) (by omega) (by omega)).mono ?_; rintro e w3 ⟨rfl, rfl⟩))
        all_goals first | (exfalso; omega) | skip
        rcases (show k < 0 ∨ (0 < k ∧ 128 * n < a + k) ∨ k = 0 ∨ (0 < k ∧ a + k ≤ 128 * n) by omega) with hk | ⟨hk, hko⟩ | rfl | ⟨hk, hko⟩
        · go_wp2_with (first | (go_at_call 13; refine (read_neg _ _ _ _ _ _ _ HB.out.mem hk).mono ?_; rintro e w3 ⟨rfl, rfl⟩))
          all_goals first | (exfalso; omega) | skip
          by_cases hg0 : 0 ≤ g ∧ g < n
          · obtain ⟨g', rfl⟩ := Int.eq_ofNat_of_zero_le hg0.1
            have hg2 : g' < n := by omega
            go_wp2_with (first | (go_at_call 20; refine (gget_yes _ _ _ _ _ _ HB.out.mem hg2).mono ?_; rintro e w4 ⟨rfl, b4⟩; have HB4 := Lib.hid (HB.out.below b4); have HW4 := Lib.hid (HW.out.trans (b4.mono HW.out.size)); clear b4; have hsl := sub_len B g' n HB4.out.mem.len hg2; have hst := st_new w4 (zeroB 1) (sub B g') zlen hsl; have hln : (bytesV (sub B g')).length = 128 := (by rw [bytesV_len, hsl]); have heq := eqB_self (sub B g') hsl))
            all_goals first | (exfalso; omega) | skip
            have HB5 := Lib.hid (HB4.out.below ((Below.refl _ _).alloc (Nat.le_refl _) (.cells (bytesV (sub B g')).toArray 52))).ref.drew
            have HW5 := Lib.hid (HW4.out.alloc (o := .cells (bytesV (sub B g')).toArray 52) HW4.out.size).drew
            have S0 := Lib.hid (rng_row (show BytesAt (w4.alloc (.cells (bytesV (sub B g')).toArray 52)).drew w4.heap.size 52 (sub B g') from heap_here rfl))
            have HS : Hid (∀ w6, Below (w4.alloc (.cells (bytesV (sub B g')).toArray 52)).drew.heap.size (w4.alloc (.cells (bytesV (sub B g')).toArray 52)).drew w6 → w6.rangeAt w4.heap.size 0 (bytesV (sub B g'))) := fun w6 b6 => rng_row (BytesAt.below (show BytesAt (w4.alloc (.cells (bytesV (sub B g')).toArray 52)).drew w4.heap.size 52 (sub B g') from heap_here rfl) b6)
            have hsz := size52
            have hu := Try.underlying52
            go_region_held3 (fun w' => w'.rangeAt w4.heap.size 0 (bytesV (sub B g'))) ((first | exact S0.out | exact HS.out _ b6 | exact HS.out _ b7')) ((first | (go_at_call 21; refine (rget _ _ _ _ _ _ HB5.out hg2).mono ?_; rintro e w6 ⟨rfl, b6⟩) | (go_at_call 9; refine (known _).mono ?_; rintro e w7 ⟨rfl, b7⟩; have b7' := b6.trans (b7.mono b6.size))))
            go_wp2_with fail
            go_ret
            exact ⟨rfl, HW5.out.trans (b7'.mono HW5.out.size)⟩
          · have hg : g < 0 ∨ n ≤ g := by omega
            rcases (show g < 0 ∨ (0 ≤ g ∧ n ≤ g) by omega) with qg | ⟨qg1, qg2⟩
            all_goals go_wp2_with (first | (go_at_call 20; refine (gget_no _ _ _ _ _ _ HB.out.mem hg).mono ?_; rintro e w4 ⟨rfl, b4⟩; have HW4 := Lib.hid (HW.out.trans (b4.mono HW.out.size)); clear b4; have hst := st_new w4 (zeroB 1) (zeroB 1) zlen zlen; have hln : (bytesV (zeroB 1)).length = 128 := (by rw [bytesV_len, zlen]); have heq := eqB_self (zeroB 1) zlen; have HW5 := Lib.hid (HW4.out.alloc (o := .cells (bytesV (zeroB 1)).toArray 52) HW4.out.size); have HR := Lib.hid (rng_row (show BytesAt (w4.alloc (.cells (bytesV (zeroB 1)).toArray 52)) w4.heap.size 52 (zeroB 1) from heap_here rfl))) | (refine wpList_ld_g (.tmp 17) rfl (by rfl) w4.heap.size 0 (zeroB 1) rfl zlen HR.out ?_) | (go_at_call 9; refine (known _).mono ?_; rintro e w7 ⟨rfl, b7⟩; have B7 := Lib.hid (HW5.out.trans (b7.mono HW5.out.size)); clear b7))
            all_goals first | (exfalso; omega) | skip
            all_goals go_ret
            all_goals exact ⟨rfl, B7.out⟩
        · have k1 := K1.out
          go_wp2_with (first | (go_at_call 13; refine (read_out _ _ _ _ _ _ _ HB.out.mem (by omega) (by have := A1.out; omega) hk k1 (by omega)).mono ?_; rintro e w3 ⟨rfl, rfl⟩) | (go_at_call 18; refine (rwithin_no _ _ _ _ _ _ _ HB.out.ref (by omega) (by have := A1.out; omega) (by omega) k1 (by omega)).mono ?_; rintro e w3 ⟨rfl, rfl⟩))
          all_goals first | (exfalso; omega) | skip
          by_cases hg0 : 0 ≤ g ∧ g < n
          · obtain ⟨g', rfl⟩ := Int.eq_ofNat_of_zero_le hg0.1
            have hg2 : g' < n := by omega
            go_wp2_with (first | (go_at_call 20; refine (gget_yes _ _ _ _ _ _ HB.out.mem hg2).mono ?_; rintro e w4 ⟨rfl, b4⟩; have HB4 := Lib.hid (HB.out.below b4); have HW4 := Lib.hid (HW.out.trans (b4.mono HW.out.size)); clear b4; have hsl := sub_len B g' n HB4.out.mem.len hg2; have hst := st_new w4 (zeroB 1) (sub B g') zlen hsl; have hln : (bytesV (sub B g')).length = 128 := (by rw [bytesV_len, hsl]); have heq := eqB_self (sub B g') hsl))
            all_goals first | (exfalso; omega) | skip
            have HB5 := Lib.hid (HB4.out.below ((Below.refl _ _).alloc (Nat.le_refl _) (.cells (bytesV (sub B g')).toArray 52))).ref.drew
            have HW5 := Lib.hid (HW4.out.alloc (o := .cells (bytesV (sub B g')).toArray 52) HW4.out.size).drew
            have S0 := Lib.hid (rng_row (show BytesAt (w4.alloc (.cells (bytesV (sub B g')).toArray 52)).drew w4.heap.size 52 (sub B g') from heap_here rfl))
            have HS : Hid (∀ w6, Below (w4.alloc (.cells (bytesV (sub B g')).toArray 52)).drew.heap.size (w4.alloc (.cells (bytesV (sub B g')).toArray 52)).drew w6 → w6.rangeAt w4.heap.size 0 (bytesV (sub B g'))) := fun w6 b6 => rng_row (BytesAt.below (show BytesAt (w4.alloc (.cells (bytesV (sub B g')).toArray 52)).drew w4.heap.size 52 (sub B g') from heap_here rfl) b6)
            have hsz := size52
            have hu := Try.underlying52
            go_region_held3 (fun w' => w'.rangeAt w4.heap.size 0 (bytesV (sub B g'))) ((first | exact S0.out | exact HS.out _ b6 | exact HS.out _ b7')) ((first | (go_at_call 21; refine (rget _ _ _ _ _ _ HB5.out hg2).mono ?_; rintro e w6 ⟨rfl, b6⟩) | (go_at_call 9; refine (known _).mono ?_; rintro e w7 ⟨rfl, b7⟩; have b7' := b6.trans (b7.mono b6.size))))
            go_wp2_with fail
            go_ret
            exact ⟨rfl, HW5.out.trans (b7'.mono HW5.out.size)⟩
          · have hg : g < 0 ∨ n ≤ g := by omega
            rcases (show g < 0 ∨ (0 ≤ g ∧ n ≤ g) by omega) with qg | ⟨qg1, qg2⟩
            all_goals go_wp2_with (first | (go_at_call 20; refine (gget_no _ _ _ _ _ _ HB.out.mem hg).mono ?_; rintro e w4 ⟨rfl, b4⟩; have HW4 := Lib.hid (HW.out.trans (b4.mono HW.out.size)); clear b4; have hst := st_new w4 (zeroB 1) (zeroB 1) zlen zlen; have hln : (bytesV (zeroB 1)).length = 128 := (by rw [bytesV_len, zlen]); have heq := eqB_self (zeroB 1) zlen; have HW5 := Lib.hid (HW4.out.alloc (o := .cells (bytesV (zeroB 1)).toArray 52) HW4.out.size); have HR := Lib.hid (rng_row (show BytesAt (w4.alloc (.cells (bytesV (zeroB 1)).toArray 52)) w4.heap.size 52 (zeroB 1) from heap_here rfl))) | (refine wpList_ld_g (.tmp 17) rfl (by rfl) w4.heap.size 0 (zeroB 1) rfl zlen HR.out ?_) | (go_at_call 9; refine (known _).mono ?_; rintro e w7 ⟨rfl, b7⟩; have B7 := Lib.hid (HW5.out.trans (b7.mono HW5.out.size)); clear b7))
            all_goals first | (exfalso; omega) | skip
            all_goals go_ret
            all_goals exact ⟨rfl, B7.out⟩
        · go_wp2_with (first | (go_at_call 13; refine (read_in _ _ _ _ _ 0 _ HB.out.mem A1.out (by omega)).mono ?_; rintro e w3 ⟨v, rfl, o3, b3⟩; obtain ⟨vx, vc, rfl⟩ := shape0 o3; have B3 := Lib.hid (HB.out.below b3); have W3 := Lib.hid (HW.out.trans (b3.mono HW.out.size)); clear o3 b3 HB HW; have HB := B3; have HW := W3; clear B3 W3) | (go_at_call 18; refine (rwithin_yes _ _ _ _ _ _ _ HB.out.ref (by omega) (by have := A1.out; omega) (by omega) (by omega) (by omega)).mono ?_; rintro e w3 ⟨rfl, rfl⟩))
          all_goals first | (exfalso; omega) | skip
          go_quiet (fail)
          have HBd := Lib.hid (fun q => HB.out.drewN q)
          have HWd := Lib.hid (fun q => below_drewN HW.out q)
          clear HB HW
          have HB := HBd
          have HW := HWd
          clear HBd HWd
          by_cases hg0 : 0 ≤ g ∧ g < n
          · obtain ⟨g', rfl⟩ := Int.eq_ofNat_of_zero_le hg0.1
            have hg2 : g' < n := by omega
            go_wp2_with (first | (go_at_call 20; refine (gget_yes _ _ _ _ _ _ (HB.out _).mem hg2).mono ?_; rintro e w4 ⟨rfl, b4⟩; have HB4 := Lib.hid ((HB.out _).below b4); have HW4 := Lib.hid ((HW.out _).trans (b4.mono (HW.out _).size)); clear b4; have hsl := sub_len B g' n HB4.out.mem.len hg2; have hst := st_new w4 (zeroB 1) (sub B g') zlen hsl; have hln : (bytesV (sub B g')).length = 128 := (by rw [bytesV_len, hsl]); have heq := eqB_self (sub B g') hsl))
            all_goals first | (exfalso; omega) | skip
            have HB5 := Lib.hid (HB4.out.below ((Below.refl _ _).alloc (Nat.le_refl _) (.cells (bytesV (sub B g')).toArray 52))).ref.drew
            have HW5 := Lib.hid (HW4.out.alloc (o := .cells (bytesV (sub B g')).toArray 52) HW4.out.size).drew
            have S0 := Lib.hid (rng_row (show BytesAt (w4.alloc (.cells (bytesV (sub B g')).toArray 52)).drew w4.heap.size 52 (sub B g') from heap_here rfl))
            have HS : Hid (∀ w6, Below (w4.alloc (.cells (bytesV (sub B g')).toArray 52)).drew.heap.size (w4.alloc (.cells (bytesV (sub B g')).toArray 52)).drew w6 → w6.rangeAt w4.heap.size 0 (bytesV (sub B g'))) := fun w6 b6 => rng_row (BytesAt.below (show BytesAt (w4.alloc (.cells (bytesV (sub B g')).toArray 52)).drew w4.heap.size 52 (sub B g') from heap_here rfl) b6)
            have hsz := size52
            have hu := Try.underlying52
            go_region_held3 (fun w' => w'.rangeAt w4.heap.size 0 (bytesV (sub B g'))) ((first | exact S0.out | exact HS.out _ b6 | exact HS.out _ b7')) ((first | (go_at_call 21; refine (rget _ _ _ _ _ _ HB5.out hg2).mono ?_; rintro e w6 ⟨rfl, b6⟩) | (go_at_call 9; refine (known _).mono ?_; rintro e w7 ⟨rfl, b7⟩; have b7' := b6.trans (b7.mono b6.size))))
            go_wp2_with fail
            go_ret
            exact ⟨rfl, HW5.out.trans (b7'.mono HW5.out.size)⟩
          · have hg : g < 0 ∨ n ≤ g := by omega
            rcases (show g < 0 ∨ (0 ≤ g ∧ n ≤ g) by omega) with qg | ⟨qg1, qg2⟩
            all_goals go_wp2_with (first | (go_at_call 20; refine (gget_no _ _ _ _ _ _ (HB.out _).mem hg).mono ?_; rintro e w4 ⟨rfl, b4⟩; have HW4 := Lib.hid ((HW.out _).trans (b4.mono (HW.out _).size)); clear b4; have hst := st_new w4 (zeroB 1) (zeroB 1) zlen zlen; have hln : (bytesV (zeroB 1)).length = 128 := (by rw [bytesV_len, zlen]); have heq := eqB_self (zeroB 1) zlen; have HW5 := Lib.hid (HW4.out.alloc (o := .cells (bytesV (zeroB 1)).toArray 52) HW4.out.size); have HR := Lib.hid (rng_row (show BytesAt (w4.alloc (.cells (bytesV (zeroB 1)).toArray 52)) w4.heap.size 52 (zeroB 1) from heap_here rfl))) | (refine wpList_ld_g (.tmp 17) rfl (by rfl) w4.heap.size 0 (zeroB 1) rfl zlen HR.out ?_) | (go_at_call 9; refine (known _).mono ?_; rintro e w7 ⟨rfl, b7⟩; have B7 := Lib.hid (HW5.out.trans (b7.mono HW5.out.size)); clear b7))
            all_goals first | (exfalso; omega) | skip
            all_goals go_ret
            all_goals exact ⟨rfl, B7.out⟩
        · exfalso; omega
      · go_wp2_with (first | (go_at_call 17; refine (get_in _ _ _ _ _ _ HB.out.mem HB.out.all (by omega) (by omega)).mono ?_; rintro e w3 ⟨rfl, rfl⟩) | (go_at_call 18; refine (rwithin_yes _ _ _ _ _ _ _ HB.out.ref (by omega) (by have := A1.out; omega) (by omega) (by omega) (by omega)).mono ?_; rintro e w3 ⟨rfl, rfl⟩) | (go_at_call 19; refine (rword _ _ _ _ _ _ HB.out.ref HB.out.all (by omega)).mono ?_; rintro e w3 ⟨rfl, rfl⟩))
        all_goals first | (exfalso; omega) | skip
        rcases (show k < 0 ∨ (0 < k ∧ 128 * n < a + k) ∨ k = 0 ∨ (0 < k ∧ a + k ≤ 128 * n) by omega) with hk | ⟨hk, hko⟩ | rfl | ⟨hk, hko⟩
        · go_wp2_with (first | (go_at_call 13; refine (read_neg _ _ _ _ _ _ _ HB.out.mem hk).mono ?_; rintro e w3 ⟨rfl, rfl⟩))
          all_goals first | (exfalso; omega) | skip
          by_cases hg0 : 0 ≤ g ∧ g < n
          · obtain ⟨g', rfl⟩ := Int.eq_ofNat_of_zero_le hg0.1
            have hg2 : g' < n := by omega
            go_wp2_with (first | (go_at_call 20; refine (gget_yes _ _ _ _ _ _ HB.out.mem hg2).mono ?_; rintro e w4 ⟨rfl, b4⟩; have HB4 := Lib.hid (HB.out.below b4); have HW4 := Lib.hid (HW.out.trans (b4.mono HW.out.size)); clear b4; have hsl := sub_len B g' n HB4.out.mem.len hg2; have hst := st_new w4 (zeroB 1) (sub B g') zlen hsl; have hln : (bytesV (sub B g')).length = 128 := (by rw [bytesV_len, hsl]); have heq := eqB_self (sub B g') hsl))
            all_goals first | (exfalso; omega) | skip
            have HB5 := Lib.hid (HB4.out.below ((Below.refl _ _).alloc (Nat.le_refl _) (.cells (bytesV (sub B g')).toArray 52))).ref.drew
            have HW5 := Lib.hid (HW4.out.alloc (o := .cells (bytesV (sub B g')).toArray 52) HW4.out.size).drew
            have S0 := Lib.hid (rng_row (show BytesAt (w4.alloc (.cells (bytesV (sub B g')).toArray 52)).drew w4.heap.size 52 (sub B g') from heap_here rfl))
            have HS : Hid (∀ w6, Below (w4.alloc (.cells (bytesV (sub B g')).toArray 52)).drew.heap.size (w4.alloc (.cells (bytesV (sub B g')).toArray 52)).drew w6 → w6.rangeAt w4.heap.size 0 (bytesV (sub B g'))) := fun w6 b6 => rng_row (BytesAt.below (show BytesAt (w4.alloc (.cells (bytesV (sub B g')).toArray 52)).drew w4.heap.size 52 (sub B g') from heap_here rfl) b6)
            have hsz := size52
            have hu := Try.underlying52
            go_region_held3 (fun w' => w'.rangeAt w4.heap.size 0 (bytesV (sub B g'))) ((first | exact S0.out | exact HS.out _ b6 | exact HS.out _ b7')) ((first | (go_at_call 21; refine (rget _ _ _ _ _ _ HB5.out hg2).mono ?_; rintro e w6 ⟨rfl, b6⟩) | (go_at_call 9; refine (known _).mono ?_; rintro e w7 ⟨rfl, b7⟩; have b7' := b6.trans (b7.mono b6.size))))
            go_wp2_with fail
            go_ret
            exact ⟨rfl, HW5.out.trans (b7'.mono HW5.out.size)⟩
          · have hg : g < 0 ∨ n ≤ g := by omega
            rcases (show g < 0 ∨ (0 ≤ g ∧ n ≤ g) by omega) with qg | ⟨qg1, qg2⟩
            all_goals go_wp2_with (first | (go_at_call 20; refine (gget_no _ _ _ _ _ _ HB.out.mem hg).mono ?_; rintro e w4 ⟨rfl, b4⟩; have HW4 := Lib.hid (HW.out.trans (b4.mono HW.out.size)); clear b4; have hst := st_new w4 (zeroB 1) (zeroB 1) zlen zlen; have hln : (bytesV (zeroB 1)).length = 128 := (by rw [bytesV_len, zlen]); have heq := eqB_self (zeroB 1) zlen; have HW5 := Lib.hid (HW4.out.alloc (o := .cells (bytesV (zeroB 1)).toArray 52) HW4.out.size); have HR := Lib.hid (rng_row (show BytesAt (w4.alloc (.cells (bytesV (zeroB 1)).toArray 52)) w4.heap.size 52 (zeroB 1) from heap_here rfl))) | (refine wpList_ld_g (.tmp 17) rfl (by rfl) w4.heap.size 0 (zeroB 1) rfl zlen HR.out ?_) | (go_at_call 9; refine (known _).mono ?_; rintro e w7 ⟨rfl, b7⟩; have B7 := Lib.hid (HW5.out.trans (b7.mono HW5.out.size)); clear b7))
            all_goals first | (exfalso; omega) | skip
            all_goals go_ret
            all_goals exact ⟨rfl, B7.out⟩
        · have k1 := K1.out
          go_wp2_with (first | (go_at_call 13; refine (read_out _ _ _ _ _ _ _ HB.out.mem (by omega) (by have := A1.out; omega) hk k1 (by omega)).mono ?_; rintro e w3 ⟨rfl, rfl⟩) | (go_at_call 18; refine (rwithin_no _ _ _ _ _ _ _ HB.out.ref (by omega) (by have := A1.out; omega) (by omega) k1 (by omega)).mono ?_; rintro e w3 ⟨rfl, rfl⟩))
          all_goals first | (exfalso; omega) | skip
          by_cases hg0 : 0 ≤ g ∧ g < n
          · obtain ⟨g', rfl⟩ := Int.eq_ofNat_of_zero_le hg0.1
            have hg2 : g' < n := by omega
            go_wp2_with (first | (go_at_call 20; refine (gget_yes _ _ _ _ _ _ HB.out.mem hg2).mono ?_; rintro e w4 ⟨rfl, b4⟩; have HB4 := Lib.hid (HB.out.below b4); have HW4 := Lib.hid (HW.out.trans (b4.mono HW.out.size)); clear b4; have hsl := sub_len B g' n HB4.out.mem.len hg2; have hst := st_new w4 (zeroB 1) (sub B g') zlen hsl; have hln : (bytesV (sub B g')).length = 128 := (by rw [bytesV_len, hsl]); have heq := eqB_self (sub B g') hsl))
            all_goals first | (exfalso; omega) | skip
            have HB5 := Lib.hid (HB4.out.below ((Below.refl _ _).alloc (Nat.le_refl _) (.cells (bytesV (sub B g')).toArray 52))).ref.drew
            have HW5 := Lib.hid (HW4.out.alloc (o := .cells (bytesV (sub B g')).toArray 52) HW4.out.size).drew
            have S0 := Lib.hid (rng_row (show BytesAt (w4.alloc (.cells (bytesV (sub B g')).toArray 52)).drew w4.heap.size 52 (sub B g') from heap_here rfl))
            have HS : Hid (∀ w6, Below (w4.alloc (.cells (bytesV (sub B g')).toArray 52)).drew.heap.size (w4.alloc (.cells (bytesV (sub B g')).toArray 52)).drew w6 → w6.rangeAt w4.heap.size 0 (bytesV (sub B g'))) := fun w6 b6 => rng_row (BytesAt.below (show BytesAt (w4.alloc (.cells (bytesV (sub B g')).toArray 52)).drew w4.heap.size 52 (sub B g') from heap_here rfl) b6)
            have hsz := size52
            have hu := Try.underlying52
            go_region_held3 (fun w' => w'.rangeAt w4.heap.size 0 (bytesV (sub B g'))) ((first | exact S0.out | exact HS.out _ b6 | exact HS.out _ b7')) ((first | (go_at_call 21; refine (rget _ _ _ _ _ _ HB5.out hg2).mono ?_; rintro e w6 ⟨rfl, b6⟩) | (go_at_call 9; refine (known _).mono ?_; rintro e w7 ⟨rfl, b7⟩; have b7' := b6.trans (b7.mono b6.size))))
            go_wp2_with fail
            go_ret
            exact ⟨rfl, HW5.out.trans (b7'.mono HW5.out.size)⟩
          · have hg : g < 0 ∨ n ≤ g := by omega
            rcases (show g < 0 ∨ (0 ≤ g ∧ n ≤ g) by omega) with qg | ⟨qg1, qg2⟩
            all_goals go_wp2_with (first | (go_at_call 20; refine (gget_no _ _ _ _ _ _ HB.out.mem hg).mono ?_; rintro e w4 ⟨rfl, b4⟩; have HW4 := Lib.hid (HW.out.trans (b4.mono HW.out.size)); clear b4; have hst := st_new w4 (zeroB 1) (zeroB 1) zlen zlen; have hln : (bytesV (zeroB 1)).length = 128 := (by rw [bytesV_len, zlen]); have heq := eqB_self (zeroB 1) zlen; have HW5 := Lib.hid (HW4.out.alloc (o := .cells (bytesV (zeroB 1)).toArray 52) HW4.out.size); have HR := Lib.hid (rng_row (show BytesAt (w4.alloc (.cells (bytesV (zeroB 1)).toArray 52)) w4.heap.size 52 (zeroB 1) from heap_here rfl))) | (refine wpList_ld_g (.tmp 17) rfl (by rfl) w4.heap.size 0 (zeroB 1) rfl zlen HR.out ?_) | (go_at_call 9; refine (known _).mono ?_; rintro e w7 ⟨rfl, b7⟩; have B7 := Lib.hid (HW5.out.trans (b7.mono HW5.out.size)); clear b7))
            all_goals first | (exfalso; omega) | skip
            all_goals go_ret
            all_goals exact ⟨rfl, B7.out⟩
        · go_wp2_with (first | (go_at_call 13; refine (read_in _ _ _ _ _ 0 _ HB.out.mem A1.out (by omega)).mono ?_; rintro e w3 ⟨v, rfl, o3, b3⟩; obtain ⟨vx, vc, rfl⟩ := shape0 o3; have B3 := Lib.hid (HB.out.below b3); have W3 := Lib.hid (HW.out.trans (b3.mono HW.out.size)); clear o3 b3 HB HW; have HB := B3; have HW := W3; clear B3 W3) | (go_at_call 18; refine (rwithin_yes _ _ _ _ _ _ _ HB.out.ref (by omega) (by have := A1.out; omega) (by omega) (by omega) (by omega)).mono ?_; rintro e w3 ⟨rfl, rfl⟩))
          all_goals first | (exfalso; omega) | skip
          go_quiet (fail)
          have HBd := Lib.hid (fun q => HB.out.drewN q)
          have HWd := Lib.hid (fun q => below_drewN HW.out q)
          clear HB HW
          have HB := HBd
          have HW := HWd
          clear HBd HWd
          by_cases hg0 : 0 ≤ g ∧ g < n
          · obtain ⟨g', rfl⟩ := Int.eq_ofNat_of_zero_le hg0.1
            have hg2 : g' < n := by omega
            go_wp2_with (first | (go_at_call 20; refine (gget_yes _ _ _ _ _ _ (HB.out _).mem hg2).mono ?_; rintro e w4 ⟨rfl, b4⟩; have HB4 := Lib.hid ((HB.out _).below b4); have HW4 := Lib.hid ((HW.out _).trans (b4.mono (HW.out _).size)); clear b4; have hsl := sub_len B g' n HB4.out.mem.len hg2; have hst := st_new w4 (zeroB 1) (sub B g') zlen hsl; have hln : (bytesV (sub B g')).length = 128 := (by rw [bytesV_len, hsl]); have heq := eqB_self (sub B g') hsl))
            all_goals first | (exfalso; omega) | skip
            have HB5 := Lib.hid (HB4.out.below ((Below.refl _ _).alloc (Nat.le_refl _) (.cells (bytesV (sub B g')).toArray 52))).ref.drew
            have HW5 := Lib.hid (HW4.out.alloc (o := .cells (bytesV (sub B g')).toArray 52) HW4.out.size).drew
            have S0 := Lib.hid (rng_row (show BytesAt (w4.alloc (.cells (bytesV (sub B g')).toArray 52)).drew w4.heap.size 52 (sub B g') from heap_here rfl))
            have HS : Hid (∀ w6, Below (w4.alloc (.cells (bytesV (sub B g')).toArray 52)).drew.heap.size (w4.alloc (.cells (bytesV (sub B g')).toArray 52)).drew w6 → w6.rangeAt w4.heap.size 0 (bytesV (sub B g'))) := fun w6 b6 => rng_row (BytesAt.below (show BytesAt (w4.alloc (.cells (bytesV (sub B g')).toArray 52)).drew w4.heap.size 52 (sub B g') from heap_here rfl) b6)
            have hsz := size52
            have hu := Try.underlying52
            go_region_held3 (fun w' => w'.rangeAt w4.heap.size 0 (bytesV (sub B g'))) ((first | exact S0.out | exact HS.out _ b6 | exact HS.out _ b7')) ((first | (go_at_call 21; refine (rget _ _ _ _ _ _ HB5.out hg2).mono ?_; rintro e w6 ⟨rfl, b6⟩) | (go_at_call 9; refine (known _).mono ?_; rintro e w7 ⟨rfl, b7⟩; have b7' := b6.trans (b7.mono b6.size))))
            go_wp2_with fail
            go_ret
            exact ⟨rfl, HW5.out.trans (b7'.mono HW5.out.size)⟩
          · have hg : g < 0 ∨ n ≤ g := by omega
            rcases (show g < 0 ∨ (0 ≤ g ∧ n ≤ g) by omega) with qg | ⟨qg1, qg2⟩
            all_goals go_wp2_with (first | (go_at_call 20; refine (gget_no _ _ _ _ _ _ (HB.out _).mem hg).mono ?_; rintro e w4 ⟨rfl, b4⟩; have HW4 := Lib.hid ((HW.out _).trans (b4.mono (HW.out _).size)); clear b4; have hst := st_new w4 (zeroB 1) (zeroB 1) zlen zlen; have hln : (bytesV (zeroB 1)).length = 128 := (by rw [bytesV_len, zlen]); have heq := eqB_self (zeroB 1) zlen; have HW5 := Lib.hid (HW4.out.alloc (o := .cells (bytesV (zeroB 1)).toArray 52) HW4.out.size); have HR := Lib.hid (rng_row (show BytesAt (w4.alloc (.cells (bytesV (zeroB 1)).toArray 52)) w4.heap.size 52 (zeroB 1) from heap_here rfl))) | (refine wpList_ld_g (.tmp 17) rfl (by rfl) w4.heap.size 0 (zeroB 1) rfl zlen HR.out ?_) | (go_at_call 9; refine (known _).mono ?_; rintro e w7 ⟨rfl, b7⟩; have B7 := Lib.hid (HW5.out.trans (b7.mono HW5.out.size)); clear b7))
            all_goals first | (exfalso; omega) | skip
            all_goals go_ret
            all_goals exact ⟨rfl, B7.out⟩
        · obtain ⟨k', rfl⟩ := Int.eq_ofNat_of_zero_le (show 0 ≤ k by omega)
          have hk1 : 0 < k' := by omega
          have hk2 : a + k' ≤ 128 * n := by omega
          clear hk hko
          go_wp2_with fail
          refine (read_in _ _ _ _ _ _ _ HB.out.mem A1.out (by omega)).mono ?_
          rintro e w3 ⟨v, rfl, o3, b3⟩
          have HS3D := Lib.hid (fun q => run_str (w := w3.drewN q) o3)
          have HS3 := Lib.hid (run_str o3)
          obtain ⟨vb, vc, rfl, _⟩ := owns_cells o3 (by omega)
          have B3 := Lib.hid (HB.out.below b3)
          have W3 := Lib.hid (HW.out.trans (b3.mono HW.out.size))
          have hlen3 := B3.out.ref.len
          have HS4 := Lib.hid (fun q => str_part (w := w3.drewN q) B3.out.ref.all a k' (128 * n - a) (by omega))
          have HK1 := Lib.hid hk1
          have HK2 := Lib.hid hk2
          clear o3 b3 HB HW hlen3 hk1 hk2 K0 K1
          have HB := B3
          have HW := W3
          clear B3 W3
          go_wp2_with (go_at_call 18; refine (rwithin_yes _ _ _ _ _ _ _ HB.out.ref (by omega) (by have := A1.out; omega) (by omega) (by have := HK2.out; omega) (by have := HK1.out; have := HK2.out; omega)).mono ?_; rintro e w4 ⟨rfl, rfl⟩)
          have f3 := cell_of_row _ (c + 1) 0 _ _ _ HB.out.ref.ref
          have hs3 := HS3D.out
          have hs4 := HS4.out
          have hk1 := HK1.out
          have hk2 := HK2.out
          have hk3 : (a : Int) ≤ a + k' := by omega
          have hk4 : (a : Int) + k' ≤ 128 * n := by omega
          have hk5 : IntKind.i64.wrap ((a : Int) + (k' : Int)) = (a : Int) + k' := IntWalk.i64_in _ (by omega)
          have hk6 : ¬ 128 * n = a := by omega
          have hk7 : IntKind.i64.wrap (a : Int) = (a : Int) := IntWalk.i64_in _ (by omega)
          clear h0 hl hk2
          go_quiet (fail)
          have HBd := Lib.hid (fun q => HB.out.drewN q)
          have HWd := Lib.hid (fun q => below_drewN HW.out q)
          clear HB HW
          have HB := HBd
          have HW := HWd
          clear HBd HWd
          by_cases hg0 : 0 ≤ g ∧ g < n
          · obtain ⟨g', rfl⟩ := Int.eq_ofNat_of_zero_le hg0.1
            have hg2 : g' < n := by omega
            go_wp2_with (first | (go_at_call 20; refine (gget_yes _ _ _ _ _ _ (HB.out _).mem hg2).mono ?_; rintro e w4 ⟨rfl, b4⟩; have HB4 := Lib.hid ((HB.out _).below b4); have HW4 := Lib.hid ((HW.out _).trans (b4.mono (HW.out _).size)); clear b4; have hsl := sub_len B g' n HB4.out.mem.len hg2; have hst := st_new w4 (zeroB 1) (sub B g') zlen hsl; have hln : (bytesV (sub B g')).length = 128 := (by rw [bytesV_len, hsl]); have heq := eqB_self (sub B g') hsl))
            all_goals first | (exfalso; omega) | skip
            have HB5 := Lib.hid (HB4.out.below ((Below.refl _ _).alloc (Nat.le_refl _) (.cells (bytesV (sub B g')).toArray 52))).ref.drew
            have HW5 := Lib.hid (HW4.out.alloc (o := .cells (bytesV (sub B g')).toArray 52) HW4.out.size).drew
            have S0 := Lib.hid (rng_row (show BytesAt (w4.alloc (.cells (bytesV (sub B g')).toArray 52)).drew w4.heap.size 52 (sub B g') from heap_here rfl))
            have HS : Hid (∀ w6, Below (w4.alloc (.cells (bytesV (sub B g')).toArray 52)).drew.heap.size (w4.alloc (.cells (bytesV (sub B g')).toArray 52)).drew w6 → w6.rangeAt w4.heap.size 0 (bytesV (sub B g'))) := fun w6 b6 => rng_row (BytesAt.below (show BytesAt (w4.alloc (.cells (bytesV (sub B g')).toArray 52)).drew w4.heap.size 52 (sub B g') from heap_here rfl) b6)
            have hsz := size52
            have hu := Try.underlying52
            go_region_held3 (fun w' => w'.rangeAt w4.heap.size 0 (bytesV (sub B g'))) ((first | exact S0.out | exact HS.out _ b6 | exact HS.out _ b7')) ((first | (go_at_call 21; refine (rget _ _ _ _ _ _ HB5.out hg2).mono ?_; rintro e w6 ⟨rfl, b6⟩) | (go_at_call 9; refine (known _).mono ?_; rintro e w7 ⟨rfl, b7⟩; have b7' := b6.trans (b7.mono b6.size))))
            go_wp2_with fail
            go_ret
            exact ⟨rfl, HW5.out.trans (b7'.mono HW5.out.size)⟩
          · have hg : g < 0 ∨ n ≤ g := by omega
            rcases (show g < 0 ∨ (0 ≤ g ∧ n ≤ g) by omega) with qg | ⟨qg1, qg2⟩
            all_goals go_wp2_with (first | (go_at_call 20; refine (gget_no _ _ _ _ _ _ (HB.out _).mem hg).mono ?_; rintro e w4 ⟨rfl, b4⟩; have HW4 := Lib.hid ((HW.out _).trans (b4.mono (HW.out _).size)); clear b4; have hst := st_new w4 (zeroB 1) (zeroB 1) zlen zlen; have hln : (bytesV (zeroB 1)).length = 128 := (by rw [bytesV_len, zlen]); have heq := eqB_self (zeroB 1) zlen; have HW5 := Lib.hid (HW4.out.alloc (o := .cells (bytesV (zeroB 1)).toArray 52) HW4.out.size); have HR := Lib.hid (rng_row (show BytesAt (w4.alloc (.cells (bytesV (zeroB 1)).toArray 52)) w4.heap.size 52 (zeroB 1) from heap_here rfl))) | (refine wpList_ld_g (.tmp 17) rfl (by rfl) w4.heap.size 0 (zeroB 1) rfl zlen HR.out ?_) | (go_at_call 9; refine (known _).mono ?_; rintro e w7 ⟨rfl, b7⟩; have B7 := Lib.hid (HW5.out.trans (b7.mono HW5.out.size)); clear b7))
            all_goals first | (exfalso; omega) | skip
            all_goals go_ret
            all_goals exact ⟨rfl, B7.out⟩
set_option maxRecDepth 100000 in
set_option maxHeartbeats 2000000 in
theorem walk (n : Int) (x : Option Addr) (len cap b off : Nat) (a k g : Int) (w : World) (hl : len ≤ maxLen) (hloc : 0 < len → x = some ⟨b, off, none⟩ ∧ b < w.heap.size)
    (hacts : ∀ i, i < len → ∃ kd g a z y L c Z, ActAt w.heap.size w b (off + i * 5) kd g a z y L c Z) (a0 : 0 ≤ a) (a1 : a < 18446744073709551616) (k0 : -9223372036854775808 ≤ k) (k1 : k < 9223372036854775808) :
    Calls Try.prog 5 #[.int .i64 n, .slice x len cap, .int .u64 a, .int .i64 k, .int .i64 g] w fun e w' => e = .returned (.bool true) ∧ Below w.heap.size w w' := by
  unfold maxLen at hl
  by_cases h : 1 ≤ n ∧ n ≤ 64 ∧ len ≤ 60
  · obtain ⟨n', rfl⟩ := Int.eq_ofNat_of_zero_le (show 0 ≤ n by omega)
    obtain ⟨a', rfl⟩ := Int.eq_ofNat_of_zero_le a0
    exact walkin n' x len cap b off a' k g w (by omega) (by omega) h.2.2 hloc hacts (by omega) k0 k1
  · clear hloc hacts a0 a1 k0 k1
    rcases (show (64 < n ∧ n ≤ 4096) ∨ (n ≤ 64 ∧ 60 < len) ∨ (4096 < n ∧ 60 < len) ∨ (n < 1 ∧ len ≤ 60) ∨ (4096 < n ∧ len ≤ 60) by omega) with ⟨q1, q2⟩ | ⟨q1, q2⟩ | ⟨q1, q2⟩ | ⟨q1, q2⟩ | ⟨q1, q2⟩
    all_goals clear h hl
    all_goals go_enter Try.func5, Try.ntmps5
    all_goals go_wp2_with (first | (go_at_call 9; refine (known _).mono ?_; rintro e w2 ⟨rfl, hb2⟩) | (go_at_call 10; refine (new_no _ _ (by omega)).mono ?_; rintro e w2 ⟨rfl, rfl⟩))
    all_goals first | (exfalso; omega) | skip
    all_goals go_ret
    all_goals exact ⟨rfl, hb2⟩

theorem read38 : Try.prog.readableRec 38 = true ∧ 38 < Try.prog.types.size := ⟨by kernel_rfl, of_decide_eq_true (by kernel_rfl)⟩
theorem hread : ∀ t ∈ Try.f5.params.toList, Try.prog.readableRec t = true ∧ t < Try.prog.types.size := by
  rw [Try.params5]
  intro t ht
  simp at ht
  rcases ht with rfl | rfl | rfl | rfl
  all_goals first | exact read3 | exact read38 | exact read22

set_option maxRecDepth 100000 in
theorem lifted (os : Os) (started : os.Started) (H : Type) (enc : TypeId × Value → H) :
    ReturnsInHanded {} Try.checked os 5 .any (Rows.machinePlaysSpec.pre6 enc Try.prog Try.f5 Rows.machinePlaysRow.domain false) (Rows.machinePlaysSpec.post enc Try.prog Try.f5 false true false false) := by
  refine returnsInHanded_of_change (C := Try.checked) own started (by kernel_rfl) Try.func5
    (ChangeSpec.witness6 (enc := enc) (C := Try.checked) false ⟨#[], #[.int .i64 0, .slice none 0 0, .int .u64 0, .int .i64 0, .int .i64 0], []⟩ 8 (by kernel_rfl) (by kernel_rfl) (by kernel_rfl) (by kernel_rfl)) ?_
  intro W base args ds gs before hval0 hW hcnd _
  have hval : ∀ (j : Nat) t v, Try.f5.params[j]? = some t → args[j]? = some v → Value.okWide Try.prog W .any base t v := hval0
  have hW' := hW
  obtain ⟨p, q, hA0, hV, rfl, hfz, hnd⟩ := hW
  have hA : DataW.TrodAll enc Try.prog W 0 (fun _ => true) true Try.f5.params.toList args.toList ds p := hA0
  have hA1 := hA
  rw [Try.params5] at hA hval
  obtain ⟨v0, vs0, d0, ds0, p0, q0, hargs, rfl, rfl, h0, r0⟩ := trodAll_cons hA
  obtain ⟨v1, vs1, d1, ds1, p1, q1, rfl, rfl, rfl, h1, r1⟩ := trodAll_cons r0
  obtain ⟨v2, vs2, d2, ds2, p2, q2, rfl, rfl, rfl, h2, r2⟩ := trodAll_cons r1
  obtain ⟨v3, vs3, d3, ds3, p3, q3, rfl, rfl, rfl, h3, r3⟩ := trodAll_cons r2
  obtain ⟨v4, vs4, d4, ds4, p4, q4, rfl, rfl, rfl, h4, r4⟩ := trodAll_cons r3
  obtain ⟨rfl, rfl, rfl⟩ := trodAll_nil r4
  obtain rfl : args = #[v0, v1, v2, v3, v4] := by cases args; simp_all
  obtain ⟨rfl, rfl⟩ := trodVars_none hV
  obtain ⟨a0, rfl, rfl, rfl, w0⟩ := open_int Try.underlying3 (hval 0 3 v0 rfl rfl) h0
  obtain ⟨x, len, cap, b, off, rfl, hlen, hloc, hacts⟩ := open_acts (hval 1 38 v1 rfl rfl) h1
  obtain ⟨a2, rfl, rfl, rfl, w2⟩ := open_int Try.underlying22 (hval 2 22 v2 rfl rfl) h2
  obtain ⟨a3, rfl, rfl, rfl, w3⟩ := open_int Try.underlying3 (hval 3 3 v3 rfl rfl) h3
  obtain ⟨a4, rfl, rfl, rfl, w4⟩ := open_int Try.underlying3 (hval 4 3 v4 rfl rfl) h4
  clear hA0 hval0
  simp only [List.append_nil] at hW' hA1
  refine (walk a0 x len cap b off a2 a3 a4 W hlen hloc hacts (u64_range w2).1 (u64_range w2).2 (i64_range w3).1 (i64_range w3).2).mono fun e W' ⟨he, hg⟩ => ?_
  subst he
  exact ⟨_, rfl, post_true hW' hA1 rfl rfl (fun _ => rfl) rfl Try.underlying4 laidOut hread hg⟩

theorem over : Rows.machinePlaysRow.holds Try.pinned (OpenSpec.ofChange Rows.machinePlaysSpec) :=
  OpenClaim.holds_of_wide 5 Try.f5 rfl rfl rfl rfl rfl rfl rfl ⟨rfl, rfl, rfl, rfl, rfl⟩ rfl rfl rfl rfl rfl (by kernel_rfl) Try.func5 (by kernel_rfl)
    (of_decide_eq_true (by kernel_rfl)) (by unfold Func.isWrapper; first | (rw [if_pos (by decide +kernel)]; kernel_rfl) | (rw [if_neg (by decide +kernel)]; exact ⟨rfl, rfl⟩))
    (fun os started H enc _ => lifted os started H enc)

/-- The statement. -/
theorem proved : Rows.MachinePlaysSaid := over
end MachinePlays
end Go.Proofs.Ytkpcomldjnahhaa
