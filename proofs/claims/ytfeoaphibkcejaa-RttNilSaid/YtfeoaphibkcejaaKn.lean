/- The rows of the law's own start: known. No condition. -/
import Derived.Test.YtfeoaphibkcejaaKs
namespace Go.Proofs.Ytfeoaphibkcejaa
open Go.ChangeShapes Go.WideShapes Go.ChangeAt Go.RowKit
set_option linter.unusedSimpArgs false
set_option maxRecDepth 100000

def E1 : Nat → Nat → Int × Int := upd E0 0 0 (1, 1)
def E2 : Nat → Nat → Int × Int := upd E1 1 0 (1, 2)
def E3 : Nat → Nat → Int × Int := upd E2 2 1 (1, 3)
def E4' : Nat → Nat → Int × Int := upd E3 3 1 (2, 9)
def R0 : List Rw := [(0, 0, 0), (0, 0, 0), (0, 0, 0), (0, 0, 0), (0, 0, 0), (0, 0, 0), (0, 0, 0), (0, 0, 0)]
def R1 : List Rw := [(1, 0, 0), (0, 0, 0), (0, 0, 0), (0, 0, 0), (0, 0, 0), (0, 0, 0), (0, 0, 0), (0, 0, 0)]
def R2 : List Rw := [(1, 0, 0), (1, 0, 0), (0, 0, 0), (0, 0, 0), (0, 0, 0), (0, 0, 0), (0, 0, 0), (0, 0, 0)]
def R3 : List Rw := [(1, 0, 0), (1, 0, 0), (1, 0, 0), (0, 0, 0), (0, 0, 0), (0, 0, 0), (0, 0, 0), (0, 0, 0)]
def R4 : List Rw := [(1, 0, 0), (1, 0, 0), (1, 0, 0), (1, 0, 0), (0, 0, 0), (0, 0, 0), (0, 0, 0), (0, 0, 0)]
def R5 : List Rw := [(1, 0, 0), (1, 0, 0), (1, 0, 0), (1, 0, 0), (1, 0, 0), (0, 0, 0), (0, 0, 0), (0, 0, 0)]
def R6 : List Rw := [(4, 1, 0), (1, 0, 0), (1, 0, 0), (1, 0, 0), (1, 0, 0), (0, 0, 0), (0, 0, 0), (0, 0, 0)]
def R7 : List Rw := [(4, 1, 0), (4, 1, 0), (1, 0, 0), (1, 0, 0), (1, 0, 0), (0, 0, 0), (0, 0, 0), (0, 0, 0)]
def R8 : List Rw := [(4, 1, 0), (4, 1, 0), (4, 1, 0), (1, 0, 0), (1, 0, 0), (0, 0, 0), (0, 0, 0), (0, 0, 0)]
def R9 : List Rw := [(4, 1, 0), (4, 1, 0), (4, 1, 0), (4, 1, 0), (1, 0, 0), (0, 0, 0), (0, 0, 0), (0, 0, 0)]
theorem eq33a (w : World) : (Op.equalIn 10000 33 (.agg #[.int .i64 0, .int .i64 0, .int .i64 0, .int .i64 0, .int .i64 0]) (.agg #[.int .i64 0, .int .i64 0, .int .i64 0, .int .i64 0, .int .i64 0])).run Try.prog w = .ok true w := by kernel_rfl
theorem eq33b (w : World) : (Op.equalIn 10000 33 (.agg #[.int .i64 3, .int .i64 3, .int .i64 1, .int .i64 2, .int .i64 9]) (.agg #[.int .i64 3, .int .i64 3, .int .i64 1, .int .i64 2, .int .i64 9])).run Try.prog w = .ok true w := by kernel_rfl
theorem eq33c (w : World) : (Op.equalIn 10000 33 (.agg #[.int .i64 3, .int .i64 3, .int .i64 2, .int .i64 0, .int .i64 0]) (.agg #[.int .i64 3, .int .i64 3, .int .i64 2, .int .i64 0, .int .i64 0])).run Try.prog w = .ok true w := by kernel_rfl
set_option maxHeartbeats 8000000 in
theorem known (w : World) : Calls Try.prog 13 #[] w fun e w' => e = .returned (.bool true) ∧ Below w.heap.size w w' := by
  go_enter Try.func13, Try.ntmps13
  go_wp2_with fail
  refine (begin8 _).mono ?_
  rintro e w1 ⟨xb, mb, ab, tb, rb, wb, rfl, hR1, hg1, hg2, hl1, hl2, hb1⟩
  have hb1' := (Below.refl w1.heap.size w1).alloc (Nat.le_refl _) (.cells #[.pointer (some ⟨mb, 0, none⟩), .pointer (some ⟨tb, 0, none⟩), .pointer (some ⟨xb, 0, none⟩), .pointer (some ⟨wb, 0, none⟩)] 72)
  obtain ⟨W0, hW0⟩ : ∃ W0, w1.alloc (.cells #[.pointer (some ⟨mb, 0, none⟩), .pointer (some ⟨tb, 0, none⟩), .pointer (some ⟨xb, 0, none⟩), .pointer (some ⟨wb, 0, none⟩)] 72) = W0 := ⟨_, rfl⟩
  have hp0 : W0.heap[w1.heap.size]? = some (.cells #[.pointer (some ⟨mb, 0, none⟩), .pointer (some ⟨tb, 0, none⟩), .pointer (some ⟨xb, 0, none⟩), .pointer (some ⟨wb, 0, none⟩)] 72 (0, 0)) := by rw [← hW0]; exact heap_here rfl
  rw [hW0] at hb1'
  have S0 : Hid (Ks w W0 w1.heap.size xb mb ab tb rb wb (zeroB 8) R0 E0) := ⟨hp0, hR1.below hb1', EqE_0, hb1.trans (hb1'.mono hb1.size), hg1, hg2, by omega, by omega⟩
  obtain ⟨pb, hpb⟩ : ∃ pb, w1.heap.size = pb := ⟨_, rfl⟩
  rw [hpb] at S0
  clear hR1 hg1 hg2 hl1 hl2 hb1 hb1' hp0
  go_wp2_with fail
  (try rw [hW0])
  (try rw [hpb])
  clear hW0 hpb
  have c1 := cell_of_row _ _ 1 _ _ _ S0.out.p
  have c2 := cell_of_row _ _ 2 _ _ _ S0.out.p
  refine wp_loop_rounds 6 ?_
  rw [rounds_succ]
  go_wp2_with fail
  refine (k_step S0.out 0 0 0 0 0 1 0 0 (1, 0, 0) R1 (by omega) rfl rfl rfl).mono ?_
  rintro e W1 ⟨rfl, s1, -⟩
  have S1 := Lib.hid s1
  clear s1 c1 c2 S0
  have c1 := cell_of_row _ _ 1 _ _ _ S1.out.p
  have c2 := cell_of_row _ _ 2 _ _ _ S1.out.p
  go_wp2_with fail
  rw [rounds_succ]
  go_wp2_with fail
  refine (k_step S1.out 1 0 0 0 0 1 0 0 (1, 0, 0) R2 (by omega) rfl rfl rfl).mono ?_
  rintro e W2 ⟨rfl, s2, -⟩
  have S2 := Lib.hid s2
  clear s2 c1 c2 S1
  have c1 := cell_of_row _ _ 1 _ _ _ S2.out.p
  have c2 := cell_of_row _ _ 2 _ _ _ S2.out.p
  go_wp2_with fail
  rw [rounds_succ]
  go_wp2_with fail
  refine (k_step S2.out 2 0 0 0 0 1 0 0 (1, 0, 0) R3 (by omega) rfl rfl rfl).mono ?_
  rintro e W3 ⟨rfl, s3, -⟩
  have S3 := Lib.hid s3
  clear s3 c1 c2 S2
  have c1 := cell_of_row _ _ 1 _ _ _ S3.out.p
  have c2 := cell_of_row _ _ 2 _ _ _ S3.out.p
  go_wp2_with fail
  rw [rounds_succ]
  go_wp2_with fail
  refine (k_step S3.out 3 0 0 0 0 1 0 0 (1, 0, 0) R4 (by omega) rfl rfl rfl).mono ?_
  rintro e W4 ⟨rfl, s4, -⟩
  have S4 := Lib.hid s4
  clear s4 c1 c2 S3
  have c1 := cell_of_row _ _ 1 _ _ _ S4.out.p
  have c2 := cell_of_row _ _ 2 _ _ _ S4.out.p
  go_wp2_with fail
  rw [rounds_succ]
  go_wp2_with fail
  refine (k_step S4.out 4 0 0 0 0 1 0 0 (1, 0, 0) R5 (by omega) rfl rfl rfl).mono ?_
  rintro e W5 ⟨rfl, s5, -⟩
  have S5 := Lib.hid s5
  clear s5 c1 c2 S4
  have c1 := cell_of_row _ _ 1 _ _ _ S5.out.p
  have c2 := cell_of_row _ _ 2 _ _ _ S5.out.p
  go_wp2_with fail
  rw [rounds_succ]
  go_wp2_with fail
  refine (k_step S5.out 0 1 0 0 1 4 1 0 (4, 1, 0) R6 (by omega) rfl rfl rfl).mono ?_
  rintro e W6 ⟨rfl, s6, -⟩
  have S6 := Lib.hid s6
  clear s6 c1 c2 S5
  have c1 := cell_of_row _ _ 1 _ _ _ S6.out.p
  have c2 := cell_of_row _ _ 2 _ _ _ S6.out.p
  go_wp2_with fail
  refine (k_walk S6.out 5 (0, 0, 0, 0, 0) rfl (by omega) (by decide +kernel)).mono ?_
  rintro e W7 ⟨rfl, b1⟩
  unfold walkV
  have b1' := b1.alloc b1.size (.cells #[.int .i64 0, .int .i64 0, .int .i64 0, .int .i64 0, .int .i64 0] 33)
  have S7 := Lib.hid (S6.out.below b1')
  have V5 : Hid (Wk (W7.alloc (.cells #[.int .i64 0, .int .i64 0, .int .i64 0, .int .i64 0, .int .i64 0] 33)) W7.heap.size 0 0 0 0 0) := heap_here rfl
  have N5 : Hid (ab < W7.heap.size ∧ rb < W7.heap.size) := ⟨Nat.lt_of_lt_of_le S6.out.rt.m.lt.2 b1.size, Nat.lt_of_lt_of_le S6.out.rt.t.lt.2 b1.size⟩
  obtain ⟨v5, hv5⟩ : ∃ v, W7.heap.size = v := ⟨_, rfl⟩
  clear b1 b1' c1 c2 S6
  have c1 := cell_of_row _ _ 1 _ _ _ S7.out.p
  have c2 := cell_of_row _ _ 2 _ _ _ S7.out.p
  rw [hv5] at V5 N5
  go_wp2_with fail
  (try rw [hv5])
  clear hv5
  refine (k_create_ok S7.out 1 5 0 1 0 0 0 0 R7 (by omega) rfl rfl (by omega) (by omega) (by omega) (by decide +kernel) (by omega) (by omega) (fun i hi => rfl) rfl).mono ?_
  rintro e W8 ⟨rfl, ⟨BW8, s1⟩, t1⟩
  have S8 : Hid (Ks w W8 pb xb mb ab tb rb wb BW8 R7 E1) := s1
  replace V5 : Hid (Wk _ v5 _ _ _ _ _) := (t1.block v5 V5.out.lt (by have := N5.out; omega) (by have := N5.out; omega)).trans V5.out
  clear s1 t1 c1 c2 S7
  have c1 := cell_of_row _ _ 1 _ _ _ S8.out.p
  have c2 := cell_of_row _ _ 2 _ _ _ S8.out.p
  go_wp2_with fail
  refine (k_create_table S8.out 2 5 2 1 0 1 0 0 1 1 0 0 0 (by omega) rfl rfl (by omega) (by omega) (by omega) (by decide +kernel) (by omega)).mono ?_
  rintro e W9 ⟨rfl, b1⟩
  have S9 := Lib.hid (S8.out.below b1)
  replace V5 := Lib.hid (V5.out.below b1)
  clear b1 c1 c2 S8
  have c1 := cell_of_row _ _ 1 _ _ _ S9.out.p
  have c2 := cell_of_row _ _ 2 _ _ _ S9.out.p
  go_wp2_with fail
  refine (k_set_table S9.out 5 3 0 1 1 0 0 0 rfl (by omega) (by decide +kernel) (by omega) rfl).mono ?_
  rintro e W10 ⟨rfl, b1⟩
  have S10 := Lib.hid (S9.out.below b1)
  replace V5 := Lib.hid (V5.out.below b1)
  clear b1 c1 c2 S9
  have c1 := cell_of_row _ _ 1 _ _ _ S10.out.p
  have c2 := cell_of_row _ _ 2 _ _ _ S10.out.p
  go_wp2_with fail
  refine (k_create_ok S10.out 2 5 1 1 0 0 1 0 R8 (by omega) rfl rfl (by omega) (by omega) (by omega) (by decide +kernel) (by omega) (by omega) (fun i hi => rfl) rfl).mono ?_
  rintro e W11 ⟨rfl, ⟨BW11, s1⟩, t1⟩
  have S11 : Hid (Ks w W11 pb xb mb ab tb rb wb BW11 R8 E2) := s1
  replace V5 : Hid (Wk _ v5 _ _ _ _ _) := (t1.block v5 V5.out.lt (by have := N5.out; omega) (by have := N5.out; omega)).trans V5.out
  clear s1 t1 c1 c2 S10
  have c1 := cell_of_row _ _ 1 _ _ _ S11.out.p
  have c2 := cell_of_row _ _ 2 _ _ _ S11.out.p
  go_wp2_with fail
  refine (k_create_ok S11.out 3 5 2 1 0 0 2 1 R9 (by omega) rfl rfl (by omega) (by omega) (by omega) (by decide +kernel) (by omega) (by omega) (fun i hi => rfl) rfl).mono ?_
  rintro e W12 ⟨rfl, ⟨BW12, s1⟩, t1⟩
  have S12 : Hid (Ks w W12 pb xb mb ab tb rb wb BW12 R9 E3) := s1
  replace V5 : Hid (Wk _ v5 _ _ _ _ _) := (t1.block v5 V5.out.lt (by have := N5.out; omega) (by have := N5.out; omega)).trans V5.out
  clear s1 t1 c1 c2 S11
  have c1 := cell_of_row _ _ 1 _ _ _ S12.out.p
  have c2 := cell_of_row _ _ 2 _ _ _ S12.out.p
  go_wp2_with fail
  refine (k_set_ok S12.out 5 2 9 3 1 0 0 rfl (by omega) (by decide +kernel) (by omega) (by omega) rfl rfl).mono ?_
  rintro e W13 ⟨rfl, ⟨BW13, s1⟩, t1⟩
  have S13 : Hid (Ks w W13 pb xb mb ab tb rb wb BW13 R9 E4') := s1
  replace V5 : Hid (Wk _ v5 _ _ _ _ _) := (t1.block v5 V5.out.lt (by have := N5.out; omega) (by have := N5.out; omega)).trans V5.out
  clear s1 t1 c1 c2 S12
  have c1 := cell_of_row _ _ 1 _ _ _ S13.out.p
  have c2 := cell_of_row _ _ 2 _ _ _ S13.out.p
  go_wp2_with fail
  refine (k_walk S13.out 5 (3, 3, 1, 2, 9) rfl (by omega) (by decide +kernel)).mono ?_
  rintro e W14 ⟨rfl, b1⟩
  unfold walkV
  have b1' := b1.alloc b1.size (.cells #[.int .i64 3, .int .i64 3, .int .i64 1, .int .i64 2, .int .i64 9] 33)
  have S14 := Lib.hid (S13.out.below b1')
  have V13 : Hid (Wk (W14.alloc (.cells #[.int .i64 3, .int .i64 3, .int .i64 1, .int .i64 2, .int .i64 9] 33)) W14.heap.size 3 3 1 2 9) := heap_here rfl
  have N13 : Hid (ab < W14.heap.size ∧ rb < W14.heap.size) := ⟨Nat.lt_of_lt_of_le S13.out.rt.m.lt.2 b1.size, Nat.lt_of_lt_of_le S13.out.rt.t.lt.2 b1.size⟩
  replace V5 := Lib.hid (V5.out.below b1')
  obtain ⟨v13, hv13⟩ : ∃ v, W14.heap.size = v := ⟨_, rfl⟩
  clear b1 b1' c1 c2 S13
  have c1 := cell_of_row _ _ 1 _ _ _ S14.out.p
  have c2 := cell_of_row _ _ 2 _ _ _ S14.out.p
  rw [hv13] at V13 N13
  go_wp2_with fail
  (try rw [hv13])
  clear hv13
  refine (k_walk S14.out 6 (3, 3, 2, 0, 0) rfl (by omega) (by decide +kernel)).mono ?_
  rintro e W15 ⟨rfl, b1⟩
  unfold walkV
  have b1' := b1.alloc b1.size (.cells #[.int .i64 3, .int .i64 3, .int .i64 2, .int .i64 0, .int .i64 0] 33)
  have S15 := Lib.hid (S14.out.below b1')
  have V15 : Hid (Wk (W15.alloc (.cells #[.int .i64 3, .int .i64 3, .int .i64 2, .int .i64 0, .int .i64 0] 33)) W15.heap.size 3 3 2 0 0) := heap_here rfl
  have N15 : Hid (ab < W15.heap.size ∧ rb < W15.heap.size) := ⟨Nat.lt_of_lt_of_le S14.out.rt.m.lt.2 b1.size, Nat.lt_of_lt_of_le S14.out.rt.t.lt.2 b1.size⟩
  replace V5 := Lib.hid (V5.out.below b1')
  replace V13 := Lib.hid (V13.out.below b1')
  obtain ⟨v15, hv15⟩ : ∃ v, W15.heap.size = v := ⟨_, rfl⟩
  clear b1 b1' c1 c2 S14
  have c1 := cell_of_row _ _ 1 _ _ _ S15.out.p
  have c2 := cell_of_row _ _ 2 _ _ _ S15.out.p
  rw [hv15] at V15 N15
  obtain ⟨p0, p1, p2, p3, p4⟩ := V5.out.cells
  obtain ⟨q0, q1, q2, q3, q4⟩ := V13.out.cells
  obtain ⟨r0, r1, r2, r3, r4⟩ := V15.out.cells
  have h1 := eq33a
  have h2 := eq33b
  have h3 := eq33c
  go_wp2_with fail
  (try rw [hv15])
  clear hv15
  go_ret
  exact ⟨rfl, S15.out.b⟩
end Go.Proofs.Ytfeoaphibkcejaa
