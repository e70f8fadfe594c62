/- Contract: the program's entries of a table (Untable). Conditions: those that each theorem states. -/
import Derived.Test.YtjohobehhijbcaaTb2
import Derived.Deep.AppendLies
import Derived.Laws.Cover3
namespace Go.Proofs.Ytjohobehhijbcaa
open Go.ChangeShapes Go.WideShapes Go.ChangeAt Go.RowKit
set_option linter.unusedSimpArgs false
attribute [local go_sem] zeroV

/-- A byte of a list. -/
def byD (B : List Int) (i : Nat) : Int := B.getD i 0
def AllB (B : List Int) : Prop := ∀ x ∈ B, 0 ≤ x ∧ x < 256
theorem byD_lt {B : List Int} (h : AllB B) (i : Nat) : 0 ≤ byD B i ∧ byD B i < 256 := by
  unfold byD
  rw [List.getD_eq_getElem?_getD]
  cases hq : B[i]? with
  | none => simp
  | some x => simpa using h x (List.mem_of_getElem? hq)
theorem byD_cell {w : World} {b t : Nat} {B : List Int} (h : BytesAt w b t B) (i : Nat) (hi : i < B.length) : w.cell? ⟨b, i, none⟩ = some (.int .u8 (byD B i)) := by
  rw [h.cell, byD, List.getD_eq_getElem?_getD, List.getElem?_eq_getElem hi]
  rfl
def okAt (G : List Int) (i : Nat) : Bool := okB (byD G (8 * i)) (byD G (8 * i + 1)) (byD G (8 * i + 2)) (byD G (8 * i + 3)) (byD G (8 * i + 4)) (byD G (8 * i + 5)) (byD G (8 * i + 6)) (byD G (8 * i + 7))
def kAt (G : List Int) (i : Nat) : Int := byD G (8 * i)
def gAt (G : List Int) (i : Nat) : Int := byD G (8 * i + 1) + 256 * byD G (8 * i + 2)
/-- The first k entries, as cells. -/
def pv (G : List Int) (k : Nat) : List Value := (List.range k).flatMap fun i => [.int .i64 (kAt G i), .int .i64 (gAt G i)]
theorem pv_succ (G : List Int) (k : Nat) : pv G (k + 1) = pv G k ++ [.int .i64 (kAt G k), .int .i64 (gAt G k)] := by simp [pv, List.range_succ, List.flatMap_append]
theorem pv_len (G : List Int) (k : Nat) : (pv G k).length = k * 2 := by
  induction k with
  | zero => rfl
  | succ k ih => rw [pv_succ, List.length_append, ih]; simp; omega
theorem ok_may {G : List Int} {i : Nat} (h : okAt G i = true) : mayB (kAt G i) (gAt G i) = true := by
  unfold okAt okB at h
  simp only [Bool.and_eq_true] at h
  exact h.1
theorem ofV_yes {a b c d e f g h : Int} (q : okB a b c d e f g h = true) : ofV a b c d e f g h = .tuple #[.agg #[.int .i64 a, .int .i64 (b + 256 * c)], .int .i64 0] := by simp [ofV, q]
theorem ofV_no {a b c d e f g h : Int} (q : okB a b c d e f g h = false) : ofV a b c d e f g h = .tuple #[.agg #[.int .i64 0, .int .i64 0], .int .i64 4] := by simp [ofV, q]
theorem of_at (G : List Int) (hG : AllB G) (i : Nat) (w : World) :
    Calls Try.prog 9 #[agg8 (byD G (8 * i)) (byD G (8 * i + 1)) (byD G (8 * i + 2)) (byD G (8 * i + 3)) (byD G (8 * i + 4)) (byD G (8 * i + 5)) (byD G (8 * i + 6)) (byD G (8 * i + 7))] w fun e w' =>
      e = .returned (if okAt G i then .tuple #[.agg #[.int .i64 (kAt G i), .int .i64 (gAt G i)], .int .i64 0] else .tuple #[.agg #[.int .i64 0, .int .i64 0], .int .i64 4]) ∧ Below w.heap.size w w' :=
  of_any _ _ _ _ _ _ _ _ w (byD_lt hG _) (byD_lt hG _) (byD_lt hG _)
theorem inf25 : (Try.prog.info? 25).map (fun i => (i.zero, i.size, i.bytes)) = some (some (.agg #[.int .i64 0, .int .i64 0]), 2, 16) := by kernel_rfl
/-- Four entries in a row of one's own. -/
theorem owns_E4 {w : World} {base : Nat} {v : Value} {G : List Int} (h : w.ownsRow base 25 2 v 4 (pv G 4)) :
    ∃ (b cap : Nat), v = .slice (some ⟨b, 0, none⟩) 4 cap ∧ base ≤ b ∧ E4 w b 0 (kAt G 0) (gAt G 0) (kAt G 1) (gAt G 1) (kAt G 2) (gAt G 2) (kAt G 3) (gAt G 3) := by
  obtain ⟨_, ⟨_, hz⟩ | ⟨b, cap, cur, rfl, hge, hrow, hle, _, hsz, htake⟩⟩ := h
  · omega
  · have key : ∀ j u, (pv G 4)[j]? = some u → w.cell? ⟨b, j, none⟩ = some u := fun j u hj => by
      have hj8 : j < 8 := by
        have := (List.getElem?_eq_some_iff.1 hj).1
        rw [pv_len] at this
        omega
      rw [cell_of_row w b j cur 25 (0, 0) hrow]
      have := congrArg (fun l => l[j]?) htake
      simp only [List.getElem?_take, show j < 4 * 2 by omega, if_true] at this
      rw [← Array.getElem?_toList, this, hj]
    exact ⟨b, cap, rfl, hge, (Array.getElem?_eq_some_iff.1 hrow).1, key 0 _ rfl, by simpa using key 1 _ rfl, by simpa using key 2 _ rfl, by simpa using key 3 _ rfl, by simpa using key 4 _ rfl, by simpa using key 5 _ rfl, by simpa using key 6 _ rfl, by simpa using key 7 _ rfl⟩

theorem arr22 (a : Option Addr) (c : Nat) (w : World) : (Instr.arrayAt 22 (.slice a 8 c)).run Try.prog w = .ok (.pointer a) w := by
  simp [Instr.arrayAt, run_underlying Try.underlying22]
attribute [local go_sem] arr22
theorem own_ne {w : World} {N n : Nat} {v : Value} {L : List Value} (h : w.ownsRow (N + 1) 25 2 v n L) : some N ≠ v.ownBlock := by
  obtain ⟨_, ⟨rfl, _⟩ | ⟨b, cap, cur, rfl, hge, _⟩⟩ := h <;> simp [Value.ownBlock]
  omega
theorem own_ge {w : World} {N n : Nat} {v : Value} {L : List Value} (h : w.ownsRow (N + 1) 25 2 v n L) {q : Nat} (hq : v.ownBlock = some q) : N ≤ q := by
  obtain ⟨_, ⟨rfl, _⟩ | ⟨b, cap, cur, rfl, hge, _⟩⟩ := h <;> simp [Value.ownBlock] at hq
  omega
theorem owns_below {w w' : World} {base n : Nat} {v : Value} {L : List Value} (h : w.ownsRow base 25 2 v n L) (hb : Below w.heap.size w w') : w'.ownsRow base 25 2 v n L := by
  obtain ⟨hl, hn | ⟨b, cap, cur, hv, hge, hrow, hr⟩⟩ := h
  · exact ⟨hl, .inl hn⟩
  · exact ⟨hl, .inr ⟨b, cap, cur, hv, hge, (hb.block _ (Array.getElem?_eq_some_iff.1 hrow).1).trans hrow, hr⟩⟩

set_option maxHeartbeats 4000000 in
set_option maxRecDepth 100000 in
theorem un_all (G : List Int) (w : World) (hl : G.length = 128) (hG : AllB G) (hok : ∀ i, i < 4 → okAt G i = true) :
    Calls Try.prog 35 #[.agg (bytesV G).toArray] w fun e w' => (∃ v : Value, (tabN (kAt G 0) (gAt G 0) (kAt G 1) (gAt G 1) (kAt G 2) (gAt G 2) (kAt G 3) (gAt G 3) 4 = G → e = .returned (.tuple #[v, .int .i64 0]) ∧ w'.ownsRow (w.heap.size + 1) 25 2 v 4 (pv G 4)) ∧ (tabN (kAt G 0) (gAt G 0) (kAt G 1) (gAt G 1) (kAt G 2) (gAt G 2) (kAt G 3) (gAt G 3) 4 ≠ G → e = .returned (.tuple #[.slice none 0 0, .int .i64 4]))) ∧ Below w.heap.size w w' := by
  obtain ⟨i0, hi, hz0, hz1, hz2⟩ := info_parts inf25
  have B1 : Below w.heap.size w (w.alloc (.cells (bytesV G).toArray 49)) := (Below.refl _ _).alloc (Nat.le_refl _) _
  have R1 : Hid (BytesAt (w.alloc (.cells (bytesV G).toArray 49)) w.heap.size 49 G) := heap_here rfl
  have HB := Lib.hid B1
  have HG := Lib.hid hG
  have HL := Lib.hid hl
  have HOK := Lib.hid hok
  clear B1 hG hl hok
  go_enter Try.func35, Try.ntmps35
  go_wp2_with fail
  go_loopw [4, 10] (fun v i wr => ∃ k : Nat, k ≤ 4 ∧ i = .int .i64 k ∧ wr.ownsRow (w.heap.size + 1) 25 2 v k (pv G k) ∧ BytesAt wr w.heap.size 49 G ∧ Below w.heap.size w wr) (fun _ i _ => 4 - (intOf i).toNat)
  case atStart => exact ⟨0, Nat.zero_le _, rfl, World.ownsRow_nil _ _ _ _, R1.out, HB.out⟩
  case round =>
    obtain ⟨k, hk, rfl, hown, hr, hb⟩ := hrel
    clear R1 HB
    have hlt := hr.lt
    have R1 := Lib.hid hr
    have HB := Lib.hid hb
    have HO := Lib.hid hown
    clear hr hb hown
    rcases (show k = 0 ∨ k = 1 ∨ k = 2 ∨ k = 3 ∨ k = 4 by omega) with rfl | rfl | rfl | rfl | rfl
    · have d0 := byD_cell R1.out (8 * 0 + 0) (by rw [HL.out]; omega)
      have d1 := byD_cell R1.out (8 * 0 + 1) (by rw [HL.out]; omega)
      have d2 := byD_cell R1.out (8 * 0 + 2) (by rw [HL.out]; omega)
      have d3 := byD_cell R1.out (8 * 0 + 3) (by rw [HL.out]; omega)
      have d4 := byD_cell R1.out (8 * 0 + 4) (by rw [HL.out]; omega)
      have d5 := byD_cell R1.out (8 * 0 + 5) (by rw [HL.out]; omega)
      have d6 := byD_cell R1.out (8 * 0 + 6) (by rw [HL.out]; omega)
      have d7 := byD_cell R1.out (8 * 0 + 7) (by rw [HL.out]; omega)
      have hok := HOK.out 0 (by omega)
      have hof := of_at G HG.out 0
      rw [hok] at hof
      simp only [Nat.mul_zero, Nat.mul_one, Nat.reduceMul, Nat.reduceAdd, Nat.zero_add, Nat.add_zero, if_true] at d0 d1 d2 d3 d4 d5 d6 d7 hof
      have HOF := Lib.hid hof
      clear hof hok
      go_wp2_with (first | (go_at_call 9; refine (HOF.out _).mono ?_; rintro e w1 ⟨rfl, b1⟩) | (at_builtin; go_loud (refine wpList_append_own _ rfl _ _ 47 rfl (w.heap.size + 1) 25 i0 (.agg #[.int .i64 0, .int .i64 0]) 2 16 Try.underlying47 hi hz0 hz1 hz2 rfl (by decide) _ _ _ rfl (owns_below HO.out ((b1.alloc b1.size _).alloc (by have := b1.size; simp; omega) _)) ⟨w1.heap.size + 1, 0, none⟩ 1 1 [.int .i64 (kAt G 0), .int .i64 (gAt G 0)] rfl rfl ?c1 ?c2 ?c3 ?c4 ?c5 ?_)))
      case c1 => exact World.news_of_block (heap_here (by simp))
      case c2 => intro u hu; simp at hu; rcases hu with rfl | rfl <;> rfl
      case c3 => unfold maxLen; omega
      case c4 => omega
      case c5 => have := b1.size; simp; omega
      intro v' w2 hown' hgrow _
      have hn' : w2.ownsRow (w.heap.size + 1) 25 2 v' 1 (pv G 1) := by rw [pv_succ]; simpa using hown'
      have bW : Below wr.heap.size wr ((w1.alloc (.cells #[.int .i64 (kAt G 0), .int .i64 (gAt G 0)] 25)).alloc (.cells #[.int .i64 (kAt G 0), .int .i64 (gAt G 0)] 25)) := (b1.alloc b1.size _).alloc (by have := b1.size; simp; omega) _
      have hne : some w.heap.size ≠ u4.ownBlock := own_ne HO.out
      have hr' : BytesAt w2 w.heap.size 49 G := (R1.out.below bW).grown hgrow hne
      have hb' : Below w.heap.size w w2 := (HB.out.trans (bW.mono HB.out.size)).grown hgrow (by have := bW.size; have := HB.out.size; omega) (fun q hq => own_ge HO.out hq)
      clear hown' hgrow bW b1 d0 d1 d2 d3 d4 d5 d6 d7
      go_wp2_with fail
      go_roundw
      case rel => exact ⟨1, by omega, by go_num, hn', hr', hb'⟩
      case measure => simp [intOf]
    · have d0 := byD_cell R1.out (8 * 1 + 0) (by rw [HL.out]; omega)
      have d1 := byD_cell R1.out (8 * 1 + 1) (by rw [HL.out]; omega)
      have d2 := byD_cell R1.out (8 * 1 + 2) (by rw [HL.out]; omega)
      have d3 := byD_cell R1.out (8 * 1 + 3) (by rw [HL.out]; omega)
      have d4 := byD_cell R1.out (8 * 1 + 4) (by rw [HL.out]; omega)
      have d5 := byD_cell R1.out (8 * 1 + 5) (by rw [HL.out]; omega)
      have d6 := byD_cell R1.out (8 * 1 + 6) (by rw [HL.out]; omega)
      have d7 := byD_cell R1.out (8 * 1 + 7) (by rw [HL.out]; omega)
      have hok := HOK.out 1 (by omega)
      have hof := of_at G HG.out 1
      rw [hok] at hof
      simp only [Nat.mul_zero, Nat.mul_one, Nat.reduceMul, Nat.reduceAdd, Nat.zero_add, Nat.add_zero, if_true] at d0 d1 d2 d3 d4 d5 d6 d7 hof
      have HOF := Lib.hid hof
      clear hof hok
      go_wp2_with (first | (go_at_call 9; refine (HOF.out _).mono ?_; rintro e w1 ⟨rfl, b1⟩) | (at_builtin; go_loud (refine wpList_append_own _ rfl _ _ 47 rfl (w.heap.size + 1) 25 i0 (.agg #[.int .i64 0, .int .i64 0]) 2 16 Try.underlying47 hi hz0 hz1 hz2 rfl (by decide) _ _ _ rfl (owns_below HO.out ((b1.alloc b1.size _).alloc (by have := b1.size; simp; omega) _)) ⟨w1.heap.size + 1, 0, none⟩ 1 1 [.int .i64 (kAt G 1), .int .i64 (gAt G 1)] rfl rfl ?c1 ?c2 ?c3 ?c4 ?c5 ?_)))
      case c1 => exact World.news_of_block (heap_here (by simp))
      case c2 => intro u hu; simp at hu; rcases hu with rfl | rfl <;> rfl
      case c3 => unfold maxLen; omega
      case c4 => omega
      case c5 => have := b1.size; simp; omega
      intro v' w2 hown' hgrow _
      have hn' : w2.ownsRow (w.heap.size + 1) 25 2 v' 2 (pv G 2) := by rw [pv_succ]; simpa using hown'
      have bW : Below wr.heap.size wr ((w1.alloc (.cells #[.int .i64 (kAt G 1), .int .i64 (gAt G 1)] 25)).alloc (.cells #[.int .i64 (kAt G 1), .int .i64 (gAt G 1)] 25)) := (b1.alloc b1.size _).alloc (by have := b1.size; simp; omega) _
      have hne : some w.heap.size ≠ u4.ownBlock := own_ne HO.out
      have hr' : BytesAt w2 w.heap.size 49 G := (R1.out.below bW).grown hgrow hne
      have hb' : Below w.heap.size w w2 := (HB.out.trans (bW.mono HB.out.size)).grown hgrow (by have := bW.size; have := HB.out.size; omega) (fun q hq => own_ge HO.out hq)
      clear hown' hgrow bW b1 d0 d1 d2 d3 d4 d5 d6 d7
      go_wp2_with fail
      go_roundw
      case rel => exact ⟨2, by omega, by go_num, hn', hr', hb'⟩
      case measure => simp [intOf]
    · have d0 := byD_cell R1.out (8 * 2 + 0) (by rw [HL.out]; omega)
      have d1 := byD_cell R1.out (8 * 2 + 1) (by rw [HL.out]; omega)
      have d2 := byD_cell R1.out (8 * 2 + 2) (by rw [HL.out]; omega)
      have d3 := byD_cell R1.out (8 * 2 + 3) (by rw [HL.out]; omega)
      have d4 := byD_cell R1.out (8 * 2 + 4) (by rw [HL.out]; omega)
      have d5 := byD_cell R1.out (8 * 2 + 5) (by rw [HL.out]; omega)
      have d6 := byD_cell R1.out (8 * 2 + 6) (by rw [HL.out]; omega)
      have d7 := byD_cell R1.out (8 * 2 + 7) (by rw [HL.out]; omega)
      have hok := HOK.out 2 (by omega)
      have hof := of_at G HG.out 2
      rw [hok] at hof
      simp only [Nat.mul_zero, Nat.mul_one, Nat.reduceMul, Nat.reduceAdd, Nat.zero_add, Nat.add_zero, if_true] at d0 d1 d2 d3 d4 d5 d6 d7 hof
      have HOF := Lib.hid hof
      clear hof hok
      go_wp2_with (first | (go_at_call 9; refine (HOF.out _).mono ?_; rintro e w1 ⟨rfl, b1⟩) | (at_builtin; go_loud (refine wpList_append_own _ rfl _ _ 47 rfl (w.heap.size + 1) 25 i0 (.agg #[.int .i64 0, .int .i64 0]) 2 16 Try.underlying47 hi hz0 hz1 hz2 rfl (by decide) _ _ _ rfl (owns_below HO.out ((b1.alloc b1.size _).alloc (by have := b1.size; simp; omega) _)) ⟨w1.heap.size + 1, 0, none⟩ 1 1 [.int .i64 (kAt G 2), .int .i64 (gAt G 2)] rfl rfl ?c1 ?c2 ?c3 ?c4 ?c5 ?_)))
      case c1 => exact World.news_of_block (heap_here (by simp))
      case c2 => intro u hu; simp at hu; rcases hu with rfl | rfl <;> rfl
      case c3 => unfold maxLen; omega
      case c4 => omega
      case c5 => have := b1.size; simp; omega
      intro v' w2 hown' hgrow _
      have hn' : w2.ownsRow (w.heap.size + 1) 25 2 v' 3 (pv G 3) := by rw [pv_succ]; simpa using hown'
      have bW : Below wr.heap.size wr ((w1.alloc (.cells #[.int .i64 (kAt G 2), .int .i64 (gAt G 2)] 25)).alloc (.cells #[.int .i64 (kAt G 2), .int .i64 (gAt G 2)] 25)) := (b1.alloc b1.size _).alloc (by have := b1.size; simp; omega) _
      have hne : some w.heap.size ≠ u4.ownBlock := own_ne HO.out
      have hr' : BytesAt w2 w.heap.size 49 G := (R1.out.below bW).grown hgrow hne
      have hb' : Below w.heap.size w w2 := (HB.out.trans (bW.mono HB.out.size)).grown hgrow (by have := bW.size; have := HB.out.size; omega) (fun q hq => own_ge HO.out hq)
      clear hown' hgrow bW b1 d0 d1 d2 d3 d4 d5 d6 d7
      go_wp2_with fail
      go_roundw
      case rel => exact ⟨3, by omega, by go_num, hn', hr', hb'⟩
      case measure => simp [intOf]
    · have d0 := byD_cell R1.out (8 * 3 + 0) (by rw [HL.out]; omega)
      have d1 := byD_cell R1.out (8 * 3 + 1) (by rw [HL.out]; omega)
      have d2 := byD_cell R1.out (8 * 3 + 2) (by rw [HL.out]; omega)
      have d3 := byD_cell R1.out (8 * 3 + 3) (by rw [HL.out]; omega)
      have d4 := byD_cell R1.out (8 * 3 + 4) (by rw [HL.out]; omega)
      have d5 := byD_cell R1.out (8 * 3 + 5) (by rw [HL.out]; omega)
      have d6 := byD_cell R1.out (8 * 3 + 6) (by rw [HL.out]; omega)
      have d7 := byD_cell R1.out (8 * 3 + 7) (by rw [HL.out]; omega)
      have hok := HOK.out 3 (by omega)
      have hof := of_at G HG.out 3
      rw [hok] at hof
      simp only [Nat.mul_zero, Nat.mul_one, Nat.reduceMul, Nat.reduceAdd, Nat.zero_add, Nat.add_zero, if_true] at d0 d1 d2 d3 d4 d5 d6 d7 hof
      have HOF := Lib.hid hof
      clear hof hok
      go_wp2_with (first | (go_at_call 9; refine (HOF.out _).mono ?_; rintro e w1 ⟨rfl, b1⟩) | (at_builtin; go_loud (refine wpList_append_own _ rfl _ _ 47 rfl (w.heap.size + 1) 25 i0 (.agg #[.int .i64 0, .int .i64 0]) 2 16 Try.underlying47 hi hz0 hz1 hz2 rfl (by decide) _ _ _ rfl (owns_below HO.out ((b1.alloc b1.size _).alloc (by have := b1.size; simp; omega) _)) ⟨w1.heap.size + 1, 0, none⟩ 1 1 [.int .i64 (kAt G 3), .int .i64 (gAt G 3)] rfl rfl ?c1 ?c2 ?c3 ?c4 ?c5 ?_)))
      case c1 => exact World.news_of_block (heap_here (by simp))
      case c2 => intro u hu; simp at hu; rcases hu with rfl | rfl <;> rfl
      case c3 => unfold maxLen; omega
      case c4 => omega
      case c5 => have := b1.size; simp; omega
      intro v' w2 hown' hgrow _
      have hn' : w2.ownsRow (w.heap.size + 1) 25 2 v' 4 (pv G 4) := by rw [pv_succ]; simpa using hown'
      have bW : Below wr.heap.size wr ((w1.alloc (.cells #[.int .i64 (kAt G 3), .int .i64 (gAt G 3)] 25)).alloc (.cells #[.int .i64 (kAt G 3), .int .i64 (gAt G 3)] 25)) := (b1.alloc b1.size _).alloc (by have := b1.size; simp; omega) _
      have hne : some w.heap.size ≠ u4.ownBlock := own_ne HO.out
      have hr' : BytesAt w2 w.heap.size 49 G := (R1.out.below bW).grown hgrow hne
      have hb' : Below w.heap.size w w2 := (HB.out.trans (bW.mono HB.out.size)).grown hgrow (by have := bW.size; have := HB.out.size; omega) (fun q hq => own_ge HO.out hq)
      clear hown' hgrow bW b1 d0 d1 d2 d3 d4 d5 d6 d7
      go_wp2_with fail
      go_roundw
      case rel => exact ⟨4, by omega, by go_num, hn', hr', hb'⟩
      case measure => simp [intOf]
    · obtain ⟨tb, tc, rfl, hge, he⟩ := owns_E4 HO.out
      have HE := Lib.hid he
      have hm0 := ok_may (HOK.out 0 (by omega))
      have hm1 := ok_may (HOK.out 1 (by omega))
      have hm2 := ok_may (HOK.out 2 (by omega))
      have hm3 := ok_may (HOK.out 3 (by omega))
      have HT := Lib.hid (fun c w' (h : E4 w' tb 0 (kAt G 0) (gAt G 0) (kAt G 1) (gAt G 1) (kAt G 2) (gAt G 2) (kAt G 3) (gAt G 3)) => tb_yes tb 0 c _ _ _ _ _ _ _ _ w' h hm0 hm1 hm2 hm3)
      obtain ⟨TT, hTT⟩ : ∃ TT, TT = tabN (kAt G 0) (gAt G 0) (kAt G 1) (gAt G 1) (kAt G 2) (gAt G 2) (kAt G 3) (gAt G 3) 4 := ⟨_, rfl⟩
      have hTl : TT.length = 128 := by rw [hTT]; exact tabN_len _ _ _ _ _ _ _ _ 4
      have heq := eqB TT G hTl HL.out
      rw [← hTT] at HT
      have HTL := Lib.hid hTl
      have HTT := Lib.hid hTT
      clear hTT he hm0 hm1 hm2 hm3 hge hTl
      by_cases htg : TT = G
      · have hd : decide (TT = G) = true := decide_eq_true htg
        rw [hd] at heq
        have HTG := Lib.hid htg
        clear hd htg
        go_wp2_with (first | (go_at_call 32; refine (HT.out _ _ HE.out).mono ?_; rintro e w1 ⟨rfl, b1⟩; have hst := st_new w1 zeroB TT zlen HTL.out; have hln : (bytesV TT).length = 128 := (by rw [bytesV_len, HTL.out]); have a1 : Below wr.heap.size wr (w1.alloc (.cells (bytesV TT).toArray 49)) := b1.alloc b1.size _; have HR := Lib.hid (rng_row (show BytesAt (w1.alloc (.cells (bytesV TT).toArray 49)) w1.heap.size 49 TT from heap_here rfl)); have HR1 := Lib.hid (rng_row (R1.out.below a1)); have HO1 := Lib.hid (owns_below HO.out a1); have HB1 := Lib.hid (HB.out.trans (a1.mono HB.out.size)); clear a1 b1) | (refine wpList_ld rfl (.tmp 8) rfl w1.heap.size 0 TT rfl HTL.out HR.out ?_) | (refine wpList_ld rfl (.tmp 1) rfl w.heap.size 0 G rfl HL.out HR1.out ?_))
        go_ret2
        refine ⟨⟨_, fun _ => ⟨rfl, HO1.out⟩, fun hne => absurd (HTT.out.symm.trans HTG.out) hne⟩, HB1.out⟩
      · have hd : decide (TT = G) = false := decide_eq_false htg
        rw [hd] at heq
        have HTG := Lib.hid htg
        clear hd htg
        go_wp2_with (first | (go_at_call 32; refine (HT.out _ _ HE.out).mono ?_; rintro e w1 ⟨rfl, b1⟩; have hst := st_new w1 zeroB TT zlen HTL.out; have hln : (bytesV TT).length = 128 := (by rw [bytesV_len, HTL.out]); have a1 : Below wr.heap.size wr (w1.alloc (.cells (bytesV TT).toArray 49)) := b1.alloc b1.size _; have HR := Lib.hid (rng_row (show BytesAt (w1.alloc (.cells (bytesV TT).toArray 49)) w1.heap.size 49 TT from heap_here rfl)); have HR1 := Lib.hid (rng_row (R1.out.below a1)); have HO1 := Lib.hid (owns_below HO.out a1); have HB1 := Lib.hid (HB.out.trans (a1.mono HB.out.size)); clear a1 b1) | (refine wpList_ld rfl (.tmp 8) rfl w1.heap.size 0 TT rfl HTL.out HR.out ?_) | (refine wpList_ld rfl (.tmp 1) rfl w.heap.size 0 G rfl HL.out HR1.out ?_))
        go_ret2
        refine ⟨⟨.bool true, fun he => absurd (HTT.out.trans he) HTG.out, fun _ => rfl⟩, HB1.out⟩

set_option maxHeartbeats 4000000 in
set_option maxRecDepth 100000 in
theorem un_bad (G : List Int) (w : World) (hl : G.length = 128) (hG : AllB G) (hok : ∃ i, i < 4 ∧ okAt G i = false) :
    Calls Try.prog 35 #[.agg (bytesV G).toArray] w fun e w' => e = .returned (.tuple #[.slice none 0 0, .int .i64 4]) ∧ Below w.heap.size w w' := by
  obtain ⟨i0, hi, hz0, hz1, hz2⟩ := info_parts inf25
  have B1 : Below w.heap.size w (w.alloc (.cells (bytesV G).toArray 49)) := (Below.refl _ _).alloc (Nat.le_refl _) _
  have R1 : Hid (BytesAt (w.alloc (.cells (bytesV G).toArray 49)) w.heap.size 49 G) := heap_here rfl
  have HB := Lib.hid B1
  have HG := Lib.hid hG
  have HL := Lib.hid hl
  have HOK := Lib.hid hok
  clear B1 hG hl hok
  go_enter Try.func35, Try.ntmps35
  go_wp2_with fail
  go_loopw [4, 10] (fun v i wr => ∃ k : Nat, k ≤ 4 ∧ i = .int .i64 k ∧ (∀ i, i < k → okAt G i = true) ∧ wr.ownsRow (w.heap.size + 1) 25 2 v k (pv G k) ∧ BytesAt wr w.heap.size 49 G ∧ Below w.heap.size w wr) (fun _ i _ => 4 - (intOf i).toNat)
  case atStart => exact ⟨0, Nat.zero_le _, rfl, fun i h => by omega, World.ownsRow_nil _ _ _ _, R1.out, HB.out⟩
  case round =>
    obtain ⟨k, hk, rfl, hall, hown, hr, hb⟩ := hrel
    have HALL := Lib.hid hall
    clear hall
    clear R1 HB
    have hlt := hr.lt
    have R1 := Lib.hid hr
    have HB := Lib.hid hb
    have HO := Lib.hid hown
    clear hr hb hown
    rcases (show k = 0 ∨ k = 1 ∨ k = 2 ∨ k = 3 ∨ k = 4 by omega) with rfl | rfl | rfl | rfl | rfl
    · have d0 := byD_cell R1.out (8 * 0 + 0) (by rw [HL.out]; omega)
      have d1 := byD_cell R1.out (8 * 0 + 1) (by rw [HL.out]; omega)
      have d2 := byD_cell R1.out (8 * 0 + 2) (by rw [HL.out]; omega)
      have d3 := byD_cell R1.out (8 * 0 + 3) (by rw [HL.out]; omega)
      have d4 := byD_cell R1.out (8 * 0 + 4) (by rw [HL.out]; omega)
      have d5 := byD_cell R1.out (8 * 0 + 5) (by rw [HL.out]; omega)
      have d6 := byD_cell R1.out (8 * 0 + 6) (by rw [HL.out]; omega)
      have d7 := byD_cell R1.out (8 * 0 + 7) (by rw [HL.out]; omega)
      have hof := of_at G HG.out 0
      cases hok : okAt G 0
      · rw [hok] at hof
        simp only [Nat.mul_zero, Nat.mul_one, Nat.reduceMul, Nat.reduceAdd, Nat.zero_add, Nat.add_zero, Bool.false_eq_true, if_false] at d0 d1 d2 d3 d4 d5 d6 d7 hof
        have HOF := Lib.hid hof
        clear hof hok
        go_wp2_with (first | (go_at_call 9; refine (HOF.out _).mono ?_; rintro e w1 ⟨rfl, b1⟩))
        go_ret2
        exact ⟨rfl, (HB.out.trans (b1.mono HB.out.size)).alloc (by have := b1.size; have := HB.out.size; omega) _⟩
      · have hall' : ∀ i, i < 1 → okAt G i = true := fun i hi' => by
          rcases (show i < 0 ∨ i = 0 by omega) with h | rfl
          · exact HALL.out i h
          · exact hok
        rw [hok] at hof
        simp only [Nat.mul_zero, Nat.mul_one, Nat.reduceMul, Nat.reduceAdd, Nat.zero_add, Nat.add_zero, if_true] at d0 d1 d2 d3 d4 d5 d6 d7 hof
        have HOF := Lib.hid hof
        clear hof hok
        go_wp2_with (first | (go_at_call 9; refine (HOF.out _).mono ?_; rintro e w1 ⟨rfl, b1⟩) | (at_builtin; go_loud (refine wpList_append_own _ rfl _ _ 47 rfl (w.heap.size + 1) 25 i0 (.agg #[.int .i64 0, .int .i64 0]) 2 16 Try.underlying47 hi hz0 hz1 hz2 rfl (by decide) _ _ _ rfl (owns_below HO.out ((b1.alloc b1.size _).alloc (by have := b1.size; simp; omega) _)) ⟨w1.heap.size + 1, 0, none⟩ 1 1 [.int .i64 (kAt G 0), .int .i64 (gAt G 0)] rfl rfl ?c1 ?c2 ?c3 ?c4 ?c5 ?_)))
        case c1 => exact World.news_of_block (heap_here (by simp))
        case c2 => intro u hu; simp at hu; rcases hu with rfl | rfl <;> rfl
        case c3 => unfold maxLen; omega
        case c4 => omega
        case c5 => have := b1.size; simp; omega
        intro v' w2 hown' hgrow _
        have hn' : w2.ownsRow (w.heap.size + 1) 25 2 v' 1 (pv G 1) := by rw [pv_succ]; simpa using hown'
        have bW : Below wr.heap.size wr ((w1.alloc (.cells #[.int .i64 (kAt G 0), .int .i64 (gAt G 0)] 25)).alloc (.cells #[.int .i64 (kAt G 0), .int .i64 (gAt G 0)] 25)) := (b1.alloc b1.size _).alloc (by have := b1.size; simp; omega) _
        have hne : some w.heap.size ≠ u4.ownBlock := own_ne HO.out
        have hr' : BytesAt w2 w.heap.size 49 G := (R1.out.below bW).grown hgrow hne
        have hb' : Below w.heap.size w w2 := (HB.out.trans (bW.mono HB.out.size)).grown hgrow (by have := bW.size; have := HB.out.size; omega) (fun q hq => own_ge HO.out hq)
        clear hown' hgrow bW b1 d0 d1 d2 d3 d4 d5 d6 d7
        go_wp2_with fail
        go_roundw
        case rel => exact ⟨1, by omega, by go_num, hall', hn', hr', hb'⟩
        case measure => simp [intOf]
    · have d0 := byD_cell R1.out (8 * 1 + 0) (by rw [HL.out]; omega)
      have d1 := byD_cell R1.out (8 * 1 + 1) (by rw [HL.out]; omega)
      have d2 := byD_cell R1.out (8 * 1 + 2) (by rw [HL.out]; omega)
      have d3 := byD_cell R1.out (8 * 1 + 3) (by rw [HL.out]; omega)
      have d4 := byD_cell R1.out (8 * 1 + 4) (by rw [HL.out]; omega)
      have d5 := byD_cell R1.out (8 * 1 + 5) (by rw [HL.out]; omega)
      have d6 := byD_cell R1.out (8 * 1 + 6) (by rw [HL.out]; omega)
      have d7 := byD_cell R1.out (8 * 1 + 7) (by rw [HL.out]; omega)
      have hof := of_at G HG.out 1
      cases hok : okAt G 1
      · rw [hok] at hof
        simp only [Nat.mul_zero, Nat.mul_one, Nat.reduceMul, Nat.reduceAdd, Nat.zero_add, Nat.add_zero, Bool.false_eq_true, if_false] at d0 d1 d2 d3 d4 d5 d6 d7 hof
        have HOF := Lib.hid hof
        clear hof hok
        go_wp2_with (first | (go_at_call 9; refine (HOF.out _).mono ?_; rintro e w1 ⟨rfl, b1⟩))
        go_ret2
        exact ⟨rfl, (HB.out.trans (b1.mono HB.out.size)).alloc (by have := b1.size; have := HB.out.size; omega) _⟩
      · have hall' : ∀ i, i < 2 → okAt G i = true := fun i hi' => by
          rcases (show i < 1 ∨ i = 1 by omega) with h | rfl
          · exact HALL.out i h
          · exact hok
        rw [hok] at hof
        simp only [Nat.mul_zero, Nat.mul_one, Nat.reduceMul, Nat.reduceAdd, Nat.zero_add, Nat.add_zero, if_true] at d0 d1 d2 d3 d4 d5 d6 d7 hof
        have HOF := Lib.hid hof
        clear hof hok
        go_wp2_with (first | (go_at_call 9; refine (HOF.out _).mono ?_; rintro e w1 ⟨rfl, b1⟩) | (at_builtin; go_loud (refine wpList_append_own _ rfl _ _ 47 rfl (w.heap.size + 1) 25 i0 (.agg #[.int .i64 0, .int .i64 0]) 2 16 Try.underlying47 hi hz0 hz1 hz2 rfl (by decide) _ _ _ rfl (owns_below HO.out ((b1.alloc b1.size _).alloc (by have := b1.size; simp; omega) _)) ⟨w1.heap.size + 1, 0, none⟩ 1 1 [.int .i64 (kAt G 1), .int .i64 (gAt G 1)] rfl rfl ?c1 ?c2 ?c3 ?c4 ?c5 ?_)))
        case c1 => exact World.news_of_block (heap_here (by simp))
        case c2 => intro u hu; simp at hu; rcases hu with rfl | rfl <;> rfl
        case c3 => unfold maxLen; omega
        case c4 => omega
        case c5 => have := b1.size; simp; omega
        intro v' w2 hown' hgrow _
        have hn' : w2.ownsRow (w.heap.size + 1) 25 2 v' 2 (pv G 2) := by rw [pv_succ]; simpa using hown'
        have bW : Below wr.heap.size wr ((w1.alloc (.cells #[.int .i64 (kAt G 1), .int .i64 (gAt G 1)] 25)).alloc (.cells #[.int .i64 (kAt G 1), .int .i64 (gAt G 1)] 25)) := (b1.alloc b1.size _).alloc (by have := b1.size; simp; omega) _
        have hne : some w.heap.size ≠ u4.ownBlock := own_ne HO.out
        have hr' : BytesAt w2 w.heap.size 49 G := (R1.out.below bW).grown hgrow hne
        have hb' : Below w.heap.size w w2 := (HB.out.trans (bW.mono HB.out.size)).grown hgrow (by have := bW.size; have := HB.out.size; omega) (fun q hq => own_ge HO.out hq)
        clear hown' hgrow bW b1 d0 d1 d2 d3 d4 d5 d6 d7
        go_wp2_with fail
        go_roundw
        case rel => exact ⟨2, by omega, by go_num, hall', hn', hr', hb'⟩
        case measure => simp [intOf]
    · have d0 := byD_cell R1.out (8 * 2 + 0) (by rw [HL.out]; omega)
      have d1 := byD_cell R1.out (8 * 2 + 1) (by rw [HL.out]; omega)
      have d2 := byD_cell R1.out (8 * 2 + 2) (by rw [HL.out]; omega)
      have d3 := byD_cell R1.out (8 * 2 + 3) (by rw [HL.out]; omega)
      have d4 := byD_cell R1.out (8 * 2 + 4) (by rw [HL.out]; omega)
      have d5 := byD_cell R1.out (8 * 2 + 5) (by rw [HL.out]; omega)
      have d6 := byD_cell R1.out (8 * 2 + 6) (by rw [HL.out]; omega)
      have d7 := byD_cell R1.out (8 * 2 + 7) (by rw [HL.out]; omega)
      have hof := of_at G HG.out 2
      cases hok : okAt G 2
      · rw [hok] at hof
        simp only [Nat.mul_zero, Nat.mul_one, Nat.reduceMul, Nat.reduceAdd, Nat.zero_add, Nat.add_zero, Bool.false_eq_true, if_false] at d0 d1 d2 d3 d4 d5 d6 d7 hof
        have HOF := Lib.hid hof
        clear hof hok
        go_wp2_with (first | (go_at_call 9; refine (HOF.out _).mono ?_; rintro e w1 ⟨rfl, b1⟩))
        go_ret2
        exact ⟨rfl, (HB.out.trans (b1.mono HB.out.size)).alloc (by have := b1.size; have := HB.out.size; omega) _⟩
      · have hall' : ∀ i, i < 3 → okAt G i = true := fun i hi' => by
          rcases (show i < 2 ∨ i = 2 by omega) with h | rfl
          · exact HALL.out i h
          · exact hok
        rw [hok] at hof
        simp only [Nat.mul_zero, Nat.mul_one, Nat.reduceMul, Nat.reduceAdd, Nat.zero_add, Nat.add_zero, if_true] at d0 d1 d2 d3 d4 d5 d6 d7 hof
        have HOF := Lib.hid hof
        clear hof hok
        go_wp2_with (first | (go_at_call 9; refine (HOF.out _).mono ?_; rintro e w1 ⟨rfl, b1⟩) | (at_builtin; go_loud (refine wpList_append_own _ rfl _ _ 47 rfl (w.heap.size + 1) 25 i0 (.agg #[.int .i64 0, .int .i64 0]) 2 16 Try.underlying47 hi hz0 hz1 hz2 rfl (by decide) _ _ _ rfl (owns_below HO.out ((b1.alloc b1.size _).alloc (by have := b1.size; simp; omega) _)) ⟨w1.heap.size + 1, 0, none⟩ 1 1 [.int .i64 (kAt G 2), .int .i64 (gAt G 2)] rfl rfl ?c1 ?c2 ?c3 ?c4 ?c5 ?_)))
        case c1 => exact World.news_of_block (heap_here (by simp))
        case c2 => intro u hu; simp at hu; rcases hu with rfl | rfl <;> rfl
        case c3 => unfold maxLen; omega
        case c4 => omega
        case c5 => have := b1.size; simp; omega
        intro v' w2 hown' hgrow _
        have hn' : w2.ownsRow (w.heap.size + 1) 25 2 v' 3 (pv G 3) := by rw [pv_succ]; simpa using hown'
        have bW : Below wr.heap.size wr ((w1.alloc (.cells #[.int .i64 (kAt G 2), .int .i64 (gAt G 2)] 25)).alloc (.cells #[.int .i64 (kAt G 2), .int .i64 (gAt G 2)] 25)) := (b1.alloc b1.size _).alloc (by have := b1.size; simp; omega) _
        have hne : some w.heap.size ≠ u4.ownBlock := own_ne HO.out
        have hr' : BytesAt w2 w.heap.size 49 G := (R1.out.below bW).grown hgrow hne
        have hb' : Below w.heap.size w w2 := (HB.out.trans (bW.mono HB.out.size)).grown hgrow (by have := bW.size; have := HB.out.size; omega) (fun q hq => own_ge HO.out hq)
        clear hown' hgrow bW b1 d0 d1 d2 d3 d4 d5 d6 d7
        go_wp2_with fail
        go_roundw
        case rel => exact ⟨3, by omega, by go_num, hall', hn', hr', hb'⟩
        case measure => simp [intOf]
    · have d0 := byD_cell R1.out (8 * 3 + 0) (by rw [HL.out]; omega)
      have d1 := byD_cell R1.out (8 * 3 + 1) (by rw [HL.out]; omega)
      have d2 := byD_cell R1.out (8 * 3 + 2) (by rw [HL.out]; omega)
      have d3 := byD_cell R1.out (8 * 3 + 3) (by rw [HL.out]; omega)
      have d4 := byD_cell R1.out (8 * 3 + 4) (by rw [HL.out]; omega)
      have d5 := byD_cell R1.out (8 * 3 + 5) (by rw [HL.out]; omega)
      have d6 := byD_cell R1.out (8 * 3 + 6) (by rw [HL.out]; omega)
      have d7 := byD_cell R1.out (8 * 3 + 7) (by rw [HL.out]; omega)
      have hof := of_at G HG.out 3
      cases hok : okAt G 3
      · rw [hok] at hof
        simp only [Nat.mul_zero, Nat.mul_one, Nat.reduceMul, Nat.reduceAdd, Nat.zero_add, Nat.add_zero, Bool.false_eq_true, if_false] at d0 d1 d2 d3 d4 d5 d6 d7 hof
        have HOF := Lib.hid hof
        clear hof hok
        go_wp2_with (first | (go_at_call 9; refine (HOF.out _).mono ?_; rintro e w1 ⟨rfl, b1⟩))
        go_ret2
        exact ⟨rfl, (HB.out.trans (b1.mono HB.out.size)).alloc (by have := b1.size; have := HB.out.size; omega) _⟩
      · have hall' : ∀ i, i < 4 → okAt G i = true := fun i hi' => by
          rcases (show i < 3 ∨ i = 3 by omega) with h | rfl
          · exact HALL.out i h
          · exact hok
        rw [hok] at hof
        simp only [Nat.mul_zero, Nat.mul_one, Nat.reduceMul, Nat.reduceAdd, Nat.zero_add, Nat.add_zero, if_true] at d0 d1 d2 d3 d4 d5 d6 d7 hof
        have HOF := Lib.hid hof
        clear hof hok
        go_wp2_with (first | (go_at_call 9; refine (HOF.out _).mono ?_; rintro e w1 ⟨rfl, b1⟩) | (at_builtin; go_loud (refine wpList_append_own _ rfl _ _ 47 rfl (w.heap.size + 1) 25 i0 (.agg #[.int .i64 0, .int .i64 0]) 2 16 Try.underlying47 hi hz0 hz1 hz2 rfl (by decide) _ _ _ rfl (owns_below HO.out ((b1.alloc b1.size _).alloc (by have := b1.size; simp; omega) _)) ⟨w1.heap.size + 1, 0, none⟩ 1 1 [.int .i64 (kAt G 3), .int .i64 (gAt G 3)] rfl rfl ?c1 ?c2 ?c3 ?c4 ?c5 ?_)))
        case c1 => exact World.news_of_block (heap_here (by simp))
        case c2 => intro u hu; simp at hu; rcases hu with rfl | rfl <;> rfl
        case c3 => unfold maxLen; omega
        case c4 => omega
        case c5 => have := b1.size; simp; omega
        intro v' w2 hown' hgrow _
        have hn' : w2.ownsRow (w.heap.size + 1) 25 2 v' 4 (pv G 4) := by rw [pv_succ]; simpa using hown'
        have bW : Below wr.heap.size wr ((w1.alloc (.cells #[.int .i64 (kAt G 3), .int .i64 (gAt G 3)] 25)).alloc (.cells #[.int .i64 (kAt G 3), .int .i64 (gAt G 3)] 25)) := (b1.alloc b1.size _).alloc (by have := b1.size; simp; omega) _
        have hne : some w.heap.size ≠ u4.ownBlock := own_ne HO.out
        have hr' : BytesAt w2 w.heap.size 49 G := (R1.out.below bW).grown hgrow hne
        have hb' : Below w.heap.size w w2 := (HB.out.trans (bW.mono HB.out.size)).grown hgrow (by have := bW.size; have := HB.out.size; omega) (fun q hq => own_ge HO.out hq)
        clear hown' hgrow bW b1 d0 d1 d2 d3 d4 d5 d6 d7
        go_wp2_with fail
        go_roundw
        case rel => exact ⟨4, by omega, by go_num, hall', hn', hr', hb'⟩
        case measure => simp [intOf]
    · obtain ⟨i, hi4, hbad⟩ := HOK.out
      have := HALL.out i hi4
      rw [this] at hbad
      cases hbad
end Go.Proofs.Ytjohobehhijbcaa
