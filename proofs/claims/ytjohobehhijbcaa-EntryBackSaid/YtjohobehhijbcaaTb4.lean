/- Contract: the reference's entries of a table (Untable). Conditions: those that each theorem states. -/
import Derived.Test.YtjohobehhijbcaaTb3
namespace Go.Proofs.Ytjohobehhijbcaa
open Go.ChangeShapes Go.WideShapes Go.ChangeAt Go.RowKit
set_option linter.unusedSimpArgs false
attribute [local go_sem] zeroV

theorem may_ok (a b c d e f g h : Int) (hb : 0 ≤ b ∧ b < 256) (hc : 0 ≤ c ∧ c < 256) (hd : 0 ≤ d ∧ d < 256) (he : 0 ≤ e ∧ e < 256) (hf : 0 ≤ f ∧ f < 256) (hg : 0 ≤ g ∧ g < 256) (hh : 0 ≤ h ∧ h < 256) :
    mayB a (b + 256 * (c + 256 * (d + 256 * (e + 256 * (f + 256 * (g + 256 * h)))))) = okB a b c d e f g h := by
  rw [Bool.eq_iff_iff, okB_iff, mayB_iff]
  constructor
  · rintro ⟨h1, h2, h3, h4, h5⟩
    refine ⟨⟨h1, h2, by omega, by omega, by omega⟩, by omega, by omega, by omega, by omega, by omega⟩
  · rintro ⟨⟨h1, h2, h3, h4, h5⟩, rfl, rfl, rfl, rfl, rfl⟩
    exact ⟨h1, h2, by omega, by omega, by omega⟩
theorem rof_at (G : List Int) (hG : AllB G) (i : Nat) (w : World) :
    Calls Try.prog 10 #[agg8 (byD G (8 * i)) (byD G (8 * i + 1)) (byD G (8 * i + 2)) (byD G (8 * i + 3)) (byD G (8 * i + 4)) (byD G (8 * i + 5)) (byD G (8 * i + 6)) (byD G (8 * i + 7))] w fun e w' =>
      e = .returned (.tuple #[if okAt G i then .agg #[.int .i64 (kAt G i), .int .i64 (gAt G i)] else .agg #[.int .i64 0, .int .i64 0], .bool (okAt G i)]) ∧ Below w.heap.size w w' := by
  have h0 := byD_lt hG (8 * i)
  have h1 := byD_lt hG (8 * i + 1)
  have h2 := byD_lt hG (8 * i + 2)
  have h3 := byD_lt hG (8 * i + 3)
  have h4 := byD_lt hG (8 * i + 4)
  have h5 := byD_lt hG (8 * i + 5)
  have h6 := byD_lt hG (8 * i + 6)
  have h7 := byD_lt hG (8 * i + 7)
  have hm := may_ok (byD G (8 * i)) _ _ _ _ _ _ _ h1 h2 h3 h4 h5 h6 h7
  have key := rof_any (byD G (8 * i)) _ _ _ _ _ _ _ w h0 h1 h2 h3 h4 h5 h6 h7 (byD G (8 * i + 1) + 256 * (byD G (8 * i + 2) + 256 * (byD G (8 * i + 3) + 256 * (byD G (8 * i + 4) + 256 * (byD G (8 * i + 5) + 256 * (byD G (8 * i + 6) + 256 * byD G (8 * i + 7))))))) (by omega) (by omega) rfl
  rw [hm] at key
  refine key.mono ?_
  rintro e w' ⟨rfl, hb⟩
  refine ⟨?_, hb⟩
  unfold okAt
  cases ho : okB (byD G (8 * i)) (byD G (8 * i + 1)) (byD G (8 * i + 2)) (byD G (8 * i + 3)) (byD G (8 * i + 4)) (byD G (8 * i + 5)) (byD G (8 * i + 6)) (byD G (8 * i + 7))
  · rfl
  · obtain ⟨_, e3, e4, e5, e6, e7⟩ := okB_iff.1 ho
    rw [e3, e4, e5, e6, e7]
    simp [kAt, gAt]
/-- Eight bytes of a list. -/
def by8 (G : List Int) (i : Nat) : List Int := [byD G (8 * i), byD G (8 * i + 1), byD G (8 * i + 2), byD G (8 * i + 3), byD G (8 * i + 4), byD G (8 * i + 5), byD G (8 * i + 6), byD G (8 * i + 7)]
theorem by8_get (G : List Int) (i j : Nat) (x : Int) (h : (by8 G i)[j]? = some x) (hi : i < 4) (hl : G.length = 128) : G[8 * i + j]? = some x := by
  have hj : j < 8 := (List.getElem?_eq_some_iff.1 h).1
  have e : ∀ m, 8 * i + m < 128 → G[8 * i + m]? = some (byD G (8 * i + m)) := fun m hm => by
    rw [byD, List.getD_eq_getElem?_getD, List.getElem?_eq_getElem (by omega)]; rfl
  rw [e j (by omega)]
  rcases (show j = 0 ∨ j = 1 ∨ j = 2 ∨ j = 3 ∨ j = 4 ∨ j = 5 ∨ j = 6 ∨ j = 7 by omega) with rfl | rfl | rfl | rfl | rfl | rfl | rfl | rfl <;> simpa [by8] using h
theorem by8_agg (G : List Int) (i : Nat) : agg8 (byD G (8 * i)) (byD G (8 * i + 1)) (byD G (8 * i + 2)) (byD G (8 * i + 3)) (byD G (8 * i + 4)) (byD G (8 * i + 5)) (byD G (8 * i + 6)) (byD G (8 * i + 7)) = .agg (bytesV (by8 G i)).toArray := rfl
def zero8 : List Int := [0, 0, 0, 0, 0, 0, 0, 0]
/-- Eight bytes are read as an array, at a plain region's list. -/
theorem wpList_ld8 {ops : Array Oper} {rest : List Oper} {op : Oper} {a : Act} {w : World} {Q : Exit → Act → World → Prop} (hgd : op.guard = none) (x : Operand) (ho : op.op = .load 22 x)
    (b o : Nat) (X : List Int) (hx : a.eval x = .pointer (some ⟨b, o, none⟩)) (hl : X.length = 8) (hr : w.rangeAt b o (bytesV X))
    (h : wpList Try.prog ops Q rest (a.put op.dst (.agg (bytesV X).toArray)) w) : wpList Try.prog ops Q (op :: rest) a w :=
  wpList_load_mid hgd 22 x ho b o hx (bytesV X) _ hr Try.underlying22 rfl (by rw [size22, bytesV_len, hl]) h

set_option maxHeartbeats 8000000 in
set_option maxRecDepth 100000 in
theorem run_bad (G : List Int) (w : World) (hl : G.length = 128) (hG : AllB G) (hok : ∃ i, i < 4 ∧ okAt G i = false) :
    Calls Try.prog 36 #[.agg (bytesV G).toArray] w fun e w' => e = .returned (.tuple #[.slice none 0 0, .bool false]) ∧ Below w.heap.size w w' := by
  obtain ⟨i0, hi, hz0, hz1, hz2⟩ := info_parts inf25
  have B1 : Below w.heap.size w (w.alloc (.cells (bytesV G).toArray 49)) := (Below.refl _ _).alloc (Nat.le_refl _) _
  have R1 : Hid (BytesAt (w.alloc (.cells (bytesV G).toArray 49)) w.heap.size 49 G) := heap_here rfl
  have HB := Lib.hid B1
  have HG := Lib.hid hG
  have HL := Lib.hid hl
  have HOK := Lib.hid hok
  clear B1 hG hl hok
  go_enter Try.func36, Try.ntmps36
  go_wp2_with fail
  go_loopw [4, 5] (fun v i wr => ∃ k : Nat, k ≤ 4 ∧ i = .int .i64 k ∧ (∀ i, i < k → okAt G i = true) ∧ wr.ownsRow (w.heap.size + 1) 25 2 v k (pv G k) ∧ BytesAt wr w.heap.size 49 G ∧ Below w.heap.size w wr) (fun _ i _ => 4 - (intOf i).toNat)
  case atStart => exact ⟨0, Nat.zero_le _, rfl, fun i h => by omega, World.ownsRow_nil _ _ _ _, R1.out, HB.out⟩
  case round =>
    obtain ⟨k, hk, rfl, hall, hown, hr, hb⟩ := hrel
    have HALL := Lib.hid hall
    clear R1 HB hall
    have hlt := hr.lt
    have R1 := Lib.hid hr
    have HB := Lib.hid hb
    have HO := Lib.hid hown
    clear hr hb hown
    rcases (show k = 0 ∨ k = 1 ∨ k = 2 ∨ k = 3 ∨ k = 4 by omega) with rfl | rfl | rfl | rfl | rfl
    · have a1 : Below wr.heap.size wr (wr.alloc (.cells (bytesV zero8).toArray 22)).drew := ((Below.refl _ _).alloc (Nat.le_refl _) _).drew
      have s8 : BytesAt (wr.alloc (.cells (bytesV zero8).toArray 22)).drew wr.heap.size 22 zero8 := heap_here rfl
      have hrc : Hid ((Builtin.copy_ #[64, 64] 3 #[.slice (some ⟨wr.heap.size, 0, none⟩) 8 8, .slice (some ⟨w.heap.size, 0, none⟩) 8 128]).run Try.prog (wr.alloc (.cells (bytesV zero8).toArray 22)).drew = .ok (.int .i64 8) ((wr.alloc (.cells (bytesV zero8).toArray 22)).drew.setRow wr.heap.size (bytesV (by8 G 0)).toArray)) :=
        run_cp _ wr.heap.size 0 8 8 w.heap.size 0 8 128 zero8 (by8 G 0) 22 s8 (fun j y hj => by
          have := by8_get G 0 j y hj (by omega) HL.out
          rw [(R1.out.below a1).cell, Nat.zero_add, show G[j]? = some y by simpa using this]
          rfl) rfl (by simp [by8, zero8])
      have a2 : Below wr.heap.size wr ((wr.alloc (.cells (bytesV zero8).toArray 22)).drew.setRow wr.heap.size (bytesV (by8 G 0)).toArray) := below_setRow a1 (Nat.le_refl _) _
      have r8 : BytesAt ((wr.alloc (.cells (bytesV zero8).toArray 22)).drew.setRow wr.heap.size (bytesV (by8 G 0)).toArray) wr.heap.size 22 (by8 G 0) := setRow_heap _ _ _ _ _ _ s8
      have HR8 := Lib.hid (rng_row r8)
      have HA2 := Lib.hid a2
      have hof := rof_at G HG.out 0
      rw [by8_agg] at hof
      have hw1 : IntKind.i64.wrap 0 = 0 := IntWalk.i64_in _ (by omega)
      have hw2 : IntKind.i64.wrap 8 = 8 := IntWalk.i64_in _ (by omega)
      clear a1 a2 s8 r8
      cases hok : okAt G 0
      · rw [hok] at hof
        simp only [Bool.false_eq_true, if_false] at hof
        have HOF := Lib.hid hof
        clear hof hok
        go_wp2_with fail
        go_region_held3 (fun _ => True) (exact trivial) ((first | (refine step_copy_run rfl (.tmp 13) (.tmp 19) 64 64 rfl _ _ _ rfl rfl hrc.out ?_)))
        go_wp2_with (first | (go_at_call 10; refine (HOF.out _).mono ?_; rintro e w1 ⟨rfl, b1⟩) | (refine wpList_ld8 rfl (.tmp 6) rfl wr.heap.size 0 (by8 G 0) rfl rfl HR8.out ?_))
        go_ret2
        exact ⟨rfl, (HB.out.trans ((HA2.out.trans (b1.mono HA2.out.size)).mono HB.out.size)).alloc (by have := b1.size; have := HA2.out.size; have := HB.out.size; omega) _⟩
      · have hall' : ∀ i, i < 1 → okAt G i = true := fun i hi' => by
          rcases (show i < 0 ∨ i = 0 by omega) with h | rfl
          · exact HALL.out i h
          · exact hok
        rw [hok] at hof
        simp only [if_true] at hof
        have HOF := Lib.hid hof
        clear hof hok
        go_wp2_with fail
        go_region_held3 (fun _ => True) (exact trivial) ((first | (refine step_copy_run rfl (.tmp 13) (.tmp 19) 64 64 rfl _ _ _ rfl rfl hrc.out ?_)))
        go_wp2_with (first | (go_at_call 10; refine (HOF.out _).mono ?_; rintro e w1 ⟨rfl, b1⟩) | (refine wpList_ld8 rfl (.tmp 6) rfl wr.heap.size 0 (by8 G 0) rfl rfl HR8.out ?_) | (at_builtin; go_loud (refine wpList_append_own _ rfl _ _ 47 rfl (w.heap.size + 1) 25 i0 (.agg #[.int .i64 0, .int .i64 0]) 2 16 Try.underlying47 hi hz0 hz1 hz2 rfl (by decide) _ _ _ rfl (owns_below HO.out (((HA2.out.trans (b1.mono HA2.out.size)).alloc (by have := b1.size; have := HA2.out.size; omega) _).alloc (by have := b1.size; have := HA2.out.size; simp; omega) _)) ⟨w1.heap.size + 1, 0, none⟩ 1 1 [.int .i64 (kAt G 0), .int .i64 (gAt G 0)] rfl rfl ?c1 ?c2 ?c3 ?c4 ?c5 ?_)))
        case c1 => exact World.news_of_block (heap_here (by simp))
        case c2 => intro u hu; simp at hu; rcases hu with rfl | rfl <;> rfl
        case c3 => unfold maxLen; omega
        case c4 => omega
        case c5 => have := b1.size; have := HA2.out.size; simp; omega
        intro v' w2 hown' hgrow _
        have hn' : w2.ownsRow (w.heap.size + 1) 25 2 v' 1 (pv G 1) := by rw [pv_succ]; simpa using hown'
        have bW : Below wr.heap.size wr ((w1.alloc (.cells #[.int .i64 (kAt G 0), .int .i64 (gAt G 0)] 25)).alloc (.cells #[.int .i64 (kAt G 0), .int .i64 (gAt G 0)] 25)) := ((HA2.out.trans (b1.mono HA2.out.size)).alloc (by have := b1.size; have := HA2.out.size; omega) _).alloc (by have := b1.size; have := HA2.out.size; simp; omega) _
        have hne : some w.heap.size ≠ u4.ownBlock := own_ne HO.out
        have hr' : BytesAt w2 w.heap.size 49 G := (R1.out.below bW).grown hgrow hne
        have hb' : Below w.heap.size w w2 := (HB.out.trans (bW.mono HB.out.size)).grown hgrow (by have := bW.size; have := HB.out.size; omega) (fun q hq => own_ge HO.out hq)
        clear hown' hgrow bW b1
        go_wp2_with fail
        go_roundw
        case rel => exact ⟨1, by omega, by go_num, hall', hn', hr', hb'⟩
        case measure => simp [intOf]
    · have a1 : Below wr.heap.size wr (wr.alloc (.cells (bytesV zero8).toArray 22)).drew := ((Below.refl _ _).alloc (Nat.le_refl _) _).drew
      have s8 : BytesAt (wr.alloc (.cells (bytesV zero8).toArray 22)).drew wr.heap.size 22 zero8 := heap_here rfl
      have hrc : Hid ((Builtin.copy_ #[64, 64] 3 #[.slice (some ⟨wr.heap.size, 0, none⟩) 8 8, .slice (some ⟨w.heap.size, 8, none⟩) 8 120]).run Try.prog (wr.alloc (.cells (bytesV zero8).toArray 22)).drew = .ok (.int .i64 8) ((wr.alloc (.cells (bytesV zero8).toArray 22)).drew.setRow wr.heap.size (bytesV (by8 G 1)).toArray)) :=
        run_cp _ wr.heap.size 0 8 8 w.heap.size 8 8 120 zero8 (by8 G 1) 22 s8 (fun j y hj => by
          have := by8_get G 1 j y hj (by omega) HL.out
          rw [(R1.out.below a1).cell, this]
          rfl) rfl (by simp [by8, zero8])
      have a2 : Below wr.heap.size wr ((wr.alloc (.cells (bytesV zero8).toArray 22)).drew.setRow wr.heap.size (bytesV (by8 G 1)).toArray) := below_setRow a1 (Nat.le_refl _) _
      have r8 : BytesAt ((wr.alloc (.cells (bytesV zero8).toArray 22)).drew.setRow wr.heap.size (bytesV (by8 G 1)).toArray) wr.heap.size 22 (by8 G 1) := setRow_heap _ _ _ _ _ _ s8
      have HR8 := Lib.hid (rng_row r8)
      have HA2 := Lib.hid a2
      have hof := rof_at G HG.out 1
      rw [by8_agg] at hof
      have hw1 : IntKind.i64.wrap 8 = 8 := IntWalk.i64_in _ (by omega)
      have hw2 : IntKind.i64.wrap 16 = 16 := IntWalk.i64_in _ (by omega)
      clear a1 a2 s8 r8
      cases hok : okAt G 1
      · rw [hok] at hof
        simp only [Bool.false_eq_true, if_false] at hof
        have HOF := Lib.hid hof
        clear hof hok
        go_wp2_with fail
        go_region_held3 (fun _ => True) (exact trivial) ((first | (refine step_copy_run rfl (.tmp 13) (.tmp 19) 64 64 rfl _ _ _ rfl rfl hrc.out ?_)))
        go_wp2_with (first | (go_at_call 10; refine (HOF.out _).mono ?_; rintro e w1 ⟨rfl, b1⟩) | (refine wpList_ld8 rfl (.tmp 6) rfl wr.heap.size 0 (by8 G 1) rfl rfl HR8.out ?_))
        go_ret2
        exact ⟨rfl, (HB.out.trans ((HA2.out.trans (b1.mono HA2.out.size)).mono HB.out.size)).alloc (by have := b1.size; have := HA2.out.size; have := HB.out.size; omega) _⟩
      · have hall' : ∀ i, i < 2 → okAt G i = true := fun i hi' => by
          rcases (show i < 1 ∨ i = 1 by omega) with h | rfl
          · exact HALL.out i h
          · exact hok
        rw [hok] at hof
        simp only [if_true] at hof
        have HOF := Lib.hid hof
        clear hof hok
        go_wp2_with fail
        go_region_held3 (fun _ => True) (exact trivial) ((first | (refine step_copy_run rfl (.tmp 13) (.tmp 19) 64 64 rfl _ _ _ rfl rfl hrc.out ?_)))
        go_wp2_with (first | (go_at_call 10; refine (HOF.out _).mono ?_; rintro e w1 ⟨rfl, b1⟩) | (refine wpList_ld8 rfl (.tmp 6) rfl wr.heap.size 0 (by8 G 1) rfl rfl HR8.out ?_) | (at_builtin; go_loud (refine wpList_append_own _ rfl _ _ 47 rfl (w.heap.size + 1) 25 i0 (.agg #[.int .i64 0, .int .i64 0]) 2 16 Try.underlying47 hi hz0 hz1 hz2 rfl (by decide) _ _ _ rfl (owns_below HO.out (((HA2.out.trans (b1.mono HA2.out.size)).alloc (by have := b1.size; have := HA2.out.size; omega) _).alloc (by have := b1.size; have := HA2.out.size; simp; omega) _)) ⟨w1.heap.size + 1, 0, none⟩ 1 1 [.int .i64 (kAt G 1), .int .i64 (gAt G 1)] rfl rfl ?c1 ?c2 ?c3 ?c4 ?c5 ?_)))
        case c1 => exact World.news_of_block (heap_here (by simp))
        case c2 => intro u hu; simp at hu; rcases hu with rfl | rfl <;> rfl
        case c3 => unfold maxLen; omega
        case c4 => omega
        case c5 => have := b1.size; have := HA2.out.size; simp; omega
        intro v' w2 hown' hgrow _
        have hn' : w2.ownsRow (w.heap.size + 1) 25 2 v' 2 (pv G 2) := by rw [pv_succ]; simpa using hown'
        have bW : Below wr.heap.size wr ((w1.alloc (.cells #[.int .i64 (kAt G 1), .int .i64 (gAt G 1)] 25)).alloc (.cells #[.int .i64 (kAt G 1), .int .i64 (gAt G 1)] 25)) := ((HA2.out.trans (b1.mono HA2.out.size)).alloc (by have := b1.size; have := HA2.out.size; omega) _).alloc (by have := b1.size; have := HA2.out.size; simp; omega) _
        have hne : some w.heap.size ≠ u4.ownBlock := own_ne HO.out
        have hr' : BytesAt w2 w.heap.size 49 G := (R1.out.below bW).grown hgrow hne
        have hb' : Below w.heap.size w w2 := (HB.out.trans (bW.mono HB.out.size)).grown hgrow (by have := bW.size; have := HB.out.size; omega) (fun q hq => own_ge HO.out hq)
        clear hown' hgrow bW b1
        go_wp2_with fail
        go_roundw
        case rel => exact ⟨2, by omega, by go_num, hall', hn', hr', hb'⟩
        case measure => simp [intOf]
    · have a1 : Below wr.heap.size wr (wr.alloc (.cells (bytesV zero8).toArray 22)).drew := ((Below.refl _ _).alloc (Nat.le_refl _) _).drew
      have s8 : BytesAt (wr.alloc (.cells (bytesV zero8).toArray 22)).drew wr.heap.size 22 zero8 := heap_here rfl
      have hrc : Hid ((Builtin.copy_ #[64, 64] 3 #[.slice (some ⟨wr.heap.size, 0, none⟩) 8 8, .slice (some ⟨w.heap.size, 16, none⟩) 8 112]).run Try.prog (wr.alloc (.cells (bytesV zero8).toArray 22)).drew = .ok (.int .i64 8) ((wr.alloc (.cells (bytesV zero8).toArray 22)).drew.setRow wr.heap.size (bytesV (by8 G 2)).toArray)) :=
        run_cp _ wr.heap.size 0 8 8 w.heap.size 16 8 112 zero8 (by8 G 2) 22 s8 (fun j y hj => by
          have := by8_get G 2 j y hj (by omega) HL.out
          rw [(R1.out.below a1).cell, this]
          rfl) rfl (by simp [by8, zero8])
      have a2 : Below wr.heap.size wr ((wr.alloc (.cells (bytesV zero8).toArray 22)).drew.setRow wr.heap.size (bytesV (by8 G 2)).toArray) := below_setRow a1 (Nat.le_refl _) _
      have r8 : BytesAt ((wr.alloc (.cells (bytesV zero8).toArray 22)).drew.setRow wr.heap.size (bytesV (by8 G 2)).toArray) wr.heap.size 22 (by8 G 2) := setRow_heap _ _ _ _ _ _ s8
      have HR8 := Lib.hid (rng_row r8)
      have HA2 := Lib.hid a2
      have hof := rof_at G HG.out 2
      rw [by8_agg] at hof
      have hw1 : IntKind.i64.wrap 16 = 16 := IntWalk.i64_in _ (by omega)
      have hw2 : IntKind.i64.wrap 24 = 24 := IntWalk.i64_in _ (by omega)
      clear a1 a2 s8 r8
      cases hok : okAt G 2
      · rw [hok] at hof
        simp only [Bool.false_eq_true, if_false] at hof
        have HOF := Lib.hid hof
        clear hof hok
        go_wp2_with fail
        go_region_held3 (fun _ => True) (exact trivial) ((first | (refine step_copy_run rfl (.tmp 13) (.tmp 19) 64 64 rfl _ _ _ rfl rfl hrc.out ?_)))
        go_wp2_with (first | (go_at_call 10; refine (HOF.out _).mono ?_; rintro e w1 ⟨rfl, b1⟩) | (refine wpList_ld8 rfl (.tmp 6) rfl wr.heap.size 0 (by8 G 2) rfl rfl HR8.out ?_))
        go_ret2
        exact ⟨rfl, (HB.out.trans ((HA2.out.trans (b1.mono HA2.out.size)).mono HB.out.size)).alloc (by have := b1.size; have := HA2.out.size; have := HB.out.size; omega) _⟩
      · have hall' : ∀ i, i < 3 → okAt G i = true := fun i hi' => by
          rcases (show i < 2 ∨ i = 2 by omega) with h | rfl
          · exact HALL.out i h
          · exact hok
        rw [hok] at hof
        simp only [if_true] at hof
        have HOF := Lib.hid hof
        clear hof hok
        go_wp2_with fail
        go_region_held3 (fun _ => True) (exact trivial) ((first | (refine step_copy_run rfl (.tmp 13) (.tmp 19) 64 64 rfl _ _ _ rfl rfl hrc.out ?_)))
        go_wp2_with (first | (go_at_call 10; refine (HOF.out _).mono ?_; rintro e w1 ⟨rfl, b1⟩) | (refine wpList_ld8 rfl (.tmp 6) rfl wr.heap.size 0 (by8 G 2) rfl rfl HR8.out ?_) | (at_builtin; go_loud (refine wpList_append_own _ rfl _ _ 47 rfl (w.heap.size + 1) 25 i0 (.agg #[.int .i64 0, .int .i64 0]) 2 16 Try.underlying47 hi hz0 hz1 hz2 rfl (by decide) _ _ _ rfl (owns_below HO.out (((HA2.out.trans (b1.mono HA2.out.size)).alloc (by have := b1.size; have := HA2.out.size; omega) _).alloc (by have := b1.size; have := HA2.out.size; simp; omega) _)) ⟨w1.heap.size + 1, 0, none⟩ 1 1 [.int .i64 (kAt G 2), .int .i64 (gAt G 2)] rfl rfl ?c1 ?c2 ?c3 ?c4 ?c5 ?_)))
        case c1 => exact World.news_of_block (heap_here (by simp))
        case c2 => intro u hu; simp at hu; rcases hu with rfl | rfl <;> rfl
        case c3 => unfold maxLen; omega
        case c4 => omega
        case c5 => have := b1.size; have := HA2.out.size; simp; omega
        intro v' w2 hown' hgrow _
        have hn' : w2.ownsRow (w.heap.size + 1) 25 2 v' 3 (pv G 3) := by rw [pv_succ]; simpa using hown'
        have bW : Below wr.heap.size wr ((w1.alloc (.cells #[.int .i64 (kAt G 2), .int .i64 (gAt G 2)] 25)).alloc (.cells #[.int .i64 (kAt G 2), .int .i64 (gAt G 2)] 25)) := ((HA2.out.trans (b1.mono HA2.out.size)).alloc (by have := b1.size; have := HA2.out.size; omega) _).alloc (by have := b1.size; have := HA2.out.size; simp; omega) _
        have hne : some w.heap.size ≠ u4.ownBlock := own_ne HO.out
        have hr' : BytesAt w2 w.heap.size 49 G := (R1.out.below bW).grown hgrow hne
        have hb' : Below w.heap.size w w2 := (HB.out.trans (bW.mono HB.out.size)).grown hgrow (by have := bW.size; have := HB.out.size; omega) (fun q hq => own_ge HO.out hq)
        clear hown' hgrow bW b1
        go_wp2_with fail
        go_roundw
        case rel => exact ⟨3, by omega, by go_num, hall', hn', hr', hb'⟩
        case measure => simp [intOf]
    · have a1 : Below wr.heap.size wr (wr.alloc (.cells (bytesV zero8).toArray 22)).drew := ((Below.refl _ _).alloc (Nat.le_refl _) _).drew
      have s8 : BytesAt (wr.alloc (.cells (bytesV zero8).toArray 22)).drew wr.heap.size 22 zero8 := heap_here rfl
      have hrc : Hid ((Builtin.copy_ #[64, 64] 3 #[.slice (some ⟨wr.heap.size, 0, none⟩) 8 8, .slice (some ⟨w.heap.size, 24, none⟩) 8 104]).run Try.prog (wr.alloc (.cells (bytesV zero8).toArray 22)).drew = .ok (.int .i64 8) ((wr.alloc (.cells (bytesV zero8).toArray 22)).drew.setRow wr.heap.size (bytesV (by8 G 3)).toArray)) :=
        run_cp _ wr.heap.size 0 8 8 w.heap.size 24 8 104 zero8 (by8 G 3) 22 s8 (fun j y hj => by
          have := by8_get G 3 j y hj (by omega) HL.out
          rw [(R1.out.below a1).cell, this]
          rfl) rfl (by simp [by8, zero8])
      have a2 : Below wr.heap.size wr ((wr.alloc (.cells (bytesV zero8).toArray 22)).drew.setRow wr.heap.size (bytesV (by8 G 3)).toArray) := below_setRow a1 (Nat.le_refl _) _
      have r8 : BytesAt ((wr.alloc (.cells (bytesV zero8).toArray 22)).drew.setRow wr.heap.size (bytesV (by8 G 3)).toArray) wr.heap.size 22 (by8 G 3) := setRow_heap _ _ _ _ _ _ s8
      have HR8 := Lib.hid (rng_row r8)
      have HA2 := Lib.hid a2
      have hof := rof_at G HG.out 3
      rw [by8_agg] at hof
      have hw1 : IntKind.i64.wrap 24 = 24 := IntWalk.i64_in _ (by omega)
      have hw2 : IntKind.i64.wrap 32 = 32 := IntWalk.i64_in _ (by omega)
      clear a1 a2 s8 r8
      cases hok : okAt G 3
      · rw [hok] at hof
        simp only [Bool.false_eq_true, if_false] at hof
        have HOF := Lib.hid hof
        clear hof hok
        go_wp2_with fail
        go_region_held3 (fun _ => True) (exact trivial) ((first | (refine step_copy_run rfl (.tmp 13) (.tmp 19) 64 64 rfl _ _ _ rfl rfl hrc.out ?_)))
        go_wp2_with (first | (go_at_call 10; refine (HOF.out _).mono ?_; rintro e w1 ⟨rfl, b1⟩) | (refine wpList_ld8 rfl (.tmp 6) rfl wr.heap.size 0 (by8 G 3) rfl rfl HR8.out ?_))
        go_ret2
        exact ⟨rfl, (HB.out.trans ((HA2.out.trans (b1.mono HA2.out.size)).mono HB.out.size)).alloc (by have := b1.size; have := HA2.out.size; have := HB.out.size; omega) _⟩
      · have hall' : ∀ i, i < 4 → okAt G i = true := fun i hi' => by
          rcases (show i < 3 ∨ i = 3 by omega) with h | rfl
          · exact HALL.out i h
          · exact hok
        rw [hok] at hof
        simp only [if_true] at hof
        have HOF := Lib.hid hof
        clear hof hok
        go_wp2_with fail
        go_region_held3 (fun _ => True) (exact trivial) ((first | (refine step_copy_run rfl (.tmp 13) (.tmp 19) 64 64 rfl _ _ _ rfl rfl hrc.out ?_)))
        go_wp2_with (first | (go_at_call 10; refine (HOF.out _).mono ?_; rintro e w1 ⟨rfl, b1⟩) | (refine wpList_ld8 rfl (.tmp 6) rfl wr.heap.size 0 (by8 G 3) rfl rfl HR8.out ?_) | (at_builtin; go_loud (refine wpList_append_own _ rfl _ _ 47 rfl (w.heap.size + 1) 25 i0 (.agg #[.int .i64 0, .int .i64 0]) 2 16 Try.underlying47 hi hz0 hz1 hz2 rfl (by decide) _ _ _ rfl (owns_below HO.out (((HA2.out.trans (b1.mono HA2.out.size)).alloc (by have := b1.size; have := HA2.out.size; omega) _).alloc (by have := b1.size; have := HA2.out.size; simp; omega) _)) ⟨w1.heap.size + 1, 0, none⟩ 1 1 [.int .i64 (kAt G 3), .int .i64 (gAt G 3)] rfl rfl ?c1 ?c2 ?c3 ?c4 ?c5 ?_)))
        case c1 => exact World.news_of_block (heap_here (by simp))
        case c2 => intro u hu; simp at hu; rcases hu with rfl | rfl <;> rfl
        case c3 => unfold maxLen; omega
        case c4 => omega
        case c5 => have := b1.size; have := HA2.out.size; simp; omega
        intro v' w2 hown' hgrow _
        have hn' : w2.ownsRow (w.heap.size + 1) 25 2 v' 4 (pv G 4) := by rw [pv_succ]; simpa using hown'
        have bW : Below wr.heap.size wr ((w1.alloc (.cells #[.int .i64 (kAt G 3), .int .i64 (gAt G 3)] 25)).alloc (.cells #[.int .i64 (kAt G 3), .int .i64 (gAt G 3)] 25)) := ((HA2.out.trans (b1.mono HA2.out.size)).alloc (by have := b1.size; have := HA2.out.size; omega) _).alloc (by have := b1.size; have := HA2.out.size; simp; omega) _
        have hne : some w.heap.size ≠ u4.ownBlock := own_ne HO.out
        have hr' : BytesAt w2 w.heap.size 49 G := (R1.out.below bW).grown hgrow hne
        have hb' : Below w.heap.size w w2 := (HB.out.trans (bW.mono HB.out.size)).grown hgrow (by have := bW.size; have := HB.out.size; omega) (fun q hq => own_ge HO.out hq)
        clear hown' hgrow bW b1
        go_wp2_with fail
        go_roundw
        case rel => exact ⟨4, by omega, by go_num, hall', hn', hr', hb'⟩
        case measure => simp [intOf]
    · obtain ⟨i, hi4, hbad⟩ := HOK.out
      have := HALL.out i hi4
      rw [this] at hbad
      cases hbad

set_option maxHeartbeats 8000000 in
set_option maxRecDepth 100000 in
theorem run_all (G : List Int) (w : World) (hl : G.length = 128) (hG : AllB G) (hok : ∀ i, i < 4 → okAt G i = true) :
    Calls Try.prog 36 #[.agg (bytesV G).toArray] w fun e w' => (∃ v : Value, (tabN (kAt G 0) (gAt G 0) (kAt G 1) (gAt G 1) (kAt G 2) (gAt G 2) (kAt G 3) (gAt G 3) 4 = G → e = .returned (.tuple #[v, .bool true]) ∧ w'.ownsRow (w.heap.size + 1) 25 2 v 4 (pv G 4)) ∧ (tabN (kAt G 0) (gAt G 0) (kAt G 1) (gAt G 1) (kAt G 2) (gAt G 2) (kAt G 3) (gAt G 3) 4 ≠ G → e = .returned (.tuple #[.slice none 0 0, .bool false]))) ∧ Below w.heap.size w w' := by
  obtain ⟨i0, hi, hz0, hz1, hz2⟩ := info_parts inf25
  have B1 : Below w.heap.size w (w.alloc (.cells (bytesV G).toArray 49)) := (Below.refl _ _).alloc (Nat.le_refl _) _
  have R1 : Hid (BytesAt (w.alloc (.cells (bytesV G).toArray 49)) w.heap.size 49 G) := heap_here rfl
  have HB := Lib.hid B1
  have HG := Lib.hid hG
  have HL := Lib.hid hl
  have HOK := Lib.hid hok
  clear B1 hG hl hok
  go_enter Try.func36, Try.ntmps36
  go_wp2_with fail
  go_loopw [4, 5] (fun v i wr => ∃ k : Nat, k ≤ 4 ∧ i = .int .i64 k ∧ (∀ i, i < k → okAt G i = true) ∧ wr.ownsRow (w.heap.size + 1) 25 2 v k (pv G k) ∧ BytesAt wr w.heap.size 49 G ∧ Below w.heap.size w wr) (fun _ i _ => 4 - (intOf i).toNat)
  case atStart => exact ⟨0, Nat.zero_le _, rfl, fun i h => by omega, World.ownsRow_nil _ _ _ _, R1.out, HB.out⟩
  case round =>
    obtain ⟨k, hk, rfl, hall, hown, hr, hb⟩ := hrel
    have HALL := Lib.hid hall
    clear R1 HB hall
    have hlt := hr.lt
    have R1 := Lib.hid hr
    have HB := Lib.hid hb
    have HO := Lib.hid hown
    clear hr hb hown
    rcases (show k = 0 ∨ k = 1 ∨ k = 2 ∨ k = 3 ∨ k = 4 by omega) with rfl | rfl | rfl | rfl | rfl
    · have a1 : Below wr.heap.size wr (wr.alloc (.cells (bytesV zero8).toArray 22)).drew := ((Below.refl _ _).alloc (Nat.le_refl _) _).drew
      have s8 : BytesAt (wr.alloc (.cells (bytesV zero8).toArray 22)).drew wr.heap.size 22 zero8 := heap_here rfl
      have hrc : Hid ((Builtin.copy_ #[64, 64] 3 #[.slice (some ⟨wr.heap.size, 0, none⟩) 8 8, .slice (some ⟨w.heap.size, 0, none⟩) 8 128]).run Try.prog (wr.alloc (.cells (bytesV zero8).toArray 22)).drew = .ok (.int .i64 8) ((wr.alloc (.cells (bytesV zero8).toArray 22)).drew.setRow wr.heap.size (bytesV (by8 G 0)).toArray)) :=
        run_cp _ wr.heap.size 0 8 8 w.heap.size 0 8 128 zero8 (by8 G 0) 22 s8 (fun j y hj => by
          have := by8_get G 0 j y hj (by omega) HL.out
          rw [(R1.out.below a1).cell, Nat.zero_add, show G[j]? = some y by simpa using this]
          rfl) rfl (by simp [by8, zero8])
      have a2 : Below wr.heap.size wr ((wr.alloc (.cells (bytesV zero8).toArray 22)).drew.setRow wr.heap.size (bytesV (by8 G 0)).toArray) := below_setRow a1 (Nat.le_refl _) _
      have r8 : BytesAt ((wr.alloc (.cells (bytesV zero8).toArray 22)).drew.setRow wr.heap.size (bytesV (by8 G 0)).toArray) wr.heap.size 22 (by8 G 0) := setRow_heap _ _ _ _ _ _ s8
      have HR8 := Lib.hid (rng_row r8)
      have HA2 := Lib.hid a2
      have hof := rof_at G HG.out 0
      rw [by8_agg] at hof
      have hw1 : IntKind.i64.wrap 0 = 0 := IntWalk.i64_in _ (by omega)
      have hw2 : IntKind.i64.wrap 8 = 8 := IntWalk.i64_in _ (by omega)
      clear a1 a2 s8 r8
      cases hok : okAt G 0
      · exact absurd hok (by rw [HOK.out 0 (by omega)]; simp)
      · have hall' : ∀ i, i < 1 → okAt G i = true := fun i hi' => by
          rcases (show i < 0 ∨ i = 0 by omega) with h | rfl
          · exact HALL.out i h
          · exact hok
        rw [hok] at hof
        simp only [if_true] at hof
        have HOF := Lib.hid hof
        clear hof hok
        go_wp2_with fail
        go_region_held3 (fun _ => True) (exact trivial) ((first | (refine step_copy_run rfl (.tmp 13) (.tmp 19) 64 64 rfl _ _ _ rfl rfl hrc.out ?_)))
        go_wp2_with (first | (go_at_call 10; refine (HOF.out _).mono ?_; rintro e w1 ⟨rfl, b1⟩) | (refine wpList_ld8 rfl (.tmp 6) rfl wr.heap.size 0 (by8 G 0) rfl rfl HR8.out ?_) | (at_builtin; go_loud (refine wpList_append_own _ rfl _ _ 47 rfl (w.heap.size + 1) 25 i0 (.agg #[.int .i64 0, .int .i64 0]) 2 16 Try.underlying47 hi hz0 hz1 hz2 rfl (by decide) _ _ _ rfl (owns_below HO.out (((HA2.out.trans (b1.mono HA2.out.size)).alloc (by have := b1.size; have := HA2.out.size; omega) _).alloc (by have := b1.size; have := HA2.out.size; simp; omega) _)) ⟨w1.heap.size + 1, 0, none⟩ 1 1 [.int .i64 (kAt G 0), .int .i64 (gAt G 0)] rfl rfl ?c1 ?c2 ?c3 ?c4 ?c5 ?_)))
        case c1 => exact World.news_of_block (heap_here (by simp))
        case c2 => intro u hu; simp at hu; rcases hu with rfl | rfl <;> rfl
        case c3 => unfold maxLen; omega
        case c4 => omega
        case c5 => have := b1.size; have := HA2.out.size; simp; omega
        intro v' w2 hown' hgrow _
        have hn' : w2.ownsRow (w.heap.size + 1) 25 2 v' 1 (pv G 1) := by rw [pv_succ]; simpa using hown'
        have bW : Below wr.heap.size wr ((w1.alloc (.cells #[.int .i64 (kAt G 0), .int .i64 (gAt G 0)] 25)).alloc (.cells #[.int .i64 (kAt G 0), .int .i64 (gAt G 0)] 25)) := ((HA2.out.trans (b1.mono HA2.out.size)).alloc (by have := b1.size; have := HA2.out.size; omega) _).alloc (by have := b1.size; have := HA2.out.size; simp; omega) _
        have hne : some w.heap.size ≠ u4.ownBlock := own_ne HO.out
        have hr' : BytesAt w2 w.heap.size 49 G := (R1.out.below bW).grown hgrow hne
        have hb' : Below w.heap.size w w2 := (HB.out.trans (bW.mono HB.out.size)).grown hgrow (by have := bW.size; have := HB.out.size; omega) (fun q hq => own_ge HO.out hq)
        clear hown' hgrow bW b1
        go_wp2_with fail
        go_roundw
        case rel => exact ⟨1, by omega, by go_num, hall', hn', hr', hb'⟩
        case measure => simp [intOf]
    · have a1 : Below wr.heap.size wr (wr.alloc (.cells (bytesV zero8).toArray 22)).drew := ((Below.refl _ _).alloc (Nat.le_refl _) _).drew
      have s8 : BytesAt (wr.alloc (.cells (bytesV zero8).toArray 22)).drew wr.heap.size 22 zero8 := heap_here rfl
      have hrc : Hid ((Builtin.copy_ #[64, 64] 3 #[.slice (some ⟨wr.heap.size, 0, none⟩) 8 8, .slice (some ⟨w.heap.size, 8, none⟩) 8 120]).run Try.prog (wr.alloc (.cells (bytesV zero8).toArray 22)).drew = .ok (.int .i64 8) ((wr.alloc (.cells (bytesV zero8).toArray 22)).drew.setRow wr.heap.size (bytesV (by8 G 1)).toArray)) :=
        run_cp _ wr.heap.size 0 8 8 w.heap.size 8 8 120 zero8 (by8 G 1) 22 s8 (fun j y hj => by
          have := by8_get G 1 j y hj (by omega) HL.out
          rw [(R1.out.below a1).cell, this]
          rfl) rfl (by simp [by8, zero8])
      have a2 : Below wr.heap.size wr ((wr.alloc (.cells (bytesV zero8).toArray 22)).drew.setRow wr.heap.size (bytesV (by8 G 1)).toArray) := below_setRow a1 (Nat.le_refl _) _
      have r8 : BytesAt ((wr.alloc (.cells (bytesV zero8).toArray 22)).drew.setRow wr.heap.size (bytesV (by8 G 1)).toArray) wr.heap.size 22 (by8 G 1) := setRow_heap _ _ _ _ _ _ s8
      have HR8 := Lib.hid (rng_row r8)
      have HA2 := Lib.hid a2
      have hof := rof_at G HG.out 1
      rw [by8_agg] at hof
      have hw1 : IntKind.i64.wrap 8 = 8 := IntWalk.i64_in _ (by omega)
      have hw2 : IntKind.i64.wrap 16 = 16 := IntWalk.i64_in _ (by omega)
      clear a1 a2 s8 r8
      cases hok : okAt G 1
      · exact absurd hok (by rw [HOK.out 1 (by omega)]; simp)
      · have hall' : ∀ i, i < 2 → okAt G i = true := fun i hi' => by
          rcases (show i < 1 ∨ i = 1 by omega) with h | rfl
          · exact HALL.out i h
          · exact hok
        rw [hok] at hof
        simp only [if_true] at hof
        have HOF := Lib.hid hof
        clear hof hok
        go_wp2_with fail
        go_region_held3 (fun _ => True) (exact trivial) ((first | (refine step_copy_run rfl (.tmp 13) (.tmp 19) 64 64 rfl _ _ _ rfl rfl hrc.out ?_)))
        go_wp2_with (first | (go_at_call 10; refine (HOF.out _).mono ?_; rintro e w1 ⟨rfl, b1⟩) | (refine wpList_ld8 rfl (.tmp 6) rfl wr.heap.size 0 (by8 G 1) rfl rfl HR8.out ?_) | (at_builtin; go_loud (refine wpList_append_own _ rfl _ _ 47 rfl (w.heap.size + 1) 25 i0 (.agg #[.int .i64 0, .int .i64 0]) 2 16 Try.underlying47 hi hz0 hz1 hz2 rfl (by decide) _ _ _ rfl (owns_below HO.out (((HA2.out.trans (b1.mono HA2.out.size)).alloc (by have := b1.size; have := HA2.out.size; omega) _).alloc (by have := b1.size; have := HA2.out.size; simp; omega) _)) ⟨w1.heap.size + 1, 0, none⟩ 1 1 [.int .i64 (kAt G 1), .int .i64 (gAt G 1)] rfl rfl ?c1 ?c2 ?c3 ?c4 ?c5 ?_)))
        case c1 => exact World.news_of_block (heap_here (by simp))
        case c2 => intro u hu; simp at hu; rcases hu with rfl | rfl <;> rfl
        case c3 => unfold maxLen; omega
        case c4 => omega
        case c5 => have := b1.size; have := HA2.out.size; simp; omega
        intro v' w2 hown' hgrow _
        have hn' : w2.ownsRow (w.heap.size + 1) 25 2 v' 2 (pv G 2) := by rw [pv_succ]; simpa using hown'
        have bW : Below wr.heap.size wr ((w1.alloc (.cells #[.int .i64 (kAt G 1), .int .i64 (gAt G 1)] 25)).alloc (.cells #[.int .i64 (kAt G 1), .int .i64 (gAt G 1)] 25)) := ((HA2.out.trans (b1.mono HA2.out.size)).alloc (by have := b1.size; have := HA2.out.size; omega) _).alloc (by have := b1.size; have := HA2.out.size; simp; omega) _
        have hne : some w.heap.size ≠ u4.ownBlock := own_ne HO.out
        have hr' : BytesAt w2 w.heap.size 49 G := (R1.out.below bW).grown hgrow hne
        have hb' : Below w.heap.size w w2 := (HB.out.trans (bW.mono HB.out.size)).grown hgrow (by have := bW.size; have := HB.out.size; omega) (fun q hq => own_ge HO.out hq)
        clear hown' hgrow bW b1
        go_wp2_with fail
        go_roundw
        case rel => exact ⟨2, by omega, by go_num, hall', hn', hr', hb'⟩
        case measure => simp [intOf]
    · have a1 : Below wr.heap.size wr (wr.alloc (.cells (bytesV zero8).toArray 22)).drew := ((Below.refl _ _).alloc (Nat.le_refl _) _).drew
      have s8 : BytesAt (wr.alloc (.cells (bytesV zero8).toArray 22)).drew wr.heap.size 22 zero8 := heap_here rfl
      have hrc : Hid ((Builtin.copy_ #[64, 64] 3 #[.slice (some ⟨wr.heap.size, 0, none⟩) 8 8, .slice (some ⟨w.heap.size, 16, none⟩) 8 112]).run Try.prog (wr.alloc (.cells (bytesV zero8).toArray 22)).drew = .ok (.int .i64 8) ((wr.alloc (.cells (bytesV zero8).toArray 22)).drew.setRow wr.heap.size (bytesV (by8 G 2)).toArray)) :=
        run_cp _ wr.heap.size 0 8 8 w.heap.size 16 8 112 zero8 (by8 G 2) 22 s8 (fun j y hj => by
          have := by8_get G 2 j y hj (by omega) HL.out
          rw [(R1.out.below a1).cell, this]
          rfl) rfl (by simp [by8, zero8])
      have a2 : Below wr.heap.size wr ((wr.alloc (.cells (bytesV zero8).toArray 22)).drew.setRow wr.heap.size (bytesV (by8 G 2)).toArray) := below_setRow a1 (Nat.le_refl _) _
      have r8 : BytesAt ((wr.alloc (.cells (bytesV zero8).toArray 22)).drew.setRow wr.heap.size (bytesV (by8 G 2)).toArray) wr.heap.size 22 (by8 G 2) := setRow_heap _ _ _ _ _ _ s8
      have HR8 := Lib.hid (rng_row r8)
      have HA2 := Lib.hid a2
      have hof := rof_at G HG.out 2
      rw [by8_agg] at hof
      have hw1 : IntKind.i64.wrap 16 = 16 := IntWalk.i64_in _ (by omega)
      have hw2 : IntKind.i64.wrap 24 = 24 := IntWalk.i64_in _ (by omega)
      clear a1 a2 s8 r8
      cases hok : okAt G 2
      · exact absurd hok (by rw [HOK.out 2 (by omega)]; simp)
      · have hall' : ∀ i, i < 3 → okAt G i = true := fun i hi' => by
          rcases (show i < 2 ∨ i = 2 by omega) with h | rfl
          · exact HALL.out i h
          · exact hok
        rw [hok] at hof
        simp only [if_true] at hof
        have HOF := Lib.hid hof
        clear hof hok
        go_wp2_with fail
        go_region_held3 (fun _ => True) (exact trivial) ((first | (refine step_copy_run rfl (.tmp 13) (.tmp 19) 64 64 rfl _ _ _ rfl rfl hrc.out ?_)))
        go_wp2_with (first | (go_at_call 10; refine (HOF.out _).mono ?_; rintro e w1 ⟨rfl, b1⟩) | (refine wpList_ld8 rfl (.tmp 6) rfl wr.heap.size 0 (by8 G 2) rfl rfl HR8.out ?_) | (at_builtin; go_loud (refine wpList_append_own _ rfl _ _ 47 rfl (w.heap.size + 1) 25 i0 (.agg #[.int .i64 0, .int .i64 0]) 2 16 Try.underlying47 hi hz0 hz1 hz2 rfl (by decide) _ _ _ rfl (owns_below HO.out (((HA2.out.trans (b1.mono HA2.out.size)).alloc (by have := b1.size; have := HA2.out.size; omega) _).alloc (by have := b1.size; have := HA2.out.size; simp; omega) _)) ⟨w1.heap.size + 1, 0, none⟩ 1 1 [.int .i64 (kAt G 2), .int .i64 (gAt G 2)] rfl rfl ?c1 ?c2 ?c3 ?c4 ?c5 ?_)))
        case c1 => exact World.news_of_block (heap_here (by simp))
        case c2 => intro u hu; simp at hu; rcases hu with rfl | rfl <;> rfl
        case c3 => unfold maxLen; omega
        case c4 => omega
        case c5 => have := b1.size; have := HA2.out.size; simp; omega
        intro v' w2 hown' hgrow _
        have hn' : w2.ownsRow (w.heap.size + 1) 25 2 v' 3 (pv G 3) := by rw [pv_succ]; simpa using hown'
        have bW : Below wr.heap.size wr ((w1.alloc (.cells #[.int .i64 (kAt G 2), .int .i64 (gAt G 2)] 25)).alloc (.cells #[.int .i64 (kAt G 2), .int .i64 (gAt G 2)] 25)) := ((HA2.out.trans (b1.mono HA2.out.size)).alloc (by have := b1.size; have := HA2.out.size; omega) _).alloc (by have := b1.size; have := HA2.out.size; simp; omega) _
        have hne : some w.heap.size ≠ u4.ownBlock := own_ne HO.out
        have hr' : BytesAt w2 w.heap.size 49 G := (R1.out.below bW).grown hgrow hne
        have hb' : Below w.heap.size w w2 := (HB.out.trans (bW.mono HB.out.size)).grown hgrow (by have := bW.size; have := HB.out.size; omega) (fun q hq => own_ge HO.out hq)
        clear hown' hgrow bW b1
        go_wp2_with fail
        go_roundw
        case rel => exact ⟨3, by omega, by go_num, hall', hn', hr', hb'⟩
        case measure => simp [intOf]
    · have a1 : Below wr.heap.size wr (wr.alloc (.cells (bytesV zero8).toArray 22)).drew := ((Below.refl _ _).alloc (Nat.le_refl _) _).drew
      have s8 : BytesAt (wr.alloc (.cells (bytesV zero8).toArray 22)).drew wr.heap.size 22 zero8 := heap_here rfl
      have hrc : Hid ((Builtin.copy_ #[64, 64] 3 #[.slice (some ⟨wr.heap.size, 0, none⟩) 8 8, .slice (some ⟨w.heap.size, 24, none⟩) 8 104]).run Try.prog (wr.alloc (.cells (bytesV zero8).toArray 22)).drew = .ok (.int .i64 8) ((wr.alloc (.cells (bytesV zero8).toArray 22)).drew.setRow wr.heap.size (bytesV (by8 G 3)).toArray)) :=
        run_cp _ wr.heap.size 0 8 8 w.heap.size 24 8 104 zero8 (by8 G 3) 22 s8 (fun j y hj => by
          have := by8_get G 3 j y hj (by omega) HL.out
          rw [(R1.out.below a1).cell, this]
          rfl) rfl (by simp [by8, zero8])
      have a2 : Below wr.heap.size wr ((wr.alloc (.cells (bytesV zero8).toArray 22)).drew.setRow wr.heap.size (bytesV (by8 G 3)).toArray) := below_setRow a1 (Nat.le_refl _) _
      have r8 : BytesAt ((wr.alloc (.cells (bytesV zero8).toArray 22)).drew.setRow wr.heap.size (bytesV (by8 G 3)).toArray) wr.heap.size 22 (by8 G 3) := setRow_heap _ _ _ _ _ _ s8
      have HR8 := Lib.hid (rng_row r8)
      have HA2 := Lib.hid a2
      have hof := rof_at G HG.out 3
      rw [by8_agg] at hof
      have hw1 : IntKind.i64.wrap 24 = 24 := IntWalk.i64_in _ (by omega)
      have hw2 : IntKind.i64.wrap 32 = 32 := IntWalk.i64_in _ (by omega)
      clear a1 a2 s8 r8
      cases hok : okAt G 3
      · exact absurd hok (by rw [HOK.out 3 (by omega)]; simp)
      · have hall' : ∀ i, i < 4 → okAt G i = true := fun i hi' => by
          rcases (show i < 3 ∨ i = 3 by omega) with h | rfl
          · exact HALL.out i h
          · exact hok
        rw [hok] at hof
        simp only [if_true] at hof
        have HOF := Lib.hid hof
        clear hof hok
        go_wp2_with fail
        go_region_held3 (fun _ => True) (exact trivial) ((first | (refine step_copy_run rfl (.tmp 13) (.tmp 19) 64 64 rfl _ _ _ rfl rfl hrc.out ?_)))
        go_wp2_with (first | (go_at_call 10; refine (HOF.out _).mono ?_; rintro e w1 ⟨rfl, b1⟩) | (refine wpList_ld8 rfl (.tmp 6) rfl wr.heap.size 0 (by8 G 3) rfl rfl HR8.out ?_) | (at_builtin; go_loud (refine wpList_append_own _ rfl _ _ 47 rfl (w.heap.size + 1) 25 i0 (.agg #[.int .i64 0, .int .i64 0]) 2 16 Try.underlying47 hi hz0 hz1 hz2 rfl (by decide) _ _ _ rfl (owns_below HO.out (((HA2.out.trans (b1.mono HA2.out.size)).alloc (by have := b1.size; have := HA2.out.size; omega) _).alloc (by have := b1.size; have := HA2.out.size; simp; omega) _)) ⟨w1.heap.size + 1, 0, none⟩ 1 1 [.int .i64 (kAt G 3), .int .i64 (gAt G 3)] rfl rfl ?c1 ?c2 ?c3 ?c4 ?c5 ?_)))
        case c1 => exact World.news_of_block (heap_here (by simp))
        case c2 => intro u hu; simp at hu; rcases hu with rfl | rfl <;> rfl
        case c3 => unfold maxLen; omega
        case c4 => omega
        case c5 => have := b1.size; have := HA2.out.size; simp; omega
        intro v' w2 hown' hgrow _
        have hn' : w2.ownsRow (w.heap.size + 1) 25 2 v' 4 (pv G 4) := by rw [pv_succ]; simpa using hown'
        have bW : Below wr.heap.size wr ((w1.alloc (.cells #[.int .i64 (kAt G 3), .int .i64 (gAt G 3)] 25)).alloc (.cells #[.int .i64 (kAt G 3), .int .i64 (gAt G 3)] 25)) := ((HA2.out.trans (b1.mono HA2.out.size)).alloc (by have := b1.size; have := HA2.out.size; omega) _).alloc (by have := b1.size; have := HA2.out.size; simp; omega) _
        have hne : some w.heap.size ≠ u4.ownBlock := own_ne HO.out
        have hr' : BytesAt w2 w.heap.size 49 G := (R1.out.below bW).grown hgrow hne
        have hb' : Below w.heap.size w w2 := (HB.out.trans (bW.mono HB.out.size)).grown hgrow (by have := bW.size; have := HB.out.size; omega) (fun q hq => own_ge HO.out hq)
        clear hown' hgrow bW b1
        go_wp2_with fail
        go_roundw
        case rel => exact ⟨4, by omega, by go_num, hall', hn', hr', hb'⟩
        case measure => simp [intOf]
    · obtain ⟨tb, tc, rfl, hge, he⟩ := owns_E4 HO.out
      have HE : Hid (E4 wr.drew tb 0 (kAt G 0) (gAt G 0) (kAt G 1) (gAt G 1) (kAt G 2) (gAt G 2) (kAt G 3) (gAt G 3)) := he.below ((Below.refl _ _).drew)
      have hm0 := ok_may (HOK.out 0 (by omega))
      have hm1 := ok_may (HOK.out 1 (by omega))
      have hm2 := ok_may (HOK.out 2 (by omega))
      have hm3 := ok_may (HOK.out 3 (by omega))
      have HT := Lib.hid (fun c w' (h : E4 w' tb 0 (kAt G 0) (gAt G 0) (kAt G 1) (gAt G 1) (kAt G 2) (gAt G 2) (kAt G 3) (gAt G 3)) => rt_yes tb 0 c _ _ _ _ _ _ _ _ w' h hm0 hm1 hm2 hm3)
      obtain ⟨TT, hTT⟩ : ∃ TT, TT = tabN (kAt G 0) (gAt G 0) (kAt G 1) (gAt G 1) (kAt G 2) (gAt G 2) (kAt G 3) (gAt G 3) 4 := ⟨_, rfl⟩
      have hTl : TT.length = 128 := by rw [hTT]; exact tabN_len _ _ _ _ _ _ _ _ 4
      have heq := eqB TT G hTl HL.out
      rw [← hTT] at HT
      have HTL := Lib.hid hTl
      have HTT := Lib.hid hTT
      have hln : (bytesV G).length = 128 := by rw [bytesV_len, HL.out]
      have S0 : Hid (wr.drew.rangeAt w.heap.size 0 (bytesV G)) := rng_row (R1.out.below ((Below.refl _ _).drew))
      have HS : Hid (∀ w1, Below wr.drew.heap.size wr.drew w1 → w1.rangeAt w.heap.size 0 (bytesV G) ∧ w1.ownsRow (w.heap.size + 1) 25 2 (.slice (some ⟨tb, 0, none⟩) 4 tc) 4 (pv G 4) ∧ Below w.heap.size w w1) := fun w1 b1 =>
        have bb : Below wr.heap.size wr w1 := ((Below.refl _ _).drew).trans b1
        ⟨rng_row (R1.out.below bb), owns_below HO.out bb, HB.out.trans (bb.mono HB.out.size)⟩
      have hsz := size49
      have hu := Try.underlying49
      clear hTT he hm0 hm1 hm2 hm3 hge hTl
      by_cases htg : TT = G
      · have hd : decide (TT = G) = true := decide_eq_true htg
        rw [hd] at heq
        have HTG := Lib.hid htg
        clear hd htg
        go_wp2_with fail
        go_region_held3 (fun w' => w'.rangeAt w.heap.size 0 (bytesV G)) ((first | exact S0.out | exact (HS.out _ b1).1)) ((first | (go_at_call 34; refine (HT.out _ _ HE.out).mono ?_; rintro e w1 ⟨rfl, b1⟩)))
        go_wp2_with fail
        go_ret2
        exact ⟨⟨_, fun _ => ⟨rfl, (HS.out _ b1).2.1⟩, fun hne => absurd (HTT.out.symm.trans HTG.out) hne⟩, (HS.out _ b1).2.2⟩
      · have hd : decide (TT = G) = false := decide_eq_false htg
        rw [hd] at heq
        have HTG := Lib.hid htg
        clear hd htg
        go_wp2_with fail
        go_region_held3 (fun w' => w'.rangeAt w.heap.size 0 (bytesV G)) ((first | exact S0.out | exact (HS.out _ b1).1)) ((first | (go_at_call 34; refine (HT.out _ _ HE.out).mono ?_; rintro e w1 ⟨rfl, b1⟩)))
        go_wp2_with fail
        go_ret2
        exact ⟨⟨.bool true, fun he => absurd (HTT.out.trans he) HTG.out, fun _ => rfl⟩, (HS.out _ b1).2.2⟩

end Go.Proofs.Ytjohobehhijbcaa
