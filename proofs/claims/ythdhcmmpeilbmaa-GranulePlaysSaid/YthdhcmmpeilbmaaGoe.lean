/- The statement GranuleGoes: a granule never goes from the host to a realm, or back, but by Delegated, and has an owner just where it is a realm's. -/
import Derived.Test.YthdhcmmpeilbmaaDo
import Derived.Test.YthdhcmmpeilbmaaOpen
namespace Go.Proofs.Ythdhcmmpeilbmaa
open Go.ChangeShapes Go.WideShapes Go.Deep Go.ChangeAt Go.RowKit
set_option linter.unusedSimpArgs false

/-- Acts that came in: five cells each. -/
structure Acts (w : World) (x : Option Addr) (len : Nat) (b off : Nat) (A : Nat → Int × Int × Int × Int × Int) : Prop where
  at_ : 0 < len → x = some ⟨b, off, none⟩
  c0 : ∀ i, i < len → w.cell? ⟨b, off + i * 5, none⟩ = some (.int .i64 (A i).1)
  c1 : ∀ i, i < len → w.cell? ⟨b, off + i * 5 + 1, none⟩ = some (.int .i64 (A i).2.1)
  c2 : ∀ i, i < len → w.cell? ⟨b, off + i * 5 + 2, none⟩ = some (.int .i64 (A i).2.2.1)
  c3 : ∀ i, i < len → w.cell? ⟨b, off + i * 5 + 3, none⟩ = some (.int .i64 (A i).2.2.2.1)
  c4 : ∀ i, i < len → w.cell? ⟨b, off + i * 5 + 4, none⟩ = some (.int .u64 (A i).2.2.2.2)
  lt : 0 < len → b < w.heap.size

/-- Rows as they come about: an owner just where it is a realm's; held at most so often. -/
def Good (R : List Rw) (c : Nat) : Prop := ∀ i, i < R.length → ((rowD R i).2.1 ≠ 0 ↔ 2 ≤ (rowD R i).1) ∧ 0 ≤ (rowD R i).2.2 ∧ (rowD R i).2.2 ≤ c
theorem rowD_set {R : List Rw} {g i : Nat} {r : Rw} (hi : i < R.length) : rowD (R.set g r) i = if g = i then r else rowD R i := by
  simp only [rowD, List.getD_eq_getElem?_getD, List.getElem?_set]
  by_cases h : g = i
  · subst h; simp [hi]
  · simp [h]
theorem actR_len (R : List Rw) (kd g f t ow : Int) : (actR R kd g f t ow).length = R.length := by
  unfold actR
  split <;> (try split) <;> (try split) <;> (try split) <;> simp
theorem step_good {r : Rw} {f t ow : Int} {c : Nat} (h : (r.2.1 ≠ 0 ↔ 2 ≤ r.1) ∧ 0 ≤ r.2.2 ∧ r.2.2 ≤ c) :
    ((stepR r f t ow).2.2.1 ≠ 0 ↔ 2 ≤ (stepR r f t ow).2.1) ∧ 0 ≤ (stepR r f t ow).2.2.2 ∧ (stepR r f t ow).2.2.2 ≤ c := by
  unfold stepR
  cases hF : stepF f t with
  | none => exact h
  | some b =>
    simp only
    split
    · exact h
    · rename_i hb
      split
      · exact h
      · split
        · exact h
        · refine ⟨?_, h.2.1, h.2.2⟩
          have hm : mayB f t = true := by rw [← may_step, hF]; rfl
          have hd := step_may hm
          rw [hF] at hd
          have hb' : b = (ow != 0) := by simpa using hb
          have hbd : b = decide (2 ≤ t) := by simpa using hd
          rw [hb'] at hbd
          have := Bool.eq_iff_iff.1 hbd
          simpa using this
theorem act_good {R : List Rw} {kd g f t ow : Int} {c : Nat} (h : Good R c) : Good (actR R kd g f t ow) (c + 1) := by
  intro i hi
  rw [actR_len] at hi
  have hw : ∀ r : Rw, (r.2.1 ≠ 0 ↔ 2 ≤ r.1) ∧ 0 ≤ r.2.2 ∧ r.2.2 ≤ c → (r.2.1 ≠ 0 ↔ 2 ≤ r.1) ∧ 0 ≤ r.2.2 ∧ r.2.2 ≤ ((c + 1 : Nat) : Int) := fun r h => ⟨h.1, h.2.1, by have := h.2.2; omega⟩
  unfold actR
  split
  · rename_i hg
    have hgn : g.toNat < R.length := by omega
    have hG := h g.toNat hgn
    split
    · rw [rowD_set hi]
      split
      · exact hw _ (step_good hG)
      · exact hw _ (h i hi)
    · split
      · rw [rowD_set hi]
        split
        · exact ⟨hG.1, by have := hG.2.1; simp; omega, by have := hG.2.2; simp; omega⟩
        · exact hw _ (h i hi)
      · split
        · rename_i hk
          rw [rowD_set hi]
          split
          · exact ⟨hG.1, by have := hG.2.1; have := hk.2; simp; omega, by have := hG.2.2; simp; omega⟩
          · exact hw _ (h i hi)
        · exact hw _ (h i hi)
  · exact hw _ (h i hi)
theorem good_zero (n : Nat) : Good (zeroR n) 0 := by
  intro i hi
  have : rowD (zeroR n) i = (0, 0, 0) := by
    have hi' : i < n := by simpa [zeroR] using hi
    simp [rowD, zeroR, hi']
  rw [this]
  simp
theorem do_n {n tb rb wb : Nat} {R : List Rw} (hn : R.length = n) (a : Int × Int × Int × Int × Int) (w : World) (hB : Both w tb rb wb R) (hR : 0 < n) (hk : ∀ i, i < R.length → 0 ≤ (rowD R i).2.2 ∧ (rowD R i).2.2 < 2147483647) :
    Calls Try.prog 10 #[.pointer (some ⟨tb, 0, none⟩), .slice (some ⟨wb, 0, none⟩) n n, .agg #[.int .i64 a.1, .int .i64 a.2.1, .int .i64 a.2.2.1, .int .i64 a.2.2.2.1, .int .u64 a.2.2.2.2]] w fun e w' => e = .returned (.bool true) ∧ Both w' tb rb wb (actR R a.1 a.2.1 a.2.2.1 a.2.2.2.1 a.2.2.2.2) ∧ Two w w' rb wb := by
  subst hn
  exact do_any tb rb wb R _ _ _ _ _ w hB hR hk

/-- A row written with what it holds. -/
theorem both_again {X : World} {tb rb wb : Nat} {R : List Rw} (h : Both X tb rb wb R) {j : Nat} {s o kk : Int} (hj : j < R.length) (hr : rowD R j = (s, o, kk)) (nq : Nat) :
    Both ((((X.drewN nq).setCell ⟨wb, j * 3, none⟩ (.int .i64 s)).setCell ⟨wb, j * 3 + 1, none⟩ (.int .u64 o)).setCell ⟨wb, j * 3 + 2, none⟩ (.int .i64 kk)) tb rb wb R := by
  have e : ∀ k, k ≠ wb → ((((X.drewN nq).setCell ⟨wb, j * 3, none⟩ (.int .i64 s)).setCell ⟨wb, j * 3 + 1, none⟩ (.int .u64 o)).setCell ⟨wb, j * 3 + 2, none⟩ (.int .i64 kk)).heap[k]? = X.heap[k]? := fun k hk => by
    rw [heap_setCell_other _ _ _ _ hk, heap_setCell_other _ _ _ _ hk, heap_setCell_other _ _ _ _ hk]; rfl
  refine ⟨⟨(e tb h.n2).trans h.tab.tab, (e rb h.n1).trans h.tab.rows, h.tab.ne⟩, ?_, h.n1, h.n2⟩
  have h1 := rows_setCell (rows_setCell (rows_setCell (w := X.drewN nq) h.rows (j * 3) (.int .i64 s)) (j * 3 + 1) (.int .u64 o)) (j * 3 + 2) (.int .i64 kk)
  rw [rowsV_set3 R j s o kk hj, set_same hj hr] at h1
  exact h1
theorem below_again {B : Nat} {w X : World} (h : Below B w X) {wb o1 o2 o3 : Nat} (hB : B ≤ wb) (nq : Nat) {u v y : Value} :
    Below B w ((((X.drewN nq).setCell ⟨wb, o1, none⟩ u).setCell ⟨wb, o2, none⟩ v).setCell ⟨wb, o3, none⟩ y) := (((below_drewN h nq).setCell hB _).setCell hB _).setCell hB _

/-- The kinds of an act's fields. -/
def actK (j : Nat) : IntKind := if j = 4 then .u64 else .i64
theorem fields33 : ∃ fs, Try.prog.underlying 33 = some (.struct fs) ∧ oneCellFields Try.prog fs = true ∧ Try.prog.cellsOf 33 = fs.size ∧ fs.size = 5 ∧ ∀ j f, fs[j]? = some f → Try.prog.underlying f.type = some (.int (actK j)) := by
  refine ⟨_, Try.underlying33, by kernel_rfl, by kernel_rfl, rfl, ?_⟩
  intro j f hf
  match j, hf with
  | 0, hf => simp at hf; subst hf; exact Try.underlying3
  | 1, hf => simp at hf; subst hf; exact Try.underlying3
  | 2, hf => simp at hf; subst hf; exact Try.underlying30
  | 3, hf => simp at hf; subst hf; exact Try.underlying30
  | 4, hf => simp at hf; subst hf; exact Try.underlying31
theorem open_acts {H : Type} {enc : TypeId × Value → H} {w : World} {base : Nat} {spare : Nat → Bool} {held : Bool} {r : Reach} {b0 : Nat} {v : Value} {d : DataW H} {p : List MemPlace}
    (hv : Value.okWide Try.prog w r b0 22 v) (h : DataW.Trod enc Try.prog w base spare held 22 v d p) :
    ∃ (x : Option Addr) (len cap b off : Nat) (A : Nat → Int × Int × Int × Int × Int), v = .slice x len cap ∧ len ≤ maxLen ∧ Acts w x len b off A := by
  obtain ⟨fs, h1, h2, h3, h4, h5⟩ := fields33
  obtain ⟨x, len, cap, b, off, A, rfl, hl, hx, hc⟩ := open_int_structs Try.underlying22 h1 h2 h3 (by omega) h5 hv h
  rw [h4] at hc
  exact ⟨x, len, cap, b, off, fun i => (A i 0, A i 1, A i 2, A i 3, A i 4), rfl, hl,
    ⟨fun h => (hx h).1, fun i hi => (hc i 0 hi (by omega)).1, fun i hi => (hc i 1 hi (by omega)).1, fun i hi => (hc i 2 hi (by omega)).1, fun i hi => (hc i 3 hi (by omega)).1, fun i hi => (hc i 4 hi (by omega)).1, fun h => (hx h).2⟩⟩
theorem read22 : Try.prog.readableRec 22 = true ∧ 22 < Try.prog.types.size := ⟨by kernel_rfl, of_decide_eq_true (by kernel_rfl)⟩

namespace GranuleGoes
set_option maxRecDepth 100000 in
set_option maxHeartbeats 2000000 in
theorem walkin (n : Nat) (x : Option Addr) (len cap b off : Nat) (A : Nat → Int × Int × Int × Int × Int) (w : World) (hn1 : 1 ≤ n) (hn2 : n ≤ 20) (hlen : len ≤ 100) (hA : Acts w x len b off A) :
    Calls Try.prog 3 #[.int .i64 n, .slice x len cap] w fun e w' => e = .returned (.bool true) ∧ Below w.heap.size w w' := by
  have hmk := run_rows n (by omega)
  have HA := Lib.hid hA
  clear hA
  go_enter Try.func3, Try.ntmps3
  go_wp2_with fail
  refine (new_yes n _ (by omega) (by omega)).mono ?_
  rintro e w1 ⟨rfl, t1, b1⟩
  have z1 := t1.lt.1
  go_wp2_with fail
  have B0 : Both (w1.alloc (.cells (rowsV (zeroR n)).toArray 35)) (w.heap.size + 1) w.heap.size w1.heap.size (zeroR n) := ⟨t1.below ((Below.refl _ _).alloc (Nat.le_refl _) _), heap_here rfl, by omega, by omega⟩
  have b0 := b1.alloc (by omega) (.cells (rowsV (zeroR n)).toArray 35)
  go_loopw [8] (fun i wr => ∃ (k : Nat) (R : List Rw), k ≤ len ∧ i = .int .i64 k ∧ R.length = n ∧ Good R k ∧ Both wr (w.heap.size + 1) w.heap.size w1.heap.size R ∧ Below w.heap.size w wr) (fun i _ => len - (intOf i).toNat)
  case atStart => exact ⟨0, zeroR n, Nat.zero_le _, rfl, by simp [zeroR], good_zero n, B0, b0⟩
  case round =>
    obtain ⟨k, R, hk, rfl, hRn, hG, hB, hbel⟩ := hrel
    clear t1 b1 B0 b0 hmk
    by_cases hlt : k < len
    · obtain rfl := HA.out.at_ (by omega)
      have hbb := HA.out.lt (by omega)
      have c0 := (hbel.cell (p := ⟨b, off + k * 5, none⟩) hbb).trans (HA.out.c0 k hlt)
      have c1 := (hbel.cell (p := ⟨b, off + k * 5 + 1, none⟩) hbb).trans (HA.out.c1 k hlt)
      have c2 := (hbel.cell (p := ⟨b, off + k * 5 + 2, none⟩) hbb).trans (HA.out.c2 k hlt)
      have c3 := (hbel.cell (p := ⟨b, off + k * 5 + 3, none⟩) hbb).trans (HA.out.c3 k hlt)
      have c4 := (hbel.cell (p := ⟨b, off + k * 5 + 4, none⟩) hbb).trans (HA.out.c4 k hlt)
      have HG := Lib.hid hG
      have HR := Lib.hid hRn
      clear hG hRn
      go_wp2_with fail
      refine (do_n HR.out (A k) _ hB (by omega) (fun i hi => by have := HG.out i hi; omega)).mono ?_
      rintro e w2 ⟨rfl, hB2, h2⟩
      have hz := hB.tab.lt.1
      have hbel2 := below_two hbel (by omega) h2 (by omega) (by omega)
      have HR2 : Hid ((actR R (A k).1 (A k).2.1 (A k).2.2.1 (A k).2.2.2.1 (A k).2.2.2.2).length = n) := (actR_len _ _ _ _ _ _).trans HR.out
      have HG2 := Lib.hid (act_good (kd := (A k).1) (g := (A k).2.1) (f := (A k).2.2.1) (t := (A k).2.2.2.1) (ow := (A k).2.2.2.2) HG.out)
      generalize actR R (A k).1 (A k).2.1 (A k).2.2.1 (A k).2.2.2.1 (A k).2.2.2.2 = R2 at *
      clear c0 c1 c2 c3 c4 HG HR hB hbel h2
      go_wp2_with fail
      go_loopw [9] (fun i ws => ∃ j : Nat, j ≤ n ∧ i = .int .i64 j ∧ Both ws (w.heap.size + 1) w.heap.size w1.heap.size R2 ∧ Below w.heap.size w ws) (fun i _ => n - (intOf i).toNat)
      case atStart => exact ⟨0, Nat.zero_le _, rfl, hB2, hbel2⟩
      case round =>
        obtain ⟨j, hj, rfl, hBj, hbj⟩ := hrel
        clear hB2 hbel2
        have hzj := hBj.tab.lt.1
        by_cases hlj : j < n
        · have hjR : j < R2.length := by have := HR2.out; omega
          obtain ⟨s, o, kk, hr⟩ : ∃ s o kk, rowD R2 j = (s, o, kk) := ⟨_, _, _, rfl⟩
          have hgj := HG2.out j hjR
          rw [hr] at hgj
          obtain ⟨hg1, hg2, hg3⟩ := hgj
          simp only at hg1 hg2 hg3
          have HRJ := Lib.hid hr
          go_wp2_with fail
          refine (Row_in _ _ R2 j s o kk _ hBj.tab hjR hr).mono ?_
          rintro e w4 ⟨rfl, h4⟩
          have hB4 := (hBj.below h4).below ((Below.refl _ _).alloc (Nat.le_refl _) (.cells #[.int .i64 s, .int .u64 o, .int .i64 kk] 35))
          have b4 := (hbj.trans (h4.mono (by omega))).alloc (by have := (hBj.below h4).tab.lt.1; omega) (.cells #[.int .i64 s, .int .u64 o, .int .i64 kk] 35)
          obtain ⟨d0, d1, d2⟩ := (hBj.below h4).rows.cells hjR hr
          have hl4 : w1.heap.size < w4.heap.size := (Array.getElem?_eq_some_iff.1 (hBj.below h4).rows).1
          have f0 := (hBj.below h4).rows.free (j * 3)
          have f1 := (hBj.below h4).rows.free (j * 3 + 1)
          have f2 := (hBj.below h4).rows.free (j * 3 + 2)
          have jn : (j : Int) < (n : Int) := by omega
          have jn0 : (0 : Int) ≤ (j : Int) := by omega
          have HB4 := Lib.hid hB4
          have H4 := Lib.hid (hBj.below h4)
          clear hr hBj hbj h4 hB4
          by_cases ho : o = 0
          · subst ho
            have hs : s < 2 := by
              have : ¬ 2 ≤ s := fun hh => hg1.2 hh rfl
              omega
            clear hg1
            go_wp2_with fail
            go_quiet (fail)
            go_wp2_with fail
            go_roundw
            case rel => exact ⟨j + 1, by omega, by go_num, both_again HB4.out hjR HRJ.out nq, below_again b4 (by omega) nq⟩
            case measure => simp [intOf]; omega
          · have hs : 2 ≤ s := hg1.1 ho
            have ho' : (o != 0) = true := bne_iff_ne.2 ho
            clear hg1 ho
            go_wp2_with fail
            go_quiet (fail)
            go_wp2_with fail
            go_roundw
            case rel => exact ⟨j + 1, by omega, by go_num, both_again HB4.out hjR HRJ.out nq, below_again b4 (by omega) nq⟩
            case measure => simp [intOf]; omega
        · have hrd := Lib.hid hBj
          clear hBj
          go_wp2_with fail
          go_roundw
          case rel => exact ⟨k + 1, R2, by omega, by go_num, HR2.out, HG2.out, hrd.out, hbj⟩
          case measure => simp [intOf]; omega
    · have hz := hB.tab.lt.1
      clear hG hB hRn
      go_wp2_with (go_at_call 8; refine (known_any _).mono ?_; rintro e w5 ⟨rfl, b5⟩)
      go_ret
      exact ⟨rfl, hbel.trans (b5.mono (by omega))⟩

theorem walk_out (n : Int) (x : Option Addr) (len cap : Nat) (w : World) (h : n < 1 ∨ 20 < n ∨ 100 < len) (hlen : len ≤ 9223372036854775807) :
    Calls Try.prog 3 #[.int .i64 n, .slice x len cap] w fun e w' => e = .returned (.bool true) ∧ Below w.heap.size w w' := by
  rcases (show n < 1 ∨ (1 ≤ n ∧ 20 < n) ∨ (1 ≤ n ∧ n ≤ 20 ∧ 100 < len) by omega) with h1 | ⟨h1, h2⟩ | ⟨h1, h2, h3⟩
  all_goals clear h
  all_goals go_enter Try.func3, Try.ntmps3
  all_goals go_wp2_with (go_at_call 8; refine (known_any _).mono ?_; rintro e w5 ⟨rfl, b5⟩)
  all_goals go_ret
  all_goals exact ⟨rfl, b5⟩

theorem walk (n : Int) (x : Option Addr) (len cap b off : Nat) (A : Nat → Int × Int × Int × Int × Int) (w : World) (hlen : len ≤ maxLen) (hA : Acts w x len b off A) :
    Calls Try.prog 3 #[.int .i64 n, .slice x len cap] w fun e w' => e = .returned (.bool true) ∧ Below w.heap.size w w' := by
  unfold maxLen at hlen
  by_cases h : n < 1 ∨ 20 < n ∨ 100 < len
  · exact walk_out n x len cap w h hlen
  · obtain ⟨k, rfl⟩ := Int.eq_ofNat_of_zero_le (show 0 ≤ n by omega)
    exact walkin k x len cap b off A w (by omega) (by omega) (by omega) hA

theorem hread : ∀ t ∈ Try.f3.params.toList, Try.prog.readableRec t = true ∧ t < Try.prog.types.size := by
  rw [Try.params3]
  intro t ht
  simp at ht
  rcases ht with rfl | rfl
  · exact read3
  · exact read22

set_option maxRecDepth 100000 in
theorem lifted (os : Os) (started : os.Started) (H : Type) (enc : TypeId × Value → H) :
    ReturnsInHanded {} Try.checked os 3 .any (Rows.granuleGoesSpec.pre6 enc Try.prog Try.f3 Rows.granuleGoesRow.domain false) (Rows.granuleGoesSpec.post enc Try.prog Try.f3 false true false false) := by
  refine returnsInHanded_of_change (C := Try.checked) own started (by kernel_rfl) Try.func3
    (ChangeSpec.witness6 (enc := enc) (C := Try.checked) false ⟨#[], #[.int .i64 0, .slice none 0 0], []⟩ 8 (by kernel_rfl) (by kernel_rfl) (by kernel_rfl) (by kernel_rfl)) ?_
  intro W base args ds gs before hval0 hW hcnd _
  have hval : ∀ (j : Nat) t v, Try.f3.params[j]? = some t → args[j]? = some v → Value.okWide Try.prog W .any base t v := hval0
  have hW' := hW
  obtain ⟨p, q, hA0, hV, rfl, hfz, hnd⟩ := hW
  have hA : DataW.TrodAll enc Try.prog W 0 (fun _ => true) true Try.f3.params.toList args.toList ds p := hA0
  have hA1 := hA
  rw [Try.params3] at hA hval
  obtain ⟨v0, vs0, d0, ds0, p0, q0, hargs, rfl, rfl, h0, r0⟩ := trodAll_cons hA
  obtain ⟨v1, vs1, d1, ds1, p1, q1, rfl, rfl, rfl, h1, r1⟩ := trodAll_cons r0
  obtain ⟨rfl, rfl, rfl⟩ := trodAll_nil r1
  obtain rfl : args = #[v0, v1] := by cases args; simp_all
  obtain ⟨rfl, rfl⟩ := trodVars_none hV
  obtain ⟨a0, rfl, rfl, rfl, w0⟩ := open_int Try.underlying3 (hval 0 3 v0 rfl rfl) h0
  obtain ⟨x, len, cap, b, off, A, rfl, hlen, hacts⟩ := open_acts (hval 1 22 v1 rfl rfl) h1
  clear hA0 hval0
  simp only [List.append_nil] at hW' hA1
  refine (walk a0 x len cap b off A W hlen hacts).mono fun e W' ⟨he, hg⟩ => ?_
  subst he
  exact ⟨_, rfl, post_true hW' hA1 rfl rfl (fun _ => rfl) rfl Try.underlying4 laidOut hread hg⟩

theorem over : Rows.granuleGoesRow.holds Try.pinned (OpenSpec.ofChange Rows.granuleGoesSpec) :=
  OpenClaim.holds_of_wide 3 Try.f3 rfl rfl rfl rfl rfl rfl rfl ⟨rfl, rfl, rfl, rfl, rfl⟩ rfl rfl rfl rfl rfl (by kernel_rfl) Try.func3 (by kernel_rfl)
    (of_decide_eq_true (by kernel_rfl)) (by unfold Func.isWrapper; first | (rw [if_pos (by decide +kernel)]; kernel_rfl) | (rw [if_neg (by decide +kernel)]; exact ⟨rfl, rfl⟩))
    (fun os started H enc _ => lifted os started H enc)

/-- The statement. -/
theorem proved : Rows.GranuleGoesSaid := over
end GranuleGoes
end Go.Proofs.Ythdhcmmpeilbmaa
