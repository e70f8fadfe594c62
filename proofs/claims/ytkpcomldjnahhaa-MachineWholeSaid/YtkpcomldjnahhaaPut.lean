/- Contracts of layer 6's granules: Put and Scrub; bytes as a granule. Conditions: those that each theorem states. -/
import Derived.Test.YtkpcomldjnahhaaGra
namespace Go.Proofs.Ytkpcomldjnahhaa
open Go.ChangeShapes Go.WideShapes Go.ChangeAt Go.RowKit
set_option linter.unusedSimpArgs false
attribute [local go_sem] zeroV

theorem put_no (mb ab n : Nat) (B : List Int) (g : Int) (v : Value) (cs : Array Value) (w : World) (h : Mem w mb ab n B) (hg : g < 0 ∨ n ≤ g) (hv : v = .agg cs) :
    Calls Try.prog 25 #[.pointer (some ⟨mb, 0, none⟩), .int .i64 g, v] w fun e w' => e = .returned (.int .i64 2) ∧ Below w.heap.size w w' := by
  subst hv
  have B1 : Below w.heap.size w (w.alloc (.cells cs 52)) := (Below.refl _ _).alloc (Nat.le_refl _) _
  have H := Lib.hid (h.below B1)
  have HB := Lib.hid B1
  clear h B1
  go_enter Try.func25, Try.ntmps25
  go_wp2_with (first | (go_at_call 34; refine (wrong_no _ _ _ _ _ _ H.out hg).mono ?_; rintro e w1 ⟨rfl, rfl⟩))
  go_ret
  exact ⟨rfl, HB.out⟩

theorem setCells_row {w : World} {b t : Nat} {B : List Int} (h : BytesAt w b t B) (o : Nat) (X : List Int) (hfit : o + X.length ≤ B.length) : w.setCells b o (bytesV X) = w.setRow b (bytesV (splice B o X)).toArray := by
  have h1 := st_mid h o hfit
  have h2 := run_storeCells_cells (P := Try.prog) b o (bytesV X) 0 w (fun j hj => by
    rw [Nat.add_zero, h.cell, List.getElem?_eq_getElem (by rw [bytesV_len] at hj; omega)]; rfl) (fun j _ => h.froz _) (one_bytes X)
  rw [Nat.add_zero] at h2
  rw [h1] at h2
  injection h2 with _ h3
  exact h3.symm
theorem there_of {w : World} {b t : Nat} {B : List Int} (h : BytesAt w b t B) (o m : Nat) (hfit : o + m ≤ B.length) : w.there b o m := fun j hj =>
  ⟨by rw [h.cell, List.getElem?_eq_getElem (by omega)]; rfl, h.froz _⟩

set_option maxHeartbeats 1000000 in
theorem put_yes (mb ab n : Nat) (B X : List Int) (g : Nat) (w : World) (h : Mem w mb ab n B) (hg : g < n) (hX : X.length = 128) :
    Calls Try.prog 25 #[.pointer (some ⟨mb, 0, none⟩), .int .i64 g, .agg (bytesV X).toArray] w fun e w' => e = .returned (.int .i64 0) ∧ Mem w' mb ab n (splice B (128 * g) X) ∧ w.grownBy w' (some ab) := by
  have B1 : Below w.heap.size w (w.alloc (.cells (bytesV X).toArray 52)) := (Below.refl _ _).alloc (Nat.le_refl _) _
  have hl := h.len
  have hx := h.max
  have hlt := h.lt
  have h1 := h.below B1
  have e := setCells_row h1.drew.all (g * 128) X (by omega)
  have hm2 : Mem ((w.alloc (.cells (bytesV X).toArray 52)).drew.setCells ab (g * 128) (bytesV X)) mb ab n (splice B (128 * g) X) := by
    rw [e, Nat.mul_comm 128 g]
    exact mem_row h1.drew (splice_len _ _ _ (by omega))
  have hg2 : w.grownBy ((w.alloc (.cells (bytesV X).toArray 52)).drew.setCells ab (g * 128) (bytesV X)) (some ab) := by rw [e]; exact grown_setRow (grown_below B1.drew _) _
  have hr0 : (w.alloc (.cells (bytesV X).toArray 52)).drew.heap[w.heap.size]? = some (.cells (bytesV X).toArray 52 (0, 0)) := heap_here rfl
  have hr1 : BytesAt ((w.alloc (.cells (bytesV X).toArray 52)).drew.setCells ab (g * 128) (bytesV X)) w.heap.size 52 X := by rw [e]; exact (setRow_other _ _ _ _ (by omega)).trans hr0
  have S0 : (w.alloc (.cells (bytesV X).toArray 52)).drew.cell? ⟨mb, 0, none⟩ = some (.slice (some ⟨ab, 0, none⟩) n n) ∧ (w.alloc (.cells (bytesV X).toArray 52)).drew.rangeAt w.heap.size 0 (bytesV X) ∧ (w.alloc (.cells (bytesV X).toArray 52)).drew.there ab (g * 128) (bytesV X).length := ⟨cell_of_row _ _ 0 _ _ _ h1.drew.mem, rng_row hr0, there_of h1.drew.all _ _ (by rw [bytesV_len]; omega)⟩
  have S1 : ((w.alloc (.cells (bytesV X).toArray 52)).drew.setCells ab (g * 128) (bytesV X)).cell? ⟨mb, 0, none⟩ = some (.slice (some ⟨ab, 0, none⟩) n n) ∧ ((w.alloc (.cells (bytesV X).toArray 52)).drew.setCells ab (g * 128) (bytesV X)).rangeAt w.heap.size 0 (bytesV X) ∧ ((w.alloc (.cells (bytesV X).toArray 52)).drew.setCells ab (g * 128) (bytesV X)).there ab (g * 128) (bytesV X).length := ⟨cell_of_row _ _ 0 _ _ _ hm2.mem, rng_row hr1, World.there_setCells S0.2.2 _ _ _⟩
  have hln : (bytesV X).length = 128 := by rw [bytesV_len, hX]
  have hsz := size52
  have hu := Try.underlying52
  have hone := one_bytes X
  have H := Lib.hid h1
  have HM := Lib.hid hm2
  have HG := Lib.hid hg2
  have HS0 := Lib.hid S0
  have HS1 := Lib.hid S1
  clear h B1 h1 hm2 hg2 hr0 hr1 hl hlt S0 S1 e
  go_enter Try.func25, Try.ntmps25
  go_wp2_with (first | (go_at_call 34; refine (wrong_yes _ _ _ _ _ _ H.out hg).mono ?_; rintro e w1 ⟨rfl, rfl⟩))
  go_region_held3 (fun w' => w'.cell? ⟨mb, 0, none⟩ = some (.slice (some ⟨ab, 0, none⟩) n n) ∧ w'.rangeAt w.heap.size 0 (bytesV X) ∧ w'.there ab (g * 128) (bytesV X).length) ((first | exact HS0.out | exact HS1.out)) (fail)
  go_wp2_with fail
  go_ret
  exact ⟨rfl, HM.out, HG.out⟩

theorem scrub_no (mb ab n : Nat) (B : List Int) (g : Int) (w : World) (h : Mem w mb ab n B) (hg : g < 0 ∨ n ≤ g) :
    Calls Try.prog 26 #[.pointer (some ⟨mb, 0, none⟩), .int .i64 g] w fun e w' => e = .returned (.int .i64 2) ∧ Below w.heap.size w w' := by
  have H := Lib.hid h
  clear h
  go_enter Try.func26, Try.ntmps26
  go_wp2_with (first | (go_at_call 25; refine (put_no _ _ _ _ _ _ _ _ H.out hg rfl).mono ?_; rintro e w1 ⟨rfl, hb⟩))
  go_ret
  exact ⟨rfl, hb⟩
theorem scrub_yes (mb ab n : Nat) (B : List Int) (g : Nat) (w : World) (h : Mem w mb ab n B) (hg : g < n) :
    Calls Try.prog 26 #[.pointer (some ⟨mb, 0, none⟩), .int .i64 g] w fun e w' => e = .returned (.int .i64 0) ∧ Mem w' mb ab n (splice B (128 * g) (zeroB 1)) ∧ w.grownBy w' (some ab) := by
  have H := Lib.hid h
  clear h
  go_enter Try.func26, Try.ntmps26
  go_wp2_with (first | (go_at_call 25; refine (put_yes _ _ _ _ _ _ _ H.out hg zlen).mono ?_; rintro e w1 ⟨rfl, hm, hg1⟩; have HM := Lib.hid hm; have HG := Lib.hid hg1; clear hm hg1))
  go_ret
  exact ⟨rfl, HM.out, HG.out⟩

/-- Bytes that came in: where they lie, below a bound. -/
structure Arg (N : Nat) (w : World) (x : Option Addr) (X : List Int) : Prop where
  loc : 0 < X.length → ∃ b o, x = some ⟨b, o, none⟩ ∧ b < N ∧ ∀ j y, X[j]? = some y → w.cell? ⟨b, o + j, none⟩ = some (.int .u8 y)
  le : N ≤ w.heap.size
  all : AllB X
theorem Arg.below {N : Nat} {w w' : World} {x : Option Addr} {X : List Int} (h : Arg N w x X) (hb : Below N w w') : Arg N w' x X :=
  ⟨fun h0 => by
    obtain ⟨b, o, hx, hlt, hc⟩ := h.loc h0
    exact ⟨b, o, hx, hlt, fun j y hj => (hb.cell (p := ⟨b, o + j, none⟩) hlt).trans (hc j y hj)⟩, Nat.le_trans h.le hb.size, h.all⟩
/-- Bytes as a granule: as many as fit. -/
def granB (X : List Int) : List Int := splice (zeroB 1) 0 (X.take 128)
theorem granB_len (X : List Int) : (granB X).length = 128 := by
  rw [granB, splice_len _ _ _ (by rw [zlen, List.length_take]; omega), zlen]
theorem splice_allB {B X : List Int} (hB : AllB B) (hX : AllB X) (o : Nat) : AllB (splice B o X) := fun x hx => by
  simp only [splice, List.mem_append] at hx
  rcases hx with h | h | h
  · exact hB x (List.mem_of_mem_take h)
  · exact hX x h
  · exact hB x (List.mem_of_mem_drop h)
theorem take_allB {X : List Int} (h : AllB X) (k : Nat) : AllB (X.take k) := fun x hx => h x (List.mem_of_mem_take hx)
theorem granB_all {X : List Int} (h : AllB X) : AllB (granB X) := splice_allB (allz 1) (take_allB h 128) 0
theorem lowB_all (n : Int) (k : Nat) : AllB (lowB n k) := fun x hx => by
  obtain ⟨j, _, rfl⟩ := List.mem_map.1 hx
  omega
theorem setRow_same {w : World} {b t : Nat} {B : List Int} (h : BytesAt w b t B) : w.setRow b (bytesV B).toArray = w := setRow_self w b _ t (0, 0) h
/-- 'copy' of what came in into a granule of noughts. -/
theorem run_cpn {N : Nat} {w : World} {b c : Nat} {x : Option Addr} {X : List Int} (ha : Arg N w x X) (h : BytesAt w b 52 (zeroB 1)) :
    (Builtin.copy_ #[31, 31] 3 #[.slice (some ⟨b, 0, none⟩) 128 128, .slice x X.length c]).run Try.prog w = .ok (.int .i64 ((Nat.min X.length 128 : Nat) : Int)) (w.setRow b (bytesV (granB X)).toArray) := by
  by_cases h0 : 0 < X.length
  · obtain ⟨sb, so, rfl, hlt, hc⟩ := ha.loc h0
    have l : (X.take 128).length = Nat.min X.length 128 := by simp [Nat.min_comm]
    rw [run_cp w b 0 128 128 sb so X.length c (zeroB 1) (X.take 128) 52 h (fun j y hj => by
      rw [List.getElem?_take] at hj
      split at hj
      · exact hc j y hj
      · cases hj) l (by rw [zlen, List.length_take]; omega), l]
    rfl
  · have : X = [] := List.eq_nil_of_length_eq_zero (by omega)
    subst this
    rw [show (([] : List Int).length) = 0 from rfl, run_copy_none (P := Try.prog) w 31 31 3 5 (some ⟨b, 0, none⟩) x 128 128 0 c Try.underlying31 (by kernel_rfl) (by simp)]
    rw [show granB [] = zeroB 1 from by simp [granB, splice], setRow_same h]
    simp [goInt]

set_option maxHeartbeats 1000000 in
theorem gran_in (N : Nat) (x : Option Addr) (X : List Int) (c : Nat) (w : World) (ha : Arg N w x X) :
    Calls Try.prog 31 #[.slice x X.length c] w fun e w' => e = .returned (.agg (bytesV (granB X)).toArray) ∧ Below w.heap.size w w' := by
  have r1 : BytesAt (w.alloc (.cells (bytesV (zeroB 1)).toArray 52)) w.heap.size 52 (zeroB 1) := heap_here rfl
  have r2 : BytesAt ((w.alloc (.cells (bytesV (zeroB 1)).toArray 52)).alloc (.cells (bytesV (zeroB 1)).toArray 52)) (w.heap.size + 1) 52 (zeroB 1) := heap_here (by simp)
  have r3 : BytesAt ((w.alloc (.cells (bytesV (zeroB 1)).toArray 52)).alloc (.cells (bytesV (zeroB 1)).toArray 52)) w.heap.size 52 (zeroB 1) := heap_past (by simp) r1
  have b1 : Below w.heap.size w ((w.alloc (.cells (bytesV (zeroB 1)).toArray 52)).alloc (.cells (bytesV (zeroB 1)).toArray 52)) := ((Below.refl _ _).alloc (Nat.le_refl _) _).alloc (by simp) _
  have hcp := run_cpn (c := c) (ha.below (b1.mono ha.le)) r2
  have r4 : BytesAt (((w.alloc (.cells (bytesV (zeroB 1)).toArray 52)).alloc (.cells (bytesV (zeroB 1)).toArray 52)).setRow (w.heap.size + 1) (bytesV (granB X)).toArray) (w.heap.size + 1) 52 (granB X) := setRow_heap _ _ _ _ _ _ r2
  have r5 : BytesAt (((w.alloc (.cells (bytesV (zeroB 1)).toArray 52)).alloc (.cells (bytesV (zeroB 1)).toArray 52)).setRow (w.heap.size + 1) (bytesV (granB X)).toArray) w.heap.size 52 (zeroB 1) := (setRow_other _ _ _ _ (by omega)).trans r3
  have hst := st_mid (X := granB X) r5 0 (by rw [granB_len, zlen]; omega)
  rw [splice_all _ _ (by rw [granB_len, zlen])] at hst
  have hln : (bytesV (granB X)).length = 128 := by rw [bytesV_len, granB_len]
  have R6 : Hid (BytesAt ((((w.alloc (.cells (bytesV (zeroB 1)).toArray 52)).alloc (.cells (bytesV (zeroB 1)).toArray 52)).setRow (w.heap.size + 1) (bytesV (granB X)).toArray).setRow w.heap.size (bytesV (granB X)).toArray) w.heap.size 52 (granB X)) := setRow_heap _ _ _ _ _ _ r5
  have HB : Hid (Below w.heap.size w ((((w.alloc (.cells (bytesV (zeroB 1)).toArray 52)).alloc (.cells (bytesV (zeroB 1)).toArray 52)).setRow (w.heap.size + 1) (bytesV (granB X)).toArray).setRow w.heap.size (bytesV (granB X)).toArray)) :=
    below_setRow (below_setRow b1 (by omega) _) (Nat.le_refl _) _
  have HR := Lib.hid (rng_row r4)
  clear r1 r2 r3 r4 r5 b1 ha
  go_enter Try.func31, Try.ntmps31
  go_wp2_with (first | (refine wpList_ld rfl (.tmp 3) rfl (w.heap.size + 1) 0 (granB X) rfl (granB_len X) HR.out ?_))
  refine ret_row rfl w.heap.size 52 _ (0, 0) _ Try.underlying52 rfl ?_ rfl R6.out rfl ?_
  · rw [size52, List.size_toArray, hln]
  · exact ⟨rfl, HB.out⟩
end Go.Proofs.Ytkpcomldjnahhaa
