/- Contracts of layer 8's functions on entries and tables. Conditions: those that each theorem states. -/
import Derived.Test.YtfeoaphibkcejaaMa
namespace Go.Proofs.Ytfeoaphibkcejaa
open Go.ChangeShapes Go.WideShapes Go.ChangeAt Go.RowKit
set_option linter.unusedSimpArgs false
set_option maxRecDepth 100000

theorem lvl {l : Int} (h3 : 0 ≤ l) (h4 : l < 4) : l = 0 ∨ l = 1 ∨ l = 2 ∨ l = 3 := by omega
/-- 4 to the power of 3 - level. -/
def manyV (l : Int) : Int := 4 ^ (3 - l).toNat
def slotV (p l : Int) : Int := p / manyV l % 4
theorem many0 : manyV 0 = 64 := rfl
theorem many1 : manyV 1 = 16 := rfl
theorem many2 : manyV 2 = 4 := rfl
theorem many3 : manyV 3 = 1 := rfl
theorem and3 (n : Fin 256) : bits .and .i64 ((n.val : Nat) : Int) 3 = ((n.val : Nat) : Int) % 4 := by
  revert n; decide +kernel
theorem and3' {p : Int} (h1 : 0 ≤ p) (h2 : p < 256) : bits .and .i64 p 3 = p % 4 := by
  obtain ⟨n, rfl⟩ := Int.eq_ofNat_of_zero_le h1
  exact and3 ⟨n, by omega⟩
def mayB (k g : Int) : Bool := decide (0 ≤ k ∧ k ≤ 6 ∧ 0 ≤ g ∧ g < 4096 ∧ (k = 1 ∨ k = 2 ∨ k = 6 ∨ g = 0))
def kindB (k : Int) : Bool := decide (0 ≤ k ∧ k ≤ 6)
def hasB (k : Int) : Bool := decide (k = 1 ∨ k = 2 ∨ k = 6)
theorem mayB_iff {k g : Int} : mayB k g = true ↔ 0 ≤ k ∧ k ≤ 6 ∧ 0 ≤ g ∧ g < 4096 ∧ (k = 1 ∨ k = 2 ∨ k = 6 ∨ g = 0) := by simp [mayB]
theorem kind_any (k : Int) (w : World) :
    Calls Try.prog 45 #[.int .i64 k] w fun e w' => e = .returned (.bool (kindB k)) ∧ w = w' := by
  go_enter Try.func45, Try.ntmps45
  go_wp2
  all_goals go_ret
  all_goals exact ⟨ret_bool (Bool.eq_iff_iff.2 (by simp [kindB] at *; try omega)), rfl⟩
theorem gran_any (k : Int) (w : World) :
    Calls Try.prog 46 #[.int .i64 k] w fun e w' => e = .returned (.bool (hasB k)) ∧ w = w' := by
  go_enter Try.func46, Try.ntmps46
  go_wp2
  all_goals go_ret
  all_goals exact ⟨ret_bool (Bool.eq_iff_iff.2 (by simp [hasB] at *; try omega)), rfl⟩
theorem may_any (k g : Int) (w : World) :
    Calls Try.prog 33 #[.agg #[.int .i64 k, .int .i64 g]] w fun e w' => e = .returned (.bool (mayB k g)) ∧ w.alloc (.cells #[.int .i64 k, .int .i64 g] 31) = w' := by
  go_enter Try.func33, Try.ntmps33
  go_wp2_with (first | (go_at_call 45; refine (kind_any _ _).mono ?_; rintro e w' ⟨rfl, rfl⟩) | (go_at_call 46; refine (gran_any _ _).mono ?_; rintro e w' ⟨rfl, rfl⟩))
  all_goals go_ret
  all_goals exact ⟨ret_bool (Bool.eq_iff_iff.2 (by simp [kindB, hasB, mayB] at *; try omega)), rfl⟩
theorem or_sum (k g : Int) (h1 : 0 ≤ k) (h2 : k < 256) (h3 : 0 ≤ g) (h4 : g < 1000000) : bits .or .u64 k (g * 256) = k + 256 * g := by
  rw [u64_or k (g * 256) (by omega) (by omega) (by omega) (by omega)]
  have e : (g * 256).toNat = 2 ^ 8 * g.toNat := by omega
  rw [e, Nat.or_comm, ← Nat.two_pow_add_eq_or_of_lt (by omega)]
  omega
theorem or_i64 (k g : Int) (h1 : 0 ≤ k) (h2 : k < 256) (h3 : 0 ≤ g) (h4 : g < 1000000) : bits .or .i64 k (g * 256) = k + 256 * g := by
  obtain ⟨n, rfl⟩ := Int.eq_ofNat_of_zero_le h1
  obtain ⟨m, rfl⟩ := Int.eq_ofNat_of_zero_le h3
  show IntKind.i64.wrap ((BitVec.ofInt 64 (n : Int) ||| BitVec.ofInt 64 ((m : Int) * 256)).toNat : Int) = _
  rw [show ((m : Int) * 256) = ((2 ^ 8 * m : Nat) : Int) by omega]
  rw [BitVec.toNat_or, BitVec.ofInt_natCast, BitVec.ofInt_natCast, BitVec.toNat_ofNat, BitVec.toNat_ofNat, Nat.mod_eq_of_lt (by omega), Nat.mod_eq_of_lt (by omega), IntKind.wrap_i64, Nat.or_comm, ← Nat.two_pow_add_eq_or_of_lt (by omega)]
  omega
def agg8 (a b c d e f g h : Int) : Value := .agg #[.int .u8 a, .int .u8 b, .int .u8 c, .int .u8 d, .int .u8 e, .int .u8 f, .int .u8 g, .int .u8 h]
theorem agg8_eq {a b c d e f g h a' b' c' d' e' f' g' h' : Int} (q : a = a' ∧ b = b' ∧ c = c' ∧ d = d' ∧ e = e' ∧ f = f' ∧ g = g' ∧ h = h') :
    (Value.agg #[.int .u8 a, .int .u8 b, .int .u8 c, .int .u8 d, .int .u8 e, .int .u8 f, .int .u8 g, .int .u8 h]) = agg8 a' b' c' d' e' f' g' h' := by
  obtain ⟨rfl, rfl, rfl, rfl, rfl, rfl, rfl, rfl⟩ := q
  rfl
set_option maxHeartbeats 1000000 in
theorem bytes_yes (k g : Int) (w : World) (h : mayB k g = true) :
    Calls Try.prog 35 #[.agg #[.int .i64 k, .int .i64 g]] w fun e w' => e = .returned (.tuple #[agg8 k (g % 256) (g / 256) 0 0 0 0 0, .int .i64 0]) ∧ Below w.heap.size w w' := by
  have H := Lib.hid h
  obtain ⟨h1, h2, h3, h4, h5⟩ := mayB_iff.1 h
  clear h h5
  have ho := or_sum k g (by omega) (by omega) (by omega) (by omega)
  go_enter Try.func35, Try.ntmps35
  go_wp2_with (first | (go_at_call 33; refine (may_any _ _ _).mono ?_; rintro e w' ⟨rfl, rfl⟩; rw [H.out]))
  refine wp_loop_rounds 9 ?_
  iterate 9 (rw [rounds_succ]; go_wp2)
  refine ret_row_tmp rfl (w.heap.size + 1) 81 _ (0, 0) _ Try.underlying81 rfl ?_ rfl (heap_past (by simp) (heap_here (by simp))) rfl ?_
  · kernel_rfl
  · refine ⟨ret_two (agg8_eq ⟨?_, ?_, ?_, ?_, ?_, ?_, ?_, ?_⟩) rfl, (((Below.refl _ _).alloc (by simp) _).alloc (by simp) _).alloc (by simp <;> omega) _⟩
    all_goals omega
theorem bytes_no (k g : Int) (w : World) (h : mayB k g = false) :
    Calls Try.prog 35 #[.agg #[.int .i64 k, .int .i64 g]] w fun e w' => e = .returned (.tuple #[agg8 0 0 0 0 0 0 0 0, .int .i64 2]) ∧ Below w.heap.size w w' := by
  have H := Lib.hid h
  clear h
  go_enter Try.func35, Try.ntmps35
  go_wp2_with (first | (go_at_call 33; refine (may_any _ _ _).mono ?_; rintro e w' ⟨rfl, rfl⟩; rw [H.out]))
  refine ret_row_tmp rfl (w.heap.size + 1) 81 _ (0, 0) _ Try.underlying81 rfl ?_ rfl (heap_past (by simp) (heap_here (by simp))) rfl ?_
  · kernel_rfl
  · exact ⟨ret_two (agg8_eq ⟨rfl, rfl, rfl, rfl, rfl, rfl, rfl, rfl⟩) rfl, (((Below.refl _ _).alloc (by simp) _).alloc (by simp) _).alloc (by simp <;> omega) _⟩
/-- Eight bytes. -/
def Byt (a : Int) : Prop := 0 ≤ a ∧ a < 256
theorem info5 : ∃ i, Try.prog.info? 5 = some i := by
  have h : (Try.prog.info? 5).isSome = true := by kernel_rfl
  exact Option.isSome_iff_exists.1 h
theorem cells5 : Try.prog.cellsOf 5 = 1 := by kernel_rfl
/-- '==' on two arrays of eight bytes, as the walk meets it. -/
theorem run_eq8 (w : World) (a b c d e f g h a' b' c' d' e' f' g' h' : Int) :
    (Op.equalIn 10000 81 (.agg #[.int .u8 a, .int .u8 b, .int .u8 c, .int .u8 d, .int .u8 e, .int .u8 f, .int .u8 g, .int .u8 h]) (.agg #[.int .u8 a', .int .u8 b', .int .u8 c', .int .u8 d', .int .u8 e', .int .u8 f', .int .u8 g', .int .u8 h'])).run Try.prog w =
      .ok (decide ([a, b, c, d, e, f, g, h] = [a', b', c', d', e', f', g', h'])) w := by
  obtain ⟨i, hi⟩ := info5
  exact run_equalIn_ints w 9998 Try.underlying81 hi cells5 Try.underlying5 [a, b, c, d, e, f, g, h] [a', b', c', d', e', f', g', h'] rfl rfl
attribute [local go_sem] run_eq8
/-- Are these eight bytes an entry's? -/
def okB (a b c d e f g h : Int) : Bool := mayB a (b + 256 * c) && (d == 0 && e == 0 && f == 0 && g == 0 && h == 0)
theorem okB_iff {a b c d e f g h : Int} : okB a b c d e f g h = true ↔ (0 ≤ a ∧ a ≤ 6 ∧ 0 ≤ b + 256 * c ∧ b + 256 * c < 4096 ∧ (a = 1 ∨ a = 2 ∨ a = 6 ∨ b + 256 * c = 0)) ∧ d = 0 ∧ e = 0 ∧ f = 0 ∧ g = 0 ∧ h = 0 := by
  simp [okB, mayB, and_assoc]
theorem of_yes (a b c d e f g h : Int) (w : World) (hb : 0 ≤ b ∧ b < 256) (hc : 0 ≤ c ∧ c < 256) (ho : okB a b c d e f g h = true) :
    Calls Try.prog 41 #[agg8 a b c d e f g h] w fun e w' => e = .returned (.tuple #[.agg #[.int .i64 a, .int .i64 (b + 256 * c)], .int .i64 0]) ∧ Below w.heap.size w w' := by
  obtain ⟨⟨o1, o2, o3, o4, o5⟩, rfl, rfl, rfl, rfl, rfl⟩ := okB_iff.1 ho
  have hm : Hid (mayB a (b + 256 * c) = true) := mayB_iff.2 ⟨o1, o2, o3, o4, o5⟩
  have h1 := or_i64 b c (by omega) (by omega) (by omega) (by omega)
  obtain ⟨hb1, hb2⟩ := hb
  obtain ⟨hc1, hc2⟩ := hc
  have e1 : b % 256 = b := by omega
  have e2 : (b + 256 * c) / 256 = c := by omega
  clear ho o5
  unfold agg8
  go_enter Try.func41, Try.ntmps41
  go_wp2_with (first | (go_at_call 35; (refine (bytes_yes _ _ _ hm.out).mono ?_; rintro e w' ⟨rfl, hb⟩; unfold agg8; obtain ⟨hq1, hq2⟩ := bcell hb; have hz := bsize hb; simp at hz; have z0 : w.heap.size < w'.heap.size := (by omega); have z1 : w.heap.size + 1 < w'.heap.size := (by omega); have z2 : w.heap.size + 1 + 1 < w'.heap.size := (by omega))))
  refine ret_row_tmp rfl (w.heap.size + 1) 31 _ (0, 0) _ Try.underlying31 rfl ?_ rfl (heap_past (by simp; omega) (heap_setCell_same _ _ _ _ _ _ (heap_setCell_same _ _ _ _ _ _ ((hb.block _ (by simp)).trans (heap_past (by simp) (heap_here (by simp))))))) rfl ?_
  · kernel_rfl
  · exact ⟨rfl, (((((((Below.refl _ _).alloc (by simp) _).alloc (by simp) _).alloc (by simp <;> omega) _).trans (hb.mono (by simp <;> omega))).setCell (by simp) _).setCell (by simp) _).alloc (by simp; omega) _⟩
theorem of_no (a b c d e f g h : Int) (w : World) (ha : 0 ≤ a ∧ a < 256) (hb : 0 ≤ b ∧ b < 256) (hc : 0 ≤ c ∧ c < 256) (ho : okB a b c d e f g h = false) :
    Calls Try.prog 41 #[agg8 a b c d e f g h] w fun e w' => e = .returned (.tuple #[.agg #[.int .i64 0, .int .i64 0], .int .i64 4]) ∧ Below w.heap.size w w' := by
  have h1 := or_i64 b c (by omega) (by omega) (by omega) (by omega)
  obtain ⟨ha1, ha2⟩ := ha
  obtain ⟨hb1, hb2⟩ := hb
  obtain ⟨hc1, hc2⟩ := hc
  cases hm0 : mayB a (b + 256 * c)
  · have hm := Lib.hid hm0
    clear ho hm0
    unfold agg8
    go_enter Try.func41, Try.ntmps41
    go_wp2_with (first | (go_at_call 35; (refine (bytes_no _ _ _ hm.out).mono ?_; rintro e w' ⟨rfl, hb⟩; unfold agg8; obtain ⟨hq1, hq2⟩ := bcell hb; have hz := bsize hb; simp at hz; have z0 : w.heap.size < w'.heap.size := (by omega); have z1 : w.heap.size + 1 < w'.heap.size := (by omega); have z2 : w.heap.size + 1 + 1 < w'.heap.size := (by omega))))
    refine ret_row_tmp rfl (w.heap.size + 1) 31 _ (0, 0) _ Try.underlying31 rfl ?_ rfl (heap_past (by simp; omega) (heap_setCell_same _ _ _ _ _ _ (heap_setCell_same _ _ _ _ _ _ ((hb.block _ (by simp)).trans (heap_past (by simp) (heap_here (by simp))))))) rfl ?_
    · kernel_rfl
    · exact ⟨rfl, (((((((Below.refl _ _).alloc (by simp) _).alloc (by simp) _).alloc (by simp <;> omega) _).trans (hb.mono (by simp <;> omega))).setCell (by simp) _).setCell (by simp) _).alloc (by simp; omega) _⟩
  · have hm := Lib.hid hm0
    obtain ⟨o1, o2, o3, o4, _⟩ := mayB_iff.1 hm0
    have e1 : b % 256 = b := by omega
    have e2 : (b + 256 * c) / 256 = c := by omega
    have e3 : Hid (¬ (d = 0 ∧ e = 0 ∧ f = 0 ∧ g = 0 ∧ h = 0)) := by
      intro hq
      rw [okB, hm0] at ho
      simp at ho
      exact ho hq.1 hq.2.1 hq.2.2.1 hq.2.2.2.1 hq.2.2.2.2
    clear ho hm0
    unfold agg8
    go_enter Try.func41, Try.ntmps41
    go_wp2_with (first | (go_at_call 35; (refine (bytes_yes _ _ _ hm.out).mono ?_; rintro e w' ⟨rfl, hb⟩; unfold agg8; obtain ⟨hq1, hq2⟩ := bcell hb; have hz := bsize hb; simp at hz; have z0 : w.heap.size < w'.heap.size := (by omega); have z1 : w.heap.size + 1 < w'.heap.size := (by omega); have z2 : w.heap.size + 1 + 1 < w'.heap.size := (by omega))))
    all_goals first | (exfalso; rename_i hx; simp at hx; exact e3.out (by omega)) | skip
    refine ret_row_tmp rfl (w.heap.size + 1) 31 _ (0, 0) _ Try.underlying31 rfl ?_ rfl (heap_past (by simp; omega) (heap_setCell_same _ _ _ _ _ _ (heap_setCell_same _ _ _ _ _ _ ((hb.block _ (by simp)).trans (heap_past (by simp) (heap_here (by simp))))))) rfl ?_
    · kernel_rfl
    · exact ⟨rfl, (((((((Below.refl _ _).alloc (by simp) _).alloc (by simp) _).alloc (by simp <;> omega) _).trans (hb.mono (by simp <;> omega))).setCell (by simp) _).setCell (by simp) _).alloc (by simp; omega) _⟩
/-- What 'entry.Of' answers to eight bytes. -/
def ofV (a b c d e f g h : Int) : Value := if okB a b c d e f g h then .tuple #[.agg #[.int .i64 a, .int .i64 (b + 256 * c)], .int .i64 0] else .tuple #[.agg #[.int .i64 0, .int .i64 0], .int .i64 4]
theorem of_any (a b c d e f g h : Int) (w : World) (ha : 0 ≤ a ∧ a < 256) (hb : 0 ≤ b ∧ b < 256) (hc : 0 ≤ c ∧ c < 256) :
    Calls Try.prog 41 #[.agg #[.int .u8 a, .int .u8 b, .int .u8 c, .int .u8 d, .int .u8 e, .int .u8 f, .int .u8 g, .int .u8 h]] w fun e' w' => e' = .returned (ofV a b c d e f g h) ∧ Below w.heap.size w w' := by
  unfold ofV
  cases ho : okB a b c d e f g h
  · exact of_no a b c d e f g h w ha hb hc ho
  · exact of_yes a b c d e f g h w hb hc ho
def levelB (k g l : Int) : Bool := mayB k g && decide (0 ≤ l ∧ l ≤ 3 ∧ (l = 3 → k ≠ 1) ∧ (l ≠ 3 → k = 0 ∨ k = 1 ∨ k = 3))
theorem level_any (k g l : Int) (w : World) :
    Calls Try.prog 20 #[.agg #[.int .i64 k, .int .i64 g], .int .i64 l] w fun e w' => e = .returned (.bool (levelB k g l)) ∧ Below w.heap.size w w' := by
  go_enter Try.func20, Try.ntmps20
  go_wp2_with (first | (go_at_call 33; refine (may_any _ _ _).mono ?_; rintro e w' ⟨rfl, rfl⟩))
  all_goals go_ret
  all_goals refine ⟨ret_bool (Bool.eq_iff_iff.2 ?_), ((Below.refl _ _).alloc (by simp) _).alloc (by simp) _⟩
  all_goals simp_all [levelB]
  all_goals first | omega | (rw [Bool.eq_iff_iff]; simp; omega)
theorem mayq (k g : Int) (w : World) : Calls Try.prog 33 #[.agg #[.int .i64 k, .int .i64 g]] w fun e w' => e = .returned (.bool (mayB k g)) ∧ Below w.heap.size w w' :=
  (may_any k g w).mono fun e w' ⟨he, hw⟩ => ⟨he, hw ▸ (Below.refl _ _).alloc (by simp) _⟩
def okAt (G : List Int) (i : Nat) : Bool := okB (byD G (8 * i)) (byD G (8 * i + 1)) (byD G (8 * i + 2)) (byD G (8 * i + 3)) (byD G (8 * i + 4)) (byD G (8 * i + 5)) (byD G (8 * i + 6)) (byD G (8 * i + 7))
def kAt (G : List Int) (i : Nat) : Int := byD G (8 * i)
def gAt (G : List Int) (i : Nat) : Int := byD G (8 * i + 1) + 256 * byD G (8 * i + 2)
theorem ok_may {G : List Int} {i : Nat} (h : okAt G i = true) : mayB (kAt G i) (gAt G i) = true := by
  unfold okAt okB at h
  simp only [Bool.and_eq_true] at h
  exact h.1
theorem ofV_yes {a b c d e f g h : Int} (q : okB a b c d e f g h = true) : ofV a b c d e f g h = .tuple #[.agg #[.int .i64 a, .int .i64 (b + 256 * c)], .int .i64 0] := by simp [ofV, q]
theorem ofV_no {a b c d e f g h : Int} (q : okB a b c d e f g h = false) : ofV a b c d e f g h = .tuple #[.agg #[.int .i64 0, .int .i64 0], .int .i64 4] := by simp [ofV, q]
theorem of_at (G : List Int) (hG : AllB G) (i : Nat) (w : World) :
    Calls Try.prog 41 #[agg8 (byD G (8 * i)) (byD G (8 * i + 1)) (byD G (8 * i + 2)) (byD G (8 * i + 3)) (byD G (8 * i + 4)) (byD G (8 * i + 5)) (byD G (8 * i + 6)) (byD G (8 * i + 7))] w fun e w' =>
      e = .returned (if okAt G i then .tuple #[.agg #[.int .i64 (kAt G i), .int .i64 (gAt G i)], .int .i64 0] else .tuple #[.agg #[.int .i64 0, .int .i64 0], .int .i64 4]) ∧ Below w.heap.size w w' :=
  of_any _ _ _ _ _ _ _ _ w (byD_lt hG _) (byD_lt hG _) (byD_lt hG _)
theorem arr8 (a : Option Addr) (c : Nat) (w : World) : (Instr.arrayAt 81 (.slice a 8 c)).run Try.prog w = .ok (.pointer a) w := by
  simp [Instr.arrayAt, run_underlying Try.underlying81]
/-- Four entries in memory. -/
structure E4 (w : World) (b o : Nat) (k0 g0 k1 g1 k2 g2 k3 g3 : Int) : Prop where
  lt : b < w.heap.size
  c0 : w.cell? ⟨b, o, none⟩ = some (.int .i64 k0)
  c1 : w.cell? ⟨b, o + 1, none⟩ = some (.int .i64 g0)
  c2 : w.cell? ⟨b, o + 2, none⟩ = some (.int .i64 k1)
  c3 : w.cell? ⟨b, o + 3, none⟩ = some (.int .i64 g1)
  c4 : w.cell? ⟨b, o + 4, none⟩ = some (.int .i64 k2)
  c5 : w.cell? ⟨b, o + 5, none⟩ = some (.int .i64 g2)
  c6 : w.cell? ⟨b, o + 6, none⟩ = some (.int .i64 k3)
  c7 : w.cell? ⟨b, o + 7, none⟩ = some (.int .i64 g3)
theorem E4.of {w w' : World} {b o : Nat} {k0 g0 k1 g1 k2 g2 k3 g3 : Int} (h : E4 w b o k0 g0 k1 g1 k2 g2 k3 g3) (hb : w'.heap[b]? = w.heap[b]?) (hlt : b < w'.heap.size) : E4 w' b o k0 g0 k1 g1 k2 g2 k3 g3 :=
  have e := fun (j : Nat) => World.cell?_of_block (w := w) (w' := w') (a := ⟨b, j, none⟩) hb
  ⟨hlt, (e _).trans h.c0, (e _).trans h.c1, (e _).trans h.c2, (e _).trans h.c3, (e _).trans h.c4, (e _).trans h.c5, (e _).trans h.c6, (e _).trans h.c7⟩
theorem E4.below {w w' : World} {b o : Nat} {k0 g0 k1 g1 k2 g2 k3 g3 : Int} (h : E4 w b o k0 g0 k1 g1 k2 g2 k3 g3) (hb : Below w.heap.size w w') : E4 w' b o k0 g0 k1 g1 k2 g2 k3 g3 :=
  h.of (hb.block b h.lt) (Nat.lt_of_lt_of_le h.lt hb.size)
theorem E4.grown {w w' : World} {b o : Nat} {k0 g0 k1 g1 k2 g2 k3 g3 : Int} {r : Nat} (h : E4 w b o k0 g0 k1 g1 k2 g2 k3 g3) (hb : w.grownBy w' (some r)) (hne : b ≠ r) : E4 w' b o k0 g0 k1 g1 k2 g2 k3 g3 :=
  h.of (hb.block b h.lt (by simp [hne])) (Nat.lt_of_lt_of_le h.lt hb.size)
def ok4 (k0 g0 k1 g1 k2 g2 k3 g3 : Int) : Bool := mayB k0 g0 && (mayB k1 g1 && (mayB k2 g2 && mayB k3 g3))
theorem ok4_cases (k0 g0 k1 g1 k2 g2 k3 g3 : Int) : mayB k0 g0 = false ∨ (mayB k0 g0 = true ∧ mayB k1 g1 = false) ∨ (mayB k0 g0 = true ∧ mayB k1 g1 = true ∧ mayB k2 g2 = false) ∨ (mayB k0 g0 = true ∧ mayB k1 g1 = true ∧ mayB k2 g2 = true ∧ mayB k3 g3 = false) ∨ (mayB k0 g0 = true ∧ mayB k1 g1 = true ∧ mayB k2 g2 = true ∧ mayB k3 g3 = true) := by
  cases mayB k0 g0 <;> cases mayB k1 g1 <;> cases mayB k2 g2 <;> cases mayB k3 g3 <;> simp
theorem not48 (k g : Int) (w : World) :
    Calls Try.prog 38 #[.agg #[.int .i64 k, .int .i64 g]] w fun e w' => e = .returned (.bool (!mayB k g)) ∧ Below w.heap.size w w' := by
  go_enter Try.func38, Try.ntmps38
  go_wp2_with (go_at_call 33; refine (mayq _ _ _).mono ?_; rintro e w' ⟨rfl, hb⟩)
  go_ret
  exact ⟨rfl, ((Below.refl _ _).alloc (Nat.le_refl _) _).trans (hb.mono (by simp))⟩
set_option maxHeartbeats 2000000 in
theorem index4 (b o c : Nat) (k0 g0 k1 g1 k2 g2 k3 g3 : Int) (w : World) (h : E4 w b o k0 g0 k1 g1 k2 g2 k3 g3) :
    Calls Try.prog 47 #[.slice (some ⟨b, o, none⟩) 4 c, .func (.func 38) #[] #[]] w fun e w' => (∃ n : Int, e = .returned (.int .i64 n) ∧ decide (0 ≤ n) = !ok4 k0 g0 k1 g1 k2 g2 k3 g3) ∧ Below w.heap.size w w' := by
  obtain ⟨lt, c0, c1, c2, c3, c4, c5, c6, c7⟩ := h
  have HE : Hid (E4 w b o k0 g0 k1 g1 k2 g2 k3 g3) := ⟨lt, c0, c1, c2, c3, c4, c5, c6, c7⟩
  have HB : Hid (Below w.heap.size w w) := Below.refl _ _
  unfold ok4
  clear lt
  rcases ok4_cases k0 g0 k1 g1 k2 g2 k3 g3 with m0 | ⟨m0, m1⟩ | ⟨m0, m1, m2⟩ | ⟨m0, m1, m2, m3⟩ | ⟨m0, m1, m2, m3⟩
  all_goals go_enter Try.func47, Try.ntmps47
  all_goals go_wp2_with fail
  all_goals refine wp_loop_rounds 5 ?_
  all_goals
    iterate 5
      try rw [rounds_succ]
      try go_wp2_with (go_at_call 38; refine (not48 _ _ _).mono ?_; rintro e w' ⟨rfl, hb⟩; replace HE := Lib.hid (HE.out.below hb); replace HB := Lib.hid (HB.out.trans (hb.mono HB.out.size)); clear hb c0 c1 c2 c3 c4 c5 c6 c7; obtain ⟨lt, c0, c1, c2, c3, c4, c5, c6, c7⟩ := HE.out; clear lt)
  all_goals go_ret
  all_goals exact ⟨⟨_, rfl, by simp [m0, *]⟩, HB.out⟩
theorem contains4 (b o c : Nat) (k0 g0 k1 g1 k2 g2 k3 g3 : Int) (w : World) (h : E4 w b o k0 g0 k1 g1 k2 g2 k3 g3) :
    Calls Try.prog 37 #[.slice (some ⟨b, o, none⟩) 4 c, .func (.func 38) #[] #[]] w fun e w' => e = .returned (.bool (!ok4 k0 g0 k1 g1 k2 g2 k3 g3)) ∧ Below w.heap.size w w' := by
  have HE := Lib.hid h
  clear h
  go_enter Try.func37, Try.ntmps37
  go_wp2_with (go_at_call 47; refine (index4 _ _ _ _ _ _ _ _ _ _ _ _ HE.out).mono ?_; rintro e w' ⟨⟨n, rfl, hn⟩, hb⟩)
  all_goals go_ret
  all_goals exact ⟨ret_bool (by rw [← hn]), hb⟩
end Go.Proofs.Ytfeoaphibkcejaa
