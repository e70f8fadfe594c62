/- The statement GranulePlays: all rows, act by act, and what is refused. -/
import Derived.Test.YthdhcmmpeilbmaaGoe
namespace Go.Proofs.Ythdhcmmpeilbmaa
open Go.ChangeShapes Go.WideShapes Go.Deep Go.ChangeAt Go.RowKit
set_option linter.unusedSimpArgs false
namespace GranulePlays

set_option maxRecDepth 100000 in
set_option maxHeartbeats 2000000 in
/-- 'rows': the table has these rows, and refuses what lies beside them. -/
theorem rows_any (n tb rb wb : Nat) (R : List Rw) (w : World) (hB : Both w tb rb wb R) (hn : R.length = n) (hn1 : 1 ≤ n) (hn2 : n ≤ 20) :
    Calls Try.prog 15 #[.pointer (some ⟨tb, 0, none⟩), .slice (some ⟨wb, 0, none⟩) n n] w fun e w' => e = .returned (.bool true) ∧ Below w.heap.size w w' := by
  have HN := Lib.hid hn
  have T0 := Lib.hid hB
  have G := Lib.hid (fun W (h : Tab W tb rb R) => hn ▸ granules_tab tb rb R W h)
  clear hn hB
  go_enter Try.func15, Try.ntmps15
  go_wp2_with (go_at_call 20; refine (G.out _ T0.out.tab).mono ?_; rintro e w' ⟨rfl, rfl⟩)
  go_loopw [5] (fun i wr => ∃ j : Nat, j ≤ n ∧ i = .int .i64 j ∧ Both wr tb rb wb R ∧ Below w.heap.size w wr) (fun i _ => n - (intOf i).toNat)
  case atStart => exact ⟨0, Nat.zero_le _, rfl, T0.out, Below.refl _ _⟩
  case round =>
    obtain ⟨j, hj, rfl, hBj, hbj⟩ := hrel
    by_cases hlj : j < n
    · have hjR : j < R.length := by have := HN.out; omega
      obtain ⟨s, o, kk, hr⟩ : ∃ s o kk, rowD R j = (s, o, kk) := ⟨_, _, _, rfl⟩
      have HR := Lib.hid hr
      have hz := hBj.tab.lt
      have hzw : wb < wr.heap.size := (Array.getElem?_eq_some_iff.1 hBj.rows).1
      have hsz := hbj.size
      clear T0
      go_wp2_with fail
      refine (Row_in tb rb R j s o kk _ hBj.tab hjR hr).mono ?_
      rintro e w5 ⟨rfl, h5⟩
      have hB5 := Lib.hid (hBj.below h5)
      have hs5 := h5.size
      obtain ⟨d0, d1, d2⟩ := hB5.out.rows.cells hjR hr
      have jn : (j : Int) < (n : Int) := by omega
      have jn0 : (0 : Int) ≤ (j : Int) := by omega
      have hzw5 : wb < w5.heap.size := by omega
      have B6 := Lib.hid (hB5.out.below (((Below.refl _ _).alloc (Nat.le_refl _) (.cells #[.int .i64 s, .int .u64 o, .int .i64 kk] 35)).drew))
      have r6 := heap_here (w := w5) (o := .cells #[.int .i64 s, .int .u64 o, .int .i64 kk] 35) rfl
      have S6 : (w5.alloc (.cells #[.int .i64 s, .int .u64 o, .int .i64 kk] 35)).drew.cell? ⟨w5.heap.size, 0, none⟩ = some (.int .i64 s) ∧ (w5.alloc (.cells #[.int .i64 s, .int .u64 o, .int .i64 kk] 35)).drew.cell? ⟨w5.heap.size, 1, none⟩ = some (.int .u64 o) ∧ (w5.alloc (.cells #[.int .i64 s, .int .u64 o, .int .i64 kk] 35)).drew.cell? ⟨w5.heap.size, 2, none⟩ = some (.int .i64 kk) ∧ (w5.alloc (.cells #[.int .i64 s, .int .u64 o, .int .i64 kk] 35)).drew.cell? ⟨wb, j * 3, none⟩ = some (.int .i64 s) ∧ (w5.alloc (.cells #[.int .i64 s, .int .u64 o, .int .i64 kk] 35)).drew.cell? ⟨wb, j * 3 + 1, none⟩ = some (.int .u64 o) ∧ (w5.alloc (.cells #[.int .i64 s, .int .u64 o, .int .i64 kk] 35)).drew.cell? ⟨wb, j * 3 + 2, none⟩ = some (.int .i64 kk) := by
        obtain ⟨q0, q1, q2⟩ := B6.out.rows.cells hjR hr
        exact ⟨cell_of_row _ _ 0 _ _ _ r6, cell_of_row _ _ 1 _ _ _ r6, cell_of_row _ _ 2 _ _ _ r6, q0, q1, q2⟩
      have b6 : Hid (Below w.heap.size w (w5.alloc (.cells #[.int .i64 s, .int .u64 o, .int .i64 kk] 35)).drew) := ((hbj.trans (h5.mono hsz)).alloc (by omega) _).drew
      clear hr hBj hbj h5 d0 d1 d2 r6
      go_wp2_with fail
      go_region_held3 (fun w' => w'.cell? ⟨w5.heap.size, 0, none⟩ = some (.int .i64 s) ∧ w'.cell? ⟨w5.heap.size, 1, none⟩ = some (.int .u64 o) ∧ w'.cell? ⟨w5.heap.size, 2, none⟩ = some (.int .i64 kk) ∧ w'.cell? ⟨wb, j * 3, none⟩ = some (.int .i64 s) ∧ w'.cell? ⟨wb, j * 3 + 1, none⟩ = some (.int .u64 o) ∧ w'.cell? ⟨wb, j * 3 + 2, none⟩ = some (.int .i64 kk)) ((first | exact S6 | assumption)) ((first | (go_at_call 18; refine (Host_in tb rb R j s o kk _ B6.out.tab hjR HR.out).mono ?_; rintro e w' ⟨rfl, rfl⟩)))
      go_wp2_with fail
      exact ⟨⟨j + 1, by omega, by go_num, B6.out, b6.out⟩, by simp [intOf]; omega⟩
    · obtain rfl : j = n := by omega
      have hz := hBj.tab.lt
      have hsz := hbj.size
      have HT := Lib.hid hBj.tab
      have RO := Lib.hid (fun (g : Int) W (h : Tab W tb rb R) (hg : g < 0 ∨ (R.length : Int) ≤ g) => Row_out tb rb R g W h (by have := HN.out; omega) hg)
      have HO := Lib.hid (fun (g : Int) W (h : Tab W tb rb R) (hg : g < 0 ∨ (R.length : Int) ≤ g) => Host_out tb rb R g W h (by have := HN.out; omega) hg)
      clear T0 hBj
      go_wp2_with fail
      refine (RO.out _ _ HT.out (by omega)).mono ?_
      rintro e w2 ⟨rfl, h2⟩
      have s2 := h2.size
      have T2 := Lib.hid ((HT.out.below h2).below ((Below.refl _ _).alloc (Nat.le_refl _) (.cells #[.int .i64 0, .int .u64 0, .int .i64 0] 35)))
      have b2 : Hid (Below w.heap.size w (w2.alloc (.cells #[.int .i64 0, .int .u64 0, .int .i64 0] 35))) := (hbj.trans (h2.mono hsz)).alloc (by omega) _
      clear h2 hbj
      go_wp2_with fail
      refine (RO.out _ _ T2.out (by have := HN.out; omega)).mono ?_
      rintro e w3 ⟨rfl, h3⟩
      have s3 := h3.size
      simp at s3
      have T3 := Lib.hid ((T2.out.below h3).below ((Below.refl _ _).alloc (Nat.le_refl _) (.cells #[.int .i64 0, .int .u64 0, .int .i64 0] 35)))
      have b3 : Hid (Below w.heap.size w (w3.alloc (.cells #[.int .i64 0, .int .u64 0, .int .i64 0] 35))) := (b2.out.trans (h3.mono (by simp; omega))).alloc (by omega) _
      clear h3
      go_wp2_with (go_at_call 18; refine (HO.out _ _ T3.out (by have := HN.out; omega)).mono ?_; rintro e w' ⟨rfl, rfl⟩)
      go_ret
      exact ⟨rfl, b3.out⟩

set_option maxRecDepth 100000 in
set_option maxHeartbeats 2000000 in
theorem walkin (n : Nat) (x : Option Addr) (len cap b off : Nat) (A : Nat → Int × Int × Int × Int × Int) (w : World) (hn1 : 1 ≤ n) (hn2 : n ≤ 20) (hlen : len ≤ 100) (hA : Acts w x len b off A) :
    Calls Try.prog 5 #[.int .i64 n, .slice x len cap] w fun e w' => e = .returned (.bool true) ∧ Below w.heap.size w w' := by
  have hmk := run_rows n (by omega)
  have HA := Lib.hid hA
  clear hA
  go_enter Try.func5, Try.ntmps5
  go_wp2_with fail
  refine (new_yes n _ (by omega) (by omega)).mono ?_
  rintro e w1 ⟨rfl, t1, b1⟩
  have z1 := t1.lt.1
  have B0 : Both (w1.alloc (.cells (rowsV (zeroR n)).toArray 35)) (w.heap.size + 1) w.heap.size w1.heap.size (zeroR n) := ⟨t1.below ((Below.refl _ _).alloc (Nat.le_refl _) _), heap_here rfl, by omega, by omega⟩
  have b0 := b1.alloc (by omega) (.cells (rowsV (zeroR n)).toArray 35)
  have zl : Hid ((zeroR n).length = n) := by simp [zeroR, Hid]
  clear t1 b1
  go_wp2_with (go_at_call 15; refine (rows_any n _ _ _ (zeroR n) _ B0 zl.out hn1 hn2).mono ?_; rintro e w2 ⟨rfl, h2⟩)
  have s2 := h2.size
  simp at s2
  have B2 := B0.below h2
  have b2 := b0.trans (h2.mono (by simp; omega))
  clear B0 b0 h2
  go_loopw [8] (fun i wr => ∃ (k : Nat) (R : List Rw), k ≤ len ∧ i = .int .i64 k ∧ R.length = n ∧ Good R k ∧ Both wr (w.heap.size + 1) w.heap.size w1.heap.size R ∧ Below w.heap.size w wr) (fun i _ => len - (intOf i).toNat)
  case atStart => exact ⟨0, zeroR n, Nat.zero_le _, rfl, by simp [zeroR], good_zero n, B2, b2⟩
  case round =>
    obtain ⟨k, R, hk, rfl, hRn, hG, hB, hbel⟩ := hrel
    clear B2 b2 hmk
    by_cases hlt : k < len
    · obtain rfl := HA.out.at_ (by omega)
      have hbb := HA.out.lt (by omega)
      have c0 := (hbel.cell (p := ⟨b, off + k * 5, none⟩) hbb).trans (HA.out.c0 k hlt)
      have c1 := (hbel.cell (p := ⟨b, off + k * 5 + 1, none⟩) hbb).trans (HA.out.c1 k hlt)
      have c2 := (hbel.cell (p := ⟨b, off + k * 5 + 2, none⟩) hbb).trans (HA.out.c2 k hlt)
      have c3 := (hbel.cell (p := ⟨b, off + k * 5 + 3, none⟩) hbb).trans (HA.out.c3 k hlt)
      have c4 := (hbel.cell (p := ⟨b, off + k * 5 + 4, none⟩) hbb).trans (HA.out.c4 k hlt)
      have HG := Lib.hid hG
      have HR := Lib.hid hRn
      clear hG hRn
      go_wp2_with fail
      refine (do_n HR.out (A k) _ hB (by omega) (fun i hi => by have := HG.out i hi; omega)).mono ?_
      rintro e w3 ⟨rfl, hB3, h3⟩
      have hz := hB.tab.lt.1
      have hbel3 := below_two hbel (by omega) h3 (by omega) (by omega)
      have HR2 : Hid ((actR R (A k).1 (A k).2.1 (A k).2.2.1 (A k).2.2.2.1 (A k).2.2.2.2).length = n) := (actR_len _ _ _ _ _ _).trans HR.out
      have HG2 := Lib.hid (act_good (kd := (A k).1) (g := (A k).2.1) (f := (A k).2.2.1) (t := (A k).2.2.2.1) (ow := (A k).2.2.2.2) HG.out)
      generalize actR R (A k).1 (A k).2.1 (A k).2.2.1 (A k).2.2.2.1 (A k).2.2.2.2 = R2 at *
      clear c0 c1 c2 c3 c4 HG HR hB hbel h3
      go_wp2_with (go_at_call 15; refine (rows_any n _ _ _ R2 _ hB3 HR2.out hn1 hn2).mono ?_; rintro e w4 ⟨rfl, h4⟩)
      have hz3 := hB3.tab.lt.1
      have hB4 := Lib.hid (hB3.below h4)
      have hbel4 := hbel3.trans (h4.mono (by omega))
      clear hB3 hbel3 h4
      go_roundw
      case rel => exact ⟨k + 1, R2, by omega, by go_num, HR2.out, HG2.out, hB4.out, hbel4⟩
      case measure => simp [intOf]; omega
    · have hz := hB.tab.lt.1
      clear hG hB hRn
      go_wp2_with (go_at_call 8; refine (known_any _).mono ?_; rintro e w5 ⟨rfl, b5⟩)
      go_ret
      exact ⟨rfl, hbel.trans (b5.mono (by omega))⟩

theorem walk_known (n : Int) (x : Option Addr) (len cap : Nat) (w : World) (h : (20 < n ∧ n ≤ 4096) ∨ 100 < len) (hlen : len ≤ 9223372036854775807) :
    Calls Try.prog 5 #[.int .i64 n, .slice x len cap] w fun e w' => e = .returned (.bool true) ∧ Below w.heap.size w w' := by
  rcases (show (20 < n ∧ n ≤ 4096) ∨ (n ≤ 20 ∧ 100 < len) ∨ (20 < n ∧ 4096 < n ∧ 100 < len) by omega) with ⟨h1, h2⟩ | ⟨h1, h2⟩ | ⟨h1, h2, h3⟩
  all_goals clear h
  all_goals go_enter Try.func5, Try.ntmps5
  all_goals go_wp2_with (go_at_call 8; refine (known_any _).mono ?_; rintro e w5 ⟨rfl, b5⟩)
  all_goals go_ret
  all_goals exact ⟨rfl, b5⟩
theorem walk_no (n : Int) (x : Option Addr) (len cap : Nat) (w : World) (h : n < 1 ∨ 4096 < n) (hlen : len ≤ 100) :
    Calls Try.prog 5 #[.int .i64 n, .slice x len cap] w fun e w' => e = .returned (.bool true) ∧ Below w.heap.size w w' := by
  have F := Lib.hid (new_no n w h)
  rcases (show n < 1 ∨ (1 ≤ n ∧ 20 < n ∧ 4096 < n) by omega) with h1 | ⟨h1, h2, h3⟩
  all_goals clear h
  all_goals go_enter Try.func5, Try.ntmps5
  all_goals go_wp2_with (first | (go_at_call 9; refine F.out.mono ?_; rintro e w' ⟨rfl, rfl⟩) | (go_at_call 8; refine (known_any _).mono ?_; rintro e w5 ⟨rfl, b5⟩))
  all_goals go_ret
  all_goals exact ⟨rfl, b5⟩

theorem walk (n : Int) (x : Option Addr) (len cap b off : Nat) (A : Nat → Int × Int × Int × Int × Int) (w : World) (hlen : len ≤ maxLen) (hA : Acts w x len b off A) :
    Calls Try.prog 5 #[.int .i64 n, .slice x len cap] w fun e w' => e = .returned (.bool true) ∧ Below w.heap.size w w' := by
  unfold maxLen at hlen
  by_cases h : (20 < n ∧ n ≤ 4096) ∨ 100 < len
  · exact walk_known n x len cap w h hlen
  · by_cases h2 : n < 1 ∨ 4096 < n
    · exact walk_no n x len cap w h2 (by omega)
    · obtain ⟨k, rfl⟩ := Int.eq_ofNat_of_zero_le (show 0 ≤ n by omega)
      exact walkin k x len cap b off A w (by omega) (by omega) (by omega) hA

theorem hread : ∀ t ∈ Try.f5.params.toList, Try.prog.readableRec t = true ∧ t < Try.prog.types.size := by
  rw [Try.params5]
  intro t ht
  simp at ht
  rcases ht with rfl | rfl
  · exact read3
  · exact read22

set_option maxRecDepth 100000 in
theorem lifted (os : Os) (started : os.Started) (H : Type) (enc : TypeId × Value → H) :
    ReturnsInHanded {} Try.checked os 5 .any (Rows.granulePlaysSpec.pre6 enc Try.prog Try.f5 Rows.granulePlaysRow.domain false) (Rows.granulePlaysSpec.post enc Try.prog Try.f5 false true false false) := by
  refine returnsInHanded_of_change (C := Try.checked) own started (by kernel_rfl) Try.func5
    (ChangeSpec.witness6 (enc := enc) (C := Try.checked) false ⟨#[], #[.int .i64 0, .slice none 0 0], []⟩ 8 (by kernel_rfl) (by kernel_rfl) (by kernel_rfl) (by kernel_rfl)) ?_
  intro W base args ds gs before hval0 hW hcnd _
  have hval : ∀ (j : Nat) t v, Try.f5.params[j]? = some t → args[j]? = some v → Value.okWide Try.prog W .any base t v := hval0
  have hW' := hW
  obtain ⟨p, q, hA0, hV, rfl, hfz, hnd⟩ := hW
  have hA : DataW.TrodAll enc Try.prog W 0 (fun _ => true) true Try.f5.params.toList args.toList ds p := hA0
  have hA1 := hA
  rw [Try.params5] at hA hval
  obtain ⟨v0, vs0, d0, ds0, p0, q0, hargs, rfl, rfl, h0, r0⟩ := trodAll_cons hA
  obtain ⟨v1, vs1, d1, ds1, p1, q1, rfl, rfl, rfl, h1, r1⟩ := trodAll_cons r0
  obtain ⟨rfl, rfl, rfl⟩ := trodAll_nil r1
  obtain rfl : args = #[v0, v1] := by cases args; simp_all
  obtain ⟨rfl, rfl⟩ := trodVars_none hV
  obtain ⟨a0, rfl, rfl, rfl, w0⟩ := open_int Try.underlying3 (hval 0 3 v0 rfl rfl) h0
  obtain ⟨x, len, cap, b, off, A, rfl, hlen, hacts⟩ := open_acts (hval 1 22 v1 rfl rfl) h1
  clear hA0 hval0
  simp only [List.append_nil] at hW' hA1
  refine (walk a0 x len cap b off A W hlen hacts).mono fun e W' ⟨he, hg⟩ => ?_
  subst he
  exact ⟨_, rfl, post_true hW' hA1 rfl rfl (fun _ => rfl) rfl Try.underlying4 laidOut hread hg⟩

theorem over : Rows.granulePlaysRow.holds Try.pinned (OpenSpec.ofChange Rows.granulePlaysSpec) :=
  OpenClaim.holds_of_wide 5 Try.f5 rfl rfl rfl rfl rfl rfl rfl ⟨rfl, rfl, rfl, rfl, rfl⟩ rfl rfl rfl rfl rfl (by kernel_rfl) Try.func5 (by kernel_rfl)
    (of_decide_eq_true (by kernel_rfl)) (by unfold Func.isWrapper; first | (rw [if_pos (by decide +kernel)]; kernel_rfl) | (rw [if_neg (by decide +kernel)]; exact ⟨rfl, rfl⟩))
    (fun os started H enc _ => lifted os started H enc)

/-- The statement. -/
theorem proved : Rows.GranulePlaysSaid := over
end GranulePlays
end Go.Proofs.Ythdhcmmpeilbmaa
