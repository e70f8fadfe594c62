/- The statement EntryTables: every table's bytes, and every granule's entries. -/
import Derived.Test.YtjohobehhijbcaaTb4
import Derived.Test.YtjohobehhijbcaaTb5
import Derived.Test.YtjohobehhijbcaaOpen
namespace Go.Proofs.Ytjohobehhijbcaa
open Go.ChangeShapes Go.WideShapes Go.ChangeAt Go.RowKit
set_option linter.unusedSimpArgs false
attribute [local go_sem] zeroV
namespace EntryTables

theorem eq_self (X : List Int) (h : X.length = 128) (w : World) : (Op.equalIn 10000 49 (.agg (bytesV X).toArray) (.agg (bytesV X).toArray)).run Try.prog w = .ok true w := by
  rw [eqB X X h h]; simp
set_option maxHeartbeats 8000000 in
set_option maxRecDepth 100000 in
theorem walkAD (x : Option Addr) (n c : Nat) (G : List Int) (w : World) (hl : G.length = 128) (hG : AllB G) (h : En w x n) (hn : n ≠ 4) (hm : n ≤ maxLen) (hd : ∃ i, i < 4 ∧ okAt G i = false) :
    Calls Try.prog 7 #[.slice x n c, .agg (bytesV G).toArray] w fun e w' => e = .returned (.bool true) ∧ Below w.heap.size w w' := by
  have B1 : Below w.heap.size w (w.alloc (.cells (bytesV G).toArray 49)) := (Below.refl _ _).alloc (Nat.le_refl _) _
  have R1 : Hid (BytesAt (w.alloc (.cells (bytesV G).toArray 49)) w.heap.size 49 G) := heap_here rfl
  have HB := Lib.hid B1
  have HE := Lib.hid (h.below B1)
  have HG := Lib.hid hG
  have HL := Lib.hid hl
  have HD := Lib.hid hd
  have HM := Lib.hid hm
  have HN := Lib.hid hn
  have hnI : ((n : Int) == 4) = false := by simp; omega
  clear h hl hG B1 hd hm hn 
  have heq := eq_self zeroB zlen
  have hln : (bytesV zeroB).length = 128 := by rw [bytesV_len, zlen]
  go_enter Try.func7, Try.ntmps7
  go_wp2_with (first | (go_at_call 32; refine (tb_ne x n c _ HN.out).mono ?_; rintro e w1 ⟨rfl, b1⟩; have hst := st_new w1 zeroB zeroB zlen zlen; have a1 := (Below.alloc b1 b1.size (.cells (bytesV zeroB).toArray 49)); have RT : Hid (BytesAt (w1.alloc (.cells (bytesV zeroB).toArray 49)) w1.heap.size 49 zeroB) := heap_here rfl; replace HE := Lib.hid (HE.out.below a1); replace R1 := Lib.hid (R1.out.below a1); replace HB := Lib.hid (HB.out.trans (a1.mono HB.out.size)); clear a1 b1) | (go_at_call 33; refine (rmay_ne x n c _ HE.out HN.out HM.out).mono ?_; rintro e w2 ⟨rfl, b2⟩; replace RT := Lib.hid (RT.out.below b2); replace HE := Lib.hid (HE.out.below b2); replace R1 := Lib.hid (R1.out.below b2); replace HB := Lib.hid (HB.out.trans (b2.mono HB.out.size)); clear b2 hst) | (go_at_call 11; refine (num_any _ _).mono ?_; rintro e w9 ⟨rfl, rfl⟩) | (refine wpList_ld rfl (.tmp 5) rfl _ 0 zeroB rfl zlen (rng_row RT.out) ?_) | (refine wpList_ld rfl (.tmp 3) rfl w.heap.size 0 G rfl HL.out (rng_row R1.out) ?_) | (go_at_call 35; refine (un_bad G _ HL.out HG.out HD.out).mono ?_; rintro e w3 ⟨rfl, b3⟩; replace R1 := Lib.hid (R1.out.below b3); replace HB := Lib.hid (HB.out.trans (b3.mono HB.out.size)); clear b3) | (go_at_call 36; refine (run_bad G _ HL.out HG.out HD.out).mono ?_; rintro e w4 ⟨rfl, b4⟩; replace HB := Lib.hid (HB.out.trans (b4.mono HB.out.size)); clear b4) | (go_at_call 37; refine (same_nil _ _ _ _ _).mono ?_; rintro e w5 ⟨rfl, b5⟩; replace HB := Lib.hid (HB.out.trans (b5.mono HB.out.size)); clear b5) | (go_at_call 12; refine (known_any _).mono ?_; rintro e w6 ⟨rfl, b6⟩; replace HB := Lib.hid (HB.out.trans (b6.mono HB.out.size)); clear b6))
  all_goals first | (exfalso; omega) | skip
  all_goals go_ret
  all_goals exact ⟨rfl, HB.out⟩

set_option maxHeartbeats 8000000 in
set_option maxRecDepth 100000 in
theorem walkAE (x : Option Addr) (n c : Nat) (G : List Int) (w : World) (hl : G.length = 128) (hG : AllB G) (h : En w x n) (hn : n ≠ 4) (hm : n ≤ maxLen) (hd : ∀ i, i < 4 → okAt G i = true) (ht : tabN (kAt G 0) (gAt G 0) (kAt G 1) (gAt G 1) (kAt G 2) (gAt G 2) (kAt G 3) (gAt G 3) 4 = G) :
    Calls Try.prog 7 #[.slice x n c, .agg (bytesV G).toArray] w fun e w' => e = .returned (.bool true) ∧ Below w.heap.size w w' := by
  have B1 : Below w.heap.size w (w.alloc (.cells (bytesV G).toArray 49)) := (Below.refl _ _).alloc (Nat.le_refl _) _
  have R1 : Hid (BytesAt (w.alloc (.cells (bytesV G).toArray 49)) w.heap.size 49 G) := heap_here rfl
  have HB := Lib.hid B1
  have HE := Lib.hid (h.below B1)
  have HG := Lib.hid hG
  have HL := Lib.hid hl
  have HD := Lib.hid hd
  have HT := Lib.hid ht
  have HM := Lib.hid hm
  have HN := Lib.hid hn
  have hnI : ((n : Int) == 4) = false := by simp; omega
  clear h hl hG B1 hd hm hn ht
  have heq := eq_self zeroB zlen
  have hln : (bytesV zeroB).length = 128 := by rw [bytesV_len, zlen]
  go_enter Try.func7, Try.ntmps7
  go_wp2_with (first | (go_at_call 32; refine (tb_ne x n c _ HN.out).mono ?_; rintro e w1 ⟨rfl, b1⟩; have hst := st_new w1 zeroB zeroB zlen zlen; have a1 := (Below.alloc b1 b1.size (.cells (bytesV zeroB).toArray 49)); have RT : Hid (BytesAt (w1.alloc (.cells (bytesV zeroB).toArray 49)) w1.heap.size 49 zeroB) := heap_here rfl; replace HE := Lib.hid (HE.out.below a1); replace R1 := Lib.hid (R1.out.below a1); replace HB := Lib.hid (HB.out.trans (a1.mono HB.out.size)); clear a1 b1) | (go_at_call 33; refine (rmay_ne x n c _ HE.out HN.out HM.out).mono ?_; rintro e w2 ⟨rfl, b2⟩; replace RT := Lib.hid (RT.out.below b2); replace HE := Lib.hid (HE.out.below b2); replace R1 := Lib.hid (R1.out.below b2); replace HB := Lib.hid (HB.out.trans (b2.mono HB.out.size)); clear b2 hst) | (go_at_call 11; refine (num_any _ _).mono ?_; rintro e w9 ⟨rfl, rfl⟩) | (refine wpList_ld rfl (.tmp 5) rfl _ 0 zeroB rfl zlen (rng_row RT.out) ?_) | (refine wpList_ld rfl (.tmp 3) rfl w.heap.size 0 G rfl HL.out (rng_row R1.out) ?_) | (go_at_call 35; refine (un_all G _ HL.out HG.out HD.out).mono ?_; rintro e w3 ⟨⟨v3, hv3, _⟩, b3⟩; obtain ⟨rfl, o3⟩ := hv3 HT.out; obtain ⟨tb3, tc3, rfl, _, e3⟩ := owns_E4 o3; have HE3 := Lib.hid e3; clear o3 e3; replace R1 := Lib.hid (R1.out.below b3); replace HB := Lib.hid (HB.out.trans (b3.mono HB.out.size)); clear b3) | (go_at_call 36; refine (run_all G _ HL.out HG.out HD.out).mono ?_; rintro e w4 ⟨⟨v4, hv4, _⟩, b4⟩; obtain ⟨rfl, o4⟩ := hv4 HT.out; obtain ⟨tb4, tc4, rfl, _, e4⟩ := owns_E4 o4; have HE4 := Lib.hid e4; clear o4 e4; replace HE3 := Lib.hid (HE3.out.below b4); replace HB := Lib.hid (HB.out.trans (b4.mono HB.out.size)); clear b4) | (go_at_call 37; refine (same_4 _ _ _ _ _ _ _ _ _ _ _ _ _ _ _ HE3.out HE4.out).mono ?_; rintro e w5 ⟨rfl, b5⟩; replace HB := Lib.hid (HB.out.trans (b5.mono HB.out.size)); clear b5) | (go_at_call 12; refine (known_any _).mono ?_; rintro e w6 ⟨rfl, b6⟩; replace HB := Lib.hid (HB.out.trans (b6.mono HB.out.size)); clear b6))
  all_goals first | (exfalso; omega) | skip
  all_goals go_ret
  all_goals exact ⟨rfl, HB.out⟩

set_option maxHeartbeats 8000000 in
set_option maxRecDepth 100000 in
theorem walkAF (x : Option Addr) (n c : Nat) (G : List Int) (w : World) (hl : G.length = 128) (hG : AllB G) (h : En w x n) (hn : n ≠ 4) (hm : n ≤ maxLen) (hd : ∀ i, i < 4 → okAt G i = true) (ht : tabN (kAt G 0) (gAt G 0) (kAt G 1) (gAt G 1) (kAt G 2) (gAt G 2) (kAt G 3) (gAt G 3) 4 ≠ G) :
    Calls Try.prog 7 #[.slice x n c, .agg (bytesV G).toArray] w fun e w' => e = .returned (.bool true) ∧ Below w.heap.size w w' := by
  have B1 : Below w.heap.size w (w.alloc (.cells (bytesV G).toArray 49)) := (Below.refl _ _).alloc (Nat.le_refl _) _
  have R1 : Hid (BytesAt (w.alloc (.cells (bytesV G).toArray 49)) w.heap.size 49 G) := heap_here rfl
  have HB := Lib.hid B1
  have HE := Lib.hid (h.below B1)
  have HG := Lib.hid hG
  have HL := Lib.hid hl
  have HD := Lib.hid hd
  have HT := Lib.hid ht
  have HM := Lib.hid hm
  have HN := Lib.hid hn
  have hnI : ((n : Int) == 4) = false := by simp; omega
  clear h hl hG B1 hd hm hn ht
  have heq := eq_self zeroB zlen
  have hln : (bytesV zeroB).length = 128 := by rw [bytesV_len, zlen]
  go_enter Try.func7, Try.ntmps7
  go_wp2_with (first | (go_at_call 32; refine (tb_ne x n c _ HN.out).mono ?_; rintro e w1 ⟨rfl, b1⟩; have hst := st_new w1 zeroB zeroB zlen zlen; have a1 := (Below.alloc b1 b1.size (.cells (bytesV zeroB).toArray 49)); have RT : Hid (BytesAt (w1.alloc (.cells (bytesV zeroB).toArray 49)) w1.heap.size 49 zeroB) := heap_here rfl; replace HE := Lib.hid (HE.out.below a1); replace R1 := Lib.hid (R1.out.below a1); replace HB := Lib.hid (HB.out.trans (a1.mono HB.out.size)); clear a1 b1) | (go_at_call 33; refine (rmay_ne x n c _ HE.out HN.out HM.out).mono ?_; rintro e w2 ⟨rfl, b2⟩; replace RT := Lib.hid (RT.out.below b2); replace HE := Lib.hid (HE.out.below b2); replace R1 := Lib.hid (R1.out.below b2); replace HB := Lib.hid (HB.out.trans (b2.mono HB.out.size)); clear b2 hst) | (go_at_call 11; refine (num_any _ _).mono ?_; rintro e w9 ⟨rfl, rfl⟩) | (refine wpList_ld rfl (.tmp 5) rfl _ 0 zeroB rfl zlen (rng_row RT.out) ?_) | (refine wpList_ld rfl (.tmp 3) rfl w.heap.size 0 G rfl HL.out (rng_row R1.out) ?_) | (go_at_call 35; refine (un_all G _ HL.out HG.out HD.out).mono ?_; rintro e w3 ⟨⟨v3, _, hv3⟩, b3⟩; obtain rfl := hv3 HT.out; replace R1 := Lib.hid (R1.out.below b3); replace HB := Lib.hid (HB.out.trans (b3.mono HB.out.size)); clear b3) | (go_at_call 36; refine (run_all G _ HL.out HG.out HD.out).mono ?_; rintro e w4 ⟨⟨v4, _, hv4⟩, b4⟩; obtain rfl := hv4 HT.out; replace HB := Lib.hid (HB.out.trans (b4.mono HB.out.size)); clear b4) | (go_at_call 37; refine (same_nil _ _ _ _ _).mono ?_; rintro e w5 ⟨rfl, b5⟩; replace HB := Lib.hid (HB.out.trans (b5.mono HB.out.size)); clear b5) | (go_at_call 12; refine (known_any _).mono ?_; rintro e w6 ⟨rfl, b6⟩; replace HB := Lib.hid (HB.out.trans (b6.mono HB.out.size)); clear b6))
  all_goals first | (exfalso; omega) | skip
  all_goals go_ret
  all_goals exact ⟨rfl, HB.out⟩

set_option maxHeartbeats 8000000 in
set_option maxRecDepth 100000 in
theorem walkBD (b o c : Nat) (k0 g0 k1 g1 k2 g2 k3 g3 : Int) (G : List Int) (w : World) (hl : G.length = 128) (hG : AllB G) (h : E4 w b o k0 g0 k1 g1 k2 g2 k3 g3) (hok : ok4 k0 g0 k1 g1 k2 g2 k3 g3 = false) (hd : ∃ i, i < 4 ∧ okAt G i = false) :
    Calls Try.prog 7 #[.slice (some ⟨b, o, none⟩) 4 c, .agg (bytesV G).toArray] w fun e w' => e = .returned (.bool true) ∧ Below w.heap.size w w' := by
  have B1 : Below w.heap.size w (w.alloc (.cells (bytesV G).toArray 49)) := (Below.refl _ _).alloc (Nat.le_refl _) _
  have R1 : Hid (BytesAt (w.alloc (.cells (bytesV G).toArray 49)) w.heap.size 49 G) := heap_here rfl
  have HB := Lib.hid B1
  have HE := Lib.hid (h.below B1)
  have HG := Lib.hid hG
  have HL := Lib.hid hl
  have HD := Lib.hid hd
  have HOK := Lib.hid hok
  clear h hl hG B1 hd hok 
  have heq := eq_self zeroB zlen
  have hln : (bytesV zeroB).length = 128 := by rw [bytesV_len, zlen]
  go_enter Try.func7, Try.ntmps7
  go_wp2_with (first | (go_at_call 32; refine (tb_no b o c _ _ _ _ _ _ _ _ _ HE.out HOK.out).mono ?_; rintro e w1 ⟨rfl, b1⟩; have hst := st_new w1 zeroB zeroB zlen zlen; have a1 := (Below.alloc b1 b1.size (.cells (bytesV zeroB).toArray 49)); have RT : Hid (BytesAt (w1.alloc (.cells (bytesV zeroB).toArray 49)) w1.heap.size 49 zeroB) := heap_here rfl; replace HE := Lib.hid (HE.out.below a1); replace R1 := Lib.hid (R1.out.below a1); replace HB := Lib.hid (HB.out.trans (a1.mono HB.out.size)); clear a1 b1) | (go_at_call 33; refine (rmay4 b o c _ _ _ _ _ _ _ _ _ HE.out).mono ?_; rintro e w2 ⟨rfl, b2⟩; rw [HOK.out]; replace RT := Lib.hid (RT.out.below b2); replace HE := Lib.hid (HE.out.below b2); replace R1 := Lib.hid (R1.out.below b2); replace HB := Lib.hid (HB.out.trans (b2.mono HB.out.size)); clear b2 hst) | (go_at_call 11; refine (num_any _ _).mono ?_; rintro e w9 ⟨rfl, rfl⟩) | (refine wpList_ld rfl (.tmp 5) rfl _ 0 zeroB rfl zlen (rng_row RT.out) ?_) | (refine wpList_ld rfl (.tmp 3) rfl w.heap.size 0 G rfl HL.out (rng_row R1.out) ?_) | (go_at_call 35; refine (un_bad G _ HL.out HG.out HD.out).mono ?_; rintro e w3 ⟨rfl, b3⟩; replace R1 := Lib.hid (R1.out.below b3); replace HB := Lib.hid (HB.out.trans (b3.mono HB.out.size)); clear b3) | (go_at_call 36; refine (run_bad G _ HL.out HG.out HD.out).mono ?_; rintro e w4 ⟨rfl, b4⟩; replace HB := Lib.hid (HB.out.trans (b4.mono HB.out.size)); clear b4) | (go_at_call 37; refine (same_nil _ _ _ _ _).mono ?_; rintro e w5 ⟨rfl, b5⟩; replace HB := Lib.hid (HB.out.trans (b5.mono HB.out.size)); clear b5) | (go_at_call 12; refine (known_any _).mono ?_; rintro e w6 ⟨rfl, b6⟩; replace HB := Lib.hid (HB.out.trans (b6.mono HB.out.size)); clear b6))
  all_goals first | (exfalso; omega) | skip
  all_goals go_ret
  all_goals exact ⟨rfl, HB.out⟩

set_option maxHeartbeats 8000000 in
set_option maxRecDepth 100000 in
theorem walkBE (b o c : Nat) (k0 g0 k1 g1 k2 g2 k3 g3 : Int) (G : List Int) (w : World) (hl : G.length = 128) (hG : AllB G) (h : E4 w b o k0 g0 k1 g1 k2 g2 k3 g3) (hok : ok4 k0 g0 k1 g1 k2 g2 k3 g3 = false) (hd : ∀ i, i < 4 → okAt G i = true) (ht : tabN (kAt G 0) (gAt G 0) (kAt G 1) (gAt G 1) (kAt G 2) (gAt G 2) (kAt G 3) (gAt G 3) 4 = G) :
    Calls Try.prog 7 #[.slice (some ⟨b, o, none⟩) 4 c, .agg (bytesV G).toArray] w fun e w' => e = .returned (.bool true) ∧ Below w.heap.size w w' := by
  have B1 : Below w.heap.size w (w.alloc (.cells (bytesV G).toArray 49)) := (Below.refl _ _).alloc (Nat.le_refl _) _
  have R1 : Hid (BytesAt (w.alloc (.cells (bytesV G).toArray 49)) w.heap.size 49 G) := heap_here rfl
  have HB := Lib.hid B1
  have HE := Lib.hid (h.below B1)
  have HG := Lib.hid hG
  have HL := Lib.hid hl
  have HD := Lib.hid hd
  have HT := Lib.hid ht
  have HOK := Lib.hid hok
  clear h hl hG B1 hd hok ht
  have heq := eq_self zeroB zlen
  have hln : (bytesV zeroB).length = 128 := by rw [bytesV_len, zlen]
  go_enter Try.func7, Try.ntmps7
  go_wp2_with (first | (go_at_call 32; refine (tb_no b o c _ _ _ _ _ _ _ _ _ HE.out HOK.out).mono ?_; rintro e w1 ⟨rfl, b1⟩; have hst := st_new w1 zeroB zeroB zlen zlen; have a1 := (Below.alloc b1 b1.size (.cells (bytesV zeroB).toArray 49)); have RT : Hid (BytesAt (w1.alloc (.cells (bytesV zeroB).toArray 49)) w1.heap.size 49 zeroB) := heap_here rfl; replace HE := Lib.hid (HE.out.below a1); replace R1 := Lib.hid (R1.out.below a1); replace HB := Lib.hid (HB.out.trans (a1.mono HB.out.size)); clear a1 b1) | (go_at_call 33; refine (rmay4 b o c _ _ _ _ _ _ _ _ _ HE.out).mono ?_; rintro e w2 ⟨rfl, b2⟩; rw [HOK.out]; replace RT := Lib.hid (RT.out.below b2); replace HE := Lib.hid (HE.out.below b2); replace R1 := Lib.hid (R1.out.below b2); replace HB := Lib.hid (HB.out.trans (b2.mono HB.out.size)); clear b2 hst) | (go_at_call 11; refine (num_any _ _).mono ?_; rintro e w9 ⟨rfl, rfl⟩) | (refine wpList_ld rfl (.tmp 5) rfl _ 0 zeroB rfl zlen (rng_row RT.out) ?_) | (refine wpList_ld rfl (.tmp 3) rfl w.heap.size 0 G rfl HL.out (rng_row R1.out) ?_) | (go_at_call 35; refine (un_all G _ HL.out HG.out HD.out).mono ?_; rintro e w3 ⟨⟨v3, hv3, _⟩, b3⟩; obtain ⟨rfl, o3⟩ := hv3 HT.out; obtain ⟨tb3, tc3, rfl, _, e3⟩ := owns_E4 o3; have HE3 := Lib.hid e3; clear o3 e3; replace R1 := Lib.hid (R1.out.below b3); replace HB := Lib.hid (HB.out.trans (b3.mono HB.out.size)); clear b3) | (go_at_call 36; refine (run_all G _ HL.out HG.out HD.out).mono ?_; rintro e w4 ⟨⟨v4, hv4, _⟩, b4⟩; obtain ⟨rfl, o4⟩ := hv4 HT.out; obtain ⟨tb4, tc4, rfl, _, e4⟩ := owns_E4 o4; have HE4 := Lib.hid e4; clear o4 e4; replace HE3 := Lib.hid (HE3.out.below b4); replace HB := Lib.hid (HB.out.trans (b4.mono HB.out.size)); clear b4) | (go_at_call 37; refine (same_4 _ _ _ _ _ _ _ _ _ _ _ _ _ _ _ HE3.out HE4.out).mono ?_; rintro e w5 ⟨rfl, b5⟩; replace HB := Lib.hid (HB.out.trans (b5.mono HB.out.size)); clear b5) | (go_at_call 12; refine (known_any _).mono ?_; rintro e w6 ⟨rfl, b6⟩; replace HB := Lib.hid (HB.out.trans (b6.mono HB.out.size)); clear b6))
  all_goals first | (exfalso; omega) | skip
  all_goals go_ret
  all_goals exact ⟨rfl, HB.out⟩

set_option maxHeartbeats 8000000 in
set_option maxRecDepth 100000 in
theorem walkBF (b o c : Nat) (k0 g0 k1 g1 k2 g2 k3 g3 : Int) (G : List Int) (w : World) (hl : G.length = 128) (hG : AllB G) (h : E4 w b o k0 g0 k1 g1 k2 g2 k3 g3) (hok : ok4 k0 g0 k1 g1 k2 g2 k3 g3 = false) (hd : ∀ i, i < 4 → okAt G i = true) (ht : tabN (kAt G 0) (gAt G 0) (kAt G 1) (gAt G 1) (kAt G 2) (gAt G 2) (kAt G 3) (gAt G 3) 4 ≠ G) :
    Calls Try.prog 7 #[.slice (some ⟨b, o, none⟩) 4 c, .agg (bytesV G).toArray] w fun e w' => e = .returned (.bool true) ∧ Below w.heap.size w w' := by
  have B1 : Below w.heap.size w (w.alloc (.cells (bytesV G).toArray 49)) := (Below.refl _ _).alloc (Nat.le_refl _) _
  have R1 : Hid (BytesAt (w.alloc (.cells (bytesV G).toArray 49)) w.heap.size 49 G) := heap_here rfl
  have HB := Lib.hid B1
  have HE := Lib.hid (h.below B1)
  have HG := Lib.hid hG
  have HL := Lib.hid hl
  have HD := Lib.hid hd
  have HT := Lib.hid ht
  have HOK := Lib.hid hok
  clear h hl hG B1 hd hok ht
  have heq := eq_self zeroB zlen
  have hln : (bytesV zeroB).length = 128 := by rw [bytesV_len, zlen]
  go_enter Try.func7, Try.ntmps7
  go_wp2_with (first | (go_at_call 32; refine (tb_no b o c _ _ _ _ _ _ _ _ _ HE.out HOK.out).mono ?_; rintro e w1 ⟨rfl, b1⟩; have hst := st_new w1 zeroB zeroB zlen zlen; have a1 := (Below.alloc b1 b1.size (.cells (bytesV zeroB).toArray 49)); have RT : Hid (BytesAt (w1.alloc (.cells (bytesV zeroB).toArray 49)) w1.heap.size 49 zeroB) := heap_here rfl; replace HE := Lib.hid (HE.out.below a1); replace R1 := Lib.hid (R1.out.below a1); replace HB := Lib.hid (HB.out.trans (a1.mono HB.out.size)); clear a1 b1) | (go_at_call 33; refine (rmay4 b o c _ _ _ _ _ _ _ _ _ HE.out).mono ?_; rintro e w2 ⟨rfl, b2⟩; rw [HOK.out]; replace RT := Lib.hid (RT.out.below b2); replace HE := Lib.hid (HE.out.below b2); replace R1 := Lib.hid (R1.out.below b2); replace HB := Lib.hid (HB.out.trans (b2.mono HB.out.size)); clear b2 hst) | (go_at_call 11; refine (num_any _ _).mono ?_; rintro e w9 ⟨rfl, rfl⟩) | (refine wpList_ld rfl (.tmp 5) rfl _ 0 zeroB rfl zlen (rng_row RT.out) ?_) | (refine wpList_ld rfl (.tmp 3) rfl w.heap.size 0 G rfl HL.out (rng_row R1.out) ?_) | (go_at_call 35; refine (un_all G _ HL.out HG.out HD.out).mono ?_; rintro e w3 ⟨⟨v3, _, hv3⟩, b3⟩; obtain rfl := hv3 HT.out; replace R1 := Lib.hid (R1.out.below b3); replace HB := Lib.hid (HB.out.trans (b3.mono HB.out.size)); clear b3) | (go_at_call 36; refine (run_all G _ HL.out HG.out HD.out).mono ?_; rintro e w4 ⟨⟨v4, _, hv4⟩, b4⟩; obtain rfl := hv4 HT.out; replace HB := Lib.hid (HB.out.trans (b4.mono HB.out.size)); clear b4) | (go_at_call 37; refine (same_nil _ _ _ _ _).mono ?_; rintro e w5 ⟨rfl, b5⟩; replace HB := Lib.hid (HB.out.trans (b5.mono HB.out.size)); clear b5) | (go_at_call 12; refine (known_any _).mono ?_; rintro e w6 ⟨rfl, b6⟩; replace HB := Lib.hid (HB.out.trans (b6.mono HB.out.size)); clear b6))
  all_goals first | (exfalso; omega) | skip
  all_goals go_ret
  all_goals exact ⟨rfl, HB.out⟩

set_option maxHeartbeats 8000000 in
set_option maxRecDepth 100000 in
theorem walkCD (b o c : Nat) (k0 g0 k1 g1 k2 g2 k3 g3 : Int) (G : List Int) (w : World) (hl : G.length = 128) (hG : AllB G) (h : E4 w b o k0 g0 k1 g1 k2 g2 k3 g3) (m0 : mayB k0 g0 = true) (m1 : mayB k1 g1 = true) (m2 : mayB k2 g2 = true) (m3 : mayB k3 g3 = true) (hd : ∃ i, i < 4 ∧ okAt G i = false) :
    Calls Try.prog 7 #[.slice (some ⟨b, o, none⟩) 4 c, .agg (bytesV G).toArray] w fun e w' => e = .returned (.bool true) ∧ Below w.heap.size w w' := by
  have B1 : Below w.heap.size w (w.alloc (.cells (bytesV G).toArray 49)) := (Below.refl _ _).alloc (Nat.le_refl _) _
  have R1 : Hid (BytesAt (w.alloc (.cells (bytesV G).toArray 49)) w.heap.size 49 G) := heap_here rfl
  have HB := Lib.hid B1
  have HE := Lib.hid (h.below B1)
  have HG := Lib.hid hG
  have HL := Lib.hid hl
  have HD := Lib.hid hd
  have HM0 := Lib.hid m0
  have HM1 := Lib.hid m1
  have HM2 := Lib.hid m2
  have HM3 := Lib.hid m3
  clear h hl hG B1 hd m0 m1 m2 m3 
  obtain ⟨TT, hTT⟩ : ∃ TT, TT = tabN k0 g0 k1 g1 k2 g2 k3 g3 4 := ⟨_, rfl⟩
  have HTT := Lib.hid hTT
  have HTL : Hid (TT.length = 128) := by show _ = _; rw [hTT]; exact tabN_len _ _ _ _ _ _ _ _ 4
  have H32 := Lib.hid (fun w' (h : E4 w' b o k0 g0 k1 g1 k2 g2 k3 g3) => tb_yes b o c _ _ _ _ _ _ _ _ w' h HM0.out HM1.out HM2.out HM3.out)
  have H34 := Lib.hid (fun w' (h : E4 w' b o k0 g0 k1 g1 k2 g2 k3 g3) => rt_yes b o c _ _ _ _ _ _ _ _ w' h HM0.out HM1.out HM2.out HM3.out)
  have H33 := Lib.hid (fun w' (h : E4 w' b o k0 g0 k1 g1 k2 g2 k3 g3) => rmay4 b o c _ _ _ _ _ _ _ _ w' h)
  rw [← hTT] at H32 H34
  rw [show ok4 k0 g0 k1 g1 k2 g2 k3 g3 = true by simp [ok4, HM0.out, HM1.out, HM2.out, HM3.out]] at H33
  clear hTT
  have heq := eq_self TT HTL.out
  have hln : (bytesV TT).length = 128 := by rw [bytesV_len, HTL.out]
  go_enter Try.func7, Try.ntmps7
  go_wp2_with (first | (go_at_call 32; refine (H32.out _ HE.out).mono ?_; rintro e w1 ⟨rfl, b1⟩; have hst := st_new w1 zeroB TT zlen HTL.out; have a1 := (Below.alloc b1 b1.size (.cells (bytesV TT).toArray 49)); have RT : Hid (BytesAt (w1.alloc (.cells (bytesV TT).toArray 49)) w1.heap.size 49 TT) := heap_here rfl; replace HE := Lib.hid (HE.out.below a1); replace R1 := Lib.hid (R1.out.below a1); replace HB := Lib.hid (HB.out.trans (a1.mono HB.out.size)); clear a1 b1) | (go_at_call 33; refine (H33.out _ HE.out).mono ?_; rintro e w2 ⟨rfl, b2⟩; replace RT := Lib.hid (RT.out.below b2); replace HE := Lib.hid (HE.out.below b2); replace R1 := Lib.hid (R1.out.below b2); replace HB := Lib.hid (HB.out.trans (b2.mono HB.out.size)); clear b2 hst))
  have hsz := size49
  have hu := Try.underlying49
  have RTd := Lib.hid (RT.out.below ((Below.refl _ _).drew))
  have R1d := Lib.hid (R1.out.below ((Below.refl _ _).drew))
  have HEd := Lib.hid (HE.out.below ((Below.refl _ _).drew))
  have HBd := Lib.hid HB.out.drew
  have S0 := Lib.hid (rng_row RTd.out)
  go_region_held3 (fun w' => w'.rangeAt w1.heap.size 0 (bytesV TT)) ((first | exact S0.out | exact S1.out)) ((first | (go_at_call 34; refine (H34.out _ HEd.out).mono ?_; rintro e w3 ⟨rfl, b3⟩; have S1 := Lib.hid (rng_row (RTd.out.below b3)); have R1e := Lib.hid (R1d.out.below b3); have HBe := Lib.hid (HBd.out.trans (b3.mono HBd.out.size)); clear b3) | (go_at_call 11; refine (num_any _ _).mono ?_; rintro e w9 ⟨rfl, rfl⟩)))
  replace R1 := R1e
  replace HB := HBe
  clear R1e HBe
  go_wp2_with (first | (go_at_call 11; refine (num_any _ _).mono ?_; rintro e w9 ⟨rfl, rfl⟩) | (refine wpList_ld rfl (.tmp 3) rfl w.heap.size 0 G rfl HL.out (rng_row R1.out) ?_) | (go_at_call 35; refine (un_bad G _ HL.out HG.out HD.out).mono ?_; rintro e w3 ⟨rfl, b3⟩; replace R1 := Lib.hid (R1.out.below b3); replace HB := Lib.hid (HB.out.trans (b3.mono HB.out.size)); clear b3) | (go_at_call 36; refine (run_bad G _ HL.out HG.out HD.out).mono ?_; rintro e w4 ⟨rfl, b4⟩; replace HB := Lib.hid (HB.out.trans (b4.mono HB.out.size)); clear b4) | (go_at_call 37; refine (same_nil _ _ _ _ _).mono ?_; rintro e w5 ⟨rfl, b5⟩; replace HB := Lib.hid (HB.out.trans (b5.mono HB.out.size)); clear b5) | (go_at_call 12; refine (known_any _).mono ?_; rintro e w6 ⟨rfl, b6⟩; replace HB := Lib.hid (HB.out.trans (b6.mono HB.out.size)); clear b6))
  all_goals first | (exfalso; omega) | skip
  all_goals go_ret
  all_goals exact ⟨rfl, HB.out⟩

set_option maxHeartbeats 8000000 in
set_option maxRecDepth 100000 in
theorem walkCE (b o c : Nat) (k0 g0 k1 g1 k2 g2 k3 g3 : Int) (G : List Int) (w : World) (hl : G.length = 128) (hG : AllB G) (h : E4 w b o k0 g0 k1 g1 k2 g2 k3 g3) (m0 : mayB k0 g0 = true) (m1 : mayB k1 g1 = true) (m2 : mayB k2 g2 = true) (m3 : mayB k3 g3 = true) (hd : ∀ i, i < 4 → okAt G i = true) (ht : tabN (kAt G 0) (gAt G 0) (kAt G 1) (gAt G 1) (kAt G 2) (gAt G 2) (kAt G 3) (gAt G 3) 4 = G) :
    Calls Try.prog 7 #[.slice (some ⟨b, o, none⟩) 4 c, .agg (bytesV G).toArray] w fun e w' => e = .returned (.bool true) ∧ Below w.heap.size w w' := by
  have B1 : Below w.heap.size w (w.alloc (.cells (bytesV G).toArray 49)) := (Below.refl _ _).alloc (Nat.le_refl _) _
  have R1 : Hid (BytesAt (w.alloc (.cells (bytesV G).toArray 49)) w.heap.size 49 G) := heap_here rfl
  have HB := Lib.hid B1
  have HE := Lib.hid (h.below B1)
  have HG := Lib.hid hG
  have HL := Lib.hid hl
  have HD := Lib.hid hd
  have HT := Lib.hid ht
  have HM0 := Lib.hid m0
  have HM1 := Lib.hid m1
  have HM2 := Lib.hid m2
  have HM3 := Lib.hid m3
  clear h hl hG B1 hd m0 m1 m2 m3 ht
  obtain ⟨TT, hTT⟩ : ∃ TT, TT = tabN k0 g0 k1 g1 k2 g2 k3 g3 4 := ⟨_, rfl⟩
  have HTT := Lib.hid hTT
  have HTL : Hid (TT.length = 128) := by show _ = _; rw [hTT]; exact tabN_len _ _ _ _ _ _ _ _ 4
  have H32 := Lib.hid (fun w' (h : E4 w' b o k0 g0 k1 g1 k2 g2 k3 g3) => tb_yes b o c _ _ _ _ _ _ _ _ w' h HM0.out HM1.out HM2.out HM3.out)
  have H34 := Lib.hid (fun w' (h : E4 w' b o k0 g0 k1 g1 k2 g2 k3 g3) => rt_yes b o c _ _ _ _ _ _ _ _ w' h HM0.out HM1.out HM2.out HM3.out)
  have H33 := Lib.hid (fun w' (h : E4 w' b o k0 g0 k1 g1 k2 g2 k3 g3) => rmay4 b o c _ _ _ _ _ _ _ _ w' h)
  rw [← hTT] at H32 H34
  rw [show ok4 k0 g0 k1 g1 k2 g2 k3 g3 = true by simp [ok4, HM0.out, HM1.out, HM2.out, HM3.out]] at H33
  clear hTT
  have heq := eq_self TT HTL.out
  have hln : (bytesV TT).length = 128 := by rw [bytesV_len, HTL.out]
  go_enter Try.func7, Try.ntmps7
  go_wp2_with (first | (go_at_call 32; refine (H32.out _ HE.out).mono ?_; rintro e w1 ⟨rfl, b1⟩; have hst := st_new w1 zeroB TT zlen HTL.out; have a1 := (Below.alloc b1 b1.size (.cells (bytesV TT).toArray 49)); have RT : Hid (BytesAt (w1.alloc (.cells (bytesV TT).toArray 49)) w1.heap.size 49 TT) := heap_here rfl; replace HE := Lib.hid (HE.out.below a1); replace R1 := Lib.hid (R1.out.below a1); replace HB := Lib.hid (HB.out.trans (a1.mono HB.out.size)); clear a1 b1) | (go_at_call 33; refine (H33.out _ HE.out).mono ?_; rintro e w2 ⟨rfl, b2⟩; replace RT := Lib.hid (RT.out.below b2); replace HE := Lib.hid (HE.out.below b2); replace R1 := Lib.hid (R1.out.below b2); replace HB := Lib.hid (HB.out.trans (b2.mono HB.out.size)); clear b2 hst))
  have hsz := size49
  have hu := Try.underlying49
  have RTd := Lib.hid (RT.out.below ((Below.refl _ _).drew))
  have R1d := Lib.hid (R1.out.below ((Below.refl _ _).drew))
  have HEd := Lib.hid (HE.out.below ((Below.refl _ _).drew))
  have HBd := Lib.hid HB.out.drew
  have S0 := Lib.hid (rng_row RTd.out)
  go_region_held3 (fun w' => w'.rangeAt w1.heap.size 0 (bytesV TT)) ((first | exact S0.out | exact S1.out)) ((first | (go_at_call 34; refine (H34.out _ HEd.out).mono ?_; rintro e w3 ⟨rfl, b3⟩; have S1 := Lib.hid (rng_row (RTd.out.below b3)); have R1e := Lib.hid (R1d.out.below b3); have HBe := Lib.hid (HBd.out.trans (b3.mono HBd.out.size)); clear b3) | (go_at_call 11; refine (num_any _ _).mono ?_; rintro e w9 ⟨rfl, rfl⟩)))
  replace R1 := R1e
  replace HB := HBe
  clear R1e HBe
  go_wp2_with (first | (go_at_call 11; refine (num_any _ _).mono ?_; rintro e w9 ⟨rfl, rfl⟩) | (refine wpList_ld rfl (.tmp 3) rfl w.heap.size 0 G rfl HL.out (rng_row R1.out) ?_) | (go_at_call 35; refine (un_all G _ HL.out HG.out HD.out).mono ?_; rintro e w3 ⟨⟨v3, hv3, _⟩, b3⟩; obtain ⟨rfl, o3⟩ := hv3 HT.out; obtain ⟨tb3, tc3, rfl, _, e3⟩ := owns_E4 o3; have HE3 := Lib.hid e3; clear o3 e3; replace R1 := Lib.hid (R1.out.below b3); replace HB := Lib.hid (HB.out.trans (b3.mono HB.out.size)); clear b3) | (go_at_call 36; refine (run_all G _ HL.out HG.out HD.out).mono ?_; rintro e w4 ⟨⟨v4, hv4, _⟩, b4⟩; obtain ⟨rfl, o4⟩ := hv4 HT.out; obtain ⟨tb4, tc4, rfl, _, e4⟩ := owns_E4 o4; have HE4 := Lib.hid e4; clear o4 e4; replace HE3 := Lib.hid (HE3.out.below b4); replace HB := Lib.hid (HB.out.trans (b4.mono HB.out.size)); clear b4) | (go_at_call 37; refine (same_4 _ _ _ _ _ _ _ _ _ _ _ _ _ _ _ HE3.out HE4.out).mono ?_; rintro e w5 ⟨rfl, b5⟩; replace HB := Lib.hid (HB.out.trans (b5.mono HB.out.size)); clear b5) | (go_at_call 12; refine (known_any _).mono ?_; rintro e w6 ⟨rfl, b6⟩; replace HB := Lib.hid (HB.out.trans (b6.mono HB.out.size)); clear b6))
  all_goals first | (exfalso; omega) | skip
  all_goals go_ret
  all_goals exact ⟨rfl, HB.out⟩

set_option maxHeartbeats 8000000 in
set_option maxRecDepth 100000 in
theorem walkCF (b o c : Nat) (k0 g0 k1 g1 k2 g2 k3 g3 : Int) (G : List Int) (w : World) (hl : G.length = 128) (hG : AllB G) (h : E4 w b o k0 g0 k1 g1 k2 g2 k3 g3) (m0 : mayB k0 g0 = true) (m1 : mayB k1 g1 = true) (m2 : mayB k2 g2 = true) (m3 : mayB k3 g3 = true) (hd : ∀ i, i < 4 → okAt G i = true) (ht : tabN (kAt G 0) (gAt G 0) (kAt G 1) (gAt G 1) (kAt G 2) (gAt G 2) (kAt G 3) (gAt G 3) 4 ≠ G) :
    Calls Try.prog 7 #[.slice (some ⟨b, o, none⟩) 4 c, .agg (bytesV G).toArray] w fun e w' => e = .returned (.bool true) ∧ Below w.heap.size w w' := by
  have B1 : Below w.heap.size w (w.alloc (.cells (bytesV G).toArray 49)) := (Below.refl _ _).alloc (Nat.le_refl _) _
  have R1 : Hid (BytesAt (w.alloc (.cells (bytesV G).toArray 49)) w.heap.size 49 G) := heap_here rfl
  have HB := Lib.hid B1
  have HE := Lib.hid (h.below B1)
  have HG := Lib.hid hG
  have HL := Lib.hid hl
  have HD := Lib.hid hd
  have HT := Lib.hid ht
  have HM0 := Lib.hid m0
  have HM1 := Lib.hid m1
  have HM2 := Lib.hid m2
  have HM3 := Lib.hid m3
  clear h hl hG B1 hd m0 m1 m2 m3 ht
  obtain ⟨TT, hTT⟩ : ∃ TT, TT = tabN k0 g0 k1 g1 k2 g2 k3 g3 4 := ⟨_, rfl⟩
  have HTT := Lib.hid hTT
  have HTL : Hid (TT.length = 128) := by show _ = _; rw [hTT]; exact tabN_len _ _ _ _ _ _ _ _ 4
  have H32 := Lib.hid (fun w' (h : E4 w' b o k0 g0 k1 g1 k2 g2 k3 g3) => tb_yes b o c _ _ _ _ _ _ _ _ w' h HM0.out HM1.out HM2.out HM3.out)
  have H34 := Lib.hid (fun w' (h : E4 w' b o k0 g0 k1 g1 k2 g2 k3 g3) => rt_yes b o c _ _ _ _ _ _ _ _ w' h HM0.out HM1.out HM2.out HM3.out)
  have H33 := Lib.hid (fun w' (h : E4 w' b o k0 g0 k1 g1 k2 g2 k3 g3) => rmay4 b o c _ _ _ _ _ _ _ _ w' h)
  rw [← hTT] at H32 H34
  rw [show ok4 k0 g0 k1 g1 k2 g2 k3 g3 = true by simp [ok4, HM0.out, HM1.out, HM2.out, HM3.out]] at H33
  clear hTT
  have heq := eq_self TT HTL.out
  have hln : (bytesV TT).length = 128 := by rw [bytesV_len, HTL.out]
  go_enter Try.func7, Try.ntmps7
  go_wp2_with (first | (go_at_call 32; refine (H32.out _ HE.out).mono ?_; rintro e w1 ⟨rfl, b1⟩; have hst := st_new w1 zeroB TT zlen HTL.out; have a1 := (Below.alloc b1 b1.size (.cells (bytesV TT).toArray 49)); have RT : Hid (BytesAt (w1.alloc (.cells (bytesV TT).toArray 49)) w1.heap.size 49 TT) := heap_here rfl; replace HE := Lib.hid (HE.out.below a1); replace R1 := Lib.hid (R1.out.below a1); replace HB := Lib.hid (HB.out.trans (a1.mono HB.out.size)); clear a1 b1) | (go_at_call 33; refine (H33.out _ HE.out).mono ?_; rintro e w2 ⟨rfl, b2⟩; replace RT := Lib.hid (RT.out.below b2); replace HE := Lib.hid (HE.out.below b2); replace R1 := Lib.hid (R1.out.below b2); replace HB := Lib.hid (HB.out.trans (b2.mono HB.out.size)); clear b2 hst))
  have hsz := size49
  have hu := Try.underlying49
  have RTd := Lib.hid (RT.out.below ((Below.refl _ _).drew))
  have R1d := Lib.hid (R1.out.below ((Below.refl _ _).drew))
  have HEd := Lib.hid (HE.out.below ((Below.refl _ _).drew))
  have HBd := Lib.hid HB.out.drew
  have S0 := Lib.hid (rng_row RTd.out)
  go_region_held3 (fun w' => w'.rangeAt w1.heap.size 0 (bytesV TT)) ((first | exact S0.out | exact S1.out)) ((first | (go_at_call 34; refine (H34.out _ HEd.out).mono ?_; rintro e w3 ⟨rfl, b3⟩; have S1 := Lib.hid (rng_row (RTd.out.below b3)); have R1e := Lib.hid (R1d.out.below b3); have HBe := Lib.hid (HBd.out.trans (b3.mono HBd.out.size)); clear b3) | (go_at_call 11; refine (num_any _ _).mono ?_; rintro e w9 ⟨rfl, rfl⟩)))
  replace R1 := R1e
  replace HB := HBe
  clear R1e HBe
  go_wp2_with (first | (go_at_call 11; refine (num_any _ _).mono ?_; rintro e w9 ⟨rfl, rfl⟩) | (refine wpList_ld rfl (.tmp 3) rfl w.heap.size 0 G rfl HL.out (rng_row R1.out) ?_) | (go_at_call 35; refine (un_all G _ HL.out HG.out HD.out).mono ?_; rintro e w3 ⟨⟨v3, _, hv3⟩, b3⟩; obtain rfl := hv3 HT.out; replace R1 := Lib.hid (R1.out.below b3); replace HB := Lib.hid (HB.out.trans (b3.mono HB.out.size)); clear b3) | (go_at_call 36; refine (run_all G _ HL.out HG.out HD.out).mono ?_; rintro e w4 ⟨⟨v4, _, hv4⟩, b4⟩; obtain rfl := hv4 HT.out; replace HB := Lib.hid (HB.out.trans (b4.mono HB.out.size)); clear b4) | (go_at_call 37; refine (same_nil _ _ _ _ _).mono ?_; rintro e w5 ⟨rfl, b5⟩; replace HB := Lib.hid (HB.out.trans (b5.mono HB.out.size)); clear b5) | (go_at_call 12; refine (known_any _).mono ?_; rintro e w6 ⟨rfl, b6⟩; replace HB := Lib.hid (HB.out.trans (b6.mono HB.out.size)); clear b6))
  all_goals first | (exfalso; omega) | skip
  all_goals go_ret
  all_goals exact ⟨rfl, HB.out⟩

/-- A slice of entries that came in. -/
theorem open_ents {H : Type} {enc : TypeId × Value → H} {w : World} {base : Nat} {spare : Nat → Bool} {held : Bool} {r : Reach} {b0 : Nat} {v : Value} {d : DataW H} {p : List MemPlace}
    (hv : Value.okWide Try.prog w r b0 47 v) (h : DataW.Trod enc Try.prog w base spare held 47 v d p) :
    ∃ (x : Option Addr) (len cap b off : Nat) (A : Nat → Nat → Int), v = .slice x len cap ∧ len ≤ maxLen ∧ (0 < len → x = some ⟨b, off, none⟩ ∧ b < w.heap.size) ∧
      ∀ i j, i < len → j < 2 → w.cell? ⟨b, off + i * 2 + j, none⟩ = some (.int .i64 (A i j)) ∧ (Lit.int .i64 (A i j)).wf = true := by
  have := open_int_structs (K := fun _ => .i64) Try.underlying47 Try.underlying25 (by kernel_rfl) (by kernel_rfl) (by decide) (fun j f hf => by
    match j, hf with
    | 0, hf => simp at hf; subst hf; rfl
    | 1, hf => simp at hf; subst hf; rfl
    | j + 2, hf => simp at hf) hv h
  exact this
theorem u8_all {zs : List Int} (h : ∀ z ∈ zs, (Lit.int .u8 z).wf = true) : AllB zs := fun z hz => by
  have := h z hz
  simp [Lit.wf, IntKind.min, IntKind.max, IntKind.bits, IntKind.signed] at this
  omega
theorem E4_of {w : World} {b off : Nat} {A : Nat → Nat → Int} (hb : b < w.heap.size) (h : ∀ i j, i < 4 → j < 2 → w.cell? ⟨b, off + i * 2 + j, none⟩ = some (.int .i64 (A i j))) :
    E4 w b off (A 0 0) (A 0 1) (A 1 0) (A 1 1) (A 2 0) (A 2 1) (A 3 0) (A 3 1) :=
  ⟨hb, h 0 0 (by omega) (by omega), h 0 1 (by omega) (by omega), h 1 0 (by omega) (by omega), h 1 1 (by omega) (by omega), h 2 0 (by omega) (by omega), h 2 1 (by omega) (by omega), h 3 0 (by omega) (by omega), h 3 1 (by omega) (by omega)⟩
theorem not_all {G : List Int} (h : ¬ ∃ i, i < 4 ∧ okAt G i = false) : ∀ i, i < 4 → okAt G i = true := fun i hi => by
  cases hq : okAt G i
  · exact absurd ⟨i, hi, hq⟩ h
  · rfl
theorem walk (x : Option Addr) (n c b off : Nat) (A : Nat → Nat → Int) (G : List Int) (w : World) (hm : n ≤ maxLen) (hx : 0 < n → x = some ⟨b, off, none⟩ ∧ b < w.heap.size)
    (hA : ∀ i j, i < n → j < 2 → w.cell? ⟨b, off + i * 2 + j, none⟩ = some (.int .i64 (A i j))) (hl : G.length = 128) (hG : AllB G) :
    Calls Try.prog 7 #[.slice x n c, .agg (bytesV G).toArray] w fun e w' => e = .returned (.bool true) ∧ Below w.heap.size w w' := by
  by_cases hn : n = 4
  · subst hn
    obtain ⟨rfl, hb⟩ := hx (by omega)
    have h := E4_of hb hA
    by_cases hd : ∃ i, i < 4 ∧ okAt G i = false
    · rcases ok4_cases (A 0 0) (A 0 1) (A 1 0) (A 1 1) (A 2 0) (A 2 1) (A 3 0) (A 3 1) with m0 | ⟨m0, m1⟩ | ⟨m0, m1, m2⟩ | ⟨m0, m1, m2, m3⟩ | ⟨m0, m1, m2, m3⟩
      · exact walkBD b off c _ _ _ _ _ _ _ _ G w hl hG h (by simp [ok4, *]) hd
      · exact walkBD b off c _ _ _ _ _ _ _ _ G w hl hG h (by simp [ok4, *]) hd
      · exact walkBD b off c _ _ _ _ _ _ _ _ G w hl hG h (by simp [ok4, *]) hd
      · exact walkBD b off c _ _ _ _ _ _ _ _ G w hl hG h (by simp [ok4, *]) hd
      · exact walkCD b off c _ _ _ _ _ _ _ _ G w hl hG h m0 m1 m2 m3 hd
    · have hd' := not_all hd
      by_cases ht : tabN (kAt G 0) (gAt G 0) (kAt G 1) (gAt G 1) (kAt G 2) (gAt G 2) (kAt G 3) (gAt G 3) 4 = G
      · rcases ok4_cases (A 0 0) (A 0 1) (A 1 0) (A 1 1) (A 2 0) (A 2 1) (A 3 0) (A 3 1) with m0 | ⟨m0, m1⟩ | ⟨m0, m1, m2⟩ | ⟨m0, m1, m2, m3⟩ | ⟨m0, m1, m2, m3⟩
        · exact walkBE b off c _ _ _ _ _ _ _ _ G w hl hG h (by simp [ok4, *]) hd' ht
        · exact walkBE b off c _ _ _ _ _ _ _ _ G w hl hG h (by simp [ok4, *]) hd' ht
        · exact walkBE b off c _ _ _ _ _ _ _ _ G w hl hG h (by simp [ok4, *]) hd' ht
        · exact walkBE b off c _ _ _ _ _ _ _ _ G w hl hG h (by simp [ok4, *]) hd' ht
        · exact walkCE b off c _ _ _ _ _ _ _ _ G w hl hG h m0 m1 m2 m3 hd' ht
      · rcases ok4_cases (A 0 0) (A 0 1) (A 1 0) (A 1 1) (A 2 0) (A 2 1) (A 3 0) (A 3 1) with m0 | ⟨m0, m1⟩ | ⟨m0, m1, m2⟩ | ⟨m0, m1, m2, m3⟩ | ⟨m0, m1, m2, m3⟩
        · exact walkBF b off c _ _ _ _ _ _ _ _ G w hl hG h (by simp [ok4, *]) hd' ht
        · exact walkBF b off c _ _ _ _ _ _ _ _ G w hl hG h (by simp [ok4, *]) hd' ht
        · exact walkBF b off c _ _ _ _ _ _ _ _ G w hl hG h (by simp [ok4, *]) hd' ht
        · exact walkBF b off c _ _ _ _ _ _ _ _ G w hl hG h (by simp [ok4, *]) hd' ht
        · exact walkCF b off c _ _ _ _ _ _ _ _ G w hl hG h m0 m1 m2 m3 hd' ht
  · have h : En w x n := ⟨fun h0 => by
      obtain ⟨rfl, hb⟩ := hx h0
      exact ⟨b, off, rfl, hb, fun i hi => ⟨A i 0, A i 1, hA i 0 hi (by omega), hA i 1 hi (by omega)⟩⟩⟩
    by_cases hd : ∃ i, i < 4 ∧ okAt G i = false
    · exact walkAD x n c G w hl hG h hn hm hd
    · have hd' := not_all hd
      by_cases ht : tabN (kAt G 0) (gAt G 0) (kAt G 1) (gAt G 1) (kAt G 2) (gAt G 2) (kAt G 3) (gAt G 3) 4 = G
      · exact walkAE x n c G w hl hG h hn hm hd' ht
      · exact walkAF x n c G w hl hG h hn hm hd' ht

theorem own : ownKnob Try.prog.godebug = none := by kernel_rfl
theorem laidOut : laidOutB Try.prog = true := by kernel_rfl
theorem read47 : Try.prog.readableRec 47 = true ∧ 47 < Try.prog.types.size := ⟨by kernel_rfl, of_decide_eq_true (by kernel_rfl)⟩
theorem read49 : Try.prog.readableRec 49 = true ∧ 49 < Try.prog.types.size := ⟨by kernel_rfl, of_decide_eq_true (by kernel_rfl)⟩
theorem hread : ∀ t ∈ Try.f7.params.toList, Try.prog.readableRec t = true ∧ t < Try.prog.types.size := by
  rw [Try.params7]
  intro t ht
  simp at ht
  rcases ht with rfl | rfl
  · exact read47
  · exact read49

set_option maxRecDepth 100000 in
theorem lifted (os : Os) (started : os.Started) (H : Type) (enc : TypeId × Value → H) :
    ReturnsInHanded {} Try.checked os 7 .any (Rows.entryTablesSpec.pre6 enc Try.prog Try.f7 Rows.entryTablesRow.domain false) (Rows.entryTablesSpec.post enc Try.prog Try.f7 false true false false) := by
  refine returnsInHanded_of_change (C := Try.checked) own started (by kernel_rfl) Try.func7
    (ChangeSpec.witness6 (enc := enc) (C := Try.checked) false ⟨#[], #[.slice none 0 0, .agg (bytesV zeroB).toArray], []⟩ 8 (by kernel_rfl) (by kernel_rfl) (by kernel_rfl) (by kernel_rfl)) ?_
  intro W base args ds gs before hval0 hW hcnd _
  have hval : ∀ (j : Nat) t v, Try.f7.params[j]? = some t → args[j]? = some v → Value.okWide Try.prog W .any base t v := hval0
  have hW' := hW
  obtain ⟨p, q, hA0, hV, rfl, hfz, hnd⟩ := hW
  have hA : DataW.TrodAll enc Try.prog W 0 (fun _ => true) true Try.f7.params.toList args.toList ds p := hA0
  have hA1 := hA
  rw [Try.params7] at hA hval
  obtain ⟨v0, vs0, d0, ds0, p0, q0, hargs, rfl, rfl, h0, r0⟩ := trodAll_cons hA
  obtain ⟨v1, vs1, d1, ds1, p1, q1, rfl, rfl, rfl, h1, r1⟩ := trodAll_cons r0
  obtain ⟨rfl, rfl, rfl⟩ := trodAll_nil r1
  obtain rfl : args = #[v0, v1] := by cases args; simp_all
  obtain ⟨rfl, rfl⟩ := trodVars_none hV
  obtain ⟨x, n, c, b, off, A, rfl, hm, hx, hAA⟩ := open_ents (hval 0 47 v0 rfl rfl) h0
  obtain ⟨G, rfl, hl, hw⟩ := open_int_array Try.underlying49 Try.underlying5 cells5 (by kernel_rfl) (hval 1 49 v1 rfl rfl) h1
  clear hA0 hval0
  simp only [List.append_nil] at hW' hA1
  refine (walk x n c b off A G W hm hx (fun i j h1 h2 => (hAA i j h1 h2).1) hl (u8_all hw)).mono fun e W' ⟨he, hg⟩ => ?_
  subst he
  exact ⟨_, rfl, post_true hW' hA1 rfl rfl (fun _ => rfl) rfl Try.underlying4 laidOut hread hg⟩

theorem over : Rows.entryTablesRow.holds Try.pinned (OpenSpec.ofChange Rows.entryTablesSpec) :=
  OpenClaim.holds_of_wide 7 Try.f7 rfl rfl rfl rfl rfl rfl rfl ⟨rfl, rfl, rfl, rfl, rfl⟩ rfl rfl rfl rfl rfl (by kernel_rfl) Try.func7 (by kernel_rfl)
    (of_decide_eq_true (by kernel_rfl)) (by unfold Func.isWrapper; first | (rw [if_pos (by decide +kernel)]; kernel_rfl) | (rw [if_neg (by decide +kernel)]; exact ⟨rfl, rfl⟩))
    (fun os started H enc _ => lifted os started H enc)

/-- The statement. -/
theorem proved : Rows.EntryTablesSaid := over
end EntryTables
end Go.Proofs.Ytjohobehhijbcaa
