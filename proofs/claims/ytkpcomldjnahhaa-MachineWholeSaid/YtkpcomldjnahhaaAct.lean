/- Opening the arguments of layer 6's statements: acts, each with bytes of its own. No condition. -/
import Derived.Test.YtkpcomldjnahhaaOpen
import Derived.Test.YtkpcomldjnahhaaDoc
namespace Go.Proofs.Ytkpcomldjnahhaa
open Go.ChangeShapes Go.WideShapes Go.Deep Go.ChangeAt Go.RowKit
set_option linter.unusedSimpArgs false

section
variable {H : Type} {enc : TypeId × Value → H} {w : World} {base : Nat} {spare : Nat → Bool} {held : Bool}
theorem spot_none {w : World} {a : Addr} {v : Value} (hc : w.cell? a = some v) : ∃ b o, a = ⟨b, o, none⟩ := by
  obtain ⟨b, off, spot⟩ := a
  have hsp : spot = none := by
    cases spot with
    | none => rfl
    | some q =>
      exfalso
      unfold World.cell? at hc
      split at hc <;> simp at hc
  subst hsp
  exact ⟨_, _, rfl⟩
theorem add_lit' (b o j : Nat) : (⟨b, o, none⟩ : Addr).add j = ⟨b, o + j, none⟩ := by unfold Addr.add; split <;> simp_all
/-- A slice of bytes that came in. -/
theorem open_bytes {fuel : Nat} {v : Value} {x : DataW H × List MemPlace} (h : DataW.trod enc Try.prog w base spare held fuel 31 [v] = some x) :
    ∃ (y : Option Addr) (L c : Nat) (Z : List Int), v = .slice y L c ∧ Z.length = L ∧ L ≤ c ∧ L ≤ maxLen ∧ Arg w.heap.size w y Z := by
  rcases open_slice Try.underlying31 h with ⟨hcs, _⟩ | ⟨a, len, cap, m, n, D, Pl, hcs, _, hlc, hcm, hm, _, hi⟩
  · simp at hcs
    exact ⟨none, 0, 0, [], hcs, rfl, Nat.le_refl _, by simp [maxLen], fun h0 => by simp at h0, Nat.le_refl _, fun x hx => by simp at hx⟩
  · simp at hcs
    have hlm : len ≤ m := by rw [hm]; split <;> omega
    have key : ∀ i, ∃ z, i < len → w.cell? (a.add i) = some (.int .u8 z) ∧ (Lit.int .u8 z).wf = true := fun i => by
      by_cases hil : i < len
      · obtain ⟨cs', hc, ht⟩ := hi i (by omega)
        rw [show Try.prog.cellsOf 5 = 1 from rfl] at hc
        obtain ⟨_, hcl, hat⟩ := World.cells?_some hc
        obtain ⟨z, hz, _, hw⟩ := DataW.trod_int Try.underlying5 ht
        have h0 := hat (i := 0) (by omega)
        refine ⟨z, fun _ => ⟨?_, hw⟩⟩
        rw [Nat.mul_one] at h0
        rw [hz] at h0
        have e : (a.add i).add 0 = a.add i := by unfold Addr.add; split <;> simp_all
        rw [e] at h0
        simpa using h0
      · exact ⟨0, fun h => absurd h hil⟩
    obtain ⟨F, hF⟩ := Classical.axiomOfChoice key
    refine ⟨some a, len, cap, (List.range len).map F, hcs, by simp, hlc, by omega, ?_, Nat.le_refl _, ?_⟩
    · intro h0
      simp at h0
      obtain ⟨b, o, rfl⟩ : ∃ b o, a = ⟨b, o, none⟩ := by
        have := (hF 0 h0).1
        rw [show a.add 0 = a by simp [Addr.add]] at this
        exact spot_none this
      refine ⟨b, o, rfl, ?_, ?_⟩
      · have := (hF 0 h0).1
        rw [add_lit'] at this
        exact block_lt_of_cell this
      · intro j y hj
        have hjl : j < len := by
          have := (List.getElem?_eq_some_iff.1 hj).1
          simpa using this
        have := (hF j hjl).1
        rw [add_lit'] at this
        rw [this]
        simp [hjl] at hj
        rw [hj]
    · intro z hz
      obtain ⟨j, hj, rfl⟩ := List.mem_map.1 hz
      exact u8_range (hF j (by simpa using hj)).2

/-- An act where it lies. -/
structure ActAt (N : Nat) (w : World) (b o : Nat) (kd g a x : Int) (y : Option Addr) (L c : Nat) (Z : List Int) : Prop where
  c0 : w.cell? ⟨b, o + 0, none⟩ = some (.int .i64 kd)
  c1 : w.cell? ⟨b, o + 1, none⟩ = some (.int .i64 g)
  c2 : w.cell? ⟨b, o + 2, none⟩ = some (.int .u64 a)
  c3 : w.cell? ⟨b, o + 3, none⟩ = some (.int .u64 x)
  c4 : w.cell? ⟨b, o + 4, none⟩ = some (.slice y L c)
  ha : 0 ≤ a ∧ a < 18446744073709551616
  hx : x < 18446744073709551616
  hZ : Z.length = L
  hL : L ≤ c ∧ L ≤ maxLen
  arg : Arg N w y Z
theorem ActAt.below {N : Nat} {w w' : World} {b o : Nat} {kd g a x : Int} {y : Option Addr} {L c : Nat} {Z : List Int} (h : ActAt N w b o kd g a x y L c Z) (hb : Below N w w') (hlt : b < N) : ActAt N w' b o kd g a x y L c Z :=
  have e := fun k => hb.cell (p := ⟨b, o + k, none⟩) hlt
  ⟨(e 0).trans h.c0, (e 1).trans h.c1, (e 2).trans h.c2, (e 3).trans h.c3, (e 4).trans h.c4, h.ha, h.hx, h.hZ, h.hL, h.arg.below hb⟩
theorem open_acts {r : Reach} {b0 : Nat} {v : Value} {d : DataW H} {p : List MemPlace} (hv : Value.okWide Try.prog w r b0 38 v) (h : DataW.Trod enc Try.prog w base spare held 38 v d p) :
    ∃ (x : Option Addr) (len cap b off : Nat), v = .slice x len cap ∧ len ≤ maxLen ∧ (0 < len → x = some ⟨b, off, none⟩ ∧ b < w.heap.size) ∧
      ∀ i, i < len → ∃ kd g a z y L c Z, ActAt w.heap.size w b (off + i * 5) kd g a z y L c Z := by
  obtain ⟨x, len, cap, rfl⟩ := okWide_slice Try.underlying38 hv
  obtain ⟨fuel, hf⟩ := h
  rcases open_slice_fields Try.underlying38 Try.underlying43 (by kernel_rfl) (by kernel_rfl) hf with ⟨hcs, _⟩ | ⟨a, len', cap', m, D, Pl, hcs, _, hlc, hcm, hm, _, hi⟩
  · simp [Value.cells] at hcs
    obtain ⟨rfl, rfl, rfl⟩ := hcs
    exact ⟨none, 0, 0, 0, 0, rfl, by simp [maxLen], by simp, fun i h => by omega⟩
  · simp [Value.cells] at hcs
    obtain ⟨rfl, rfl, rfl⟩ := hcs
    have hlm : len ≤ m := by rw [hm]; split <;> omega
    by_cases hl : 0 < len
    · obtain ⟨b, off, rfl⟩ : ∃ b o, a = ⟨b, o, none⟩ := by
        obtain ⟨ys, n, _, _, _, hfl⟩ := hi 0 (by omega)
        obtain ⟨u, y, hc, _⟩ := hfl 0 _ rfl
        have e : a.add (0 * 5 + 0) = a := by simp [Addr.add]
        exact spot_none (a := a) (by rw [← e]; exact hc)
      have hblt : b < w.heap.size := by
        obtain ⟨ys, n, _, _, _, hfl⟩ := hi 0 (by omega)
        obtain ⟨u, y, hc, _⟩ := hfl 0 _ rfl
        rw [add_lit'] at hc
        exact block_lt_of_cell hc
      refine ⟨_, len, cap, b, off, rfl, by omega, fun _ => ⟨rfl, hblt⟩, fun i h1 => ?_⟩
      obtain ⟨ys, n, _, _, _, hfl⟩ := hi i (by omega)
      obtain ⟨u0, y0, k0, _, t0⟩ := hfl 0 _ rfl
      obtain ⟨u1, y1, k1, _, t1⟩ := hfl 1 _ rfl
      obtain ⟨u2, y2, k2, _, t2⟩ := hfl 2 _ rfl
      obtain ⟨u3, y3, k3, _, t3⟩ := hfl 3 _ rfl
      obtain ⟨u4, y4, k4, _, t4⟩ := hfl 4 _ rfl
      obtain ⟨z0, e0, _, w0⟩ := DataW.trod_int Try.underlying3 t0
      obtain ⟨z1, e1, _, w1⟩ := DataW.trod_int Try.underlying3 t1
      obtain ⟨z2, e2, _, w2⟩ := DataW.trod_int Try.underlying22 t2
      obtain ⟨z3, e3, _, w3⟩ := DataW.trod_int Try.underlying22 t3
      obtain ⟨y, L, c, Z, e4, hZ, hL, hL2, hA⟩ := open_bytes t4
      simp at e0 e1 e2 e3
      subst e0 e1 e2 e3 e4
      rw [add_lit', ← Nat.add_assoc] at k0 k1 k2 k3 k4
      exact ⟨z0, z1, z2, z3, y, L, c, Z, k0, k1, k2, k3, k4, u64_range w2, (u64_range w3).2, hZ, ⟨hL, hL2⟩, hA⟩
    · exact ⟨_, len, cap, 0, 0, rfl, by omega, fun h => absurd h hl, fun i h => by omega⟩
end

theorem do_any (N mb ab rb cb n : Nat) (B : List Int) (kd g a x : Int) (y : Option Addr) (L c : Nat) (Z : List Int) (w : World) (h : Both N w mb ab rb cb n B) (a0 : 0 ≤ a) (a1 : a < 18446744073709551616) (x1 : x < 18446744073709551616) (hZ : Z.length = L) (hLc : L ≤ c) (hL : L ≤ maxLen) (ha : Arg N w y Z) :
    Calls Try.prog 16 #[.pointer (some ⟨mb, 0, none⟩), .pointer (some ⟨rb, 0, none⟩), .agg #[.int .i64 kd, .int .i64 g, .int .u64 a, .int .u64 x, .slice y L c]] w fun e w' => e = .returned (.bool true) ∧ ∃ B', Both N w' mb ab rb cb n B' ∧ Below N w w' := by
  by_cases k1 : kd = 1
  · subst k1
    by_cases q : a % 8 = 0
    · by_cases ho : 128 * n < a + 8
      · exact do1_out N mb ab rb cb n B g a x y L c w h a0 a1 q ho
      · obtain ⟨a', rfl⟩ := Int.eq_ofNat_of_zero_le a0
        exact do1_in N mb ab rb cb n B g x a' y L c w h (by omega) (by omega) x1
    · exact do1_al N mb ab rb cb n B g a x y L c w h a0 a1 q
  · by_cases k2 : kd = 2
    · subst k2
      by_cases h0 : 0 < L
      · by_cases ho : 128 * n < a + L
        · exact do2_out N mb ab rb cb n B g a x y L c w h a0 a1 hL h0 ho
        · obtain ⟨a', rfl⟩ := Int.eq_ofNat_of_zero_le a0
          obtain ⟨sb, so, rfl, hlt, hc⟩ := ha.loc (by omega)
          exact do2_in N mb ab rb cb n B g x a' sb so Z L c w h (by omega) h0 hLc hZ ha.all hlt hc
      · obtain rfl : L = 0 := by omega
        exact do2_nil N mb ab rb cb n B g a x y c w h a0 a1
    · by_cases k3 : kd = 3
      · subst k3
        by_cases hg : 0 ≤ g ∧ g < n
        · obtain ⟨g', rfl⟩ := Int.eq_ofNat_of_zero_le hg.1
          exact do3_in N mb ab rb cb n B g' a x y Z L c w h (by omega) ha hZ
        · exact do3_out N mb ab rb cb n B g a x y Z L c w h (by omega) ha hZ
      · by_cases k4 : kd = 4
        · subst k4
          by_cases hg : 0 ≤ g ∧ g < n
          · obtain ⟨g', rfl⟩ := Int.eq_ofNat_of_zero_le hg.1
            exact do4_in N mb ab rb cb n B g' a x y Z L c w h (by omega) ha hZ
          · exact do4_out N mb ab rb cb n B g a x y Z L c w h (by omega) ha hZ
        · exact do5 N mb ab rb cb n B kd g a x y L c w h k1 k2 k3 k4
end Go.Proofs.Ytkpcomldjnahhaa
