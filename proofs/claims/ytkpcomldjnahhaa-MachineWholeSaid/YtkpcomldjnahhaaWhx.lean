/- What the statement MachineWhole keeps apart: a copy, the memory gone over, the reference's bytes as they were. Conditions: those that each theorem states. -/
import Derived.Test.YtkpcomldjnahhaaWhi
import Derived.Test.YtkpcomldjnahhaaKep
namespace Go.Proofs.Ytkpcomldjnahhaa
open Go.ChangeShapes Go.WideShapes Go.ChangeAt Go.RowKit Go.Shelf
set_option linter.unusedSimpArgs false
attribute [local go_sem] zeroV

/-- What goes on apart. -/
structure Cp (W : World) (ab cb n : Nat) (k3 g3 c3 q k g c wb db cap : Nat) (B : List Int) : Prop where
  cp : Rm W k3 g3 n c3 B
  it : It W q k g c n B
  was : Rr W wb db n cap B
  n1 : k3 ≠ ab ∧ k3 ≠ cb
  n2 : g3 ≠ ab ∧ g3 ≠ cb
  n3 : q ≠ ab ∧ q ≠ cb
  n4 : k ≠ ab ∧ k ≠ cb
  n5 : g ≠ ab ∧ g ≠ cb
  n6 : wb ≠ ab ∧ wb ≠ cb
  n7 : db ≠ ab ∧ db ≠ cb
theorem It.lt {W : World} {q k g c n : Nat} {B : List Int} (h : It W q k g c n B) : q < W.heap.size := (Array.getElem?_eq_some_iff.1 h.cell).1
theorem It.below {W W' : World} {q k g c n : Nat} {B : List Int} (h : It W q k g c n B) (hb : Below W.heap.size W W') : It W' q k g c n B :=
  ⟨(hb.block _ h.lt).trans h.cell, h.mem.below hb⟩
theorem Cp.kb {N : Nat} {W W' : World} {ab cb n k3 g3 c3 q k g c wb db cap : Nat} {B : List Int} (h : Cp W ab cb n k3 g3 c3 q k g c wb db cap B) (hk : Kb N ab cb W W') : Cp W' ab cb n k3 g3 c3 q k g c wb db cap B :=
  ⟨h.cp.keep (hk.k _ h.cp.mlt h.n1.1 h.n1.2) (hk.k _ h.cp.lt h.n2.1 h.n2.2) hk.b.size,
   ⟨(hk.k _ h.it.lt h.n3.1 h.n3.2).trans h.it.cell, h.it.mem.keep (hk.k _ h.it.mem.mlt h.n4.1 h.n4.2) (hk.k _ h.it.mem.lt h.n5.1 h.n5.2) hk.b.size⟩,
   h.was.keep (hk.k _ h.was.rlt h.n6.1 h.n6.2) (hk.k _ h.was.lt h.n7.1 h.n7.2) hk.b.size,
   h.n1, h.n2, h.n3, h.n4, h.n5, h.n6, h.n7⟩
theorem Cp.below {W W' : World} {ab cb n k3 g3 c3 q k g c wb db cap : Nat} {B : List Int} (h : Cp W ab cb n k3 g3 c3 q k g c wb db cap B) (hb : Below W.heap.size W W') : Cp W' ab cb n k3 g3 c3 q k g c wb db cap B :=
  h.kb (N := 0) ⟨hb.mono (Nat.zero_le _), fun i hi _ _ => hb.block i hi⟩
theorem same_self (m k a b n ca cb : Nat) (X : List Int) (w : World) (hm : Rm w m a n ca X) (hk : Rm w k b n cb X) :
    Calls Try.prog 24 #[.pointer (some ⟨m, 0, none⟩), .pointer (some ⟨k, 0, none⟩)] w fun e w' => e = .returned (.bool true) ∧ Below w.heap.size w w' :=
  (same m k a b n ca cb X X w hm hk).mono fun e w' ⟨he, hb⟩ => ⟨by rw [he]; simp, hb⟩
/-- The reference's bytes, appended to nothing: another place. -/
theorem wpListIn_was {F : Fence} {nf : Nat} {ops : Array Oper} {rest : List Oper} {o : Oper} {a : Act} {w : World} {Q : Exit → Act → World → Prop} (hg : o.guard = none) (s x : Operand)
    (hop : o.op = Op.call { callee := Callee.builtin Builtin.append, args := #[s, x], argTypes := #[31, 31] }) (hs : a.eval s = .slice none 0 0) (b n : Nat) (B : List Int) (hx : a.eval x = .slice (some ⟨b, 0, none⟩) (128 * n) (128 * n))
    (hB : BytesAt w b 5 B) (hl : B.length = 128 * n) (hp : 1 ≤ n) (hm : n ≤ 4096)
    (hK : ∀ d cap w', w.heap.size ≤ d → d < w'.heap.size → 128 * n ≤ cap → (∀ i x, B[i]? = some x → w'.cell? ⟨d, i, none⟩ = some (.int .u8 x)) → Below w.heap.size w w' → wpListIn F nf Try.prog ops Q rest (a.put o.dst (.slice (some ⟨d, 0, none⟩) (128 * n) cap)) w') :
    wpListIn F nf Try.prog ops Q (o :: rest) a w := by
  obtain ⟨i0, hi, hz0, hz1, hz2⟩ := info_parts inf5
  refine wpListIn_append_own w hg s x 31 hop w.heap.size 5 i0 (.int .u8 0) 1 1 Try.underlying31 hi hz0 hz1 hz2 rfl (by decide) (.slice none 0 0) 0 [] hs (World.ownsRow_nil _ _ _ _) ⟨b, 0, none⟩ (128 * n) (128 * n) (bytesV B) hx (by rw [bytesV_len, hl]; omega) ?_ (one_bytes _) (by unfold maxLen; omega) (by omega) (Nat.le_refl _) ?_
  · intro j u hu
    rw [bytesV_get] at hu
    rw [Addr.add_lit, Nat.zero_add, hB.cell, hu]
  intro v' w' hown hgrow _
  obtain ⟨m, hmn⟩ : ∃ m, 128 * n = m + 1 := ⟨128 * n - 1, by omega⟩
  have hown2 := hown
  rw [Nat.zero_add, List.nil_append] at hown hown2
  obtain ⟨d, cap, rfl, hd, hdl, hcap⟩ : ∃ d cap, v' = .slice (some ⟨d, 0, none⟩) (128 * n) cap ∧ w.heap.size ≤ d ∧ d < w'.heap.size ∧ 128 * n ≤ cap := by
    obtain ⟨_, ⟨_, h0⟩ | ⟨d, cap, cur, rfl, hd, hcur, hnc, _⟩⟩ := hown
    · omega
    · exact ⟨d, cap, rfl, hd, (Array.getElem?_eq_some_iff.1 hcur).1, hnc⟩
  refine hK d cap w' hd hdl hcap (fun i x hx => ?_) ((Below.refl _ w).grown hgrow (Nat.le_refl _) (fun k hk => by cases hk))
  have := hown2.cells (g := d) rfl i (.int .u8 x) (by rw [bytesV_get, hx]; rfl)
  rwa [Addr.add_lit, Nat.zero_add] at this
/-- An operation that reads, in a quiet region. -/
theorem wpQuiet_valC {ops : Array Oper} {C : World → Prop} {Q : Act → Prop} {op : Oper} {rest : List Oper} {a : Act} {v : Value} (hw : Region.wanted op (yielded ops a.tmps) = true)
    (hv : ∀ w, C w → (execOp a.eval op).run Try.prog w = .ok (.value v) w) (h : wpQuiet Try.prog ops C Q rest (a.put op.dst v)) : wpQuiet Try.prog ops C Q (op :: rest) a := by
  unfold wpQuiet
  rw [if_pos hw]
  refine ⟨v, fun w hC => ?_, h⟩
  unfold Oper.quietAt
  rw [hv w hC]
  exact ⟨rfl, rfl⟩
theorem bool_neq (b : Bool) (w : World) : (binOp .neq 4 (.bool b) (.bool b)).run Try.prog w = .ok (.bool false) w := by cases b <;> rfl
def noDefer (l : List Oper) : Bool := l.all fun o => match o.op with | .defer _ => false | _ => true
theorem hnd_of {l : List Oper} (h : noDefer l = true) : ∀ o ∈ l.toArray, ∀ c, o.op ≠ .defer c := fun o ho c hc => by
  have := List.all_eq_true.1 h o (by simpa using ho)
  rw [hc] at this
  cases this
theorem str_beq (a b : ByteArray) : (a.toList == b.toList) = decide (a = b) := by
  rw [ByteArray.toList_eq, ByteArray.toList_eq]
  by_cases h : a = b
  · subst h; simp
  · have h2 : ¬ a.data = b.data := fun h3 => h (ByteArray.ext h3)
    simp [h, h2]
theorem strOf_inj : ∀ (X Y : List Int), AllB X → AllB Y → strOfNums X = strOfNums Y → X = Y := by
  intro X Y hX hY h
  have h2 : X.map (fun z => UInt8.ofNat z.toNat) = Y.map (fun z => UInt8.ofNat z.toNat) := by
    have := congrArg (fun b : ByteArray => b.data.toList) h
    simpa [strOfNums] using this
  clear h
  induction X generalizing Y with
  | nil => cases Y with
    | nil => rfl
    | cons y Y => simp at h2
  | cons x X ih => cases Y with
    | nil => simp at h2
    | cons y Y =>
      simp only [List.map_cons, List.cons.injEq] at h2
      have hx := hX x (by simp)
      have hy := hY y (by simp)
      have h3 := congrArg UInt8.toNat h2.1
      simp only [UInt8.toNat_ofNat'] at h3
      have e1 : x = y := by omega
      rw [e1, ih Y (fun z hz => hX z (by simp [hz])) (fun z hz => hY z (by simp [hz])) h2.2]
end Go.Proofs.Ytkpcomldjnahhaa
