/- Plain laws on the entries of tables. No condition beyond those stated. -/
import Derived.Test.YtfeoaphibkcejaaBe
namespace Go.Proofs.Ytfeoaphibkcejaa
open Go.ChangeShapes Go.WideShapes Go.ChangeAt Go.RowKit
set_option linter.unusedSimpArgs false
set_option maxRecDepth 100000

theorem getElem_splice {B X : List Int} {o : Nat} (ho : o + X.length ≤ B.length) (j : Nat) : (splice B o X)[j]? = if j < o then B[j]? else if j < o + X.length then X[j - o]? else B[j]? := by
  have hm : min o B.length = o := by omega
  simp only [splice, List.getElem?_append, List.length_take, hm, List.getElem?_take, List.getElem?_drop]
  by_cases h1 : j < o
  · simp [h1]
  · simp only [h1, if_false]
    by_cases h2 : j < o + X.length
    · rw [if_pos (by omega), if_pos h2]
    · rw [if_neg (by omega), if_neg h2]
      congr 1
      omega
theorem sub_get (B : List Int) (g i : Nat) : (sub B g)[i]? = if i < 128 then B[128 * g + i]? else none := by
  simp only [sub, List.getElem?_take, List.getElem?_drop]
theorem sub_same {B X : List Int} {g n : Nat} (hB : B.length = 128 * n) (hX : X.length = 128) (hg : g < n) : sub (splice B (128 * g) X) g = X := by
  apply List.ext_getElem?
  intro i
  rw [sub_get]
  by_cases hi : i < 128
  · rw [if_pos hi, getElem_splice (by omega), if_neg (by omega), if_pos (by omega)]
    congr 1
    omega
  · rw [if_neg hi, List.getElem?_eq_none (by omega)]
theorem sub_other {B X : List Int} {g g' n : Nat} (hB : B.length = 128 * n) (hX : X.length = 128) (hg : g < n) (hne : g' ≠ g) : sub (splice B (128 * g) X) g' = sub B g' := by
  apply List.ext_getElem?
  intro i
  rw [sub_get, sub_get]
  by_cases hi : i < 128
  · rw [if_pos hi, if_pos hi, getElem_splice (by omega)]
    by_cases hl : g' < g
    · rw [if_pos (by omega)]
    · rw [if_neg (by omega), if_neg (by omega)]
  · rw [if_neg hi, if_neg hi]
theorem byD_splice {G X : List Int} {o : Nat} (ho : o + X.length ≤ G.length) (j : Nat) : byD (splice G o X) j = if j < o then byD G j else if j < o + X.length then byD X (j - o) else byD G j := by
  unfold byD
  simp only [List.getD_eq_getElem?_getD, getElem_splice ho]
  split
  · rfl
  · split <;> rfl
theorem getE_put_same {G : List Int} {i : Nat} {k e : Int} (hG : G.length = 128) (hi : i < 4) (hm : mayB k e = true) : getE (splice G (8 * i) (ent8 k e)) i = (k, e) := by
  have hb : ∀ j, j < 8 → byD (splice G (8 * i) (ent8 k e)) (8 * i + j) = byD (ent8 k e) j := fun j hj => by
    rw [byD_splice (by rw [ent8_len, hG]; omega), if_neg (by omega), if_pos (by rw [ent8_len]; omega)]
    congr 1
    omega
  have e0 := hb 0 (by omega)
  rw [Nat.add_zero] at e0
  obtain ⟨h1, h2, h3, h4, _⟩ := mayB_iff.1 hm
  have hk : kAt (splice G (8 * i) (ent8 k e)) i = k := by rw [kAt, e0]; rfl
  have hg : gAt (splice G (8 * i) (ent8 k e)) i = e := by
    rw [gAt, hb 1 (by omega), hb 2 (by omega)]
    show e % 256 + 256 * (e / 256) = e
    omega
  have hok : okAt (splice G (8 * i) (ent8 k e)) i = true := by
    unfold okAt
    rw [e0, hb 1 (by omega), hb 2 (by omega), hb 3 (by omega), hb 4 (by omega), hb 5 (by omega), hb 6 (by omega), hb 7 (by omega)]
    show okB k (e % 256) (e / 256) 0 0 0 0 0 = true
    unfold okB
    rw [show e % 256 + 256 * (e / 256) = e by omega, hm]
    rfl
  rw [getE, hok, if_pos rfl, hk, hg]
theorem getE_put_other {G : List Int} {i i' : Nat} {k e : Int} (hG : G.length = 128) (hi : i < 4) (hne : i' ≠ i) : getE (splice G (8 * i) (ent8 k e)) i' = getE G i' := by
  have hb : ∀ j, j < 8 → byD (splice G (8 * i) (ent8 k e)) (8 * i' + j) = byD G (8 * i' + j) := fun j hj => by
    rw [byD_splice (by rw [ent8_len, hG]; omega)]
    by_cases hl : i' < i
    · rw [if_pos (by omega)]
    · rw [if_neg (by omega), if_neg (by rw [ent8_len]; omega)]
  have e0 := hb 0 (by omega)
  rw [Nat.add_zero] at e0
  unfold getE okAt kAt gAt
  rw [e0, hb 1 (by omega), hb 2 (by omega), hb 3 (by omega), hb 4 (by omega), hb 5 (by omega), hb 6 (by omega), hb 7 (by omega)]
/-- What the tables hold. -/
def EqE (B : List Int) (E : Nat → Nat → Int × Int) : Prop := ∀ g i, g < 8 → i < 4 → getE (sub B g) i = E g i
def upd (E : Nat → Nat → Int × Int) (g i : Nat) (x : Int × Int) : Nat → Nat → Int × Int := fun g' i' => if g' = g ∧ i' = i then x else E g' i'
theorem EqE_put {B : List Int} {E : Nat → Nat → Int × Int} {g i : Nat} {k e : Int} (h : EqE B E) (hB : B.length = 128 * 8) (hg : g < 8) (hi : i < 4) (hm : mayB k e = true) : EqE (putB B g i k e) (upd E g i (k, e)) := fun g' i' hg' hi' => by
  have hl : (splice (sub B g) (8 * i) (ent8 k e)).length = 128 := spl_len _ _ _ _ (sub_len B g 8 hB hg) (by omega)
  unfold putB upd
  by_cases hgg : g' = g
  · subst hgg
    rw [sub_same hB hl hg]
    by_cases hii : i' = i
    · subst hii
      rw [getE_put_same (sub_len B g' 8 hB hg) hi hm, if_pos ⟨rfl, rfl⟩]
    · rw [getE_put_other (sub_len B g' 8 hB hg) hi hii, if_neg (fun h => hii h.2)]
      exact h _ _ hg' hi'
  · rw [sub_other hB hl hg hgg, if_neg (fun h => hgg h.1)]
    exact h _ _ hg' hi'
theorem T0_getE (i : Nat) (hi : i < 4) : getE T0 i = (0, 0) := by
  rcases (show i = 0 ∨ i = 1 ∨ i = 2 ∨ i = 3 by omega) with rfl | rfl | rfl | rfl <;> rfl
theorem EqE_T0 {B : List Int} {E : Nat → Nat → Int × Int} {t : Nat} (h : EqE B E) (hB : B.length = 128 * 8) (ht : t < 8) (hE : ∀ i, i < 4 → E t i = (0, 0)) : EqE (splice B (128 * t) T0) E := fun g' i' hg' hi' => by
  have hl : T0.length = 128 := tabN_len _ _ _ _ _ _ _ _ _
  by_cases hgg : g' = t
  · subst hgg
    rw [sub_same hB hl ht, T0_getE i' hi', hE i' hi']
  · rw [sub_other hB hl ht hgg]
    exact h _ _ hg' hi'
def E0 : Nat → Nat → Int × Int := fun _ _ => (0, 0)
theorem EqE_0 : EqE (zeroB 8) E0 := fun g i hg hi => by
  have hs : sub (zeroB 8) g = zeroB 1 := by
    apply List.ext_getElem?
    intro j
    rw [sub_get, zeroB, zeroB, List.getElem?_replicate, List.getElem?_replicate]
    by_cases hj : j < 128
    · rw [if_pos hj, if_pos (by omega), if_pos (by omega)]
    · rw [if_neg hj, if_neg (by omega)]
  rw [hs]
  rcases (show i = 0 ∨ i = 1 ∨ i = 2 ∨ i = 3 by omega) with rfl | rfl | rfl | rfl <;> rfl
theorem putB_len {B : List Int} {g i : Nat} {k e : Int} (hB : B.length = 128 * 8) (hg : g < 8) (hi : i < 4) : (putB B g i k e).length = 128 * 8 := by
  unfold putB
  rw [splice_len _ _ _ (by rw [spl_len _ _ _ _ (sub_len B g 8 hB hg) (by omega)]; omega), hB]
/-- The way over what the tables hold. -/
def lookE (E : Nat → Nat → Int × Int) (R : List Rw) (page : Nat) : Nat → Nat → Nat → Nat × Nat × Nat × Int × Int
  | 0, lv, t => (lv, t, (slotV page lv).toNat, E t (slotV page lv).toNat)
  | f + 1, lv, t => if (E t (slotV page lv).toNat).1 = 1 ∧ tabT R (E t (slotV page lv).toNat).2 = true then lookE E R page f (lv + 1) (E t (slotV page lv).toNat).2.toNat
    else (lv, t, (slotV page lv).toNat, E t (slotV page lv).toNat)
theorem look_eq {B : List Int} {E : Nat → Nat → Int × Int} {R : List Rw} (h : EqE B E) (hR : R.length = 8) (page : Nat) : ∀ (f lv t : Nat), t < 8 → lookF B R page f lv t = lookE E R page f lv t
  | 0, lv, t, ht => by
    obtain ⟨_, hs⟩ := slotV_lt page lv
    rw [lookF, lookE, h _ _ ht hs]
  | f + 1, lv, t, ht => by
    obtain ⟨_, hs⟩ := slotV_lt page lv
    rw [lookF, lookE, h _ _ ht hs]
    by_cases hc : (E t (slotV page lv).toNat).1 = 1 ∧ tabT R (E t (slotV page lv).toNat).2 = true
    · rw [if_pos hc, if_pos hc]
      refine look_eq h hR page f _ _ ?_
      have := hc.2
      simp [tabT, hR] at this
      omega
    · rw [if_neg hc, if_neg hc]
end Go.Proofs.Ytfeoaphibkcejaa
