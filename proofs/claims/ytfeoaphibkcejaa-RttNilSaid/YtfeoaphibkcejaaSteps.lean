/- Laws on a map whose keys are arrays of two integers and whose elements are structs of one bool, known entry by entry, over any program. No condition beyond those stated. -/
import Derived.Test.YtfeoaphibkcejaaKit
namespace Go.Proofs.Ytfeoaphibkcejaa
open Go.ChangeShapes Go.WideShapes Go.ChangeAt Go.RowKit

/-- The types of such a map. -/
structure StTypes (P : Program) (t k ek e : TypeId) : Prop where
  ht : P.underlying t = some (.map k e)
  hk : P.underlying k = some (.array 2 ek)
  he : P.underlying ek = some (.int .i64)
  hc : P.cellsOf ek = 1
  hi : ∃ i, P.info? ek = some i
  hz : ∀ w : World, (zeroValue e).run P w = .ok (.agg #[.bool false]) w

abbrev StL := List ((Int × Int) × Bool)
def stKey (a b : Int) : Value := .agg #[.int .i64 a, .int .i64 b]
def stEnt (x : (Int × Int) × Bool) (n : Nat) : MapEntry := { key := stKey x.1.1 x.1.2, val := .agg #[.bool x.2], born := n }
def stEnts (L : StL) : Array MapEntry := (L.zipIdx.map fun x => stEnt x.1 x.2).toArray
theorem stEnts_snoc (L : StL) (x : (Int × Int) × Bool) : (stEnts L).push (stEnt x L.length) = stEnts (L ++ [x]) := by
  simp [stEnts, List.zipIdx_append]

/-- What the map holds at a key. -/
def stGet : StL → Int → Int → Option Bool
  | [], _, _ => none
  | x :: L, a, b => if a = x.1.1 ∧ b = x.1.2 then some x.2 else stGet L a b
/-- The map's block. -/
def StMap (w : World) (m : Nat) (L : StL) : Prop := w.heap[m]? = some (.map (stEnts L) L.length)

theorem StMap.set {w : World} {m : Nat} {L M : StL} (h : StMap w m L) : StMap { w with heap := w.heap.setIfInBounds m (.map (stEnts M) M.length) } m M := by
  have hlt : m < w.heap.size := (Array.getElem?_eq_some_iff.1 h).1
  show (w.heap.setIfInBounds m _)[m]? = _
  simp [hlt]
theorem grown_setObj (w : World) (m : Nat) (o : Obj) : w.grownBy { w with heap := w.heap.setIfInBounds m o } (some m) :=
  ⟨rfl, rfl, rfl, by simp, fun k hk hne => by
    show (w.heap.setIfInBounds m o)[k]? = _
    rw [Array.getElem?_setIfInBounds, if_neg (by intro e; subst e; exact hne rfl)]⟩

section
variable {P : Program} {t k ek e : TypeId} (T : StTypes P t k ek e)
include T

theorem run_eq_stKey (w : World) (a b c d : Int) : (Op.equal k (stKey a b) (stKey c d)).run P w = .ok (decide (a = c ∧ b = d)) w := by
  obtain ⟨i, hi⟩ := T.hi
  have h := run_equalIn_ints (P := P) w 9998 T.hk hi T.hc T.he [a, b] [c, d] rfl rfl
  show (Op.equalIn 10000 k (stKey a b) (stKey c d)).run P w = _
  have e1 : stKey a b = .agg (([a, b] : List Int).map (Value.int .i64)).toArray := rfl
  have e2 : stKey c d = .agg (([c, d] : List Int).map (Value.int .i64)).toArray := rfl
  rw [e1, e2, h]
  simp

theorem run_asking (w : World) (a b : Int) : ∀ (L : StL) (n i : Nat), ∃ r, (Instr.findAsking k (stKey a b) ((L.zipIdx n).map fun x => stEnt x.1 x.2) i).run P w = .ok r w ∧
    r.map (·.2) = (stGet L a b).map fun v => .agg #[.bool v]
  | [], n, i => ⟨none, by simp [Instr.findAsking], rfl⟩
  | x :: L, n, i => by
    obtain ⟨r, h1, h2⟩ := run_asking w a b L (n + 1) (i + 1)
    simp only [List.zipIdx_cons, List.map_cons, Instr.findAsking, Sem.run_bind]
    rw [show (stEnt x n).key = stKey x.1.1 x.1.2 from rfl, run_eq_stKey T w]
    simp only [Result.andThen_ok]
    by_cases hq : a = x.1.1 ∧ b = x.1.2
    · exact ⟨some (i, (stEnt x n).val), by simp [hq], by simp [stGet, hq, stEnt]⟩
    · exact ⟨r, by simp [hq, h1], by simp [stGet, hq, h2]⟩

theorem run_find (w : World) (a b : Int) (L : StL) : ∃ r, (Instr.findKey k (stKey a b) (stEnts L).toList).run P w = .ok r w ∧ r.map (·.2) = (stGet L a b).map fun v => .agg #[.bool v] := by
  cases L with
  | nil => exact ⟨none, by simp [Instr.findKey, run_underlying T.hk, stEnts, Instr.findNow], rfl⟩
  | cons x L =>
    obtain ⟨r, h1, h2⟩ := run_asking T w a b (x :: L) 0 0
    refine ⟨r, ?_, h2⟩
    have hn : Instr.findNow (.array 2 ek) (stKey a b) (stEnts (x :: L)).toList 0 = none := by simp [stEnts, List.zipIdx_cons, Instr.findNow, Instr.sameNow]
    simp only [Instr.findKey, Sem.run_bind, run_underlying T.hk, Result.andThen_ok, hn]
    simpa [stEnts] using h1

theorem run_check (w : World) (em : Bool) (a b : Int) : (Instr.checkKey em 10000 k (stKey a b)).run P w = .ok () w := by
  obtain ⟨i, hi⟩ := T.hi
  have h1 : ∀ (n : Nat) (c : Int), (Instr.checkKey em (n + 1) ek (.int .i64 c)).run P w = .ok () w := fun n c => by simp [Instr.checkKey, run_underlying T.he]
  have hp : ∀ j : Nat, j < 2 → ∃ c, (part ek #[.int .i64 a, .int .i64 b] j).run P w = .ok (.int .i64 c) w := fun j hj => by
    match j, hj with
    | 0, _ => exact ⟨a, by simp [part, isAgg, run_underlying T.he]⟩
    | 1, _ => exact ⟨b, by simp [part, isAgg, run_underlying T.he]⟩
  obtain ⟨c0, p0⟩ := hp 0 (by omega)
  obtain ⟨c1, p1⟩ := hp 1 (by omega)
  show (Instr.checkKey em (9999 + 1) k (.agg #[.int .i64 a, .int .i64 b])).run P w = _
  rw [Instr.checkKey]
  simp only [Sem.run_bind, run_underlying T.hk, Result.andThen_ok]
  simp only [Std.Legacy.Range.forIn_eq_forIn_range', Std.Legacy.Range.size, Nat.sub_zero, Nat.add_one_sub_one, Nat.div_one]
  simp [List.range', run_sizeOf w hi, T.hc, p0, p1, h1 9998]

/-- 'v, ok := m[k]'. -/
theorem run_st_lookup {w : World} {m : Nat} {L : StL} (h : StMap w m L) (a b : Int) :
    (Instr.lookup t (.map (some m)) (stKey a b) true).run P w = .ok (.tuple #[.agg #[.bool ((stGet L a b).getD false)], .bool (stGet L a b).isSome]) w := by
  obtain ⟨r, h1, h2⟩ := run_find T w a b L
  have hg : ∀ {α : Type} (f : Obj → Sem α), (Sem.getObj m f).run P w = (f (.map (stEnts L) L.length)).run P w := fun f => by simp [Sem.run, show w.heap[m]? = _ from h]
  simp only [Instr.lookup, Sem.run_bind, run_underlying T.ht, Result.andThen_ok]
  rw [show (getObj m : Sem Obj) = Sem.getObj m Sem.pure from rfl, hg]
  simp only [Sem.run, Result.andThen_ok]
  cases r with
  | none =>
    have : stGet L a b = none := by cases hq : stGet L a b <;> simp [hq] at h2 ⊢
    simp [this]
    rw [run_check T, Result.andThen_ok, h1]
    simp [T.hz]
  | some q =>
    obtain ⟨i, v⟩ := q
    cases hq : stGet L a b with
    | none => simp [hq] at h2
    | some v' =>
      simp [hq] at h2
      subst h2
      simp
      rw [run_check T, Result.andThen_ok, h1]
      simp

/-- 'm[k] = v' at a key that the map does not hold yet. -/
theorem run_st_new {w : World} {m : Nat} {L : StL} (h : StMap w m L) (a b : Int) (v : Bool) (hn : stGet L a b = none) :
    (Instr.mapUpdate t (.map (some m)) (stKey a b) (.agg #[.bool v])).run P w = .ok () { w with heap := w.heap.setIfInBounds m (.map (stEnts (L ++ [((a, b), v)])) (L ++ [((a, b), v)]).length) } := by
  obtain ⟨r, h1, h2⟩ := run_find T w a b L
  have hr : r = none := by cases r <;> simp [hn] at h2 ⊢
  subst hr
  have hg : ∀ {α : Type} (f : Obj → Sem α), (Sem.getObj m f).run P w = (f (.map (stEnts L) L.length)).run P w := fun f => by simp [Sem.run, show w.heap[m]? = _ from h]
  simp only [Instr.mapUpdate, Sem.run_bind, run_underlying T.ht, Result.andThen_ok]
  rw [show (getObj m : Sem Obj) = Sem.getObj m Sem.pure from rfl, hg]
  simp only [Sem.run, Result.andThen_ok]
  rw [Sem.run_bind, run_check T, Result.andThen_ok, Sem.run_bind, h1]
  simp only [Result.andThen_ok]
  rw [show ({ key := stKey a b, val := .agg #[.bool v], born := L.length } : MapEntry) = stEnt ((a, b), v) L.length from rfl, stEnts_snoc]
  simp [setObj, Sem.run, show w.heap[m]? = _ from h]

theorem wpList_st_new {ops : Array Oper} {rest : List Oper} {o : Oper} {a : Act} {w : World} {Q : Exit → Act → World → Prop} (hg : o.guard = none) (m x v : Operand) (hop : o.op = Op.mapUpdate t m x v)
    (M : Nat) (L : StL) (hm : a.eval m = .map (some M)) (h : StMap w M L) (ka kb : Int) (b : Bool) (hx : a.eval x = stKey ka kb) (hv : a.eval v = .agg #[.bool b]) (hn : stGet L ka kb = none)
    (hK : ∀ w', StMap w' M (L ++ [((ka, kb), b)]) → w.grownBy w' (some M) → wpList P ops Q rest (a.put o.dst undef) w') : wpList P ops Q (o :: rest) a w := by
  refine wpList_plain hg fun K' hK' => ?_
  have hrun := run_st_new T h ka kb b hn
  unfold Oper.wp
  simp [execOp, hop, hm, hx, hv, hrun, Result.andThen]
  exact hK' _ _ (hK _ (by simpa using StMap.set h (M := L ++ [((ka, kb), b)])) (grown_setObj _ _ _))

theorem wpList_st_lookup {ops : Array Oper} {rest : List Oper} {o : Oper} {a : Act} {w : World} {Q : Exit → Act → World → Prop} (hg : o.guard = none) (m x : Operand) (hop : o.op = Op.lookup t m x true)
    (M : Nat) (L : StL) (hm : a.eval m = .map (some M)) (h : StMap w M L) (ka kb : Int) (hx : a.eval x = stKey ka kb)
    (hK : wpList P ops Q rest (a.put o.dst (.tuple #[.agg #[.bool ((stGet L ka kb).getD false)], .bool (stGet L ka kb).isSome])) w) : wpList P ops Q (o :: rest) a w := by
  refine wpList_plain hg fun K' hK' => ?_
  have hrun := run_st_lookup T h ka kb
  unfold Oper.wp
  simp [execOp, hop, hm, hx, hrun, Result.andThen]
  exact hK' _ _ (by simpa using hK)
end
end Go.Proofs.Ytfeoaphibkcejaa
