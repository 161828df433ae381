import Derived.Maps.Own
import Derived.Maps.Views
import Derived.Maps.Keyed
import Derived.WalkKit
import Derived.Maps.OwnOps
import Derived.KernelRfl
import Derived.Deep.Draws
set_option linter.unusedVariables false
/-! A map[int64]bool that the call makes, used as a set: what it holds, as a list. -/
namespace Go.Proofs.YtnjnipllflfmeaaDoor
open Go.RowKit Go.Maps

def IntSet (P : Program) (K E : TypeId) (w : World) (b n : Nat) (xs : List Int) : Prop :=
  ∃ D : DataW Unit, w.ownsMap P K (plainElem P E) b n D ∧ IsMap D ∧ ∀ a : Int, D.atKey (.int .i64 a) (.lit (.bool false)) = .lit (.bool (xs.contains a))

section
variable {P : Program} {K E T : TypeId} {w : World} {b n : Nat} {xs : List Int}

theorem IntSet.made (P : Program) (K E : TypeId) (w : World) : IntSet P K E (w.alloc (.map #[] 0)) w.heap.size 0 [] :=
  ⟨.map [], World.ownsMap_made w P K _, isMap_empty, fun a => rfl⟩
theorem IntSet.lt (h : IntSet P K E w b n xs) : b < w.heap.size := by obtain ⟨D, h1, _⟩ := h; exact h1.lt
theorem IntSet.kept {w' : World} {row : Option Nat} (h : IntSet P K E w b n xs) (hg : w.grownBy w' row) (hne : some b ≠ row) : IntSet P K E w' b n xs := by
  obtain ⟨D, h1, h2⟩ := h
  exact ⟨D, h1.kept hg hne, h2⟩
theorem IntSet.alloc (h : IntSet P K E w b n xs) (o : Obj) : IntSet P K E (w.alloc o) b n xs := h.kept (World.grownBy_alloc w o none) (by simp)
theorem IntSet.drewN (h : IntSet P K E w b n xs) (m : Nat) : IntSet P K E (w.drewN m) b n xs := by
  obtain ⟨D, h1, h2⟩ := h
  exact ⟨D, h1, h2⟩
theorem IntSet.below {w' : World} (h : IntSet P K E w b n xs) (hb : Below w.heap.size w w') : IntSet P K E w' b n xs :=
  h.kept (row := none) ⟨hb.os, hb.tape, hb.output, hb.size, fun i hi _ => hb.block i hi⟩ (by simp)
theorem plainElem_bool_inv {e : TypeId} (he : P.underlying e = some .bool) {v : Value} {z : DataW Unit × List MemPlace} (h : plainElem P e v = some z) : ∃ a, v = .bool a ∧ z = (.lit (.bool a), []) := by
  unfold plainElem at h
  rw [he] at h
  cases v <;> simp at h
  subst h
  exact ⟨_, rfl, rfl⟩
theorem IntSet.look (h : IntSet P K E w b n xs) (ht : P.underlying T = some (.map K E)) (hK : P.underlying K = some (.int .i64)) (hE : P.underlying E = some .bool) (hz : (zeroValue E).run P w = .ok (.bool false) w)
    {a : Int} (hw : (Lit.int .i64 a).wf = true) : (Instr.lookup T (.map (some b)) (.int .i64 a) false).run P w = .ok (.bool (xs.contains a)) w := by
  obtain ⟨D, h1, _, h3⟩ := h
  obtain ⟨v, ps, hrun, hv⟩ := h1.lookup (int_keyed hK) ht hz (plainElem_bool hE false) (keyOf_int_mk hK hw)
  obtain ⟨c, rfl, hc⟩ := plainElem_bool_inv hE hv
  simp only [Prod.mk.injEq] at hc
  rw [h3 a] at hc
  have : xs.contains a = c := by simpa using hc.1
  rw [hrun, this]
theorem IntSet.put (h : IntSet P K E w b n xs) (hn : n < maxLen) (ht : P.underlying T = some (.map K E)) (hK : P.underlying K = some (.int .i64)) (hE : P.underlying E = some .bool) {a : Int} (hw : (Lit.int .i64 a).wf = true) :
    ∃ w', (Instr.mapUpdate T (.map (some b)) (.int .i64 a) (.bool true)).run P w = .ok () w' ∧ IntSet P K E w' b (n + 1) (a :: xs) ∧ w.grownBy w' (some b) := by
  obtain ⟨D, h1, h2, h3⟩ := h
  obtain ⟨w', hrun, r1, r2⟩ := h1.update (int_keyed hK) ht hn (keyOf_int_mk hK hw) (plainElem_bool hE true)
  refine ⟨w', hrun, ⟨_, r1, h2.put _ _, fun c => ?_⟩, r2⟩
  by_cases e : c = a
  · subst e
    rw [atKey_put_same h2 ((int_keyed hK).key (keyOf_int_mk hK hw))]
    simp
  · rw [atKey_put_other (by simpa using e), h3 c]
    simp [e]
/-- 'm[k] = true' at the operation, for the walk: behind 'at_mapUpdate'. -/
theorem wpList_put_set {ops : Array Oper} {rest : List Oper} {o : Oper} {ac : Act} {Q : Exit → Act → World → Prop}
    (hg : o.guard = none) (m x v : Operand) (hop : o.op = Op.mapUpdate T m x v) (a : Int)
    (h : IntSet P K E w b n xs) (hn : n < maxLen) (ht : P.underlying T = some (.map K E)) (hK : P.underlying K = some (.int .i64)) (hE : P.underlying E = some .bool) (hw : (Lit.int .i64 a).wf = true)
    (hm : ac.eval m = .map (some b)) (hx : ac.eval x = .int .i64 a) (hv : ac.eval v = .bool true)
    (hK' : ∀ w', IntSet P K E w' b (n + 1) (a :: xs) → w.grownBy w' (some b) → wpList P ops Q rest (ac.put o.dst undef) w') :
    wpList P ops Q (o :: rest) ac w := by
  refine wpList_plain hg fun K'' hK'' => ?_
  obtain ⟨w', hrun, r1, r2⟩ := h.put hn ht hK hE hw
  unfold Oper.wp
  simp [execOp, hop, hm, hx, hv, hrun, Result.andThen]
  exact hK'' _ _ (hK' w' r1 r2)
end
end Go.Proofs.YtnjnipllflfmeaaDoor
