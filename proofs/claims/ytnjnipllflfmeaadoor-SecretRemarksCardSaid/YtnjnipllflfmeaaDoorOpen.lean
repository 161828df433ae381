
import Derived.Test.YtnjnipllflfmeaaDoorRows
import Derived.Test.YtnjnipllflfmeaaDoorWMore
import Derived.ChangeArms
import Derived.DataElems
import Derived.WalkKit
import Derived.ProofKit
import Derived.OpenShut
/-! What came in, opened: a reading by the form's own reader gives the rows of the printed words; with its bulk. -/
namespace Go.Proofs.YtnjnipllflfmeaaDoor.Op
open Go.RowKit Go.ChangeShapes Go.Proofs.YtnjnipllflfmeaaDoorW.PrintWords
set_option linter.unusedVariables false
/-- Each reading of a type's cells gives a value of the kind, no greater than the reading's bulk, and valid. -/
def Opens {α : Type} (P : Program) (w : World) (base : Nat) (sp : Nat → Bool) (held : Bool) (H : Type) (enc : TypeId × Value → H) (d : Kd α) (t : TypeId) (m : α → Nat) (V : α → Prop) : Prop :=
  ∀ fuel cs dx ps, DataW.trod enc P w base sp held fuel t cs = some (dx, ps) → ∃ a, d.K w a cs ∧ m a ≤ Rows.uptoBulk dx ∧ V a
section
variable {P : Program} {w : World} {base : Nat} {sp : Nat → Bool} {held : Bool} {H : Type} {enc : TypeId × Value → H}
theorem bulk_pos (d : DataW H) : 1 ≤ Rows.uptoBulk d := by
  cases d with
  | lit l => cases l <;> simp [Rows.uptoBulk]
  | _ => simp [Rows.uptoBulk]
theorem bulk_append (l r : List (DataW H)) : Rows.uptoBulkAll (l ++ r) = Rows.uptoBulkAll l + Rows.uptoBulkAll r := by
  induction l with
  | nil => simp [Rows.uptoBulkAll]
  | cons a t ih => simp only [List.cons_append, Rows.uptoBulkAll, ih]; omega
theorem opens_int {t : TypeId} {k : IntKind} (ht : P.underlying t = some (.int k)) : Opens P w base sp held H enc (Kd.int k) t (fun _ => 1) (fun n => (Lit.int k n).wf = true) := by
  intro fuel cs dx ps h
  obtain ⟨n, rfl, hx, hw⟩ := DataW.trod_int ht h
  exact ⟨n, rfl, bulk_pos dx, hw⟩
theorem opens_string {t : TypeId} (ht : P.underlying t = some .string) : Opens P w base sp held H enc Kd.string t (fun s => s.size + 1) (fun _ => True) := by
  intro fuel cs dx ps h
  obtain ⟨s, rfl, hx, hw⟩ := DataW.trod_string ht h
  cases hx
  refine ⟨s, rfl, ?_, trivial⟩
  simp only [Rows.uptoBulk, Array.length_toList]
  exact Nat.le_refl _
theorem choose_list {α : Type} (Q : Nat → α → Prop) : ∀ (n : Nat), (∀ i, i < n → ∃ a, Q i a) → ∃ xs : List α, xs.length = n ∧ ∀ i a, xs[i]? = some a → Q i a
  | 0, _ => ⟨[], rfl, fun i a h => by simp at h⟩
  | n + 1, h => by
    obtain ⟨xs, hl, hx⟩ := choose_list Q n (fun i hi => h i (by omega))
    obtain ⟨a, ha⟩ := h n (by omega)
    refine ⟨xs ++ [a], by simp [hl], fun i b hb => ?_⟩
    rcases Nat.lt_or_ge i xs.length with hi | hi
    · rw [List.getElem?_append_left hi] at hb
      exact hx i b hb
    · rw [List.getElem?_append_right hi] at hb
      have : i - xs.length = 0 := by
        have := (List.getElem?_eq_some_iff.1 hb).1
        simp at this; omega
      rw [this] at hb
      cases hb
      have : i = n := by omega
      rw [this]; exact ha
def total {α : Type} (m : α → Nat) : List α → Nat
  | [] => 0
  | x :: r => m x + total m r
theorem total_le {α : Type} (m : α → Nat) : ∀ (xs : List α) (ds : List (DataW H)), xs.length = ds.length → (∀ (i : Nat) (a : α) (d : DataW H), xs[i]? = some a → ds[i]? = some d → m a ≤ Rows.uptoBulk d) → total m xs ≤ Rows.uptoBulkAll ds
  | [], _, _, _ => Nat.zero_le _
  | x :: r, [], h, _ => by simp at h
  | x :: r, d :: ds, h, hm => by
    have h0 := hm 0 x d rfl rfl
    have ih := total_le m r ds (by simpa using h) (fun i a d' ha hd => hm (i + 1) a d' (by simpa using ha) (by simpa using hd))
    simp only [total, Rows.uptoBulkAll]
    omega
theorem mem_total {α : Type} {m : α → Nat} : ∀ {xs : List α} {x : α}, x ∈ xs → m x ≤ total m xs
  | y :: r, x, h => by
    rcases List.mem_cons.1 h with rfl | h
    · simp only [total]; omega
    · have := mem_total (m := m) h
      simp only [total]; omega
theorem opens_slice {α : Type} {d : Kd α} {t e : TypeId} {m : α → Nat} {V : α → Prop} (ht : P.underlying t = some (.slice e)) (hc : P.cellsOf e = d.sz) (he : Opens P w base sp held H enc d e m V) :
    Opens P w base sp held H enc (Kd.slice e d) t (fun xs : List α => total m xs + 1) (fun xs : List α => xs.length * 1 ≤ maxLen ∧ ∀ x ∈ xs, V x) := by
  intro fuel cs dx ps h
  rcases DataW.trod_slice ht h with ⟨rfl, hx⟩ | ⟨a, len, cap, elems, rest, n, rfl, rfl, hx, hb, hl, hm, hel, hat, _, _⟩
  · exact ⟨[], ⟨none, 0, rfl, Nat.le_refl _, Kd.C_nil d w⟩, by simp only [total]; exact bulk_pos dx, by simp, by simp⟩
  · cases hx
    have hone : ∀ i, i < len → ∃ x : α, ∃ c, w.cells? base (a.add (i * P.cellsOf e)) (P.cellsOf e) = some c ∧ d.K w x c ∧ (∀ y, elems[i]? = some y → m x ≤ Rows.uptoBulk y.1) ∧ V x := by
      intro i hi
      have h1 := hat i hi
      have h2 : elems[i]? = some elems[i] := List.getElem?_eq_getElem (by omega)
      rw [h2] at h1
      obtain ⟨c, hcells, htr⟩ := Option.bind_eq_some_iff.1 h1
      obtain ⟨x, hk, hmx, hv⟩ := he n c elems[i].1 elems[i].2 htr
      exact ⟨x, c, hcells, hk, fun y hy => by rw [h2] at hy; cases hy; exact hmx, hv⟩
    obtain ⟨xs, hxl, hxs⟩ := choose_list _ len hone
    have hn : len ≤ 9223372036854775807 := by unfold maxLen at hm; omega
    refine ⟨xs, ⟨some a, cap, by rw [hxl], by omega, hxl.symm ▸ rfl, by omega, fun _ => ⟨a, rfl, fun j p hj => ?_⟩⟩, ?_, by omega, ?_⟩
    · obtain ⟨c, hcells, hk, _, _⟩ := hxs j p hj
      obtain ⟨_, hlen, hcell⟩ := World.cells?_some hcells
      refine ⟨c, by rw [hlen, hc], hk, fun i u hu => ?_⟩
      have hi : i < P.cellsOf e := by rw [← hlen]; exact (List.getElem?_eq_some_iff.1 hu).1
      have := hcell i hi
      rw [Go.Addr.add_add, hc] at this
      rw [this, hu]
    · have ht := total_le m xs (elems.map (·.1)) (by simp [hxl, hel]) (fun i x y hx hy => by
        obtain ⟨_, _, _, hmx, _⟩ := hxs i x hx
        rw [List.getElem?_map] at hy
        obtain ⟨z, hz, rfl⟩ := Option.map_eq_some_iff.1 hy
        exact hmx z hz)
      simp only [Rows.uptoBulk]
      omega
    · intro x hx
      obtain ⟨i, hi⟩ := List.getElem?_of_mem hx
      exact (hxs i x hi).choose_spec.2.2.2
/-- A row that came in, as a value that is only read. -/
theorem V_of_K {α : Type} {d : Kd α} {e : TypeId} {A : Option Addr} {n c : Nat} {xs : List α} (hh : Kd.Heap d) (h : (Kd.slice e d).K w xs [.slice A n c]) : n = xs.length ∧ Kd.V d e w w.heap.size (fun _ => True) (.slice A n c) xs := by
  obtain ⟨A', c', hcs, hl, hC⟩ := h
  injection hcs with hcs _
  injection hcs with h1 h2 h3
  subst h1 h2 h3
  exact ⟨rfl, _, _, rfl, hl, fun W' hW => hh.C (fun k hk => hW k trivial hk) hC⟩
end
end Go.Proofs.YtnjnipllflfmeaaDoor.Op
