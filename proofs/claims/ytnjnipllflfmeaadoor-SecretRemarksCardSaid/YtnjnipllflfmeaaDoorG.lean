import Derived.Test.YtnjnipllflfmeaaDoorShelf
import Derived.WalkSmall
import Derived.Deep.Draws
import Derived.Below
set_option linter.unusedVariables false
/-! What the package-level variables hold while the law runs, as a fact on the world that every later world keeps. -/
namespace Go.Proofs.YtnjnipllflfmeaaDoor
open Go.RowKit

/-- The variable errLine: a pointer to an error of errors.New's make. -/
def ErrLine (w : World) (g : Addr) : Prop :=
  w.cell? ⟨0, 0, none⟩ = some (.iface 144 (.pointer (some g))) ∧ True
structure GW (w : World) : Prop where
  pow : Lib.TabIs Tryd.prog w "internal/strconv.uint64pow10" .u64 Lib.pow10Tab
  syn : ∃ tp p, w.cell? ⟨5, 0, none⟩ = some (.iface tp p)
  ran : ∃ tp p, w.cell? ⟨6, 0, none⟩ = some (.iface tp p)
  err : ∃ g, ErrLine w g
  typ : w.cell? ⟨1, 0, none⟩ = some (.iface 77 (.agg #[.pointer (some ⟨Tryd.prog.globals.size, 44, none⟩)]))
  max : ∃ m, w.cell? ⟨2, 0, none⟩ = some (.int .i64 m)

theorem var_below {w w1 : World} {n : String} {cs : Array Value} (hv : w.var? Tryd.prog n = some cs) (hb : Below w.heap.size w w1) : w1.var? Tryd.prog n = some cs := by
  unfold World.var? at hv ⊢
  cases hg : Tryd.prog.globalNamed n with
  | none => rw [hg] at hv; cases hv
  | some g =>
    rw [hg] at hv
    simp only [Option.bind_some] at hv ⊢
    have hlt : g < w.heap.size := by
      rcases Nat.lt_or_ge g w.heap.size with h | h
      · exact h
      · rw [Array.getElem?_eq_none h] at hv; cases hv
    rw [hb.block g hlt]
    exact hv
theorem cell_low {w w1 : World} {a : Addr} {v : Value} (h : w.cell? a = some v) (hb : Below w.heap.size w w1) : w1.cell? a = some v := (hb.cell (World.block_lt_of_cell? w a h)).trans h
theorem ErrLine.below {w w1 : World} {g : Addr} (h : ErrLine w g) (hb : Below w.heap.size w w1) : ErrLine w1 g := ⟨cell_low h.1 hb, trivial⟩
theorem GW.below {w w1 : World} (h : GW w) (hb : Below w.heap.size w w1) : GW w1 where
  pow := var_below h.pow hb
  syn := let ⟨a, b, c⟩ := h.syn; ⟨a, b, cell_low c hb⟩
  ran := let ⟨a, b, c⟩ := h.ran; ⟨a, b, cell_low c hb⟩
  err := let ⟨g, c⟩ := h.err; ⟨g, c.below hb⟩
  typ := cell_low h.typ hb
  max := let ⟨m, c⟩ := h.max; ⟨m, cell_low c hb⟩
theorem GW.alloc {w : World} (h : GW w) (o : Obj) : GW (w.alloc o) := h.below ((Below.refl _ _).alloc (Nat.le_refl _) o)
theorem GW.drew {w : World} (h : GW w) : GW w.drew := h.below ⟨rfl, rfl, rfl, Nat.le_refl _, fun _ _ => rfl⟩
theorem GW.drewN {w : World} (h : GW w) (m : Nat) : GW (w.drewN m) := h.below ⟨rfl, rfl, rfl, Nat.le_refl _, fun _ _ => rfl⟩
theorem below_grow1 (w : World) (k : Nat) (os : Array Obj) : Below w.heap.size w (Go.Sort.grow (w.drewN k) os) :=
  ⟨rfl, rfl, rfl, by show w.heap.size ≤ (w.heap ++ os).size; simp, fun i hi => by show (w.heap ++ os)[i]? = w.heap[i]?; rw [Array.getElem?_append_left hi]⟩
end Go.Proofs.YtnjnipllflfmeaaDoor
