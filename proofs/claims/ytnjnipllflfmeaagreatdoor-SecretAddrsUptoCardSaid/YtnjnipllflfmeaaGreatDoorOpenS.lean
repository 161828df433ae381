import Derived.Test.YtnjnipllflfmeaaGreatDoorA0
import Derived.Test.YtnjnipllflfmeaaGreatDoorOpen
namespace Go.Proofs.YtnjnipllflfmeaaGreatDoor.Op
open Go.RowKit Go.ChangeShapes Go.Proofs.YtnjnipllflfmeaaGreatDoorW.PrintWords Go.Proofs.YtnjnipllflfmeaaGreatDoor.A
set_option linter.unusedVariables false
set_option linter.unusedSimpArgs false
abbrev Sx := S32
def sizeS (x : Sx) : Nat := x.f0.size + x.f1.size + x.f2.size + total (fun _ : Int => 1) x.f3 + 1
def okS (x : Sx) : Prop := ∀ n ∈ x.f3, (Lit.int .i64 n).wf = true
set_option maxRecDepth 100000 in
theorem opens_S {w : World} {base : Nat} {sp : Nat → Bool} {held : Bool} {H : Type} {enc : TypeId × Value → H} : Opens Tryz.prog w base sp held H enc k32 32 sizeS okS := by
  intro fuel cs dx ps h
  obtain ⟨xs, n, rfl, hx, hl, hxl, hf⟩ := DataW.trod_struct Tryz.underlying32 h
  have c9 : Tryz.prog.cellsOf 9 = 1 := by kernel_rfl
  have c2 : Tryz.prog.cellsOf 30 = 1 := by kernel_rfl
  have c25 : Tryz.prog.cellsOf 32 = 4 := by kernel_rfl
  have ci : Tryz.prog.cellsOf 2 = 1 := by kernel_rfl
  rw [c25] at hl
  have e0 := hf 0 _ rfl
  have e1 := hf 1 _ rfl
  have e2 := hf 2 _ rfl
  have e3 := hf 3 _ rfl
  match xs, hxl with
  | [x0, x1, x2, x3], _ =>
  match cs, hl with
  | [b0, b1, b2, b3], _ =>
  simp only [c9, c2, List.drop_zero, List.take_succ_cons, List.take_zero, List.drop_succ_cons, List.getElem?_cons_zero, List.getElem?_cons_succ] at e0 e1 e2 e3
  obtain ⟨s0, k0, m0, _⟩ := opens_string (P := Tryz.prog) Tryz.underlying9 n [b0] x0.1 x0.2 e0
  obtain ⟨s1, k1, m1, _⟩ := opens_string (P := Tryz.prog) Tryz.underlying9 n [b1] x1.1 x1.2 e1
  obtain ⟨s2, k2, m2, _⟩ := opens_string (P := Tryz.prog) Tryz.underlying9 n [b2] x2.1 x2.2 e2
  obtain ⟨l3, k3, m3, v3⟩ := opens_slice (P := Tryz.prog) Tryz.underlying30 ci (opens_int (P := Tryz.prog) Tryz.underlying2) n [b3] x3.1 x3.2 e3
  obtain ⟨A3, cap3, hb3, hl3, hC3⟩ := k3
  have f0 : b0 = .string s0 := by injection k0
  have f1 : b1 = .string s1 := by injection k1
  have f2 : b2 = .string s2 := by injection k2
  have f3 : b3 = .slice A3 l3.length cap3 := by injection hb3
  subst f0 f1 f2 f3
  refine ⟨⟨s0, s1, s2, l3⟩, k32_mk w ⟨s0, s1, s2, l3⟩ hl3 hC3, ?_, v3.2⟩
  cases hx
  dsimp only at m0 m1 m2 m3
  simp only [sizeS, List.map_cons, List.map_nil, Rows.uptoBulk, Rows.uptoBulkAll]
  omega
theorem heap_S : Kd.Heap k32 := Kd.heap_iso _ (Kd.heap_pair Kd.heap_string (Kd.heap_pair Kd.heap_string (Kd.heap_pair Kd.heap_string (Kd.heap_slice _ (Kd.heap_int _)))))
set_option maxRecDepth 100000 in
theorem struct_S {w : World} {base : Nat} {sp : Nat → Bool} {held : Bool} {H : Type} {enc : TypeId × Value → H} {fuel : Nat} {cs : List Value} {dx : DataW H} {ps : List MemPlace} (h : DataW.trod enc Tryz.prog w base sp held fuel 32 cs = some (dx, ps)) :
    ∃ (s0 s1 s2 : ByteArray) (l3 : List Int) (A3 : Option Addr) (c3 : Nat), cs = [.string s0, .string s1, .string s2, .slice A3 l3.length c3] ∧ s0.size + s1.size + s2.size + total (fun _ : Int => 1) l3 + 1 ≤ Rows.uptoBulk dx ∧ Kd.V (Kd.int .i64) 2 w w.heap.size (fun _ => True) (.slice A3 l3.length c3) l3 := by
  obtain ⟨xs, n, rfl, hx, hl, hxl, hf⟩ := DataW.trod_struct Tryz.underlying32 h
  have c9 : Tryz.prog.cellsOf 9 = 1 := by kernel_rfl
  have c2 : Tryz.prog.cellsOf 30 = 1 := by kernel_rfl
  have c25 : Tryz.prog.cellsOf 32 = 4 := by kernel_rfl
  have ci : Tryz.prog.cellsOf 2 = 1 := by kernel_rfl
  rw [c25] at hl
  have e0 := hf 0 _ rfl
  have e1 := hf 1 _ rfl
  have e2 := hf 2 _ rfl
  have e3 := hf 3 _ rfl
  match xs, hxl with
  | [x0, x1, x2, x3], _ =>
  match cs, hl with
  | [b0, b1, b2, b3], _ =>
  simp only [c9, c2, List.drop_zero, List.take_succ_cons, List.take_zero, List.drop_succ_cons, List.getElem?_cons_zero, List.getElem?_cons_succ] at e0 e1 e2 e3
  obtain ⟨s0, k0, m0, _⟩ := opens_string (P := Tryz.prog) Tryz.underlying9 n [b0] x0.1 x0.2 e0
  obtain ⟨s1, k1, m1, _⟩ := opens_string (P := Tryz.prog) Tryz.underlying9 n [b1] x1.1 x1.2 e1
  obtain ⟨s2, k2, m2, _⟩ := opens_string (P := Tryz.prog) Tryz.underlying9 n [b2] x2.1 x2.2 e2
  obtain ⟨l3, k3, m3, v3⟩ := opens_slice (P := Tryz.prog) Tryz.underlying30 ci (opens_int (P := Tryz.prog) Tryz.underlying2) n [b3] x3.1 x3.2 e3
  have k3' := k3
  obtain ⟨A3, cap3, hb3, hl3, hC3⟩ := k3
  have f0 : b0 = .string s0 := by injection k0
  have f1 : b1 = .string s1 := by injection k1
  have f2 : b2 = .string s2 := by injection k2
  have f3 : b3 = .slice A3 l3.length cap3 := by injection hb3
  subst f0 f1 f2 f3
  obtain ⟨_, V3⟩ := V_of_K (e := 2) (Kd.heap_int _) k3'
  refine ⟨s0, s1, s2, l3, A3, cap3, rfl, ?_, V3⟩
  cases hx
  dsimp only at m0 m1 m2 m3
  simp only [List.map_cons, List.map_nil, Rows.uptoBulk, Rows.uptoBulkAll]
  omega
end Go.Proofs.YtnjnipllflfmeaaGreatDoor.Op
