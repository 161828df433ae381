-- Written by wip/xprint.py, a program of this session, out of the translation; Lean checks it.
import Derived.Test.YtnjnipllflfmeaaDoorY0
import Derived.Test.YtnjnipllflfmeaaDoorY1
import Derived.Test.YtnjnipllflfmeaaDoorY3
import Derived.Test.YtnjnipllflfmeaaDoorY4
import Derived.Test.YtnjnipllflfmeaaDoorY8
namespace Go.Proofs.YtnjnipllflfmeaaDoor.Y
open Go.RowKit Go.Proofs.YtnjnipllflfmeaaDoorW.PrintWords Go.Proofs.YtnjnipllflfmeaaDoorW.PrintLast Go.Proofs.YtnjnipllflfmeaaDoorW.PrintMore
attribute [local go_sem] max2_int min2_int max_two min_two max_three min_three max_four min_four   -- for this text's walks alone
set_option linter.unusedVariables false
set_option linter.unusedSimpArgs false

/-! ### tetherlaw06_SecretBest: function 3 -/
mutual
def tetherlaw06_SecretBest.l0 : Nat → ByteArray → ByteArray → Bool → List (S25) → List (S25) → Int → Int → ByteArray → ByteArray → ByteArray → List Int → Option (Bool)
  | 0, _, _, _, _, _, _, _, _, _, _, _ => none
  | k + 1, x2, x3, x10, x11, x26, x27, x28, x163000, x163001, x163002, x163003 => if x28 < x27 then (if 0 ≤ x28 then (if x28 < (x26.length : Int) then (if x10 = true then (if ((rd_T25 x26 x28).f0).toList = x163000.toList then (if ((rd_T25 x26 x28).f1).toList = x163001.toList then (if x11.length < 1954687338268 then (tetherlaw06_SecretBest.l0 k x2 x3 x10 (x11 ++ [(⟨(rd_T25 x26 x28).f0, (rd_T25 x26 x28).f1, (rd_T25 x26 x28).f2, (rd_T25 x26 x28).f3⟩ : S25)]) x26 x27 (wrap64 (x28 + 1)) x163000 x163001 x163002 x163003) else (none)) else (if ((rd_T25 x26 x28).f0).toList = x2.toList then (if ((rd_T25 x26 x28).f1).toList = x3.toList then (tetherlaw06_SecretBest.l0 k x2 x3 x10 x11 x26 x27 (wrap64 (x28 + 1)) x163000 x163001 x163002 x163003) else (if ((rd_T25 x26 x28).f1).toList = ([42] : List UInt8) then (tetherlaw06_SecretBest.l0 k x2 x3 x10 x11 x26 x27 (wrap64 (x28 + 1)) x163000 x163001 x163002 x163003) else (if x11.length < 1954687338268 then (tetherlaw06_SecretBest.l0 k x2 x3 x10 (x11 ++ [(⟨(rd_T25 x26 x28).f0, (rd_T25 x26 x28).f1, (rd_T25 x26 x28).f2, (rd_T25 x26 x28).f3⟩ : S25)]) x26 x27 (wrap64 (x28 + 1)) x163000 x163001 x163002 x163003) else (none)))) else (if ((rd_T25 x26 x28).f0).toList = ([42] : List UInt8) then (if ((rd_T25 x26 x28).f1).toList = x3.toList then (tetherlaw06_SecretBest.l0 k x2 x3 x10 x11 x26 x27 (wrap64 (x28 + 1)) x163000 x163001 x163002 x163003) else (if ((rd_T25 x26 x28).f1).toList = ([42] : List UInt8) then (tetherlaw06_SecretBest.l0 k x2 x3 x10 x11 x26 x27 (wrap64 (x28 + 1)) x163000 x163001 x163002 x163003) else (if x11.length < 1954687338268 then (tetherlaw06_SecretBest.l0 k x2 x3 x10 (x11 ++ [(⟨(rd_T25 x26 x28).f0, (rd_T25 x26 x28).f1, (rd_T25 x26 x28).f2, (rd_T25 x26 x28).f3⟩ : S25)]) x26 x27 (wrap64 (x28 + 1)) x163000 x163001 x163002 x163003) else (none)))) else (if x11.length < 1954687338268 then (tetherlaw06_SecretBest.l0 k x2 x3 x10 (x11 ++ [(⟨(rd_T25 x26 x28).f0, (rd_T25 x26 x28).f1, (rd_T25 x26 x28).f2, (rd_T25 x26 x28).f3⟩ : S25)]) x26 x27 (wrap64 (x28 + 1)) x163000 x163001 x163002 x163003) else (none))))) else (if ((rd_T25 x26 x28).f0).toList = x2.toList then (if ((rd_T25 x26 x28).f1).toList = x3.toList then (tetherlaw06_SecretBest.l0 k x2 x3 x10 x11 x26 x27 (wrap64 (x28 + 1)) x163000 x163001 x163002 x163003) else (if ((rd_T25 x26 x28).f1).toList = ([42] : List UInt8) then (tetherlaw06_SecretBest.l0 k x2 x3 x10 x11 x26 x27 (wrap64 (x28 + 1)) x163000 x163001 x163002 x163003) else (if x11.length < 1954687338268 then (tetherlaw06_SecretBest.l0 k x2 x3 x10 (x11 ++ [(⟨(rd_T25 x26 x28).f0, (rd_T25 x26 x28).f1, (rd_T25 x26 x28).f2, (rd_T25 x26 x28).f3⟩ : S25)]) x26 x27 (wrap64 (x28 + 1)) x163000 x163001 x163002 x163003) else (none)))) else (if ((rd_T25 x26 x28).f0).toList = ([42] : List UInt8) then (if ((rd_T25 x26 x28).f1).toList = x3.toList then (tetherlaw06_SecretBest.l0 k x2 x3 x10 x11 x26 x27 (wrap64 (x28 + 1)) x163000 x163001 x163002 x163003) else (if ((rd_T25 x26 x28).f1).toList = ([42] : List UInt8) then (tetherlaw06_SecretBest.l0 k x2 x3 x10 x11 x26 x27 (wrap64 (x28 + 1)) x163000 x163001 x163002 x163003) else (if x11.length < 1954687338268 then (tetherlaw06_SecretBest.l0 k x2 x3 x10 (x11 ++ [(⟨(rd_T25 x26 x28).f0, (rd_T25 x26 x28).f1, (rd_T25 x26 x28).f2, (rd_T25 x26 x28).f3⟩ : S25)]) x26 x27 (wrap64 (x28 + 1)) x163000 x163001 x163002 x163003) else (none)))) else (if x11.length < 1954687338268 then (tetherlaw06_SecretBest.l0 k x2 x3 x10 (x11 ++ [(⟨(rd_T25 x26 x28).f0, (rd_T25 x26 x28).f1, (rd_T25 x26 x28).f2, (rd_T25 x26 x28).f3⟩ : S25)]) x26 x27 (wrap64 (x28 + 1)) x163000 x163001 x163002 x163003) else (none))))) else (if ((rd_T25 x26 x28).f0).toList = x2.toList then (if ((rd_T25 x26 x28).f1).toList = x3.toList then (tetherlaw06_SecretBest.l0 k x2 x3 x10 x11 x26 x27 (wrap64 (x28 + 1)) x163000 x163001 x163002 x163003) else (if ((rd_T25 x26 x28).f1).toList = ([42] : List UInt8) then (tetherlaw06_SecretBest.l0 k x2 x3 x10 x11 x26 x27 (wrap64 (x28 + 1)) x163000 x163001 x163002 x163003) else (if x11.length < 1954687338268 then (tetherlaw06_SecretBest.l0 k x2 x3 x10 (x11 ++ [(⟨(rd_T25 x26 x28).f0, (rd_T25 x26 x28).f1, (rd_T25 x26 x28).f2, (rd_T25 x26 x28).f3⟩ : S25)]) x26 x27 (wrap64 (x28 + 1)) x163000 x163001 x163002 x163003) else (none)))) else (if ((rd_T25 x26 x28).f0).toList = ([42] : List UInt8) then (if ((rd_T25 x26 x28).f1).toList = x3.toList then (tetherlaw06_SecretBest.l0 k x2 x3 x10 x11 x26 x27 (wrap64 (x28 + 1)) x163000 x163001 x163002 x163003) else (if ((rd_T25 x26 x28).f1).toList = ([42] : List UInt8) then (tetherlaw06_SecretBest.l0 k x2 x3 x10 x11 x26 x27 (wrap64 (x28 + 1)) x163000 x163001 x163002 x163003) else (if x11.length < 1954687338268 then (tetherlaw06_SecretBest.l0 k x2 x3 x10 (x11 ++ [(⟨(rd_T25 x26 x28).f0, (rd_T25 x26 x28).f1, (rd_T25 x26 x28).f2, (rd_T25 x26 x28).f3⟩ : S25)]) x26 x27 (wrap64 (x28 + 1)) x163000 x163001 x163002 x163003) else (none)))) else (if x11.length < 1954687338268 then (tetherlaw06_SecretBest.l0 k x2 x3 x10 (x11 ++ [(⟨(rd_T25 x26 x28).f0, (rd_T25 x26 x28).f1, (rd_T25 x26 x28).f2, (rd_T25 x26 x28).f3⟩ : S25)]) x26 x27 (wrap64 (x28 + 1)) x163000 x163001 x163002 x163003) else (none))))) else (none)) else (none)) else ((secret_Find.f k x11 x2 x3).bind fun bt198 => (if (x10 != bt198.2.2.2.2) = true then (tetherlaw06_SecretBest.j1 k x2 x3 x10 true x163000 x163001 x163002 x163003) else ((tetherref06_One.f k x163000 x163001 x163002 x163003 bt198.1 bt198.2.1 bt198.2.2.1 bt198.2.2.2.1).bind fun t206 => (tetherlaw06_SecretBest.j1 k x2 x3 x10 (!t206) x163000 x163001 x163002 x163003))))
def tetherlaw06_SecretBest.j1 : Nat → ByteArray → ByteArray → Bool → Bool → ByteArray → ByteArray → ByteArray → List Int → Option (Bool)
  | 0, _, _, _, _, _, _, _, _ => none
  | k + 1, x2, x3, x10, x89, x163000, x163001, x163002, x163003 => if x89 = true then (some false) else (if x10 = true then ((secret_Right.f x163000 x163001 x163002 x163003).bind fun t207 => (if t207 = 0 then (if x163000.toList = x2.toList then (if x163001.toList = x3.toList then ((tetherlaw06_awake.f k).bind fun t208 => (some t208)) else (if x163001.toList = ([42] : List UInt8) then ((tetherlaw06_awake.f k).bind fun t209 => (some t209)) else (some false))) else (if x163000.toList = ([42] : List UInt8) then (if x163001.toList = x3.toList then ((tetherlaw06_awake.f k).bind fun t210 => (some t210)) else (if x163001.toList = ([42] : List UInt8) then ((tetherlaw06_awake.f k).bind fun t211 => (some t211)) else (some false))) else (some false))) else (some false))) else ((tetherlaw06_awake.f k).bind fun t212 => (some t212)))
end
def tetherlaw06_SecretBest.f (k : Nat) (l0 : List (S25)) (l1 : List (S25)) (a2 : ByteArray) (a3 : ByteArray) : Option (Bool) := (secret_Find.f k l0 a2 a3).bind fun bt155 => (if ([] : List (S25)).length + l0.length < 1954687338268 then (tetherlaw06_SecretBest.l0 k a2 a3 bt155.2.2.2.2 (([] : List (S25)) ++ l0) l1 (l1.length : Int) 0 bt155.1 bt155.2.1 bt155.2.2.1 bt155.2.2.2.1) else (none))
theorem tetherlaw06_SecretBest.mono_l : ∀ k, (∀ y0 y1 y2 y3 y4 y5 y6 y7 y8 y9 y10, LeO (tetherlaw06_SecretBest.l0 k y0 y1 y2 y3 y4 y5 y6 y7 y8 y9 y10) (tetherlaw06_SecretBest.l0 (k + 1) y0 y1 y2 y3 y4 y5 y6 y7 y8 y9 y10)) ∧ (∀ y0 y1 y2 y3 y4 y5 y6 y7, LeO (tetherlaw06_SecretBest.j1 k y0 y1 y2 y3 y4 y5 y6 y7) (tetherlaw06_SecretBest.j1 (k + 1) y0 y1 y2 y3 y4 y5 y6 y7))
  | 0 => ⟨fun _ _ _ _ _ _ _ _ _ _ _ r h => by simp [tetherlaw06_SecretBest.l0] at h, fun _ _ _ _ _ _ _ _ r h => by simp [tetherlaw06_SecretBest.j1] at h⟩
  | k + 1 => by
    obtain ⟨ih0, ih1⟩ := tetherlaw06_SecretBest.mono_l k
    refine ⟨?_, ?_⟩
    · intro y0 y1 y2 y3 y4 y5 y6 y7 y8 y9 y10
      unfold tetherlaw06_SecretBest.l0
      repeat' first
      | (with_reducible exact ih0 _ _ _ _ _ _ _ _ _ _ _)
      | (with_reducible exact ih1 _ _ _ _ _ _ _ _)
      | (with_reducible exact secret_Find.mono _ _ _ _)
      | (with_reducible exact tetherlaw06_awake.mono _)
      | (with_reducible exact tetherref06_One.mono _ _ _ _ _ _ _ _ _)
      | (with_reducible exact LeO.refl _)
      | (with_reducible exact LeO.none _)
      | (with_reducible refine LeO.ite ?_ ?_)
      | (with_reducible refine LeO.bind ?_ (fun _ => ?_))
      | exact ih0 _ _ _ _ _ _ _ _ _ _ _
      | exact ih1 _ _ _ _ _ _ _ _
      | exact secret_Find.mono _ _ _ _
      | exact tetherlaw06_awake.mono _
      | exact tetherref06_One.mono _ _ _ _ _ _ _ _ _
      | exact LeO.none _
      | refine LeO.ite ?_ ?_
      | refine LeO.bind ?_ (fun _ => ?_)
    · intro y0 y1 y2 y3 y4 y5 y6 y7
      unfold tetherlaw06_SecretBest.j1
      repeat' first
      | (with_reducible exact ih0 _ _ _ _ _ _ _ _ _ _ _)
      | (with_reducible exact ih1 _ _ _ _ _ _ _ _)
      | (with_reducible exact secret_Find.mono _ _ _ _)
      | (with_reducible exact tetherlaw06_awake.mono _)
      | (with_reducible exact tetherref06_One.mono _ _ _ _ _ _ _ _ _)
      | (with_reducible exact LeO.refl _)
      | (with_reducible exact LeO.none _)
      | (with_reducible refine LeO.ite ?_ ?_)
      | (with_reducible refine LeO.bind ?_ (fun _ => ?_))
      | exact ih0 _ _ _ _ _ _ _ _ _ _ _
      | exact ih1 _ _ _ _ _ _ _ _
      | exact secret_Find.mono _ _ _ _
      | exact tetherlaw06_awake.mono _
      | exact tetherref06_One.mono _ _ _ _ _ _ _ _ _
      | exact LeO.none _
      | refine LeO.ite ?_ ?_
      | refine LeO.bind ?_ (fun _ => ?_)
theorem tetherlaw06_SecretBest.mono : ∀ a0 a1 a2 a3 k, LeO (tetherlaw06_SecretBest.f k a0 a1 a2 a3) (tetherlaw06_SecretBest.f (k + 1) a0 a1 a2 a3) := by
  intro a0 a1 a2 a3 k
  obtain ⟨ih0, ih1⟩ := tetherlaw06_SecretBest.mono_l k
  unfold tetherlaw06_SecretBest.f
  repeat' first
      | (with_reducible exact ih0 _ _ _ _ _ _ _ _ _ _ _)
      | (with_reducible exact ih1 _ _ _ _ _ _ _ _)
      | (with_reducible exact secret_Find.mono _ _ _ _)
      | (with_reducible exact tetherlaw06_awake.mono _)
      | (with_reducible exact tetherref06_One.mono _ _ _ _ _ _ _ _ _)
      | (with_reducible exact LeO.refl _)
      | (with_reducible exact LeO.none _)
      | (with_reducible refine LeO.ite ?_ ?_)
      | (with_reducible refine LeO.bind ?_ (fun _ => ?_))
      | exact ih0 _ _ _ _ _ _ _ _ _ _ _
      | exact ih1 _ _ _ _ _ _ _ _
      | exact secret_Find.mono _ _ _ _
      | exact tetherlaw06_awake.mono _
      | exact tetherref06_One.mono _ _ _ _ _ _ _ _ _
      | exact LeO.none _
      | refine LeO.ite ?_ ?_
      | refine LeO.bind ?_ (fun _ => ?_)
set_option maxHeartbeats 8000000 in
set_option maxRecDepth 100000 in
theorem tetherlaw06_SecretBest.calls (k : Nat) (P0_ : Nat → Prop) (A0 : Option Addr) (c0 : Nat) (l0 : List (S25)) (P1_ : Nat → Prop) (A1 : Option Addr) (c1 : Nat) (l1 : List (S25)) (a2 : ByteArray) (a3 : ByteArray) (r : Bool) (w : World) (hs0 : Kd.V k25 25 w w.heap.size (fun k_ => P0_ k_) (.slice A0 l0.length c0) l0) (hs1 : Kd.V k25 25 w w.heap.size (fun k_ => P1_ k_) (.slice A1 l1.length c1) l1) (hG : GW w) (h : tetherlaw06_SecretBest.f k l0 l1 a2 a3 = some r) :
    Calls Tryd.prog 3 #[.slice A0 l0.length c0, .slice A1 l1.length c1, .string a2, .string a3] w fun e w' => e = .returned (.bool r) ∧ Below w.heap.size w w' := by
  have hu25 := Tryd.underlying25
  have HG := Aside0.mk hG
  clear hG
  have HO0 := Aside0.mk (show Kd.V k25 25 w w.heap.size (fun k_ => ((P0_ k_ ∨ P1_ k_) ∨ w.heap.size ≤ k_)) (.slice A0 l0.length c0) l0 from Kd.V_mono hs0 (fun k_ hk => .inl (.inl hk)))
  have HO1 := Aside0.mk (show Kd.V k25 25 w w.heap.size (fun k_ => ((P0_ k_ ∨ P1_ k_) ∨ w.heap.size ≤ k_)) (.slice A1 l1.length c1) l1 from Kd.V_mono hs1 (fun k_ hk => .inl (.inr hk)))
  have HB := Aside0.mk (Below.refl w.heap.size w)
  have H : ((secret_Find.f k l0 a2 a3).bind fun bt155 => (if ([] : List (S25)).length + l0.length < 1954687338268 then (tetherlaw06_SecretBest.l0 k a2 a3 bt155.2.2.2.2 (([] : List (S25)) ++ l0) l1 (l1.length : Int) 0 bt155.1 bt155.2.1 bt155.2.2.1 bt155.2.2.2.1) else (none))) = some r := h
  clear h
  replace H := Option.bind_eq_some_iff.mp H
  obtain ⟨⟨t155, t156, t157, t158, t161⟩, A50, H⟩ := H
  replace H : (if ([] : List (S25)).length + l0.length < 1954687338268 then (tetherlaw06_SecretBest.l0 k a2 a3 t161 (([] : List (S25)) ++ l0) l1 (l1.length : Int) 0 t155 t156 t157 t158) else (none)) = some r := H
  have A5 := Aside0.mk A50
  clear A50
  by_cases c6 : ([] : List (S25)).length + l0.length < 1954687338268
  · rw [if_pos c6] at H
    have LMc6 := Aside0.mk c6
    clear c6
    obtain ⟨y163, hy163⟩ : ∃ y_ : List (S25), y_ = (([] : List (S25)) ++ l0) := ⟨_, rfl⟩
    replace H : (tetherlaw06_SecretBest.l0 k a2 a3 t161 y163 l1 (l1.length : Int) 0 t155 t156 t157 t158) = some r := by first | (rw [hy163]; with_reducible exact H) | (have H2_ := (Option.bind_some _ _).symm.trans H; rw [hy163]; with_reducible exact H2_) | (have H2_ := (Option.bind_some _ _).symm.trans H; with_reducible exact H2_) | with_reducible exact H | (rw [hy163]; exact H) | exact H
    have Ny163 := Aside0.mk hy163
    clear hy163
    have H' := Aside0.mk H
    clear H
    go_enter Tryd.func3, Tryd.ntmps3
    go_wp2_with (first | ((with_reducible refine gate_callee (f := 5) rfl ?_); refine goesL_ (some 20) rfl rfl Tryd.func5 (by kernel_rfl) rfl #[.slice A0 l0.length c0, .string a2, .string a3] rfl (by (try simp only [List.map_toArray, List.map_cons, List.map_nil]); first | done | rfl | (simp only [List.length_drop, List.length_take]; rfl)) ?_; (with_reducible refine (secret_Find.calls k _ _ l0 a2 a3 t155 t156 t157 t158 t161 _ ?side1 ?side2 A5.out).mono ?_); (case side1 => repeat (first | exact (Kd.V_reads' HO0.out).2.2 | (with_reducible refine Kd.C_alloc ?_ _) | (with_reducible refine Kd.C_drewN ?_ _) | (with_reducible refine Kd.C_drew ?_))); (case side2 => exact (Kd.V_reads' HO0.out).2.1); rintro e w7 ⟨v159, rfl, ho0, hb⟩; refine ⟨_, rfl, ?_⟩; have n0_ := Aside0.mk (Kd.V_elder' (by (with_reducible repeat (first | apply Kd.V_alloc | apply Kd.V_drewN | apply Kd.V_drew)); exact HO0.out) (Kd.R_base ho0) hb); have n1_ := Aside0.mk (Kd.V_elder' (by (with_reducible repeat (first | apply Kd.V_alloc | apply Kd.V_drewN | apply Kd.V_drew)); exact HO1.out) (Kd.R_base ho0) hb); have n2_ := Aside0.mk (Kd.R_lower (Kd.R_newM (M := fun k_ => (w.heap.size ≤ k_)) ho0 (below_size (by repeat (first | (with_reducible first | exact HB.out | apply below_alloc | apply pw_below_drewN | apply below_drew1) | exact HB.out))) (fun k_ h_ => h_)) (below_size (by repeat (first | (with_reducible first | exact HB.out | apply below_alloc | apply pw_below_drewN | apply below_drew1) | exact HB.out)))); have n3_ := Aside0.mk (below_step (by repeat (first | (with_reducible first | exact HB.out | apply below_alloc | apply pw_below_drewN | apply below_drew1) | exact HB.out)) hb); clear HO0; clear HO1; clear HB; have HO0 := n0_; have HO1 := n1_; have HO160 := n2_; have HB := n3_; clear n0_ n1_ n2_ n3_; (try clear hb); (try clear hb2); (try clear hk); (try clear hi); (try clear ho0)) | ((with_reducible refine gate_dst (N := 9) rfl ?_); refine box_event ?hg (N := 9) ?hd (cs := #[.string (⟨#[]⟩ : ByteArray), .string (⟨#[]⟩ : ByteArray), .string (⟨#[]⟩ : ByteArray), .slice none 0 0]) (t := 25) ?hr ?_; (case hd => rfl); (case hg => rfl); (case hr => first | (go_simp; done) | (go_simp; rfl)); intro gb162 hg w8 hbox hb; have n0_ := Aside0.mk (Kd.V_below (Kd.V_elderB (by (with_reducible repeat (first | apply Kd.V_alloc | apply Kd.V_drewN | apply Kd.V_drew)); exact HO0.out) gb162 (Nat.le_of_eq hg.symm)) hb); have n1_ := Aside0.mk (Kd.V_below (Kd.V_elderB (by (with_reducible repeat (first | apply Kd.V_alloc | apply Kd.V_drewN | apply Kd.V_drew)); exact HO1.out) gb162 (Nat.le_of_eq hg.symm)) hb); have n2_ := Aside0.mk (Kd.R_below (by (with_reducible repeat (first | apply Kd.R_alloc | apply Kd.R_drewN | apply Kd.R_drew)); exact HO160.out) hb); have n3_ := Aside0.mk (below_step (by repeat (first | (with_reducible first | exact HB.out | apply below_alloc | apply pw_below_drewN | apply below_drew1) | exact HB.out)) hb); have n4_ := Aside0.mk (hbox); have n5_ := Aside0.mk ((by rw [hg]; exact (below_size (by repeat (first | (with_reducible first | exact HB.out | apply below_alloc | apply pw_below_drewN | apply below_drew1) | exact HB.out))) : w.heap.size ≤ gb162)); have n6_ := Aside0.mk ((by rw [hg]; exact (below_size (by repeat (first | (with_reducible first | exact HB.out | apply below_alloc | apply pw_below_drewN | apply below_drew1) | exact HB.out))) : w.heap.size ≤ gb162)); clear HO0; clear HO1; clear HO160; clear HB; have HO0 := n0_; have HO1 := n1_; have HO160 := n2_; have HB := n3_; have BK162 := n4_; have GW162 := n5_; have GE162 := n6_; clear n0_ n1_ n2_ n3_ n4_ n5_ n6_; clear hb hbox hg; have hcz9_0 : w8.cell? ⟨gb162, 0, none⟩ = some (.string (⟨#[]⟩ : ByteArray)) := (blk_cell BK162.out 0).trans rfl; have hcz9_1 : w8.cell? ⟨gb162, 1, none⟩ = some (.string (⟨#[]⟩ : ByteArray)) := (blk_cell BK162.out 1).trans rfl; have hcz9_2 : w8.cell? ⟨gb162, 2, none⟩ = some (.string (⟨#[]⟩ : ByteArray)) := (blk_cell BK162.out 2).trans rfl; have hcz9_3 : w8.cell? ⟨gb162, 3, none⟩ = some (.slice none 0 0) := (blk_cell BK162.out 3).trans rfl; have hfz9_0 := blk_frozen BK162.out 0; have hfz9_1 := blk_frozen BK162.out 1; have hfz9_2 := blk_frozen BK162.out 2; have hfz9_3 := blk_frozen BK162.out 3; obtain ⟨Ao10, co10, eo10⟩ := Kd.R_slice HO160.out; subst eo10) | ((with_reducible refine gate_builtin (b := .append) (xs := #[.tmp 23, .tmp 24]) rfl ?_); at_builtin; refine Kd.N_append_rows k25 (w0 := w) w.heap.size rfl (.tmp 23) (.tmp 24) 22 25 (.agg #[(.string ⟨#[]⟩), (.string ⟨#[]⟩), (.string ⟨#[]⟩), (.slice none 0 0)]) 72 rfl Tryd.underlying22 info25 rfl (by decide) (by omega) (.slice none 0 0) ([] : List (S25)) l0 _ _ _ (fun k_ => ((P0_ k_ ∨ P1_ k_) ∨ w.heap.size ≤ k_) ∧ some k_ ≠ (.slice Ao10 t158.length co10 : Value).ownBlock ∧ k_ ≠ gb162) (fun k_ => ((fun k_ => ((P0_ k_ ∨ P1_ k_) ∨ w.heap.size ≤ k_) ∧ some k_ ≠ (.slice Ao10 t158.length co10 : Value).ownBlock ∧ k_ ≠ gb162)) k_ ∧ some k_ ≠ (.slice none 0 0 : Value).ownBlock) rfl rfl ?aO ?aR (fun _ hk => hk) ?aF ?aB ?aS ?aL ?_; (case aR => exact (by skip; exact Kd.V_F (Kd.V_mono (ok' := (fun k_ => ((fun k_ => ((P0_ k_ ∨ P1_ k_) ∨ w.heap.size ≤ k_) ∧ some k_ ≠ (.slice Ao10 t158.length co10 : Value).ownBlock ∧ k_ ≠ gb162)) k_ ∧ some k_ ≠ (.slice none 0 0 : Value).ownBlock)) ((Kd.V_far (p := ⟨gb162, 3, none⟩) (Kd.V_far (p := ⟨gb162, 2, none⟩) (Kd.V_far (p := ⟨gb162, 1, none⟩) (Kd.V_far (p := ⟨gb162, 0, none⟩) (Kd.V_mono HO0.out (fun k_ hk => (⟨hk, hk.2⟩ : _ ∧ k_ ≠ gb162))) (fun _ hk => hk.2) (.string t155)) (fun _ hk => hk.2) (.string t156)) (fun _ hk => hk.2) (.string t157)) (fun _ hk => hk.2) (.slice Ao10 t158.length co10))) (fun k_ hk => ⟨⟨hk.1.1.1, ⟨hk.1.1.2, hk.1.2⟩⟩, (by simp [Value.ownBlock])⟩)))); (case aB => exact (by repeat (first | (with_reducible first | exact HB.out | apply below_alloc | apply pw_below_drewN | apply below_drew1 | refine below_set ?_ GE162.out) | exact HB.out))); (case aF => exact (fun k_ hk => ⟨(.inr (Nat.le_trans (below_size (by repeat (first | (with_reducible first | exact HB.out | apply below_alloc | apply pw_below_drewN | apply below_drew1 | refine below_set ?_ GE162.out) | exact HB.out))) hk)), Kd.fresh' (Kd.R_lt (by (with_reducible repeat (first | apply Kd.R_alloc | apply Kd.R_drewN | apply Kd.R_drew)); exact (Kd.R_mono (Kd.R_far (p := ⟨gb162, 3, none⟩) (Kd.R_far (p := ⟨gb162, 2, none⟩) (Kd.R_far (p := ⟨gb162, 1, none⟩) (Kd.R_far (p := ⟨gb162, 0, none⟩) (Kd.R_types HO160.out BK162.out (by decide)) (fun _ hk => hk.2) (.string t155)) (fun _ hk => hk.2) (.string t156)) (fun _ hk => hk.2) (.string t157)) (fun _ hk => hk.2) (.slice Ao10 t158.length co10)) (fun _ h_ => h_.1)))) k_ hk, Kd.freshB (g := gb162) (o := .cells #[.string t155, .string t156, .string t157, .slice Ao10 t158.length co10] 25 (0, 0)) (by (with_reducible repeat (first | refine blk_drewN ?_ _ | refine blk_drew ?_ | refine blk_alloc ?_ _)); refine blk_put (cs := #[.string t155, .string t156, .string t157, .slice none 0 0]) ?_ 3 _ rfl; (with_reducible repeat (first | refine blk_drewN ?_ _ | refine blk_drew ?_ | refine blk_alloc ?_ _)); refine blk_put (cs := #[.string t155, .string t156, .string (⟨#[]⟩ : ByteArray), .slice none 0 0]) ?_ 2 _ rfl; (with_reducible repeat (first | refine blk_drewN ?_ _ | refine blk_drew ?_ | refine blk_alloc ?_ _)); refine blk_put (cs := #[.string t155, .string (⟨#[]⟩ : ByteArray), .string (⟨#[]⟩ : ByteArray), .slice none 0 0]) ?_ 1 _ rfl; (with_reducible repeat (first | refine blk_drewN ?_ _ | refine blk_drew ?_ | refine blk_alloc ?_ _)); refine blk_put (cs := #[.string (⟨#[]⟩ : ByteArray), .string (⟨#[]⟩ : ByteArray), .string (⟨#[]⟩ : ByteArray), .slice none 0 0]) ?_ 0 _ rfl; (with_reducible repeat (first | refine blk_drewN ?_ _ | refine blk_drew ?_ | refine blk_alloc ?_ _)); exact BK162.out) k_ hk⟩)); (case aO => exact ((Kd.N_nil _ _ _ _ (fun k_ => ((P0_ k_ ∨ P1_ k_) ∨ w.heap.size ≤ k_) ∧ some k_ ≠ (.slice Ao10 t158.length co10 : Value).ownBlock ∧ k_ ≠ gb162)))); (case aS => exact (below_size (by repeat (first | (with_reducible first | exact HB.out | apply below_alloc | apply pw_below_drewN | apply below_drew1 | refine below_set ?_ GE162.out) | exact HB.out)))); (case aL => have := LMc6.out; omega); intro v164 w11 ho hb hg hat; rw [← Ny163.out] at ho; have n0_ := Aside0.mk (Kd.V_afterv (Kd.V_apart_nil (by (with_reducible repeat (first | apply Kd.V_alloc | apply Kd.V_drewN | apply Kd.V_drew)); exact (Kd.V_mono (Kd.V_far (p := ⟨gb162, 3, none⟩) (Kd.V_far (p := ⟨gb162, 2, none⟩) (Kd.V_far (p := ⟨gb162, 1, none⟩) (Kd.V_far (p := ⟨gb162, 0, none⟩) (Kd.V_mono HO0.out (fun k_ hk => (⟨hk, hk.2⟩ : _ ∧ k_ ≠ gb162))) (fun _ hk => hk.2) (.string t155)) (fun _ hk => hk.2) (.string t156)) (fun _ hk => hk.2) (.string t157)) (fun _ hk => hk.2) (.slice Ao10 t158.length co10)) (fun _ h_ => h_.1)))) hg hat); have n1_ := Aside0.mk (Kd.V_afterv (Kd.V_apart_nil (by (with_reducible repeat (first | apply Kd.V_alloc | apply Kd.V_drewN | apply Kd.V_drew)); exact (Kd.V_mono (Kd.V_far (p := ⟨gb162, 3, none⟩) (Kd.V_far (p := ⟨gb162, 2, none⟩) (Kd.V_far (p := ⟨gb162, 1, none⟩) (Kd.V_far (p := ⟨gb162, 0, none⟩) (Kd.V_mono HO1.out (fun k_ hk => (⟨hk, hk.2⟩ : _ ∧ k_ ≠ gb162))) (fun _ hk => hk.2) (.string t155)) (fun _ hk => hk.2) (.string t156)) (fun _ hk => hk.2) (.string t157)) (fun _ hk => hk.2) (.slice Ao10 t158.length co10)) (fun _ h_ => h_.1)))) hg hat); have n2_ := Aside0.mk (Kd.R_grown (by (with_reducible repeat (first | apply Kd.R_alloc | apply Kd.R_drewN | apply Kd.R_drew)); exact (Kd.R_mono (Kd.R_far (p := ⟨gb162, 3, none⟩) (Kd.R_far (p := ⟨gb162, 2, none⟩) (Kd.R_far (p := ⟨gb162, 1, none⟩) (Kd.R_far (p := ⟨gb162, 0, none⟩) (Kd.R_types HO160.out BK162.out (by decide)) (fun _ hk => hk.2) (.string t155)) (fun _ hk => hk.2) (.string t156)) (fun _ hk => hk.2) (.string t157)) (fun _ hk => hk.2) (.slice Ao10 t158.length co10)) (fun _ h_ => h_.1))) hg (fun _ _ => by simp [Value.ownBlock])); have n3_ := Aside0.mk (blk_grown (g := gb162) (o := .cells #[.string t155, .string t156, .string t157, .slice Ao10 t158.length co10] 25 (0, 0)) (by (with_reducible repeat (first | refine blk_drewN ?_ _ | refine blk_drew ?_ | refine blk_alloc ?_ _)); refine blk_put (cs := #[.string t155, .string t156, .string t157, .slice none 0 0]) ?_ 3 _ rfl; (with_reducible repeat (first | refine blk_drewN ?_ _ | refine blk_drew ?_ | refine blk_alloc ?_ _)); refine blk_put (cs := #[.string t155, .string t156, .string (⟨#[]⟩ : ByteArray), .slice none 0 0]) ?_ 2 _ rfl; (with_reducible repeat (first | refine blk_drewN ?_ _ | refine blk_drew ?_ | refine blk_alloc ?_ _)); refine blk_put (cs := #[.string t155, .string (⟨#[]⟩ : ByteArray), .string (⟨#[]⟩ : ByteArray), .slice none 0 0]) ?_ 1 _ rfl; (with_reducible repeat (first | refine blk_drewN ?_ _ | refine blk_drew ?_ | refine blk_alloc ?_ _)); refine blk_put (cs := #[.string (⟨#[]⟩ : ByteArray), .string (⟨#[]⟩ : ByteArray), .string (⟨#[]⟩ : ByteArray), .slice none 0 0]) ?_ 0 _ rfl; (with_reducible repeat (first | refine blk_drewN ?_ _ | refine blk_drew ?_ | refine blk_alloc ?_ _)); exact BK162.out) hg (by simp [Value.ownBlock])); have n4_ := Aside0.mk (hb); have n5_ := Aside0.mk (ho); clear HO0; clear HO1; clear HO160; clear BK162; clear HB; have HO0 := n0_; have HO1 := n1_; have HO160 := n2_; have BK162 := n3_; have HB := n4_; have HO165 := n5_; clear n0_ n1_ n2_ n3_ n4_ n5_; clear ho hb hg hat))
    go_loopg [11, 28] k (fun kq v11 v28 w' => ∃ (x11_1 : List (S25)) (x28_1 : Int), v28 = .int .i64 x28_1 ∧ Aside0 (tetherlaw06_SecretBest.l0 kq a2 a3 t161 x11_1 l1 (l1.length : Int) x28_1 t155 t156 t157 t158 = some r) ∧ Aside0 (kq ≤ k) ∧ Aside0 (Kd.N k25 25 w' w.heap.size (fun k_ => ((P0_ k_ ∨ P1_ k_) ∨ w.heap.size ≤ k_) ∧ some k_ ≠ ((.slice Ao10 t158.length co10) : Value).ownBlock ∧ k_ ≠ gb162) v11 x11_1) ∧ Aside0 (Kd.V k25 25 w' w.heap.size (fun k_ => ((P0_ k_ ∨ P1_ k_) ∨ w.heap.size ≤ k_) ∧ some k_ ≠ (v11 : Value).ownBlock ∧ some k_ ≠ ((.slice Ao10 t158.length co10) : Value).ownBlock ∧ k_ ≠ gb162) (.slice A1 l1.length c1) l1) ∧ Aside0 (Kd.R (Kd.int .i64) 2 w' w.heap.size (fun k_ => (w.heap.size ≤ k_)) (.slice Ao10 t158.length co10) t158) ∧ Aside0 (w'.heap[gb162]? = some (.cells #[.string t155, .string t156, .string t157, (.slice Ao10 t158.length co10)] 25 (0, 0))) ∧ Aside0 (Below w.heap.size w w'))
    case atStart => exact ⟨(y163), (0), (by first | rfl | (simp; done) | (simp [*]; done)), H', ⟨Nat.le_refl _⟩, ⟨by (with_reducible repeat (first | apply Kd.N_alloc | apply Kd.N_drewN | apply Kd.N_drew)); exact HO165.out⟩, ⟨by (with_reducible repeat (first | apply Kd.V_alloc | apply Kd.V_drewN | apply Kd.V_drew)); exact Kd.V_mono HO1.out (fun _ hk => ⟨hk.1.1.1, ⟨hk.2, ⟨hk.1.1.2, hk.1.2⟩⟩⟩)⟩, ⟨by (with_reducible repeat (first | apply Kd.R_alloc | apply Kd.R_drewN | apply Kd.R_drew)); exact Kd.R_mono HO160.out (fun _ hk => hk.1)⟩, ⟨by (with_reducible repeat (first | refine blk_drewN ?_ _ | refine blk_drew ?_ | refine blk_alloc ?_ _)); exact BK162.out⟩, ⟨by repeat (first | (with_reducible first | exact HB.out | apply below_alloc | apply pw_below_drewN | apply below_drew1 | refine below_set ?_ GE162.out) | exact HB.out)⟩⟩
    case round =>
      clear H'
      try clear c1
      try clear p2
      try clear c3
      try clear c5
      try clear c6
      try clear hcz9_0
      try clear hcz9_1
      try clear hcz9_2
      try clear hcz9_3
      try clear hfz9_0
      try clear hfz9_1
      try clear hfz9_2
      try clear hfz9_3
      obtain ⟨x11_1, x28_1, rfl, HA, HK1, HO_11, HO_26, HO_163003, BK162, HB⟩ := hrel
      cases gk with
      | zero => exact absurd HA.out (by simp [tetherlaw06_SecretBest.l0])
      | succ k1 =>
        have H := HA.out
        clear HA
        simp only [tetherlaw06_SecretBest.l0] at H
        by_cases c12 : x28_1 < (l1.length : Int)
        · rw [if_pos c12] at H
          have c12b0 : decide (x28_1 < (l1.length : Int)) = true := decide_eq_true c12
          clear c12
          by_cases c13 : 0 ≤ x28_1
          · rw [if_pos c13] at H
            have c13b0 : decide (0 ≤ x28_1) = true := decide_eq_true c13
            clear c13
            by_cases c14 : x28_1 < (l1.length : Int)
            · rw [if_pos c14] at H
              have c14b0 : decide (x28_1 < (l1.length : Int)) = true := decide_eq_true c14
              clear c14
              by_cases c15 : t161 = true
              · subst c15
                have H1 : (if ((rd_T25 l1 x28_1).f0).toList = t155.toList then (if ((rd_T25 l1 x28_1).f1).toList = t156.toList then (if x11_1.length < 1954687338268 then (tetherlaw06_SecretBest.l0 k1 a2 a3 true (x11_1 ++ [(⟨(rd_T25 l1 x28_1).f0, (rd_T25 l1 x28_1).f1, (rd_T25 l1 x28_1).f2, (rd_T25 l1 x28_1).f3⟩ : S25)]) l1 (l1.length : Int) (wrap64 (x28_1 + 1)) t155 t156 t157 t158) else (none)) else (if ((rd_T25 l1 x28_1).f0).toList = a2.toList then (if ((rd_T25 l1 x28_1).f1).toList = a3.toList then (tetherlaw06_SecretBest.l0 k1 a2 a3 true x11_1 l1 (l1.length : Int) (wrap64 (x28_1 + 1)) t155 t156 t157 t158) else (if ((rd_T25 l1 x28_1).f1).toList = ([42] : List UInt8) then (tetherlaw06_SecretBest.l0 k1 a2 a3 true x11_1 l1 (l1.length : Int) (wrap64 (x28_1 + 1)) t155 t156 t157 t158) else (if x11_1.length < 1954687338268 then (tetherlaw06_SecretBest.l0 k1 a2 a3 true (x11_1 ++ [(⟨(rd_T25 l1 x28_1).f0, (rd_T25 l1 x28_1).f1, (rd_T25 l1 x28_1).f2, (rd_T25 l1 x28_1).f3⟩ : S25)]) l1 (l1.length : Int) (wrap64 (x28_1 + 1)) t155 t156 t157 t158) else (none)))) else (if ((rd_T25 l1 x28_1).f0).toList = ([42] : List UInt8) then (if ((rd_T25 l1 x28_1).f1).toList = a3.toList then (tetherlaw06_SecretBest.l0 k1 a2 a3 true x11_1 l1 (l1.length : Int) (wrap64 (x28_1 + 1)) t155 t156 t157 t158) else (if ((rd_T25 l1 x28_1).f1).toList = ([42] : List UInt8) then (tetherlaw06_SecretBest.l0 k1 a2 a3 true x11_1 l1 (l1.length : Int) (wrap64 (x28_1 + 1)) t155 t156 t157 t158) else (if x11_1.length < 1954687338268 then (tetherlaw06_SecretBest.l0 k1 a2 a3 true (x11_1 ++ [(⟨(rd_T25 l1 x28_1).f0, (rd_T25 l1 x28_1).f1, (rd_T25 l1 x28_1).f2, (rd_T25 l1 x28_1).f3⟩ : S25)]) l1 (l1.length : Int) (wrap64 (x28_1 + 1)) t155 t156 t157 t158) else (none)))) else (if x11_1.length < 1954687338268 then (tetherlaw06_SecretBest.l0 k1 a2 a3 true (x11_1 ++ [(⟨(rd_T25 l1 x28_1).f0, (rd_T25 l1 x28_1).f1, (rd_T25 l1 x28_1).f2, (rd_T25 l1 x28_1).f3⟩ : S25)]) l1 (l1.length : Int) (wrap64 (x28_1 + 1)) t155 t156 t157 t158) else (none))))) else (if ((rd_T25 l1 x28_1).f0).toList = a2.toList then (if ((rd_T25 l1 x28_1).f1).toList = a3.toList then (tetherlaw06_SecretBest.l0 k1 a2 a3 true x11_1 l1 (l1.length : Int) (wrap64 (x28_1 + 1)) t155 t156 t157 t158) else (if ((rd_T25 l1 x28_1).f1).toList = ([42] : List UInt8) then (tetherlaw06_SecretBest.l0 k1 a2 a3 true x11_1 l1 (l1.length : Int) (wrap64 (x28_1 + 1)) t155 t156 t157 t158) else (if x11_1.length < 1954687338268 then (tetherlaw06_SecretBest.l0 k1 a2 a3 true (x11_1 ++ [(⟨(rd_T25 l1 x28_1).f0, (rd_T25 l1 x28_1).f1, (rd_T25 l1 x28_1).f2, (rd_T25 l1 x28_1).f3⟩ : S25)]) l1 (l1.length : Int) (wrap64 (x28_1 + 1)) t155 t156 t157 t158) else (none)))) else (if ((rd_T25 l1 x28_1).f0).toList = ([42] : List UInt8) then (if ((rd_T25 l1 x28_1).f1).toList = a3.toList then (tetherlaw06_SecretBest.l0 k1 a2 a3 true x11_1 l1 (l1.length : Int) (wrap64 (x28_1 + 1)) t155 t156 t157 t158) else (if ((rd_T25 l1 x28_1).f1).toList = ([42] : List UInt8) then (tetherlaw06_SecretBest.l0 k1 a2 a3 true x11_1 l1 (l1.length : Int) (wrap64 (x28_1 + 1)) t155 t156 t157 t158) else (if x11_1.length < 1954687338268 then (tetherlaw06_SecretBest.l0 k1 a2 a3 true (x11_1 ++ [(⟨(rd_T25 l1 x28_1).f0, (rd_T25 l1 x28_1).f1, (rd_T25 l1 x28_1).f2, (rd_T25 l1 x28_1).f3⟩ : S25)]) l1 (l1.length : Int) (wrap64 (x28_1 + 1)) t155 t156 t157 t158) else (none)))) else (if x11_1.length < 1954687338268 then (tetherlaw06_SecretBest.l0 k1 a2 a3 true (x11_1 ++ [(⟨(rd_T25 l1 x28_1).f0, (rd_T25 l1 x28_1).f1, (rd_T25 l1 x28_1).f2, (rd_T25 l1 x28_1).f3⟩ : S25)]) l1 (l1.length : Int) (wrap64 (x28_1 + 1)) t155 t156 t157 t158) else (none))))) = some r := by rw [if_pos rfl] at H; exact H
                clear H
                have H := H1
                clear H1
                have LAD : (∃ y_ : List (S25), y_ = (x11_1 ++ [(⟨(rd_T25 l1 x28_1).f0, (rd_T25 l1 x28_1).f1, (rd_T25 l1 x28_1).f2, (rd_T25 l1 x28_1).f3⟩ : S25)]) ∧ ((tetherlaw06_SecretBest.l0 k1 a2 a3 true y_ l1 (l1.length : Int) (wrap64 (x28_1 + 1)) t155 t156 t157 t158) = some r) ∧ (x11_1.length < 1954687338268) ∧ ((((((rd_T25 l1 x28_1).f0).toList == t155.toList) = true) ∧ ((((rd_T25 l1 x28_1).f0).toList != t155.toList) = false) ∧ ((((rd_T25 l1 x28_1).f1).toList == t156.toList) = true) ∧ ((((rd_T25 l1 x28_1).f1).toList != t156.toList) = false)) ∨ (((((rd_T25 l1 x28_1).f0).toList == t155.toList) = true) ∧ ((((rd_T25 l1 x28_1).f0).toList != t155.toList) = false) ∧ ((((rd_T25 l1 x28_1).f1).toList == t156.toList) = false) ∧ ((((rd_T25 l1 x28_1).f1).toList != t156.toList) = true) ∧ ((((rd_T25 l1 x28_1).f0).toList == a2.toList) = true) ∧ ((((rd_T25 l1 x28_1).f0).toList != a2.toList) = false) ∧ ((((rd_T25 l1 x28_1).f1).toList == a3.toList) = false) ∧ ((((rd_T25 l1 x28_1).f1).toList != a3.toList) = true) ∧ ((((rd_T25 l1 x28_1).f1).toList == ([42] : List UInt8)) = false) ∧ ((((rd_T25 l1 x28_1).f1).toList != ([42] : List UInt8)) = true)) ∨ (((((rd_T25 l1 x28_1).f0).toList == t155.toList) = true) ∧ ((((rd_T25 l1 x28_1).f0).toList != t155.toList) = false) ∧ ((((rd_T25 l1 x28_1).f1).toList == t156.toList) = false) ∧ ((((rd_T25 l1 x28_1).f1).toList != t156.toList) = true) ∧ ((((rd_T25 l1 x28_1).f0).toList == a2.toList) = false) ∧ ((((rd_T25 l1 x28_1).f0).toList != a2.toList) = true) ∧ ((((rd_T25 l1 x28_1).f0).toList == ([42] : List UInt8)) = true) ∧ ((((rd_T25 l1 x28_1).f0).toList != ([42] : List UInt8)) = false) ∧ ((((rd_T25 l1 x28_1).f1).toList == a3.toList) = false) ∧ ((((rd_T25 l1 x28_1).f1).toList != a3.toList) = true) ∧ ((((rd_T25 l1 x28_1).f1).toList == ([42] : List UInt8)) = false) ∧ ((((rd_T25 l1 x28_1).f1).toList != ([42] : List UInt8)) = true)) ∨ (((((rd_T25 l1 x28_1).f0).toList == t155.toList) = true) ∧ ((((rd_T25 l1 x28_1).f0).toList != t155.toList) = false) ∧ ((((rd_T25 l1 x28_1).f1).toList == t156.toList) = false) ∧ ((((rd_T25 l1 x28_1).f1).toList != t156.toList) = true) ∧ ((((rd_T25 l1 x28_1).f0).toList == a2.toList) = false) ∧ ((((rd_T25 l1 x28_1).f0).toList != a2.toList) = true) ∧ ((((rd_T25 l1 x28_1).f0).toList == ([42] : List UInt8)) = false) ∧ ((((rd_T25 l1 x28_1).f0).toList != ([42] : List UInt8)) = true)) ∨ (((((rd_T25 l1 x28_1).f0).toList == t155.toList) = false) ∧ ((((rd_T25 l1 x28_1).f0).toList != t155.toList) = true) ∧ ((((rd_T25 l1 x28_1).f0).toList == a2.toList) = true) ∧ ((((rd_T25 l1 x28_1).f0).toList != a2.toList) = false) ∧ ((((rd_T25 l1 x28_1).f1).toList == a3.toList) = false) ∧ ((((rd_T25 l1 x28_1).f1).toList != a3.toList) = true) ∧ ((((rd_T25 l1 x28_1).f1).toList == ([42] : List UInt8)) = false) ∧ ((((rd_T25 l1 x28_1).f1).toList != ([42] : List UInt8)) = true)) ∨ (((((rd_T25 l1 x28_1).f0).toList == t155.toList) = false) ∧ ((((rd_T25 l1 x28_1).f0).toList != t155.toList) = true) ∧ ((((rd_T25 l1 x28_1).f0).toList == a2.toList) = false) ∧ ((((rd_T25 l1 x28_1).f0).toList != a2.toList) = true) ∧ ((((rd_T25 l1 x28_1).f0).toList == ([42] : List UInt8)) = true) ∧ ((((rd_T25 l1 x28_1).f0).toList != ([42] : List UInt8)) = false) ∧ ((((rd_T25 l1 x28_1).f1).toList == a3.toList) = false) ∧ ((((rd_T25 l1 x28_1).f1).toList != a3.toList) = true) ∧ ((((rd_T25 l1 x28_1).f1).toList == ([42] : List UInt8)) = false) ∧ ((((rd_T25 l1 x28_1).f1).toList != ([42] : List UInt8)) = true)) ∨ (((((rd_T25 l1 x28_1).f0).toList == t155.toList) = false) ∧ ((((rd_T25 l1 x28_1).f0).toList != t155.toList) = true) ∧ ((((rd_T25 l1 x28_1).f0).toList == a2.toList) = false) ∧ ((((rd_T25 l1 x28_1).f0).toList != a2.toList) = true) ∧ ((((rd_T25 l1 x28_1).f0).toList == ([42] : List UInt8)) = false) ∧ ((((rd_T25 l1 x28_1).f0).toList != ([42] : List UInt8)) = true)))) ∨ ((tetherlaw06_SecretBest.l0 k1 a2 a3 true x11_1 l1 (l1.length : Int) (wrap64 (x28_1 + 1)) t155 t156 t157 t158 = some r) ∧ ((((((rd_T25 l1 x28_1).f0).toList == t155.toList) = true) ∧ ((((rd_T25 l1 x28_1).f0).toList != t155.toList) = false) ∧ ((((rd_T25 l1 x28_1).f1).toList == t156.toList) = false) ∧ ((((rd_T25 l1 x28_1).f1).toList != t156.toList) = true) ∧ ((((rd_T25 l1 x28_1).f0).toList == a2.toList) = true) ∧ ((((rd_T25 l1 x28_1).f0).toList != a2.toList) = false) ∧ ((((rd_T25 l1 x28_1).f1).toList == a3.toList) = true) ∧ ((((rd_T25 l1 x28_1).f1).toList != a3.toList) = false)) ∨ (((((rd_T25 l1 x28_1).f0).toList == t155.toList) = true) ∧ ((((rd_T25 l1 x28_1).f0).toList != t155.toList) = false) ∧ ((((rd_T25 l1 x28_1).f1).toList == t156.toList) = false) ∧ ((((rd_T25 l1 x28_1).f1).toList != t156.toList) = true) ∧ ((((rd_T25 l1 x28_1).f0).toList == a2.toList) = true) ∧ ((((rd_T25 l1 x28_1).f0).toList != a2.toList) = false) ∧ ((((rd_T25 l1 x28_1).f1).toList == a3.toList) = false) ∧ ((((rd_T25 l1 x28_1).f1).toList != a3.toList) = true) ∧ ((((rd_T25 l1 x28_1).f1).toList == ([42] : List UInt8)) = true) ∧ ((((rd_T25 l1 x28_1).f1).toList != ([42] : List UInt8)) = false)) ∨ (((((rd_T25 l1 x28_1).f0).toList == t155.toList) = true) ∧ ((((rd_T25 l1 x28_1).f0).toList != t155.toList) = false) ∧ ((((rd_T25 l1 x28_1).f1).toList == t156.toList) = false) ∧ ((((rd_T25 l1 x28_1).f1).toList != t156.toList) = true) ∧ ((((rd_T25 l1 x28_1).f0).toList == a2.toList) = false) ∧ ((((rd_T25 l1 x28_1).f0).toList != a2.toList) = true) ∧ ((((rd_T25 l1 x28_1).f0).toList == ([42] : List UInt8)) = true) ∧ ((((rd_T25 l1 x28_1).f0).toList != ([42] : List UInt8)) = false) ∧ ((((rd_T25 l1 x28_1).f1).toList == a3.toList) = true) ∧ ((((rd_T25 l1 x28_1).f1).toList != a3.toList) = false)) ∨ (((((rd_T25 l1 x28_1).f0).toList == t155.toList) = true) ∧ ((((rd_T25 l1 x28_1).f0).toList != t155.toList) = false) ∧ ((((rd_T25 l1 x28_1).f1).toList == t156.toList) = false) ∧ ((((rd_T25 l1 x28_1).f1).toList != t156.toList) = true) ∧ ((((rd_T25 l1 x28_1).f0).toList == a2.toList) = false) ∧ ((((rd_T25 l1 x28_1).f0).toList != a2.toList) = true) ∧ ((((rd_T25 l1 x28_1).f0).toList == ([42] : List UInt8)) = true) ∧ ((((rd_T25 l1 x28_1).f0).toList != ([42] : List UInt8)) = false) ∧ ((((rd_T25 l1 x28_1).f1).toList == a3.toList) = false) ∧ ((((rd_T25 l1 x28_1).f1).toList != a3.toList) = true) ∧ ((((rd_T25 l1 x28_1).f1).toList == ([42] : List UInt8)) = true) ∧ ((((rd_T25 l1 x28_1).f1).toList != ([42] : List UInt8)) = false)) ∨ (((((rd_T25 l1 x28_1).f0).toList == t155.toList) = false) ∧ ((((rd_T25 l1 x28_1).f0).toList != t155.toList) = true) ∧ ((((rd_T25 l1 x28_1).f0).toList == a2.toList) = true) ∧ ((((rd_T25 l1 x28_1).f0).toList != a2.toList) = false) ∧ ((((rd_T25 l1 x28_1).f1).toList == a3.toList) = true) ∧ ((((rd_T25 l1 x28_1).f1).toList != a3.toList) = false)) ∨ (((((rd_T25 l1 x28_1).f0).toList == t155.toList) = false) ∧ ((((rd_T25 l1 x28_1).f0).toList != t155.toList) = true) ∧ ((((rd_T25 l1 x28_1).f0).toList == a2.toList) = true) ∧ ((((rd_T25 l1 x28_1).f0).toList != a2.toList) = false) ∧ ((((rd_T25 l1 x28_1).f1).toList == a3.toList) = false) ∧ ((((rd_T25 l1 x28_1).f1).toList != a3.toList) = true) ∧ ((((rd_T25 l1 x28_1).f1).toList == ([42] : List UInt8)) = true) ∧ ((((rd_T25 l1 x28_1).f1).toList != ([42] : List UInt8)) = false)) ∨ (((((rd_T25 l1 x28_1).f0).toList == t155.toList) = false) ∧ ((((rd_T25 l1 x28_1).f0).toList != t155.toList) = true) ∧ ((((rd_T25 l1 x28_1).f0).toList == a2.toList) = false) ∧ ((((rd_T25 l1 x28_1).f0).toList != a2.toList) = true) ∧ ((((rd_T25 l1 x28_1).f0).toList == ([42] : List UInt8)) = true) ∧ ((((rd_T25 l1 x28_1).f0).toList != ([42] : List UInt8)) = false) ∧ ((((rd_T25 l1 x28_1).f1).toList == a3.toList) = true) ∧ ((((rd_T25 l1 x28_1).f1).toList != a3.toList) = false)) ∨ (((((rd_T25 l1 x28_1).f0).toList == t155.toList) = false) ∧ ((((rd_T25 l1 x28_1).f0).toList != t155.toList) = true) ∧ ((((rd_T25 l1 x28_1).f0).toList == a2.toList) = false) ∧ ((((rd_T25 l1 x28_1).f0).toList != a2.toList) = true) ∧ ((((rd_T25 l1 x28_1).f0).toList == ([42] : List UInt8)) = true) ∧ ((((rd_T25 l1 x28_1).f0).toList != ([42] : List UInt8)) = false) ∧ ((((rd_T25 l1 x28_1).f1).toList == a3.toList) = false) ∧ ((((rd_T25 l1 x28_1).f1).toList != a3.toList) = true) ∧ ((((rd_T25 l1 x28_1).f1).toList == ([42] : List UInt8)) = true) ∧ ((((rd_T25 l1 x28_1).f1).toList != ([42] : List UInt8)) = false)))) := by
                  by_cases c16 : ((rd_T25 l1 x28_1).f0).toList = t155.toList
                  · rw [if_pos c16] at H
                    have c16b0 : (((rd_T25 l1 x28_1).f0).toList == t155.toList) = true := beq_iff_eq.mpr c16
                    have c16b1 : (((rd_T25 l1 x28_1).f0).toList != t155.toList) = false := bne_eq_false_iff_eq.mpr c16
                    clear c16
                    by_cases c17 : ((rd_T25 l1 x28_1).f1).toList = t156.toList
                    · rw [if_pos c17] at H
                      have c17b0 : (((rd_T25 l1 x28_1).f1).toList == t156.toList) = true := beq_iff_eq.mpr c17
                      have c17b1 : (((rd_T25 l1 x28_1).f1).toList != t156.toList) = false := bne_eq_false_iff_eq.mpr c17
                      clear c17
                      by_cases c18 : x11_1.length < 1954687338268
                      · rw [if_pos c18] at H
                        have LMc18 := Aside0.mk c18
                        clear c18
                        obtain ⟨y168, hy168⟩ : ∃ y_ : List (S25), y_ = (x11_1 ++ [(⟨(rd_T25 l1 x28_1).f0, (rd_T25 l1 x28_1).f1, (rd_T25 l1 x28_1).f2, (rd_T25 l1 x28_1).f3⟩ : S25)]) := ⟨_, rfl⟩
                        replace H : (tetherlaw06_SecretBest.l0 k1 a2 a3 true y168 l1 (l1.length : Int) (wrap64 (x28_1 + 1)) t155 t156 t157 t158) = some r := by first | (rw [hy168]; with_reducible exact H) | (have H2_ := (Option.bind_some _ _).symm.trans H; rw [hy168]; with_reducible exact H2_) | (have H2_ := (Option.bind_some _ _).symm.trans H; with_reducible exact H2_) | with_reducible exact H | (rw [hy168]; exact H) | exact H
                        have Ny168 := Aside0.mk hy168
                        clear hy168
                        exact .inl ⟨y168, Ny168.out, H, LMc18.out, (.inl ⟨c16b0, c16b1, c17b0, c17b1⟩)⟩
                      · rw [if_neg c18] at H
                        exact absurd H (by simp)
                    · rw [if_neg c17] at H
                      have c17b0 : (((rd_T25 l1 x28_1).f1).toList == t156.toList) = false := beq_eq_false_iff_ne.mpr c17
                      have c17b1 : (((rd_T25 l1 x28_1).f1).toList != t156.toList) = true := bne_iff_ne.mpr c17
                      by_cases c26 : ((rd_T25 l1 x28_1).f0).toList = a2.toList
                      · rw [if_pos c26] at H
                        have c26b0 : (((rd_T25 l1 x28_1).f0).toList == a2.toList) = true := beq_iff_eq.mpr c26
                        have c26b1 : (((rd_T25 l1 x28_1).f0).toList != a2.toList) = false := bne_eq_false_iff_eq.mpr c26
                        clear c26
                        by_cases c27 : ((rd_T25 l1 x28_1).f1).toList = a3.toList
                        · rw [if_pos c27] at H
                          have c27b0 : (((rd_T25 l1 x28_1).f1).toList == a3.toList) = true := beq_iff_eq.mpr c27
                          have c27b1 : (((rd_T25 l1 x28_1).f1).toList != a3.toList) = false := bne_eq_false_iff_eq.mpr c27
                          clear c27
                          exact .inr ⟨H, (.inl ⟨c16b0, c16b1, c17b0, c17b1, c26b0, c26b1, c27b0, c27b1⟩)⟩
                        · rw [if_neg c27] at H
                          have c27b0 : (((rd_T25 l1 x28_1).f1).toList == a3.toList) = false := beq_eq_false_iff_ne.mpr c27
                          have c27b1 : (((rd_T25 l1 x28_1).f1).toList != a3.toList) = true := bne_iff_ne.mpr c27
                          by_cases c32 : ((rd_T25 l1 x28_1).f1).toList = ([42] : List UInt8)
                          · rw [if_pos c32] at H
                            have c32b0 : (((rd_T25 l1 x28_1).f1).toList == ([42] : List UInt8)) = true := beq_iff_eq.mpr c32
                            have c32b1 : (((rd_T25 l1 x28_1).f1).toList != ([42] : List UInt8)) = false := bne_eq_false_iff_eq.mpr c32
                            clear c32
                            exact .inr ⟨H, (.inr (.inl ⟨c16b0, c16b1, c17b0, c17b1, c26b0, c26b1, c27b0, c27b1, c32b0, c32b1⟩))⟩
                          · rw [if_neg c32] at H
                            have c32b0 : (((rd_T25 l1 x28_1).f1).toList == ([42] : List UInt8)) = false := beq_eq_false_iff_ne.mpr c32
                            have c32b1 : (((rd_T25 l1 x28_1).f1).toList != ([42] : List UInt8)) = true := bne_iff_ne.mpr c32
                            by_cases c37 : x11_1.length < 1954687338268
                            · rw [if_pos c37] at H
                              have LMc37 := Aside0.mk c37
                              clear c37
                              obtain ⟨y171, hy171⟩ : ∃ y_ : List (S25), y_ = (x11_1 ++ [(⟨(rd_T25 l1 x28_1).f0, (rd_T25 l1 x28_1).f1, (rd_T25 l1 x28_1).f2, (rd_T25 l1 x28_1).f3⟩ : S25)]) := ⟨_, rfl⟩
                              replace H : (tetherlaw06_SecretBest.l0 k1 a2 a3 true y171 l1 (l1.length : Int) (wrap64 (x28_1 + 1)) t155 t156 t157 t158) = some r := by first | (rw [hy171]; with_reducible exact H) | (have H2_ := (Option.bind_some _ _).symm.trans H; rw [hy171]; with_reducible exact H2_) | (have H2_ := (Option.bind_some _ _).symm.trans H; with_reducible exact H2_) | with_reducible exact H | (rw [hy171]; exact H) | exact H
                              have Ny171 := Aside0.mk hy171
                              clear hy171
                              exact .inl ⟨y171, Ny171.out, H, LMc37.out, (.inr (.inl ⟨c16b0, c16b1, c17b0, c17b1, c26b0, c26b1, c27b0, c27b1, c32b0, c32b1⟩))⟩
                            · rw [if_neg c37] at H
                              exact absurd H (by simp)
                      · rw [if_neg c26] at H
                        have c26b0 : (((rd_T25 l1 x28_1).f0).toList == a2.toList) = false := beq_eq_false_iff_ne.mpr c26
                        have c26b1 : (((rd_T25 l1 x28_1).f0).toList != a2.toList) = true := bne_iff_ne.mpr c26
                        by_cases c45 : ((rd_T25 l1 x28_1).f0).toList = ([42] : List UInt8)
                        · rw [if_pos c45] at H
                          have c45b0 : (((rd_T25 l1 x28_1).f0).toList == ([42] : List UInt8)) = true := beq_iff_eq.mpr c45
                          have c45b1 : (((rd_T25 l1 x28_1).f0).toList != ([42] : List UInt8)) = false := bne_eq_false_iff_eq.mpr c45
                          clear c45
                          by_cases c46 : ((rd_T25 l1 x28_1).f1).toList = a3.toList
                          · rw [if_pos c46] at H
                            have c46b0 : (((rd_T25 l1 x28_1).f1).toList == a3.toList) = true := beq_iff_eq.mpr c46
                            have c46b1 : (((rd_T25 l1 x28_1).f1).toList != a3.toList) = false := bne_eq_false_iff_eq.mpr c46
                            clear c46
                            exact .inr ⟨H, (.inr (.inr (.inl ⟨c16b0, c16b1, c17b0, c17b1, c26b0, c26b1, c45b0, c45b1, c46b0, c46b1⟩)))⟩
                          · rw [if_neg c46] at H
                            have c46b0 : (((rd_T25 l1 x28_1).f1).toList == a3.toList) = false := beq_eq_false_iff_ne.mpr c46
                            have c46b1 : (((rd_T25 l1 x28_1).f1).toList != a3.toList) = true := bne_iff_ne.mpr c46
                            by_cases c51 : ((rd_T25 l1 x28_1).f1).toList = ([42] : List UInt8)
                            · rw [if_pos c51] at H
                              have c51b0 : (((rd_T25 l1 x28_1).f1).toList == ([42] : List UInt8)) = true := beq_iff_eq.mpr c51
                              have c51b1 : (((rd_T25 l1 x28_1).f1).toList != ([42] : List UInt8)) = false := bne_eq_false_iff_eq.mpr c51
                              clear c51
                              exact .inr ⟨H, (.inr (.inr (.inr (.inl ⟨c16b0, c16b1, c17b0, c17b1, c26b0, c26b1, c45b0, c45b1, c46b0, c46b1, c51b0, c51b1⟩))))⟩
                            · rw [if_neg c51] at H
                              have c51b0 : (((rd_T25 l1 x28_1).f1).toList == ([42] : List UInt8)) = false := beq_eq_false_iff_ne.mpr c51
                              have c51b1 : (((rd_T25 l1 x28_1).f1).toList != ([42] : List UInt8)) = true := bne_iff_ne.mpr c51
                              by_cases c56 : x11_1.length < 1954687338268
                              · rw [if_pos c56] at H
                                have LMc56 := Aside0.mk c56
                                clear c56
                                obtain ⟨y174, hy174⟩ : ∃ y_ : List (S25), y_ = (x11_1 ++ [(⟨(rd_T25 l1 x28_1).f0, (rd_T25 l1 x28_1).f1, (rd_T25 l1 x28_1).f2, (rd_T25 l1 x28_1).f3⟩ : S25)]) := ⟨_, rfl⟩
                                replace H : (tetherlaw06_SecretBest.l0 k1 a2 a3 true y174 l1 (l1.length : Int) (wrap64 (x28_1 + 1)) t155 t156 t157 t158) = some r := by first | (rw [hy174]; with_reducible exact H) | (have H2_ := (Option.bind_some _ _).symm.trans H; rw [hy174]; with_reducible exact H2_) | (have H2_ := (Option.bind_some _ _).symm.trans H; with_reducible exact H2_) | with_reducible exact H | (rw [hy174]; exact H) | exact H
                                have Ny174 := Aside0.mk hy174
                                clear hy174
                                exact .inl ⟨y174, Ny174.out, H, LMc56.out, (.inr (.inr (.inl ⟨c16b0, c16b1, c17b0, c17b1, c26b0, c26b1, c45b0, c45b1, c46b0, c46b1, c51b0, c51b1⟩)))⟩
                              · rw [if_neg c56] at H
                                exact absurd H (by simp)
                        · rw [if_neg c45] at H
                          have c45b0 : (((rd_T25 l1 x28_1).f0).toList == ([42] : List UInt8)) = false := beq_eq_false_iff_ne.mpr c45
                          have c45b1 : (((rd_T25 l1 x28_1).f0).toList != ([42] : List UInt8)) = true := bne_iff_ne.mpr c45
                          by_cases c64 : x11_1.length < 1954687338268
                          · rw [if_pos c64] at H
                            have LMc64 := Aside0.mk c64
                            clear c64
                            obtain ⟨y177, hy177⟩ : ∃ y_ : List (S25), y_ = (x11_1 ++ [(⟨(rd_T25 l1 x28_1).f0, (rd_T25 l1 x28_1).f1, (rd_T25 l1 x28_1).f2, (rd_T25 l1 x28_1).f3⟩ : S25)]) := ⟨_, rfl⟩
                            replace H : (tetherlaw06_SecretBest.l0 k1 a2 a3 true y177 l1 (l1.length : Int) (wrap64 (x28_1 + 1)) t155 t156 t157 t158) = some r := by first | (rw [hy177]; with_reducible exact H) | (have H2_ := (Option.bind_some _ _).symm.trans H; rw [hy177]; with_reducible exact H2_) | (have H2_ := (Option.bind_some _ _).symm.trans H; with_reducible exact H2_) | with_reducible exact H | (rw [hy177]; exact H) | exact H
                            have Ny177 := Aside0.mk hy177
                            clear hy177
                            exact .inl ⟨y177, Ny177.out, H, LMc64.out, (.inr (.inr (.inr (.inl ⟨c16b0, c16b1, c17b0, c17b1, c26b0, c26b1, c45b0, c45b1⟩))))⟩
                          · rw [if_neg c64] at H
                            exact absurd H (by simp)
                  · rw [if_neg c16] at H
                    have c16b0 : (((rd_T25 l1 x28_1).f0).toList == t155.toList) = false := beq_eq_false_iff_ne.mpr c16
                    have c16b1 : (((rd_T25 l1 x28_1).f0).toList != t155.toList) = true := bne_iff_ne.mpr c16
                    by_cases c72 : ((rd_T25 l1 x28_1).f0).toList = a2.toList
                    · rw [if_pos c72] at H
                      have c72b0 : (((rd_T25 l1 x28_1).f0).toList == a2.toList) = true := beq_iff_eq.mpr c72
                      have c72b1 : (((rd_T25 l1 x28_1).f0).toList != a2.toList) = false := bne_eq_false_iff_eq.mpr c72
                      clear c72
                      by_cases c73 : ((rd_T25 l1 x28_1).f1).toList = a3.toList
                      · rw [if_pos c73] at H
                        have c73b0 : (((rd_T25 l1 x28_1).f1).toList == a3.toList) = true := beq_iff_eq.mpr c73
                        have c73b1 : (((rd_T25 l1 x28_1).f1).toList != a3.toList) = false := bne_eq_false_iff_eq.mpr c73
                        clear c73
                        exact .inr ⟨H, (.inr (.inr (.inr (.inr (.inl ⟨c16b0, c16b1, c72b0, c72b1, c73b0, c73b1⟩)))))⟩
                      · rw [if_neg c73] at H
                        have c73b0 : (((rd_T25 l1 x28_1).f1).toList == a3.toList) = false := beq_eq_false_iff_ne.mpr c73
                        have c73b1 : (((rd_T25 l1 x28_1).f1).toList != a3.toList) = true := bne_iff_ne.mpr c73
                        by_cases c78 : ((rd_T25 l1 x28_1).f1).toList = ([42] : List UInt8)
                        · rw [if_pos c78] at H
                          have c78b0 : (((rd_T25 l1 x28_1).f1).toList == ([42] : List UInt8)) = true := beq_iff_eq.mpr c78
                          have c78b1 : (((rd_T25 l1 x28_1).f1).toList != ([42] : List UInt8)) = false := bne_eq_false_iff_eq.mpr c78
                          clear c78
                          exact .inr ⟨H, (.inr (.inr (.inr (.inr (.inr (.inl ⟨c16b0, c16b1, c72b0, c72b1, c73b0, c73b1, c78b0, c78b1⟩))))))⟩
                        · rw [if_neg c78] at H
                          have c78b0 : (((rd_T25 l1 x28_1).f1).toList == ([42] : List UInt8)) = false := beq_eq_false_iff_ne.mpr c78
                          have c78b1 : (((rd_T25 l1 x28_1).f1).toList != ([42] : List UInt8)) = true := bne_iff_ne.mpr c78
                          by_cases c83 : x11_1.length < 1954687338268
                          · rw [if_pos c83] at H
                            have LMc83 := Aside0.mk c83
                            clear c83
                            obtain ⟨y180, hy180⟩ : ∃ y_ : List (S25), y_ = (x11_1 ++ [(⟨(rd_T25 l1 x28_1).f0, (rd_T25 l1 x28_1).f1, (rd_T25 l1 x28_1).f2, (rd_T25 l1 x28_1).f3⟩ : S25)]) := ⟨_, rfl⟩
                            replace H : (tetherlaw06_SecretBest.l0 k1 a2 a3 true y180 l1 (l1.length : Int) (wrap64 (x28_1 + 1)) t155 t156 t157 t158) = some r := by first | (rw [hy180]; with_reducible exact H) | (have H2_ := (Option.bind_some _ _).symm.trans H; rw [hy180]; with_reducible exact H2_) | (have H2_ := (Option.bind_some _ _).symm.trans H; with_reducible exact H2_) | with_reducible exact H | (rw [hy180]; exact H) | exact H
                            have Ny180 := Aside0.mk hy180
                            clear hy180
                            exact .inl ⟨y180, Ny180.out, H, LMc83.out, (.inr (.inr (.inr (.inr (.inl ⟨c16b0, c16b1, c72b0, c72b1, c73b0, c73b1, c78b0, c78b1⟩)))))⟩
                          · rw [if_neg c83] at H
                            exact absurd H (by simp)
                    · rw [if_neg c72] at H
                      have c72b0 : (((rd_T25 l1 x28_1).f0).toList == a2.toList) = false := beq_eq_false_iff_ne.mpr c72
                      have c72b1 : (((rd_T25 l1 x28_1).f0).toList != a2.toList) = true := bne_iff_ne.mpr c72
                      by_cases c91 : ((rd_T25 l1 x28_1).f0).toList = ([42] : List UInt8)
                      · rw [if_pos c91] at H
                        have c91b0 : (((rd_T25 l1 x28_1).f0).toList == ([42] : List UInt8)) = true := beq_iff_eq.mpr c91
                        have c91b1 : (((rd_T25 l1 x28_1).f0).toList != ([42] : List UInt8)) = false := bne_eq_false_iff_eq.mpr c91
                        clear c91
                        by_cases c92 : ((rd_T25 l1 x28_1).f1).toList = a3.toList
                        · rw [if_pos c92] at H
                          have c92b0 : (((rd_T25 l1 x28_1).f1).toList == a3.toList) = true := beq_iff_eq.mpr c92
                          have c92b1 : (((rd_T25 l1 x28_1).f1).toList != a3.toList) = false := bne_eq_false_iff_eq.mpr c92
                          clear c92
                          exact .inr ⟨H, (.inr (.inr (.inr (.inr (.inr (.inr (.inl ⟨c16b0, c16b1, c72b0, c72b1, c91b0, c91b1, c92b0, c92b1⟩)))))))⟩
                        · rw [if_neg c92] at H
                          have c92b0 : (((rd_T25 l1 x28_1).f1).toList == a3.toList) = false := beq_eq_false_iff_ne.mpr c92
                          have c92b1 : (((rd_T25 l1 x28_1).f1).toList != a3.toList) = true := bne_iff_ne.mpr c92
                          by_cases c97 : ((rd_T25 l1 x28_1).f1).toList = ([42] : List UInt8)
                          · rw [if_pos c97] at H
                            have c97b0 : (((rd_T25 l1 x28_1).f1).toList == ([42] : List UInt8)) = true := beq_iff_eq.mpr c97
                            have c97b1 : (((rd_T25 l1 x28_1).f1).toList != ([42] : List UInt8)) = false := bne_eq_false_iff_eq.mpr c97
                            clear c97
                            exact .inr ⟨H, (.inr (.inr (.inr (.inr (.inr (.inr (.inr ⟨c16b0, c16b1, c72b0, c72b1, c91b0, c91b1, c92b0, c92b1, c97b0, c97b1⟩)))))))⟩
                          · rw [if_neg c97] at H
                            have c97b0 : (((rd_T25 l1 x28_1).f1).toList == ([42] : List UInt8)) = false := beq_eq_false_iff_ne.mpr c97
                            have c97b1 : (((rd_T25 l1 x28_1).f1).toList != ([42] : List UInt8)) = true := bne_iff_ne.mpr c97
                            by_cases c102 : x11_1.length < 1954687338268
                            · rw [if_pos c102] at H
                              have LMc102 := Aside0.mk c102
                              clear c102
                              obtain ⟨y183, hy183⟩ : ∃ y_ : List (S25), y_ = (x11_1 ++ [(⟨(rd_T25 l1 x28_1).f0, (rd_T25 l1 x28_1).f1, (rd_T25 l1 x28_1).f2, (rd_T25 l1 x28_1).f3⟩ : S25)]) := ⟨_, rfl⟩
                              replace H : (tetherlaw06_SecretBest.l0 k1 a2 a3 true y183 l1 (l1.length : Int) (wrap64 (x28_1 + 1)) t155 t156 t157 t158) = some r := by first | (rw [hy183]; with_reducible exact H) | (have H2_ := (Option.bind_some _ _).symm.trans H; rw [hy183]; with_reducible exact H2_) | (have H2_ := (Option.bind_some _ _).symm.trans H; with_reducible exact H2_) | with_reducible exact H | (rw [hy183]; exact H) | exact H
                              have Ny183 := Aside0.mk hy183
                              clear hy183
                              exact .inl ⟨y183, Ny183.out, H, LMc102.out, (.inr (.inr (.inr (.inr (.inr (.inl ⟨c16b0, c16b1, c72b0, c72b1, c91b0, c91b1, c92b0, c92b1, c97b0, c97b1⟩))))))⟩
                            · rw [if_neg c102] at H
                              exact absurd H (by simp)
                      · rw [if_neg c91] at H
                        have c91b0 : (((rd_T25 l1 x28_1).f0).toList == ([42] : List UInt8)) = false := beq_eq_false_iff_ne.mpr c91
                        have c91b1 : (((rd_T25 l1 x28_1).f0).toList != ([42] : List UInt8)) = true := bne_iff_ne.mpr c91
                        by_cases c110 : x11_1.length < 1954687338268
                        · rw [if_pos c110] at H
                          have LMc110 := Aside0.mk c110
                          clear c110
                          obtain ⟨y186, hy186⟩ : ∃ y_ : List (S25), y_ = (x11_1 ++ [(⟨(rd_T25 l1 x28_1).f0, (rd_T25 l1 x28_1).f1, (rd_T25 l1 x28_1).f2, (rd_T25 l1 x28_1).f3⟩ : S25)]) := ⟨_, rfl⟩
                          replace H : (tetherlaw06_SecretBest.l0 k1 a2 a3 true y186 l1 (l1.length : Int) (wrap64 (x28_1 + 1)) t155 t156 t157 t158) = some r := by first | (rw [hy186]; with_reducible exact H) | (have H2_ := (Option.bind_some _ _).symm.trans H; rw [hy186]; with_reducible exact H2_) | (have H2_ := (Option.bind_some _ _).symm.trans H; with_reducible exact H2_) | with_reducible exact H | (rw [hy186]; exact H) | exact H
                          have Ny186 := Aside0.mk hy186
                          clear hy186
                          exact .inl ⟨y186, Ny186.out, H, LMc110.out, (.inr (.inr (.inr (.inr (.inr (.inr ⟨c16b0, c16b1, c72b0, c72b1, c91b0, c91b1⟩))))))⟩
                        · rw [if_neg c110] at H
                          exact absurd H (by simp)
                clear H
                rcases LAD with ⟨y168, hy168, H, c18, D⟩ | ⟨H, D⟩
                · have LMc18 := Aside0.mk c18
                  clear c18
                  have Ny168 := Aside0.mk hy168
                  clear hy168
                  rcases D with ⟨c16b0, c16b1, c17b0, c17b1⟩ | ⟨c16b0, c16b1, c17b0, c17b1, c26b0, c26b1, c27b0, c27b1, c32b0, c32b1⟩ | ⟨c16b0, c16b1, c17b0, c17b1, c26b0, c26b1, c45b0, c45b1, c46b0, c46b1, c51b0, c51b1⟩ | ⟨c16b0, c16b1, c17b0, c17b1, c26b0, c26b1, c45b0, c45b1⟩ | ⟨c16b0, c16b1, c72b0, c72b1, c73b0, c73b1, c78b0, c78b1⟩ | ⟨c16b0, c16b1, c72b0, c72b1, c91b0, c91b1, c92b0, c92b1, c97b0, c97b1⟩ | ⟨c16b0, c16b1, c72b0, c72b1, c91b0, c91b1⟩
                  all_goals
                    have H' := Aside0.mk H
                    clear H
                    have p166 : 0 ≤ (x28_1 : Int) := of_decide_eq_true (by first | (with_reducible assumption) | assumption)
                    have q166 : x28_1 < (l1.length : Int) := of_decide_eq_true (by first | (with_reducible assumption) | assumption)
                    obtain ⟨ad166, A166_3, c166_3, e166, hx166_0, hx166_1, hx166_2, hx166_3, hl166_3, hi166_3⟩ := at_T25 (Kd.V_reads' HO_26.out).2.2 x28_1 p166 q166
                    cases e166
                    obtain ⟨ce166, hce166, hMe166, hcc166⟩ := Kd.V_get HO_26.out z25 x28_1 p166 (by first | exact q166 | exact of_decide_eq_true (by first | (with_reducible assumption) | assumption) | (have e_ := (Kd.V_reads' HO_26.out).1; omega))
                    obtain ⟨ua166_3, uc166_3, rfl, ul166_3, ge166_3⟩ := k25_openF hMe166
                    have hv166_3 := hcc166 3 _ rfl
                    rw [add_field _ _ 3 (by omega)] at hv166_3
                    replace hv166_3 := Option.some.inj (hv166_3.symm.trans hx166_3)
                    injection hv166_3 with hva_ hvn_ hvc_
                    rw [hva_] at ge166_3
                    rw [hvc_] at ul166_3
                    have HL166_3 := Aside0.mk (show Kd.V (Kd.int .i64) 2 _ w.heap.size _ _ ((rd_T25 l1 x28_1).f3) from Kd.V_mk ul166_3 ge166_3)
                    clear hva_ hvn_ hvc_ ge166_3 ul166_3
                    clear hcc166 hce166
                    have HR166_3 := Aside0.mk hi166_3
                    have HC166_3 := Aside0.mk hl166_3
                    clear hi166_3 hl166_3
                    replace p166 := eq_true p166
                    replace q166 := eq_true q166
                    go_wp2_with (first | ((with_reducible refine gate_dst (N := 13) rfl ?_); refine box_event ?hg (N := 13) ?hd (cs := #[.string (⟨#[]⟩ : ByteArray), .string (⟨#[]⟩ : ByteArray), .string (⟨#[]⟩ : ByteArray), .slice none 0 0]) (t := 25) ?hr ?_; (case hd => rfl); (case hg => rfl); (case hr => first | (go_simp; done) | (go_simp; rfl)); intro gb167 hg w19 hbox hb; have n0_ := Aside0.mk (Kd.N_below (Kd.N_elderB (by (with_reducible repeat (first | apply Kd.N_alloc | apply Kd.N_drewN | apply Kd.N_drew)); exact HO_11.out) gb167 (Nat.le_of_eq hg.symm)) hb); have n1_ := Aside0.mk (Kd.V_below (Kd.V_elderB (by (with_reducible repeat (first | apply Kd.V_alloc | apply Kd.V_drewN | apply Kd.V_drew)); exact HO_26.out) gb167 (Nat.le_of_eq hg.symm)) hb); have n2_ := Aside0.mk (Kd.R_below (by (with_reducible repeat (first | apply Kd.R_alloc | apply Kd.R_drewN | apply Kd.R_drew)); exact HO_163003.out) hb); have n3_ := Aside0.mk (Kd.V_below (Kd.V_elderB (by (with_reducible repeat (first | apply Kd.V_alloc | apply Kd.V_drewN | apply Kd.V_drew)); exact HL166_3.out) gb167 (Nat.le_of_eq hg.symm)) hb); have n4_ := Aside0.mk (blk_below (g := gb162) (o := .cells #[.string t155, .string t156, .string t157, .slice Ao10 t158.length co10] 25 (0, 0)) (by (with_reducible repeat (first | refine blk_drewN ?_ _ | refine blk_drew ?_ | refine blk_alloc ?_ _)); exact BK162.out) hb); have n5_ := Aside0.mk (Kd.C_below (by repeat (first | (with_reducible exact HR166_3.out) | (with_reducible refine Kd.C_alloc ?_ _) | (with_reducible refine Kd.C_drewN ?_ _) | (with_reducible refine Kd.C_drew ?_) | exact HR166_3.out)) hb); have n6_ := Aside0.mk (below_step (by repeat (first | (with_reducible first | exact HB.out | apply below_alloc | apply pw_below_drewN | apply below_drew1 | refine below_set ?_ GE162.out) | exact HB.out)) hb); have n7_ := Aside0.mk (hbox); have n8_ := Aside0.mk ((by rw [hg]; exact (below_size (by repeat (first | (with_reducible first | exact HB.out | apply below_alloc | apply pw_below_drewN | apply below_drew1 | refine below_set ?_ GE162.out) | exact HB.out))) : w.heap.size ≤ gb167)); have n9_ := Aside0.mk ((by rw [hg]; exact (below_size (by repeat (first | (with_reducible first | exact HB.out | apply below_alloc | apply pw_below_drewN | apply below_drew1 | refine below_set ?_ GE162.out) | exact HB.out))) : w.heap.size ≤ gb167)); have n10_ := Aside0.mk ((by rw [hg]; exact Nat.ne_of_lt (blk_lt (g := gb162) (o := .cells #[.string t155, .string t156, .string t157, .slice Ao10 t158.length co10] 25 (0, 0)) (by (with_reducible repeat (first | refine blk_drewN ?_ _ | refine blk_drew ?_ | refine blk_alloc ?_ _)); exact BK162.out)) : gb162 ≠ gb167)); have n11_ := Aside0.mk ((by rw [hg]; exact Nat.ne_of_gt (blk_lt (g := gb162) (o := .cells #[.string t155, .string t156, .string t157, .slice Ao10 t158.length co10] 25 (0, 0)) (by (with_reducible repeat (first | refine blk_drewN ?_ _ | refine blk_drew ?_ | refine blk_alloc ?_ _)); exact BK162.out)) : gb167 ≠ gb162)); clear HO_11; clear HO_26; clear HO_163003; clear HL166_3; clear BK162; clear HR166_3; clear HB; have HO_11 := n0_; have HO_26 := n1_; have HO_163003 := n2_; have HL166_3 := n3_; have BK162 := n4_; have HR166_3 := n5_; have HB := n6_; have BK167 := n7_; have GW167 := n8_; have GE167 := n9_; have NB162_167 := n10_; have NB167_162 := n11_; clear n0_ n1_ n2_ n3_ n4_ n5_ n6_ n7_ n8_ n9_ n10_ n11_; clear hb hbox hg; have hnb20 := NB167_162.out; have hnc20 := NB162_167.out; have hcz21_0 : w19.cell? ⟨gb167, 0, none⟩ = some (.string (⟨#[]⟩ : ByteArray)) := (blk_cell BK167.out 0).trans rfl; have hcz21_1 : w19.cell? ⟨gb167, 1, none⟩ = some (.string (⟨#[]⟩ : ByteArray)) := (blk_cell BK167.out 1).trans rfl; have hcz21_2 : w19.cell? ⟨gb167, 2, none⟩ = some (.string (⟨#[]⟩ : ByteArray)) := (blk_cell BK167.out 2).trans rfl; have hcz21_3 : w19.cell? ⟨gb167, 3, none⟩ = some (.slice none 0 0) := (blk_cell BK167.out 3).trans rfl; have hfz21_0 := blk_frozen BK167.out 0; have hfz21_1 := blk_frozen BK167.out 1; have hfz21_2 := blk_frozen BK167.out 2; have hfz21_3 := blk_frozen BK167.out 3) | ((with_reducible refine gate_store (t := 25) (p := 13) rfl ?_); refine store_event (t := 25) (p := 13) (v := ?vo_w22) (w1 := ((((w19.setCell ⟨gb167, 0, none⟩ (.string ((rd_T25 l1 x28_1).f0))).setCell ⟨gb167, 1, none⟩ (.string ((rd_T25 l1 x28_1).f1))).setCell ⟨gb167, 2, none⟩ (.string ((rd_T25 l1 x28_1).f2))).setCell ⟨gb167, 3, none⟩ (.slice A166_3 ((rd_T25 l1 x28_1).f3).length c166_3))) ?hg ?ho ?hn ?hr ?_; (case ho => rfl); (case hg => rfl); (case hn => rfl); (case hr => first | (go_simp; done) | (go_simp; rfl)); intro w22 hw; have n0_ : Aside0 (Kd.N k25 25 w22 w.heap.size (fun k_ => ((P0_ k_ ∨ P1_ k_) ∨ w.heap.size ≤ k_) ∧ some k_ ≠ (.slice Ao10 t158.length co10 : Value).ownBlock ∧ k_ ≠ gb162 ∧ k_ ≠ gb167) u11 x11_1) := ⟨(by rw [hw]; exact (by (with_reducible repeat (first | apply Kd.N_alloc | apply Kd.N_drewN | apply Kd.N_drew)); exact Kd.N_mono (Kd.N_far (p := ⟨gb167, 3, none⟩) (Kd.N_far (p := ⟨gb167, 2, none⟩) (Kd.N_far (p := ⟨gb167, 1, none⟩) (Kd.N_far (p := ⟨gb167, 0, none⟩) (Kd.N_mono HO_11.out (fun k_ hk => (⟨hk, hk.2⟩ : _ ∧ k_ ≠ gb167))) (fun _ hk => hk.2) (.string ((rd_T25 l1 x28_1).f0))) (fun _ hk => hk.2) (.string ((rd_T25 l1 x28_1).f1))) (fun _ hk => hk.2) (.string ((rd_T25 l1 x28_1).f2))) (fun _ hk => hk.2) (.slice A166_3 ((rd_T25 l1 x28_1).f3).length c166_3)) (fun _ hk => ⟨hk.1.1.1, ⟨hk.1.1.2.1, ⟨hk.1.1.2.2, hk.1.2⟩⟩⟩)))⟩; have n1_ : Aside0 (Kd.V k25 25 w22 w.heap.size (fun k_ => ((P0_ k_ ∨ P1_ k_) ∨ w.heap.size ≤ k_) ∧ some k_ ≠ (u11 : Value).ownBlock ∧ some k_ ≠ (.slice Ao10 t158.length co10 : Value).ownBlock ∧ k_ ≠ gb162 ∧ k_ ≠ gb167) (.slice (some ad166) l1.length c1) l1) := ⟨(by rw [hw]; exact (by (with_reducible repeat (first | apply Kd.V_alloc | apply Kd.V_drewN | apply Kd.V_drew)); exact Kd.V_mono (Kd.V_far (p := ⟨gb167, 3, none⟩) (Kd.V_far (p := ⟨gb167, 2, none⟩) (Kd.V_far (p := ⟨gb167, 1, none⟩) (Kd.V_far (p := ⟨gb167, 0, none⟩) (Kd.V_mono HO_26.out (fun k_ hk => (⟨hk, hk.2⟩ : _ ∧ k_ ≠ gb167))) (fun _ hk => hk.2) (.string ((rd_T25 l1 x28_1).f0))) (fun _ hk => hk.2) (.string ((rd_T25 l1 x28_1).f1))) (fun _ hk => hk.2) (.string ((rd_T25 l1 x28_1).f2))) (fun _ hk => hk.2) (.slice A166_3 ((rd_T25 l1 x28_1).f3).length c166_3)) (fun _ hk => ⟨hk.1.1.1, ⟨hk.1.1.2.1, ⟨hk.1.1.2.2.1, ⟨hk.1.1.2.2.2, hk.1.2⟩⟩⟩⟩)))⟩; have n2_ : Aside0 (Kd.R (Kd.int .i64) 2 w22 w.heap.size (fun k_ => (w.heap.size ≤ k_)) (.slice Ao10 t158.length co10) t158) := ⟨(by rw [hw]; exact (by (with_reducible repeat (first | apply Kd.R_alloc | apply Kd.R_drewN | apply Kd.R_drew)); exact Kd.R_mono (Kd.R_far (p := ⟨gb167, 3, none⟩) (Kd.R_far (p := ⟨gb167, 2, none⟩) (Kd.R_far (p := ⟨gb167, 1, none⟩) (Kd.R_far (p := ⟨gb167, 0, none⟩) (Kd.R_types HO_163003.out BK167.out (by decide)) (fun _ hk => hk.2) (.string ((rd_T25 l1 x28_1).f0))) (fun _ hk => hk.2) (.string ((rd_T25 l1 x28_1).f1))) (fun _ hk => hk.2) (.string ((rd_T25 l1 x28_1).f2))) (fun _ hk => hk.2) (.slice A166_3 ((rd_T25 l1 x28_1).f3).length c166_3)) (fun _ hk => hk.1)))⟩; have n3_ : Aside0 (Kd.V (Kd.int .i64) 2 w22 w.heap.size (fun k_ => ((P0_ k_ ∨ P1_ k_) ∨ w.heap.size ≤ k_) ∧ some k_ ≠ (u11 : Value).ownBlock ∧ some k_ ≠ (.slice Ao10 t158.length co10 : Value).ownBlock ∧ k_ ≠ gb162 ∧ k_ ≠ gb167) (.slice A166_3 ((rd_T25 l1 x28_1).f3).length c166_3) ((rd_T25 l1 x28_1).f3)) := ⟨(by rw [hw]; exact (by (with_reducible repeat (first | apply Kd.V_alloc | apply Kd.V_drewN | apply Kd.V_drew)); exact Kd.V_mono (Kd.V_far (p := ⟨gb167, 3, none⟩) (Kd.V_far (p := ⟨gb167, 2, none⟩) (Kd.V_far (p := ⟨gb167, 1, none⟩) (Kd.V_far (p := ⟨gb167, 0, none⟩) (Kd.V_mono HL166_3.out (fun k_ hk => (⟨hk, hk.2⟩ : _ ∧ k_ ≠ gb167))) (fun _ hk => hk.2) (.string ((rd_T25 l1 x28_1).f0))) (fun _ hk => hk.2) (.string ((rd_T25 l1 x28_1).f1))) (fun _ hk => hk.2) (.string ((rd_T25 l1 x28_1).f2))) (fun _ hk => hk.2) (.slice A166_3 ((rd_T25 l1 x28_1).f3).length c166_3)) (fun _ hk => ⟨hk.1.1.1, ⟨hk.1.1.2.1, ⟨hk.1.1.2.2.1, ⟨hk.1.1.2.2.2, hk.1.2⟩⟩⟩⟩)))⟩; have n4_ : Aside0 (w22.heap[gb162]? = some (.cells #[.string t155, .string t156, .string t157, .slice Ao10 t158.length co10] 25 (0, 0))) := ⟨(by rw [hw]; exact (by (with_reducible repeat (first | refine blk_drewN ?_ _ | refine blk_drew ?_ | refine blk_alloc ?_ _)); refine blk_far ?_ NB162_167.out _; (with_reducible repeat (first | refine blk_drewN ?_ _ | refine blk_drew ?_ | refine blk_alloc ?_ _)); refine blk_far ?_ NB162_167.out _; (with_reducible repeat (first | refine blk_drewN ?_ _ | refine blk_drew ?_ | refine blk_alloc ?_ _)); refine blk_far ?_ NB162_167.out _; (with_reducible repeat (first | refine blk_drewN ?_ _ | refine blk_drew ?_ | refine blk_alloc ?_ _)); refine blk_far ?_ NB162_167.out _; (with_reducible repeat (first | refine blk_drewN ?_ _ | refine blk_drew ?_ | refine blk_alloc ?_ _)); exact BK162.out))⟩; have n5_ : Aside0 (w22.heap[gb167]? = some (.cells #[.string ((rd_T25 l1 x28_1).f0), .string ((rd_T25 l1 x28_1).f1), .string ((rd_T25 l1 x28_1).f2), .slice A166_3 ((rd_T25 l1 x28_1).f3).length c166_3] 25 (0, 0))) := ⟨(by rw [hw]; exact (by (with_reducible repeat (first | refine blk_drewN ?_ _ | refine blk_drew ?_ | refine blk_alloc ?_ _)); refine blk_put (cs := #[.string ((rd_T25 l1 x28_1).f0), .string ((rd_T25 l1 x28_1).f1), .string ((rd_T25 l1 x28_1).f2), .slice none 0 0]) ?_ 3 _ rfl; (with_reducible repeat (first | refine blk_drewN ?_ _ | refine blk_drew ?_ | refine blk_alloc ?_ _)); refine blk_put (cs := #[.string ((rd_T25 l1 x28_1).f0), .string ((rd_T25 l1 x28_1).f1), .string (⟨#[]⟩ : ByteArray), .slice none 0 0]) ?_ 2 _ rfl; (with_reducible repeat (first | refine blk_drewN ?_ _ | refine blk_drew ?_ | refine blk_alloc ?_ _)); refine blk_put (cs := #[.string ((rd_T25 l1 x28_1).f0), .string (⟨#[]⟩ : ByteArray), .string (⟨#[]⟩ : ByteArray), .slice none 0 0]) ?_ 1 _ rfl; (with_reducible repeat (first | refine blk_drewN ?_ _ | refine blk_drew ?_ | refine blk_alloc ?_ _)); refine blk_put (cs := #[.string (⟨#[]⟩ : ByteArray), .string (⟨#[]⟩ : ByteArray), .string (⟨#[]⟩ : ByteArray), .slice none 0 0]) ?_ 0 _ rfl; (with_reducible repeat (first | refine blk_drewN ?_ _ | refine blk_drew ?_ | refine blk_alloc ?_ _)); exact BK167.out))⟩; have n6_ : Aside0 (Below w.heap.size w w22) := ⟨(by rw [hw]; exact (by repeat (first | (with_reducible first | exact HB.out | apply below_alloc | apply pw_below_drewN | apply below_drew1 | refine below_set ?_ GE162.out | refine below_set ?_ GE167.out) | exact HB.out)))⟩; clear hw; clear HO_11; clear HO_26; clear HO_163003; clear HL166_3; clear BK162; clear BK167; clear HB; have HO_11 := n0_; have HO_26 := n1_; have HO_163003 := n2_; have HL166_3 := n3_; have BK162 := n4_; have BK167 := n5_; have HB := n6_; clear n0_ n1_ n2_ n3_ n4_ n5_ n6_; have hcz23_0 : w22.cell? ⟨gb167, 0, none⟩ = some (.string ((rd_T25 l1 x28_1).f0)) := (blk_cell BK167.out 0).trans rfl; have hcz23_1 : w22.cell? ⟨gb167, 1, none⟩ = some (.string ((rd_T25 l1 x28_1).f1)) := (blk_cell BK167.out 1).trans rfl; have hcz23_2 : w22.cell? ⟨gb167, 2, none⟩ = some (.string ((rd_T25 l1 x28_1).f2)) := (blk_cell BK167.out 2).trans rfl; have hcz23_3 : w22.cell? ⟨gb167, 3, none⟩ = some (.slice A166_3 ((rd_T25 l1 x28_1).f3).length c166_3) := (blk_cell BK167.out 3).trans rfl; have hfz23_0 := blk_frozen BK167.out 0; have hfz23_1 := blk_frozen BK167.out 1; have hfz23_2 := blk_frozen BK167.out 2; have hfz23_3 := blk_frozen BK167.out 3; have hcz24_0 : w22.cell? ⟨gb162, 0, none⟩ = some (.string t155) := (blk_cell BK162.out 0).trans rfl; have hcz24_1 : w22.cell? ⟨gb162, 1, none⟩ = some (.string t156) := (blk_cell BK162.out 1).trans rfl; have hcz24_2 : w22.cell? ⟨gb162, 2, none⟩ = some (.string t157) := (blk_cell BK162.out 2).trans rfl; have hcz24_3 : w22.cell? ⟨gb162, 3, none⟩ = some (.slice Ao10 t158.length co10) := (blk_cell BK162.out 3).trans rfl; have hfz24_0 := blk_frozen BK162.out 0; have hfz24_1 := blk_frozen BK162.out 1; have hfz24_2 := blk_frozen BK162.out 2; have hfz24_3 := blk_frozen BK162.out 3) | ((with_reducible refine gate_builtin (b := .append) (xs := #[.tmp 69, .tmp 71]) rfl ?_); at_builtin; refine Kd.N_append k25 (w0 := w) w.heap.size rfl (.tmp 69) (.tmp 71) 22 25 (.agg #[(.string ⟨#[]⟩), (.string ⟨#[]⟩), (.string ⟨#[]⟩), (.slice none 0 0)]) 72 rfl Tryd.underlying22 info25 rfl (by decide) (by omega) u11 x11_1 (⟨(rd_T25 l1 x28_1).f0, (rd_T25 l1 x28_1).f1, (rd_T25 l1 x28_1).f2, (rd_T25 l1 x28_1).f3⟩ : S25) [.string ((rd_T25 l1 x28_1).f0), .string ((rd_T25 l1 x28_1).f1), .string ((rd_T25 l1 x28_1).f2), .slice A166_3 ((rd_T25 l1 x28_1).f3).length c166_3] (fun k_ => ((P0_ k_ ∨ P1_ k_) ∨ w.heap.size ≤ k_) ∧ some k_ ≠ (.slice Ao10 t158.length co10 : Value).ownBlock ∧ k_ ≠ gb162 ∧ k_ ≠ gb167) (fun k_ => ((fun k_ => ((P0_ k_ ∨ P1_ k_) ∨ w.heap.size ≤ k_) ∧ some k_ ≠ (.slice Ao10 t158.length co10 : Value).ownBlock ∧ k_ ≠ gb162 ∧ k_ ≠ gb167)) k_ ∧ some k_ ≠ (u11 : Value).ownBlock) rfl rfl ?aP (fun _ hk => hk) ?aF ?aO ?aB ?aS ?aL ?_; (case aP => exact (k25_mkF _ _ (⟨(rd_T25 l1 x28_1).f0, (rd_T25 l1 x28_1).f1, (rd_T25 l1 x28_1).f2, (rd_T25 l1 x28_1).f3⟩ : S25) (Kd.V_reads' (Kd.V_mono (ok' := (fun k_ => ((fun k_ => ((P0_ k_ ∨ P1_ k_) ∨ w.heap.size ≤ k_) ∧ some k_ ≠ (.slice Ao10 t158.length co10 : Value).ownBlock ∧ k_ ≠ gb162 ∧ k_ ≠ gb167)) k_ ∧ some k_ ≠ (u11 : Value).ownBlock)) (HL166_3.out) (fun k_ hk => ⟨⟨hk.1, ⟨hk.2.2.1, ⟨hk.2.2.2.1, hk.2.2.2.2⟩⟩⟩, hk.2.1⟩))).2.1 (Kd.V_F (Kd.V_mono (ok' := (fun k_ => ((fun k_ => ((P0_ k_ ∨ P1_ k_) ∨ w.heap.size ≤ k_) ∧ some k_ ≠ (.slice Ao10 t158.length co10 : Value).ownBlock ∧ k_ ≠ gb162 ∧ k_ ≠ gb167)) k_ ∧ some k_ ≠ (u11 : Value).ownBlock)) (HL166_3.out) (fun k_ hk => ⟨⟨hk.1, ⟨hk.2.2.1, ⟨hk.2.2.2.1, hk.2.2.2.2⟩⟩⟩, hk.2.1⟩))))); (case aB => exact (by repeat (first | (with_reducible first | exact HB.out | apply below_alloc | apply pw_below_drewN | apply below_drew1 | refine below_set ?_ GE162.out | refine below_set ?_ GE167.out) | exact HB.out))); (case aF => exact (fun k_ hk => ⟨(.inr (Nat.le_trans (below_size (by repeat (first | (with_reducible first | exact HB.out | apply below_alloc | apply pw_below_drewN | apply below_drew1 | refine below_set ?_ GE162.out | refine below_set ?_ GE167.out) | exact HB.out))) hk)), Kd.fresh' (Kd.R_lt (by (with_reducible repeat (first | apply Kd.R_alloc | apply Kd.R_drewN | apply Kd.R_drew)); exact HO_163003.out)) k_ hk, Kd.freshB (g := gb162) (o := .cells #[.string t155, .string t156, .string t157, .slice Ao10 t158.length co10] 25 (0, 0)) (by (with_reducible repeat (first | refine blk_drewN ?_ _ | refine blk_drew ?_ | refine blk_alloc ?_ _)); exact BK162.out) k_ hk, Kd.freshB (g := gb167) (o := .cells #[.string ((rd_T25 l1 x28_1).f0), .string ((rd_T25 l1 x28_1).f1), .string ((rd_T25 l1 x28_1).f2), .slice A166_3 ((rd_T25 l1 x28_1).f3).length c166_3] 25 (0, 0)) (by (with_reducible repeat (first | refine blk_drewN ?_ _ | refine blk_drew ?_ | refine blk_alloc ?_ _)); exact BK167.out) k_ hk⟩)); (case aO => exact (by (with_reducible repeat (first | apply Kd.N_alloc | apply Kd.N_drewN | apply Kd.N_drew)); exact HO_11.out)); (case aS => exact (below_size (by repeat (first | (with_reducible first | exact HB.out | apply below_alloc | apply pw_below_drewN | apply below_drew1 | refine below_set ?_ GE162.out | refine below_set ?_ GE167.out) | exact HB.out)))); (case aL => have := LMc18.out; omega); intro v169 w25 ho hb hg hat; rw [← Ny168.out] at ho; have n0_ := Aside0.mk (Kd.V_afterv (ok := (fun k_ => ((P0_ k_ ∨ P1_ k_) ∨ w.heap.size ≤ k_) ∧ some k_ ≠ (.slice Ao10 t158.length co10 : Value).ownBlock ∧ k_ ≠ gb162 ∧ k_ ≠ gb167)) (by (with_reducible repeat (first | apply Kd.V_alloc | apply Kd.V_drewN | apply Kd.V_drew)); exact Kd.V_mono HO_26.out (fun _ hk => ⟨⟨hk.1, ⟨hk.2.2.1, ⟨hk.2.2.2.1, hk.2.2.2.2⟩⟩⟩, hk.2.1⟩)) hg hat); have n1_ := Aside0.mk (Kd.R_over' (by (with_reducible repeat (first | apply Kd.R_alloc | apply Kd.R_drewN | apply Kd.R_drew)); exact HO_163003.out) (Kd.N_typed (by (with_reducible repeat (first | apply Kd.N_alloc | apply Kd.N_drewN | apply Kd.N_drew)); exact HO_11.out)) (by decide) hg); have n2_ := Aside0.mk (blk_grown (g := gb162) (o := .cells #[.string t155, .string t156, .string t157, .slice Ao10 t158.length co10] 25 (0, 0)) (by (with_reducible repeat (first | refine blk_drewN ?_ _ | refine blk_drew ?_ | refine blk_alloc ?_ _)); exact BK162.out) hg (Kd.N_away HO_11.out (fun _ hk => hk.2.2.1))); have n3_ := Aside0.mk (Kd.V_afterv (ok := (fun k_ => ((P0_ k_ ∨ P1_ k_) ∨ w.heap.size ≤ k_) ∧ some k_ ≠ (.slice Ao10 t158.length co10 : Value).ownBlock ∧ k_ ≠ gb162 ∧ k_ ≠ gb167)) (by (with_reducible repeat (first | apply Kd.V_alloc | apply Kd.V_drewN | apply Kd.V_drew)); exact Kd.V_mono HL166_3.out (fun _ hk => ⟨⟨hk.1, ⟨hk.2.2.1, ⟨hk.2.2.2.1, hk.2.2.2.2⟩⟩⟩, hk.2.1⟩)) hg hat); have n4_ := Aside0.mk (blk_grown (g := gb167) (o := .cells #[.string ((rd_T25 l1 x28_1).f0), .string ((rd_T25 l1 x28_1).f1), .string ((rd_T25 l1 x28_1).f2), .slice A166_3 ((rd_T25 l1 x28_1).f3).length c166_3] 25 (0, 0)) (by (with_reducible repeat (first | refine blk_drewN ?_ _ | refine blk_drew ?_ | refine blk_alloc ?_ _)); exact BK167.out) hg (Kd.N_away HO_11.out (fun _ hk => hk.2.2.2))); have n5_ := Aside0.mk (hb); have n6_ := Aside0.mk (ho); clear HO_26; clear HO_163003; clear BK162; clear HL166_3; clear BK167; clear HB; clear HO_11; have HO_26 := n0_; have HO_163003 := n1_; have BK162 := n2_; have HL166_3 := n3_; have BK167 := n4_; have HB := n5_; have HO170 := n6_; clear n0_ n1_ n2_ n3_ n4_ n5_ n6_; clear ho hb hg hat))
                    go_roundg k1
                    case measure => have := HK1.out; omega
                    case rel => exact ⟨(y168), (wrap64 (x28_1 + 1)), (by first | rfl | (simp; done) | (simp [*]; done)), H', ⟨by have := HK1.out; omega⟩, ⟨by (with_reducible repeat (first | apply Kd.N_alloc | apply Kd.N_drewN | apply Kd.N_drew)); exact Kd.N_mono HO170.out (fun _ hk => ⟨hk.1, ⟨hk.2.1, hk.2.2.1⟩⟩)⟩, ⟨by (with_reducible repeat (first | apply Kd.V_alloc | apply Kd.V_drewN | apply Kd.V_drew)); exact Kd.V_mono HO_26.out (fun _ hk => ⟨hk.1.1, ⟨hk.2, ⟨hk.1.2.1, hk.1.2.2.1⟩⟩⟩)⟩, ⟨by (with_reducible repeat (first | apply Kd.R_alloc | apply Kd.R_drewN | apply Kd.R_drew)); exact HO_163003.out⟩, ⟨by (with_reducible repeat (first | refine blk_drewN ?_ _ | refine blk_drew ?_ | refine blk_alloc ?_ _)); exact BK162.out⟩, ⟨by repeat (first | (with_reducible first | exact HB.out | apply below_alloc | apply pw_below_drewN | apply below_drew1 | refine below_set ?_ GE162.out | refine below_set ?_ GE167.out) | exact HB.out)⟩⟩
                · rcases D with ⟨c16b0, c16b1, c17b0, c17b1, c26b0, c26b1, c27b0, c27b1⟩ | ⟨c16b0, c16b1, c17b0, c17b1, c26b0, c26b1, c27b0, c27b1, c32b0, c32b1⟩ | ⟨c16b0, c16b1, c17b0, c17b1, c26b0, c26b1, c45b0, c45b1, c46b0, c46b1⟩ | ⟨c16b0, c16b1, c17b0, c17b1, c26b0, c26b1, c45b0, c45b1, c46b0, c46b1, c51b0, c51b1⟩ | ⟨c16b0, c16b1, c72b0, c72b1, c73b0, c73b1⟩ | ⟨c16b0, c16b1, c72b0, c72b1, c73b0, c73b1, c78b0, c78b1⟩ | ⟨c16b0, c16b1, c72b0, c72b1, c91b0, c91b1, c92b0, c92b1⟩ | ⟨c16b0, c16b1, c72b0, c72b1, c91b0, c91b1, c92b0, c92b1, c97b0, c97b1⟩
                  all_goals
                    have H' := Aside0.mk H
                    clear H
                    have p166 : 0 ≤ (x28_1 : Int) := of_decide_eq_true (by first | (with_reducible assumption) | assumption)
                    have q166 : x28_1 < (l1.length : Int) := of_decide_eq_true (by first | (with_reducible assumption) | assumption)
                    obtain ⟨ad166, A166_3, c166_3, e166, hx166_0, hx166_1, hx166_2, hx166_3, hl166_3, hi166_3⟩ := at_T25 (Kd.V_reads' HO_26.out).2.2 x28_1 p166 q166
                    cases e166
                    obtain ⟨ce166, hce166, hMe166, hcc166⟩ := Kd.V_get HO_26.out z25 x28_1 p166 (by first | exact q166 | exact of_decide_eq_true (by first | (with_reducible assumption) | assumption) | (have e_ := (Kd.V_reads' HO_26.out).1; omega))
                    obtain ⟨ua166_3, uc166_3, rfl, ul166_3, ge166_3⟩ := k25_openF hMe166
                    have hv166_3 := hcc166 3 _ rfl
                    rw [add_field _ _ 3 (by omega)] at hv166_3
                    replace hv166_3 := Option.some.inj (hv166_3.symm.trans hx166_3)
                    injection hv166_3 with hva_ hvn_ hvc_
                    rw [hva_] at ge166_3
                    rw [hvc_] at ul166_3
                    have HL166_3 := Aside0.mk (show Kd.V (Kd.int .i64) 2 _ w.heap.size _ _ ((rd_T25 l1 x28_1).f3) from Kd.V_mk ul166_3 ge166_3)
                    clear hva_ hvn_ hvc_ ge166_3 ul166_3
                    clear hcc166 hce166
                    have HR166_3 := Aside0.mk hi166_3
                    have HC166_3 := Aside0.mk hl166_3
                    clear hi166_3 hl166_3
                    replace p166 := eq_true p166
                    replace q166 := eq_true q166
                    go_wp2_with (first | ((with_reducible refine gate_dst (N := 13) rfl ?_); refine box_event ?hg (N := 13) ?hd (cs := #[.string (⟨#[]⟩ : ByteArray), .string (⟨#[]⟩ : ByteArray), .string (⟨#[]⟩ : ByteArray), .slice none 0 0]) (t := 25) ?hr ?_; (case hd => rfl); (case hg => rfl); (case hr => first | (go_simp; done) | (go_simp; rfl)); intro gb167 hg w28 hbox hb; have n0_ := Aside0.mk (Kd.N_below (Kd.N_elderB (by (with_reducible repeat (first | apply Kd.N_alloc | apply Kd.N_drewN | apply Kd.N_drew)); exact HO_11.out) gb167 (Nat.le_of_eq hg.symm)) hb); have n1_ := Aside0.mk (Kd.V_below (Kd.V_elderB (by (with_reducible repeat (first | apply Kd.V_alloc | apply Kd.V_drewN | apply Kd.V_drew)); exact HO_26.out) gb167 (Nat.le_of_eq hg.symm)) hb); have n2_ := Aside0.mk (Kd.R_below (by (with_reducible repeat (first | apply Kd.R_alloc | apply Kd.R_drewN | apply Kd.R_drew)); exact HO_163003.out) hb); have n3_ := Aside0.mk (Kd.V_below (Kd.V_elderB (by (with_reducible repeat (first | apply Kd.V_alloc | apply Kd.V_drewN | apply Kd.V_drew)); exact HL166_3.out) gb167 (Nat.le_of_eq hg.symm)) hb); have n4_ := Aside0.mk (blk_below (g := gb162) (o := .cells #[.string t155, .string t156, .string t157, .slice Ao10 t158.length co10] 25 (0, 0)) (by (with_reducible repeat (first | refine blk_drewN ?_ _ | refine blk_drew ?_ | refine blk_alloc ?_ _)); exact BK162.out) hb); have n5_ := Aside0.mk (Kd.C_below (by repeat (first | (with_reducible exact HR166_3.out) | (with_reducible refine Kd.C_alloc ?_ _) | (with_reducible refine Kd.C_drewN ?_ _) | (with_reducible refine Kd.C_drew ?_) | exact HR166_3.out)) hb); have n6_ := Aside0.mk (below_step (by repeat (first | (with_reducible first | exact HB.out | apply below_alloc | apply pw_below_drewN | apply below_drew1 | refine below_set ?_ GE162.out) | exact HB.out)) hb); have n7_ := Aside0.mk (hbox); have n8_ := Aside0.mk ((by rw [hg]; exact (below_size (by repeat (first | (with_reducible first | exact HB.out | apply below_alloc | apply pw_below_drewN | apply below_drew1 | refine below_set ?_ GE162.out) | exact HB.out))) : w.heap.size ≤ gb167)); have n9_ := Aside0.mk ((by rw [hg]; exact (below_size (by repeat (first | (with_reducible first | exact HB.out | apply below_alloc | apply pw_below_drewN | apply below_drew1 | refine below_set ?_ GE162.out) | exact HB.out))) : w.heap.size ≤ gb167)); have n10_ := Aside0.mk ((by rw [hg]; exact Nat.ne_of_lt (blk_lt (g := gb162) (o := .cells #[.string t155, .string t156, .string t157, .slice Ao10 t158.length co10] 25 (0, 0)) (by (with_reducible repeat (first | refine blk_drewN ?_ _ | refine blk_drew ?_ | refine blk_alloc ?_ _)); exact BK162.out)) : gb162 ≠ gb167)); have n11_ := Aside0.mk ((by rw [hg]; exact Nat.ne_of_gt (blk_lt (g := gb162) (o := .cells #[.string t155, .string t156, .string t157, .slice Ao10 t158.length co10] 25 (0, 0)) (by (with_reducible repeat (first | refine blk_drewN ?_ _ | refine blk_drew ?_ | refine blk_alloc ?_ _)); exact BK162.out)) : gb167 ≠ gb162)); clear HO_11; clear HO_26; clear HO_163003; clear HL166_3; clear BK162; clear HR166_3; clear HB; have HO_11 := n0_; have HO_26 := n1_; have HO_163003 := n2_; have HL166_3 := n3_; have BK162 := n4_; have HR166_3 := n5_; have HB := n6_; have BK167 := n7_; have GW167 := n8_; have GE167 := n9_; have NB162_167 := n10_; have NB167_162 := n11_; clear n0_ n1_ n2_ n3_ n4_ n5_ n6_ n7_ n8_ n9_ n10_ n11_; clear hb hbox hg; have hnb29 := NB167_162.out; have hnc29 := NB162_167.out; have hcz30_0 : w28.cell? ⟨gb167, 0, none⟩ = some (.string (⟨#[]⟩ : ByteArray)) := (blk_cell BK167.out 0).trans rfl; have hcz30_1 : w28.cell? ⟨gb167, 1, none⟩ = some (.string (⟨#[]⟩ : ByteArray)) := (blk_cell BK167.out 1).trans rfl; have hcz30_2 : w28.cell? ⟨gb167, 2, none⟩ = some (.string (⟨#[]⟩ : ByteArray)) := (blk_cell BK167.out 2).trans rfl; have hcz30_3 : w28.cell? ⟨gb167, 3, none⟩ = some (.slice none 0 0) := (blk_cell BK167.out 3).trans rfl; have hfz30_0 := blk_frozen BK167.out 0; have hfz30_1 := blk_frozen BK167.out 1; have hfz30_2 := blk_frozen BK167.out 2; have hfz30_3 := blk_frozen BK167.out 3; have hcz31_0 : w28.cell? ⟨gb162, 0, none⟩ = some (.string t155) := (blk_cell BK162.out 0).trans rfl; have hcz31_1 : w28.cell? ⟨gb162, 1, none⟩ = some (.string t156) := (blk_cell BK162.out 1).trans rfl; have hcz31_2 : w28.cell? ⟨gb162, 2, none⟩ = some (.string t157) := (blk_cell BK162.out 2).trans rfl; have hcz31_3 : w28.cell? ⟨gb162, 3, none⟩ = some (.slice Ao10 t158.length co10) := (blk_cell BK162.out 3).trans rfl; have hfz31_0 := blk_frozen BK162.out 0; have hfz31_1 := blk_frozen BK162.out 1; have hfz31_2 := blk_frozen BK162.out 2; have hfz31_3 := blk_frozen BK162.out 3))
                    go_roundg k1
                    case measure => have := HK1.out; omega
                    case rel => exact ⟨(x11_1), (wrap64 (x28_1 + 1)), (by first | rfl | (simp; done) | (simp [*]; done)), H', ⟨by have := HK1.out; omega⟩, ⟨by (with_reducible repeat (first | apply Kd.N_alloc | apply Kd.N_drewN | apply Kd.N_drew)); exact Kd.N_mono (Kd.N_far (p := ⟨gb167, 3, none⟩) (Kd.N_far (p := ⟨gb167, 2, none⟩) (Kd.N_far (p := ⟨gb167, 1, none⟩) (Kd.N_far (p := ⟨gb167, 0, none⟩) (Kd.N_mono HO_11.out (fun k_ hk => (⟨hk, hk.2⟩ : _ ∧ k_ ≠ gb167))) (fun _ hk => hk.2) (.string ((rd_T25 l1 x28_1).f0))) (fun _ hk => hk.2) (.string ((rd_T25 l1 x28_1).f1))) (fun _ hk => hk.2) (.string ((rd_T25 l1 x28_1).f2))) (fun _ hk => hk.2) (.slice A166_3 ((rd_T25 l1 x28_1).f3).length c166_3)) (fun _ hk => ⟨hk.1.1.1, ⟨hk.1.1.2.1, hk.1.1.2.2⟩⟩)⟩, ⟨by (with_reducible repeat (first | apply Kd.V_alloc | apply Kd.V_drewN | apply Kd.V_drew)); exact Kd.V_mono (Kd.V_far (p := ⟨gb167, 3, none⟩) (Kd.V_far (p := ⟨gb167, 2, none⟩) (Kd.V_far (p := ⟨gb167, 1, none⟩) (Kd.V_far (p := ⟨gb167, 0, none⟩) (Kd.V_mono HO_26.out (fun k_ hk => (⟨hk, hk.2⟩ : _ ∧ k_ ≠ gb167))) (fun _ hk => hk.2) (.string ((rd_T25 l1 x28_1).f0))) (fun _ hk => hk.2) (.string ((rd_T25 l1 x28_1).f1))) (fun _ hk => hk.2) (.string ((rd_T25 l1 x28_1).f2))) (fun _ hk => hk.2) (.slice A166_3 ((rd_T25 l1 x28_1).f3).length c166_3)) (fun _ hk => ⟨hk.1.1.1, ⟨hk.1.1.2.1, ⟨hk.1.1.2.2.1, hk.1.1.2.2.2⟩⟩⟩)⟩, ⟨by (with_reducible repeat (first | apply Kd.R_alloc | apply Kd.R_drewN | apply Kd.R_drew)); exact Kd.R_mono (Kd.R_far (p := ⟨gb167, 3, none⟩) (Kd.R_far (p := ⟨gb167, 2, none⟩) (Kd.R_far (p := ⟨gb167, 1, none⟩) (Kd.R_far (p := ⟨gb167, 0, none⟩) (Kd.R_types HO_163003.out BK167.out (by decide)) (fun _ hk => hk.2) (.string ((rd_T25 l1 x28_1).f0))) (fun _ hk => hk.2) (.string ((rd_T25 l1 x28_1).f1))) (fun _ hk => hk.2) (.string ((rd_T25 l1 x28_1).f2))) (fun _ hk => hk.2) (.slice A166_3 ((rd_T25 l1 x28_1).f3).length c166_3)) (fun _ hk => hk.1)⟩, ⟨by (with_reducible repeat (first | refine blk_drewN ?_ _ | refine blk_drew ?_ | refine blk_alloc ?_ _)); refine blk_far ?_ NB162_167.out _; (with_reducible repeat (first | refine blk_drewN ?_ _ | refine blk_drew ?_ | refine blk_alloc ?_ _)); refine blk_far ?_ NB162_167.out _; (with_reducible repeat (first | refine blk_drewN ?_ _ | refine blk_drew ?_ | refine blk_alloc ?_ _)); refine blk_far ?_ NB162_167.out _; (with_reducible repeat (first | refine blk_drewN ?_ _ | refine blk_drew ?_ | refine blk_alloc ?_ _)); refine blk_far ?_ NB162_167.out _; (with_reducible repeat (first | refine blk_drewN ?_ _ | refine blk_drew ?_ | refine blk_alloc ?_ _)); exact BK162.out⟩, ⟨by repeat (first | (with_reducible first | exact HB.out | apply below_alloc | apply pw_below_drewN | apply below_drew1 | refine below_set ?_ GE162.out | refine below_set ?_ GE167.out) | exact HB.out)⟩⟩
              · replace c15 := Bool.eq_false_iff.mpr c15
                subst c15
                have H1 : (if ((rd_T25 l1 x28_1).f0).toList = a2.toList then (if ((rd_T25 l1 x28_1).f1).toList = a3.toList then (tetherlaw06_SecretBest.l0 k1 a2 a3 false x11_1 l1 (l1.length : Int) (wrap64 (x28_1 + 1)) t155 t156 t157 t158) else (if ((rd_T25 l1 x28_1).f1).toList = ([42] : List UInt8) then (tetherlaw06_SecretBest.l0 k1 a2 a3 false x11_1 l1 (l1.length : Int) (wrap64 (x28_1 + 1)) t155 t156 t157 t158) else (if x11_1.length < 1954687338268 then (tetherlaw06_SecretBest.l0 k1 a2 a3 false (x11_1 ++ [(⟨(rd_T25 l1 x28_1).f0, (rd_T25 l1 x28_1).f1, (rd_T25 l1 x28_1).f2, (rd_T25 l1 x28_1).f3⟩ : S25)]) l1 (l1.length : Int) (wrap64 (x28_1 + 1)) t155 t156 t157 t158) else (none)))) else (if ((rd_T25 l1 x28_1).f0).toList = ([42] : List UInt8) then (if ((rd_T25 l1 x28_1).f1).toList = a3.toList then (tetherlaw06_SecretBest.l0 k1 a2 a3 false x11_1 l1 (l1.length : Int) (wrap64 (x28_1 + 1)) t155 t156 t157 t158) else (if ((rd_T25 l1 x28_1).f1).toList = ([42] : List UInt8) then (tetherlaw06_SecretBest.l0 k1 a2 a3 false x11_1 l1 (l1.length : Int) (wrap64 (x28_1 + 1)) t155 t156 t157 t158) else (if x11_1.length < 1954687338268 then (tetherlaw06_SecretBest.l0 k1 a2 a3 false (x11_1 ++ [(⟨(rd_T25 l1 x28_1).f0, (rd_T25 l1 x28_1).f1, (rd_T25 l1 x28_1).f2, (rd_T25 l1 x28_1).f3⟩ : S25)]) l1 (l1.length : Int) (wrap64 (x28_1 + 1)) t155 t156 t157 t158) else (none)))) else (if x11_1.length < 1954687338268 then (tetherlaw06_SecretBest.l0 k1 a2 a3 false (x11_1 ++ [(⟨(rd_T25 l1 x28_1).f0, (rd_T25 l1 x28_1).f1, (rd_T25 l1 x28_1).f2, (rd_T25 l1 x28_1).f3⟩ : S25)]) l1 (l1.length : Int) (wrap64 (x28_1 + 1)) t155 t156 t157 t158) else (none)))) = some r := by rw [if_neg (show ¬ (false = true) by decide)] at H; exact H
                clear H
                have H := H1
                clear H1
                have LAD : (∃ y_ : List (S25), y_ = (x11_1 ++ [(⟨(rd_T25 l1 x28_1).f0, (rd_T25 l1 x28_1).f1, (rd_T25 l1 x28_1).f2, (rd_T25 l1 x28_1).f3⟩ : S25)]) ∧ ((tetherlaw06_SecretBest.l0 k1 a2 a3 false y_ l1 (l1.length : Int) (wrap64 (x28_1 + 1)) t155 t156 t157 t158) = some r) ∧ (x11_1.length < 1954687338268) ∧ ((((((rd_T25 l1 x28_1).f0).toList == a2.toList) = true) ∧ ((((rd_T25 l1 x28_1).f0).toList != a2.toList) = false) ∧ ((((rd_T25 l1 x28_1).f1).toList == a3.toList) = false) ∧ ((((rd_T25 l1 x28_1).f1).toList != a3.toList) = true) ∧ ((((rd_T25 l1 x28_1).f1).toList == ([42] : List UInt8)) = false) ∧ ((((rd_T25 l1 x28_1).f1).toList != ([42] : List UInt8)) = true)) ∨ (((((rd_T25 l1 x28_1).f0).toList == a2.toList) = false) ∧ ((((rd_T25 l1 x28_1).f0).toList != a2.toList) = true) ∧ ((((rd_T25 l1 x28_1).f0).toList == ([42] : List UInt8)) = true) ∧ ((((rd_T25 l1 x28_1).f0).toList != ([42] : List UInt8)) = false) ∧ ((((rd_T25 l1 x28_1).f1).toList == a3.toList) = false) ∧ ((((rd_T25 l1 x28_1).f1).toList != a3.toList) = true) ∧ ((((rd_T25 l1 x28_1).f1).toList == ([42] : List UInt8)) = false) ∧ ((((rd_T25 l1 x28_1).f1).toList != ([42] : List UInt8)) = true)) ∨ (((((rd_T25 l1 x28_1).f0).toList == a2.toList) = false) ∧ ((((rd_T25 l1 x28_1).f0).toList != a2.toList) = true) ∧ ((((rd_T25 l1 x28_1).f0).toList == ([42] : List UInt8)) = false) ∧ ((((rd_T25 l1 x28_1).f0).toList != ([42] : List UInt8)) = true)))) ∨ ((tetherlaw06_SecretBest.l0 k1 a2 a3 false x11_1 l1 (l1.length : Int) (wrap64 (x28_1 + 1)) t155 t156 t157 t158 = some r) ∧ ((((((rd_T25 l1 x28_1).f0).toList == a2.toList) = true) ∧ ((((rd_T25 l1 x28_1).f0).toList != a2.toList) = false) ∧ ((((rd_T25 l1 x28_1).f1).toList == a3.toList) = true) ∧ ((((rd_T25 l1 x28_1).f1).toList != a3.toList) = false)) ∨ (((((rd_T25 l1 x28_1).f0).toList == a2.toList) = true) ∧ ((((rd_T25 l1 x28_1).f0).toList != a2.toList) = false) ∧ ((((rd_T25 l1 x28_1).f1).toList == a3.toList) = false) ∧ ((((rd_T25 l1 x28_1).f1).toList != a3.toList) = true) ∧ ((((rd_T25 l1 x28_1).f1).toList == ([42] : List UInt8)) = true) ∧ ((((rd_T25 l1 x28_1).f1).toList != ([42] : List UInt8)) = false)) ∨ (((((rd_T25 l1 x28_1).f0).toList == a2.toList) = false) ∧ ((((rd_T25 l1 x28_1).f0).toList != a2.toList) = true) ∧ ((((rd_T25 l1 x28_1).f0).toList == ([42] : List UInt8)) = true) ∧ ((((rd_T25 l1 x28_1).f0).toList != ([42] : List UInt8)) = false) ∧ ((((rd_T25 l1 x28_1).f1).toList == a3.toList) = true) ∧ ((((rd_T25 l1 x28_1).f1).toList != a3.toList) = false)) ∨ (((((rd_T25 l1 x28_1).f0).toList == a2.toList) = false) ∧ ((((rd_T25 l1 x28_1).f0).toList != a2.toList) = true) ∧ ((((rd_T25 l1 x28_1).f0).toList == ([42] : List UInt8)) = true) ∧ ((((rd_T25 l1 x28_1).f0).toList != ([42] : List UInt8)) = false) ∧ ((((rd_T25 l1 x28_1).f1).toList == a3.toList) = false) ∧ ((((rd_T25 l1 x28_1).f1).toList != a3.toList) = true) ∧ ((((rd_T25 l1 x28_1).f1).toList == ([42] : List UInt8)) = true) ∧ ((((rd_T25 l1 x28_1).f1).toList != ([42] : List UInt8)) = false)))) := by
                  by_cases c118 : ((rd_T25 l1 x28_1).f0).toList = a2.toList
                  · rw [if_pos c118] at H
                    have c118b0 : (((rd_T25 l1 x28_1).f0).toList == a2.toList) = true := beq_iff_eq.mpr c118
                    have c118b1 : (((rd_T25 l1 x28_1).f0).toList != a2.toList) = false := bne_eq_false_iff_eq.mpr c118
                    clear c118
                    by_cases c119 : ((rd_T25 l1 x28_1).f1).toList = a3.toList
                    · rw [if_pos c119] at H
                      have c119b0 : (((rd_T25 l1 x28_1).f1).toList == a3.toList) = true := beq_iff_eq.mpr c119
                      have c119b1 : (((rd_T25 l1 x28_1).f1).toList != a3.toList) = false := bne_eq_false_iff_eq.mpr c119
                      clear c119
                      exact .inr ⟨H, (.inl ⟨c118b0, c118b1, c119b0, c119b1⟩)⟩
                    · rw [if_neg c119] at H
                      have c119b0 : (((rd_T25 l1 x28_1).f1).toList == a3.toList) = false := beq_eq_false_iff_ne.mpr c119
                      have c119b1 : (((rd_T25 l1 x28_1).f1).toList != a3.toList) = true := bne_iff_ne.mpr c119
                      by_cases c123 : ((rd_T25 l1 x28_1).f1).toList = ([42] : List UInt8)
                      · rw [if_pos c123] at H
                        have c123b0 : (((rd_T25 l1 x28_1).f1).toList == ([42] : List UInt8)) = true := beq_iff_eq.mpr c123
                        have c123b1 : (((rd_T25 l1 x28_1).f1).toList != ([42] : List UInt8)) = false := bne_eq_false_iff_eq.mpr c123
                        clear c123
                        exact .inr ⟨H, (.inr (.inl ⟨c118b0, c118b1, c119b0, c119b1, c123b0, c123b1⟩))⟩
                      · rw [if_neg c123] at H
                        have c123b0 : (((rd_T25 l1 x28_1).f1).toList == ([42] : List UInt8)) = false := beq_eq_false_iff_ne.mpr c123
                        have c123b1 : (((rd_T25 l1 x28_1).f1).toList != ([42] : List UInt8)) = true := bne_iff_ne.mpr c123
                        by_cases c127 : x11_1.length < 1954687338268
                        · rw [if_pos c127] at H
                          have LMc127 := Aside0.mk c127
                          clear c127
                          obtain ⟨y189, hy189⟩ : ∃ y_ : List (S25), y_ = (x11_1 ++ [(⟨(rd_T25 l1 x28_1).f0, (rd_T25 l1 x28_1).f1, (rd_T25 l1 x28_1).f2, (rd_T25 l1 x28_1).f3⟩ : S25)]) := ⟨_, rfl⟩
                          replace H : (tetherlaw06_SecretBest.l0 k1 a2 a3 false y189 l1 (l1.length : Int) (wrap64 (x28_1 + 1)) t155 t156 t157 t158) = some r := by first | (rw [hy189]; with_reducible exact H) | (have H2_ := (Option.bind_some _ _).symm.trans H; rw [hy189]; with_reducible exact H2_) | (have H2_ := (Option.bind_some _ _).symm.trans H; with_reducible exact H2_) | with_reducible exact H | (rw [hy189]; exact H) | exact H
                          have Ny189 := Aside0.mk hy189
                          clear hy189
                          exact .inl ⟨y189, Ny189.out, H, LMc127.out, (.inl ⟨c118b0, c118b1, c119b0, c119b1, c123b0, c123b1⟩)⟩
                        · rw [if_neg c127] at H
                          exact absurd H (by simp)
                  · rw [if_neg c118] at H
                    have c118b0 : (((rd_T25 l1 x28_1).f0).toList == a2.toList) = false := beq_eq_false_iff_ne.mpr c118
                    have c118b1 : (((rd_T25 l1 x28_1).f0).toList != a2.toList) = true := bne_iff_ne.mpr c118
                    by_cases c134 : ((rd_T25 l1 x28_1).f0).toList = ([42] : List UInt8)
                    · rw [if_pos c134] at H
                      have c134b0 : (((rd_T25 l1 x28_1).f0).toList == ([42] : List UInt8)) = true := beq_iff_eq.mpr c134
                      have c134b1 : (((rd_T25 l1 x28_1).f0).toList != ([42] : List UInt8)) = false := bne_eq_false_iff_eq.mpr c134
                      clear c134
                      by_cases c135 : ((rd_T25 l1 x28_1).f1).toList = a3.toList
                      · rw [if_pos c135] at H
                        have c135b0 : (((rd_T25 l1 x28_1).f1).toList == a3.toList) = true := beq_iff_eq.mpr c135
                        have c135b1 : (((rd_T25 l1 x28_1).f1).toList != a3.toList) = false := bne_eq_false_iff_eq.mpr c135
                        clear c135
                        exact .inr ⟨H, (.inr (.inr (.inl ⟨c118b0, c118b1, c134b0, c134b1, c135b0, c135b1⟩)))⟩
                      · rw [if_neg c135] at H
                        have c135b0 : (((rd_T25 l1 x28_1).f1).toList == a3.toList) = false := beq_eq_false_iff_ne.mpr c135
                        have c135b1 : (((rd_T25 l1 x28_1).f1).toList != a3.toList) = true := bne_iff_ne.mpr c135
                        by_cases c139 : ((rd_T25 l1 x28_1).f1).toList = ([42] : List UInt8)
                        · rw [if_pos c139] at H
                          have c139b0 : (((rd_T25 l1 x28_1).f1).toList == ([42] : List UInt8)) = true := beq_iff_eq.mpr c139
                          have c139b1 : (((rd_T25 l1 x28_1).f1).toList != ([42] : List UInt8)) = false := bne_eq_false_iff_eq.mpr c139
                          clear c139
                          exact .inr ⟨H, (.inr (.inr (.inr ⟨c118b0, c118b1, c134b0, c134b1, c135b0, c135b1, c139b0, c139b1⟩)))⟩
                        · rw [if_neg c139] at H
                          have c139b0 : (((rd_T25 l1 x28_1).f1).toList == ([42] : List UInt8)) = false := beq_eq_false_iff_ne.mpr c139
                          have c139b1 : (((rd_T25 l1 x28_1).f1).toList != ([42] : List UInt8)) = true := bne_iff_ne.mpr c139
                          by_cases c143 : x11_1.length < 1954687338268
                          · rw [if_pos c143] at H
                            have LMc143 := Aside0.mk c143
                            clear c143
                            obtain ⟨y192, hy192⟩ : ∃ y_ : List (S25), y_ = (x11_1 ++ [(⟨(rd_T25 l1 x28_1).f0, (rd_T25 l1 x28_1).f1, (rd_T25 l1 x28_1).f2, (rd_T25 l1 x28_1).f3⟩ : S25)]) := ⟨_, rfl⟩
                            replace H : (tetherlaw06_SecretBest.l0 k1 a2 a3 false y192 l1 (l1.length : Int) (wrap64 (x28_1 + 1)) t155 t156 t157 t158) = some r := by first | (rw [hy192]; with_reducible exact H) | (have H2_ := (Option.bind_some _ _).symm.trans H; rw [hy192]; with_reducible exact H2_) | (have H2_ := (Option.bind_some _ _).symm.trans H; with_reducible exact H2_) | with_reducible exact H | (rw [hy192]; exact H) | exact H
                            have Ny192 := Aside0.mk hy192
                            clear hy192
                            exact .inl ⟨y192, Ny192.out, H, LMc143.out, (.inr (.inl ⟨c118b0, c118b1, c134b0, c134b1, c135b0, c135b1, c139b0, c139b1⟩))⟩
                          · rw [if_neg c143] at H
                            exact absurd H (by simp)
                    · rw [if_neg c134] at H
                      have c134b0 : (((rd_T25 l1 x28_1).f0).toList == ([42] : List UInt8)) = false := beq_eq_false_iff_ne.mpr c134
                      have c134b1 : (((rd_T25 l1 x28_1).f0).toList != ([42] : List UInt8)) = true := bne_iff_ne.mpr c134
                      by_cases c150 : x11_1.length < 1954687338268
                      · rw [if_pos c150] at H
                        have LMc150 := Aside0.mk c150
                        clear c150
                        obtain ⟨y195, hy195⟩ : ∃ y_ : List (S25), y_ = (x11_1 ++ [(⟨(rd_T25 l1 x28_1).f0, (rd_T25 l1 x28_1).f1, (rd_T25 l1 x28_1).f2, (rd_T25 l1 x28_1).f3⟩ : S25)]) := ⟨_, rfl⟩
                        replace H : (tetherlaw06_SecretBest.l0 k1 a2 a3 false y195 l1 (l1.length : Int) (wrap64 (x28_1 + 1)) t155 t156 t157 t158) = some r := by first | (rw [hy195]; with_reducible exact H) | (have H2_ := (Option.bind_some _ _).symm.trans H; rw [hy195]; with_reducible exact H2_) | (have H2_ := (Option.bind_some _ _).symm.trans H; with_reducible exact H2_) | with_reducible exact H | (rw [hy195]; exact H) | exact H
                        have Ny195 := Aside0.mk hy195
                        clear hy195
                        exact .inl ⟨y195, Ny195.out, H, LMc150.out, (.inr (.inr ⟨c118b0, c118b1, c134b0, c134b1⟩))⟩
                      · rw [if_neg c150] at H
                        exact absurd H (by simp)
                clear H
                rcases LAD with ⟨y189, hy189, H, c127, D⟩ | ⟨H, D⟩
                · have LMc127 := Aside0.mk c127
                  clear c127
                  have Ny189 := Aside0.mk hy189
                  clear hy189
                  rcases D with ⟨c118b0, c118b1, c119b0, c119b1, c123b0, c123b1⟩ | ⟨c118b0, c118b1, c134b0, c134b1, c135b0, c135b1, c139b0, c139b1⟩ | ⟨c118b0, c118b1, c134b0, c134b1⟩
                  all_goals
                    have H' := Aside0.mk H
                    clear H
                    have p166 : 0 ≤ (x28_1 : Int) := of_decide_eq_true (by first | (with_reducible assumption) | assumption)
                    have q166 : x28_1 < (l1.length : Int) := of_decide_eq_true (by first | (with_reducible assumption) | assumption)
                    obtain ⟨ad166, A166_3, c166_3, e166, hx166_0, hx166_1, hx166_2, hx166_3, hl166_3, hi166_3⟩ := at_T25 (Kd.V_reads' HO_26.out).2.2 x28_1 p166 q166
                    cases e166
                    obtain ⟨ce166, hce166, hMe166, hcc166⟩ := Kd.V_get HO_26.out z25 x28_1 p166 (by first | exact q166 | exact of_decide_eq_true (by first | (with_reducible assumption) | assumption) | (have e_ := (Kd.V_reads' HO_26.out).1; omega))
                    obtain ⟨ua166_3, uc166_3, rfl, ul166_3, ge166_3⟩ := k25_openF hMe166
                    have hv166_3 := hcc166 3 _ rfl
                    rw [add_field _ _ 3 (by omega)] at hv166_3
                    replace hv166_3 := Option.some.inj (hv166_3.symm.trans hx166_3)
                    injection hv166_3 with hva_ hvn_ hvc_
                    rw [hva_] at ge166_3
                    rw [hvc_] at ul166_3
                    have HL166_3 := Aside0.mk (show Kd.V (Kd.int .i64) 2 _ w.heap.size _ _ ((rd_T25 l1 x28_1).f3) from Kd.V_mk ul166_3 ge166_3)
                    clear hva_ hvn_ hvc_ ge166_3 ul166_3
                    clear hcc166 hce166
                    have HR166_3 := Aside0.mk hi166_3
                    have HC166_3 := Aside0.mk hl166_3
                    clear hi166_3 hl166_3
                    replace p166 := eq_true p166
                    replace q166 := eq_true q166
                    go_wp2_with (first | ((with_reducible refine gate_dst (N := 13) rfl ?_); refine box_event ?hg (N := 13) ?hd (cs := #[.string (⟨#[]⟩ : ByteArray), .string (⟨#[]⟩ : ByteArray), .string (⟨#[]⟩ : ByteArray), .slice none 0 0]) (t := 25) ?hr ?_; (case hd => rfl); (case hg => rfl); (case hr => first | (go_simp; done) | (go_simp; rfl)); intro gb167 hg w128 hbox hb; have n0_ := Aside0.mk (Kd.N_below (Kd.N_elderB (by (with_reducible repeat (first | apply Kd.N_alloc | apply Kd.N_drewN | apply Kd.N_drew)); exact HO_11.out) gb167 (Nat.le_of_eq hg.symm)) hb); have n1_ := Aside0.mk (Kd.V_below (Kd.V_elderB (by (with_reducible repeat (first | apply Kd.V_alloc | apply Kd.V_drewN | apply Kd.V_drew)); exact HO_26.out) gb167 (Nat.le_of_eq hg.symm)) hb); have n2_ := Aside0.mk (Kd.R_below (by (with_reducible repeat (first | apply Kd.R_alloc | apply Kd.R_drewN | apply Kd.R_drew)); exact HO_163003.out) hb); have n3_ := Aside0.mk (Kd.V_below (Kd.V_elderB (by (with_reducible repeat (first | apply Kd.V_alloc | apply Kd.V_drewN | apply Kd.V_drew)); exact HL166_3.out) gb167 (Nat.le_of_eq hg.symm)) hb); have n4_ := Aside0.mk (blk_below (g := gb162) (o := .cells #[.string t155, .string t156, .string t157, .slice Ao10 t158.length co10] 25 (0, 0)) (by (with_reducible repeat (first | refine blk_drewN ?_ _ | refine blk_drew ?_ | refine blk_alloc ?_ _)); exact BK162.out) hb); have n5_ := Aside0.mk (Kd.C_below (by repeat (first | (with_reducible exact HR166_3.out) | (with_reducible refine Kd.C_alloc ?_ _) | (with_reducible refine Kd.C_drewN ?_ _) | (with_reducible refine Kd.C_drew ?_) | exact HR166_3.out)) hb); have n6_ := Aside0.mk (below_step (by repeat (first | (with_reducible first | exact HB.out | apply below_alloc | apply pw_below_drewN | apply below_drew1 | refine below_set ?_ GE162.out) | exact HB.out)) hb); have n7_ := Aside0.mk (hbox); have n8_ := Aside0.mk ((by rw [hg]; exact (below_size (by repeat (first | (with_reducible first | exact HB.out | apply below_alloc | apply pw_below_drewN | apply below_drew1 | refine below_set ?_ GE162.out) | exact HB.out))) : w.heap.size ≤ gb167)); have n9_ := Aside0.mk ((by rw [hg]; exact (below_size (by repeat (first | (with_reducible first | exact HB.out | apply below_alloc | apply pw_below_drewN | apply below_drew1 | refine below_set ?_ GE162.out) | exact HB.out))) : w.heap.size ≤ gb167)); have n10_ := Aside0.mk ((by rw [hg]; exact Nat.ne_of_lt (blk_lt (g := gb162) (o := .cells #[.string t155, .string t156, .string t157, .slice Ao10 t158.length co10] 25 (0, 0)) (by (with_reducible repeat (first | refine blk_drewN ?_ _ | refine blk_drew ?_ | refine blk_alloc ?_ _)); exact BK162.out)) : gb162 ≠ gb167)); have n11_ := Aside0.mk ((by rw [hg]; exact Nat.ne_of_gt (blk_lt (g := gb162) (o := .cells #[.string t155, .string t156, .string t157, .slice Ao10 t158.length co10] 25 (0, 0)) (by (with_reducible repeat (first | refine blk_drewN ?_ _ | refine blk_drew ?_ | refine blk_alloc ?_ _)); exact BK162.out)) : gb167 ≠ gb162)); clear HO_11; clear HO_26; clear HO_163003; clear HL166_3; clear BK162; clear HR166_3; clear HB; have HO_11 := n0_; have HO_26 := n1_; have HO_163003 := n2_; have HL166_3 := n3_; have BK162 := n4_; have HR166_3 := n5_; have HB := n6_; have BK167 := n7_; have GW167 := n8_; have GE167 := n9_; have NB162_167 := n10_; have NB167_162 := n11_; clear n0_ n1_ n2_ n3_ n4_ n5_ n6_ n7_ n8_ n9_ n10_ n11_; clear hb hbox hg; have hnb129 := NB167_162.out; have hnc129 := NB162_167.out; have hcz130_0 : w128.cell? ⟨gb167, 0, none⟩ = some (.string (⟨#[]⟩ : ByteArray)) := (blk_cell BK167.out 0).trans rfl; have hcz130_1 : w128.cell? ⟨gb167, 1, none⟩ = some (.string (⟨#[]⟩ : ByteArray)) := (blk_cell BK167.out 1).trans rfl; have hcz130_2 : w128.cell? ⟨gb167, 2, none⟩ = some (.string (⟨#[]⟩ : ByteArray)) := (blk_cell BK167.out 2).trans rfl; have hcz130_3 : w128.cell? ⟨gb167, 3, none⟩ = some (.slice none 0 0) := (blk_cell BK167.out 3).trans rfl; have hfz130_0 := blk_frozen BK167.out 0; have hfz130_1 := blk_frozen BK167.out 1; have hfz130_2 := blk_frozen BK167.out 2; have hfz130_3 := blk_frozen BK167.out 3) | ((with_reducible refine gate_store (t := 25) (p := 13) rfl ?_); refine store_event (t := 25) (p := 13) (v := ?vo_w131) (w1 := ((((w128.setCell ⟨gb167, 0, none⟩ (.string ((rd_T25 l1 x28_1).f0))).setCell ⟨gb167, 1, none⟩ (.string ((rd_T25 l1 x28_1).f1))).setCell ⟨gb167, 2, none⟩ (.string ((rd_T25 l1 x28_1).f2))).setCell ⟨gb167, 3, none⟩ (.slice A166_3 ((rd_T25 l1 x28_1).f3).length c166_3))) ?hg ?ho ?hn ?hr ?_; (case ho => rfl); (case hg => rfl); (case hn => rfl); (case hr => first | (go_simp; done) | (go_simp; rfl)); intro w131 hw; have n0_ : Aside0 (Kd.N k25 25 w131 w.heap.size (fun k_ => ((P0_ k_ ∨ P1_ k_) ∨ w.heap.size ≤ k_) ∧ some k_ ≠ (.slice Ao10 t158.length co10 : Value).ownBlock ∧ k_ ≠ gb162 ∧ k_ ≠ gb167) u11 x11_1) := ⟨(by rw [hw]; exact (by (with_reducible repeat (first | apply Kd.N_alloc | apply Kd.N_drewN | apply Kd.N_drew)); exact Kd.N_mono (Kd.N_far (p := ⟨gb167, 3, none⟩) (Kd.N_far (p := ⟨gb167, 2, none⟩) (Kd.N_far (p := ⟨gb167, 1, none⟩) (Kd.N_far (p := ⟨gb167, 0, none⟩) (Kd.N_mono HO_11.out (fun k_ hk => (⟨hk, hk.2⟩ : _ ∧ k_ ≠ gb167))) (fun _ hk => hk.2) (.string ((rd_T25 l1 x28_1).f0))) (fun _ hk => hk.2) (.string ((rd_T25 l1 x28_1).f1))) (fun _ hk => hk.2) (.string ((rd_T25 l1 x28_1).f2))) (fun _ hk => hk.2) (.slice A166_3 ((rd_T25 l1 x28_1).f3).length c166_3)) (fun _ hk => ⟨hk.1.1.1, ⟨hk.1.1.2.1, ⟨hk.1.1.2.2, hk.1.2⟩⟩⟩)))⟩; have n1_ : Aside0 (Kd.V k25 25 w131 w.heap.size (fun k_ => ((P0_ k_ ∨ P1_ k_) ∨ w.heap.size ≤ k_) ∧ some k_ ≠ (u11 : Value).ownBlock ∧ some k_ ≠ (.slice Ao10 t158.length co10 : Value).ownBlock ∧ k_ ≠ gb162 ∧ k_ ≠ gb167) (.slice (some ad166) l1.length c1) l1) := ⟨(by rw [hw]; exact (by (with_reducible repeat (first | apply Kd.V_alloc | apply Kd.V_drewN | apply Kd.V_drew)); exact Kd.V_mono (Kd.V_far (p := ⟨gb167, 3, none⟩) (Kd.V_far (p := ⟨gb167, 2, none⟩) (Kd.V_far (p := ⟨gb167, 1, none⟩) (Kd.V_far (p := ⟨gb167, 0, none⟩) (Kd.V_mono HO_26.out (fun k_ hk => (⟨hk, hk.2⟩ : _ ∧ k_ ≠ gb167))) (fun _ hk => hk.2) (.string ((rd_T25 l1 x28_1).f0))) (fun _ hk => hk.2) (.string ((rd_T25 l1 x28_1).f1))) (fun _ hk => hk.2) (.string ((rd_T25 l1 x28_1).f2))) (fun _ hk => hk.2) (.slice A166_3 ((rd_T25 l1 x28_1).f3).length c166_3)) (fun _ hk => ⟨hk.1.1.1, ⟨hk.1.1.2.1, ⟨hk.1.1.2.2.1, ⟨hk.1.1.2.2.2, hk.1.2⟩⟩⟩⟩)))⟩; have n2_ : Aside0 (Kd.R (Kd.int .i64) 2 w131 w.heap.size (fun k_ => (w.heap.size ≤ k_)) (.slice Ao10 t158.length co10) t158) := ⟨(by rw [hw]; exact (by (with_reducible repeat (first | apply Kd.R_alloc | apply Kd.R_drewN | apply Kd.R_drew)); exact Kd.R_mono (Kd.R_far (p := ⟨gb167, 3, none⟩) (Kd.R_far (p := ⟨gb167, 2, none⟩) (Kd.R_far (p := ⟨gb167, 1, none⟩) (Kd.R_far (p := ⟨gb167, 0, none⟩) (Kd.R_types HO_163003.out BK167.out (by decide)) (fun _ hk => hk.2) (.string ((rd_T25 l1 x28_1).f0))) (fun _ hk => hk.2) (.string ((rd_T25 l1 x28_1).f1))) (fun _ hk => hk.2) (.string ((rd_T25 l1 x28_1).f2))) (fun _ hk => hk.2) (.slice A166_3 ((rd_T25 l1 x28_1).f3).length c166_3)) (fun _ hk => hk.1)))⟩; have n3_ : Aside0 (Kd.V (Kd.int .i64) 2 w131 w.heap.size (fun k_ => ((P0_ k_ ∨ P1_ k_) ∨ w.heap.size ≤ k_) ∧ some k_ ≠ (u11 : Value).ownBlock ∧ some k_ ≠ (.slice Ao10 t158.length co10 : Value).ownBlock ∧ k_ ≠ gb162 ∧ k_ ≠ gb167) (.slice A166_3 ((rd_T25 l1 x28_1).f3).length c166_3) ((rd_T25 l1 x28_1).f3)) := ⟨(by rw [hw]; exact (by (with_reducible repeat (first | apply Kd.V_alloc | apply Kd.V_drewN | apply Kd.V_drew)); exact Kd.V_mono (Kd.V_far (p := ⟨gb167, 3, none⟩) (Kd.V_far (p := ⟨gb167, 2, none⟩) (Kd.V_far (p := ⟨gb167, 1, none⟩) (Kd.V_far (p := ⟨gb167, 0, none⟩) (Kd.V_mono HL166_3.out (fun k_ hk => (⟨hk, hk.2⟩ : _ ∧ k_ ≠ gb167))) (fun _ hk => hk.2) (.string ((rd_T25 l1 x28_1).f0))) (fun _ hk => hk.2) (.string ((rd_T25 l1 x28_1).f1))) (fun _ hk => hk.2) (.string ((rd_T25 l1 x28_1).f2))) (fun _ hk => hk.2) (.slice A166_3 ((rd_T25 l1 x28_1).f3).length c166_3)) (fun _ hk => ⟨hk.1.1.1, ⟨hk.1.1.2.1, ⟨hk.1.1.2.2.1, ⟨hk.1.1.2.2.2, hk.1.2⟩⟩⟩⟩)))⟩; have n4_ : Aside0 (w131.heap[gb162]? = some (.cells #[.string t155, .string t156, .string t157, .slice Ao10 t158.length co10] 25 (0, 0))) := ⟨(by rw [hw]; exact (by (with_reducible repeat (first | refine blk_drewN ?_ _ | refine blk_drew ?_ | refine blk_alloc ?_ _)); refine blk_far ?_ NB162_167.out _; (with_reducible repeat (first | refine blk_drewN ?_ _ | refine blk_drew ?_ | refine blk_alloc ?_ _)); refine blk_far ?_ NB162_167.out _; (with_reducible repeat (first | refine blk_drewN ?_ _ | refine blk_drew ?_ | refine blk_alloc ?_ _)); refine blk_far ?_ NB162_167.out _; (with_reducible repeat (first | refine blk_drewN ?_ _ | refine blk_drew ?_ | refine blk_alloc ?_ _)); refine blk_far ?_ NB162_167.out _; (with_reducible repeat (first | refine blk_drewN ?_ _ | refine blk_drew ?_ | refine blk_alloc ?_ _)); exact BK162.out))⟩; have n5_ : Aside0 (w131.heap[gb167]? = some (.cells #[.string ((rd_T25 l1 x28_1).f0), .string ((rd_T25 l1 x28_1).f1), .string ((rd_T25 l1 x28_1).f2), .slice A166_3 ((rd_T25 l1 x28_1).f3).length c166_3] 25 (0, 0))) := ⟨(by rw [hw]; exact (by (with_reducible repeat (first | refine blk_drewN ?_ _ | refine blk_drew ?_ | refine blk_alloc ?_ _)); refine blk_put (cs := #[.string ((rd_T25 l1 x28_1).f0), .string ((rd_T25 l1 x28_1).f1), .string ((rd_T25 l1 x28_1).f2), .slice none 0 0]) ?_ 3 _ rfl; (with_reducible repeat (first | refine blk_drewN ?_ _ | refine blk_drew ?_ | refine blk_alloc ?_ _)); refine blk_put (cs := #[.string ((rd_T25 l1 x28_1).f0), .string ((rd_T25 l1 x28_1).f1), .string (⟨#[]⟩ : ByteArray), .slice none 0 0]) ?_ 2 _ rfl; (with_reducible repeat (first | refine blk_drewN ?_ _ | refine blk_drew ?_ | refine blk_alloc ?_ _)); refine blk_put (cs := #[.string ((rd_T25 l1 x28_1).f0), .string (⟨#[]⟩ : ByteArray), .string (⟨#[]⟩ : ByteArray), .slice none 0 0]) ?_ 1 _ rfl; (with_reducible repeat (first | refine blk_drewN ?_ _ | refine blk_drew ?_ | refine blk_alloc ?_ _)); refine blk_put (cs := #[.string (⟨#[]⟩ : ByteArray), .string (⟨#[]⟩ : ByteArray), .string (⟨#[]⟩ : ByteArray), .slice none 0 0]) ?_ 0 _ rfl; (with_reducible repeat (first | refine blk_drewN ?_ _ | refine blk_drew ?_ | refine blk_alloc ?_ _)); exact BK167.out))⟩; have n6_ : Aside0 (Below w.heap.size w w131) := ⟨(by rw [hw]; exact (by repeat (first | (with_reducible first | exact HB.out | apply below_alloc | apply pw_below_drewN | apply below_drew1 | refine below_set ?_ GE162.out | refine below_set ?_ GE167.out) | exact HB.out)))⟩; clear hw; clear HO_11; clear HO_26; clear HO_163003; clear HL166_3; clear BK162; clear BK167; clear HB; have HO_11 := n0_; have HO_26 := n1_; have HO_163003 := n2_; have HL166_3 := n3_; have BK162 := n4_; have BK167 := n5_; have HB := n6_; clear n0_ n1_ n2_ n3_ n4_ n5_ n6_; have hcz132_0 : w131.cell? ⟨gb167, 0, none⟩ = some (.string ((rd_T25 l1 x28_1).f0)) := (blk_cell BK167.out 0).trans rfl; have hcz132_1 : w131.cell? ⟨gb167, 1, none⟩ = some (.string ((rd_T25 l1 x28_1).f1)) := (blk_cell BK167.out 1).trans rfl; have hcz132_2 : w131.cell? ⟨gb167, 2, none⟩ = some (.string ((rd_T25 l1 x28_1).f2)) := (blk_cell BK167.out 2).trans rfl; have hcz132_3 : w131.cell? ⟨gb167, 3, none⟩ = some (.slice A166_3 ((rd_T25 l1 x28_1).f3).length c166_3) := (blk_cell BK167.out 3).trans rfl; have hfz132_0 := blk_frozen BK167.out 0; have hfz132_1 := blk_frozen BK167.out 1; have hfz132_2 := blk_frozen BK167.out 2; have hfz132_3 := blk_frozen BK167.out 3) | ((with_reducible refine gate_builtin (b := .append) (xs := #[.tmp 69, .tmp 71]) rfl ?_); at_builtin; refine Kd.N_append k25 (w0 := w) w.heap.size rfl (.tmp 69) (.tmp 71) 22 25 (.agg #[(.string ⟨#[]⟩), (.string ⟨#[]⟩), (.string ⟨#[]⟩), (.slice none 0 0)]) 72 rfl Tryd.underlying22 info25 rfl (by decide) (by omega) u11 x11_1 (⟨(rd_T25 l1 x28_1).f0, (rd_T25 l1 x28_1).f1, (rd_T25 l1 x28_1).f2, (rd_T25 l1 x28_1).f3⟩ : S25) [.string ((rd_T25 l1 x28_1).f0), .string ((rd_T25 l1 x28_1).f1), .string ((rd_T25 l1 x28_1).f2), .slice A166_3 ((rd_T25 l1 x28_1).f3).length c166_3] (fun k_ => ((P0_ k_ ∨ P1_ k_) ∨ w.heap.size ≤ k_) ∧ some k_ ≠ (.slice Ao10 t158.length co10 : Value).ownBlock ∧ k_ ≠ gb162 ∧ k_ ≠ gb167) (fun k_ => ((fun k_ => ((P0_ k_ ∨ P1_ k_) ∨ w.heap.size ≤ k_) ∧ some k_ ≠ (.slice Ao10 t158.length co10 : Value).ownBlock ∧ k_ ≠ gb162 ∧ k_ ≠ gb167)) k_ ∧ some k_ ≠ (u11 : Value).ownBlock) rfl rfl ?aP (fun _ hk => hk) ?aF ?aO ?aB ?aS ?aL ?_; (case aP => exact (k25_mkF _ _ (⟨(rd_T25 l1 x28_1).f0, (rd_T25 l1 x28_1).f1, (rd_T25 l1 x28_1).f2, (rd_T25 l1 x28_1).f3⟩ : S25) (Kd.V_reads' (Kd.V_mono (ok' := (fun k_ => ((fun k_ => ((P0_ k_ ∨ P1_ k_) ∨ w.heap.size ≤ k_) ∧ some k_ ≠ (.slice Ao10 t158.length co10 : Value).ownBlock ∧ k_ ≠ gb162 ∧ k_ ≠ gb167)) k_ ∧ some k_ ≠ (u11 : Value).ownBlock)) (HL166_3.out) (fun k_ hk => ⟨⟨hk.1, ⟨hk.2.2.1, ⟨hk.2.2.2.1, hk.2.2.2.2⟩⟩⟩, hk.2.1⟩))).2.1 (Kd.V_F (Kd.V_mono (ok' := (fun k_ => ((fun k_ => ((P0_ k_ ∨ P1_ k_) ∨ w.heap.size ≤ k_) ∧ some k_ ≠ (.slice Ao10 t158.length co10 : Value).ownBlock ∧ k_ ≠ gb162 ∧ k_ ≠ gb167)) k_ ∧ some k_ ≠ (u11 : Value).ownBlock)) (HL166_3.out) (fun k_ hk => ⟨⟨hk.1, ⟨hk.2.2.1, ⟨hk.2.2.2.1, hk.2.2.2.2⟩⟩⟩, hk.2.1⟩))))); (case aB => exact (by repeat (first | (with_reducible first | exact HB.out | apply below_alloc | apply pw_below_drewN | apply below_drew1 | refine below_set ?_ GE162.out | refine below_set ?_ GE167.out) | exact HB.out))); (case aF => exact (fun k_ hk => ⟨(.inr (Nat.le_trans (below_size (by repeat (first | (with_reducible first | exact HB.out | apply below_alloc | apply pw_below_drewN | apply below_drew1 | refine below_set ?_ GE162.out | refine below_set ?_ GE167.out) | exact HB.out))) hk)), Kd.fresh' (Kd.R_lt (by (with_reducible repeat (first | apply Kd.R_alloc | apply Kd.R_drewN | apply Kd.R_drew)); exact HO_163003.out)) k_ hk, Kd.freshB (g := gb162) (o := .cells #[.string t155, .string t156, .string t157, .slice Ao10 t158.length co10] 25 (0, 0)) (by (with_reducible repeat (first | refine blk_drewN ?_ _ | refine blk_drew ?_ | refine blk_alloc ?_ _)); exact BK162.out) k_ hk, Kd.freshB (g := gb167) (o := .cells #[.string ((rd_T25 l1 x28_1).f0), .string ((rd_T25 l1 x28_1).f1), .string ((rd_T25 l1 x28_1).f2), .slice A166_3 ((rd_T25 l1 x28_1).f3).length c166_3] 25 (0, 0)) (by (with_reducible repeat (first | refine blk_drewN ?_ _ | refine blk_drew ?_ | refine blk_alloc ?_ _)); exact BK167.out) k_ hk⟩)); (case aO => exact (by (with_reducible repeat (first | apply Kd.N_alloc | apply Kd.N_drewN | apply Kd.N_drew)); exact HO_11.out)); (case aS => exact (below_size (by repeat (first | (with_reducible first | exact HB.out | apply below_alloc | apply pw_below_drewN | apply below_drew1 | refine below_set ?_ GE162.out | refine below_set ?_ GE167.out) | exact HB.out)))); (case aL => have := LMc127.out; omega); intro v190 w133 ho hb hg hat; rw [← Ny189.out] at ho; have n0_ := Aside0.mk (Kd.V_afterv (ok := (fun k_ => ((P0_ k_ ∨ P1_ k_) ∨ w.heap.size ≤ k_) ∧ some k_ ≠ (.slice Ao10 t158.length co10 : Value).ownBlock ∧ k_ ≠ gb162 ∧ k_ ≠ gb167)) (by (with_reducible repeat (first | apply Kd.V_alloc | apply Kd.V_drewN | apply Kd.V_drew)); exact Kd.V_mono HO_26.out (fun _ hk => ⟨⟨hk.1, ⟨hk.2.2.1, ⟨hk.2.2.2.1, hk.2.2.2.2⟩⟩⟩, hk.2.1⟩)) hg hat); have n1_ := Aside0.mk (Kd.R_over' (by (with_reducible repeat (first | apply Kd.R_alloc | apply Kd.R_drewN | apply Kd.R_drew)); exact HO_163003.out) (Kd.N_typed (by (with_reducible repeat (first | apply Kd.N_alloc | apply Kd.N_drewN | apply Kd.N_drew)); exact HO_11.out)) (by decide) hg); have n2_ := Aside0.mk (blk_grown (g := gb162) (o := .cells #[.string t155, .string t156, .string t157, .slice Ao10 t158.length co10] 25 (0, 0)) (by (with_reducible repeat (first | refine blk_drewN ?_ _ | refine blk_drew ?_ | refine blk_alloc ?_ _)); exact BK162.out) hg (Kd.N_away HO_11.out (fun _ hk => hk.2.2.1))); have n3_ := Aside0.mk (Kd.V_afterv (ok := (fun k_ => ((P0_ k_ ∨ P1_ k_) ∨ w.heap.size ≤ k_) ∧ some k_ ≠ (.slice Ao10 t158.length co10 : Value).ownBlock ∧ k_ ≠ gb162 ∧ k_ ≠ gb167)) (by (with_reducible repeat (first | apply Kd.V_alloc | apply Kd.V_drewN | apply Kd.V_drew)); exact Kd.V_mono HL166_3.out (fun _ hk => ⟨⟨hk.1, ⟨hk.2.2.1, ⟨hk.2.2.2.1, hk.2.2.2.2⟩⟩⟩, hk.2.1⟩)) hg hat); have n4_ := Aside0.mk (blk_grown (g := gb167) (o := .cells #[.string ((rd_T25 l1 x28_1).f0), .string ((rd_T25 l1 x28_1).f1), .string ((rd_T25 l1 x28_1).f2), .slice A166_3 ((rd_T25 l1 x28_1).f3).length c166_3] 25 (0, 0)) (by (with_reducible repeat (first | refine blk_drewN ?_ _ | refine blk_drew ?_ | refine blk_alloc ?_ _)); exact BK167.out) hg (Kd.N_away HO_11.out (fun _ hk => hk.2.2.2))); have n5_ := Aside0.mk (hb); have n6_ := Aside0.mk (ho); clear HO_26; clear HO_163003; clear BK162; clear HL166_3; clear BK167; clear HB; clear HO_11; have HO_26 := n0_; have HO_163003 := n1_; have BK162 := n2_; have HL166_3 := n3_; have BK167 := n4_; have HB := n5_; have HO191 := n6_; clear n0_ n1_ n2_ n3_ n4_ n5_ n6_; clear ho hb hg hat))
                    go_roundg k1
                    case measure => have := HK1.out; omega
                    case rel => exact ⟨(y189), (wrap64 (x28_1 + 1)), (by first | rfl | (simp; done) | (simp [*]; done)), H', ⟨by have := HK1.out; omega⟩, ⟨by (with_reducible repeat (first | apply Kd.N_alloc | apply Kd.N_drewN | apply Kd.N_drew)); exact Kd.N_mono HO191.out (fun _ hk => ⟨hk.1, ⟨hk.2.1, hk.2.2.1⟩⟩)⟩, ⟨by (with_reducible repeat (first | apply Kd.V_alloc | apply Kd.V_drewN | apply Kd.V_drew)); exact Kd.V_mono HO_26.out (fun _ hk => ⟨hk.1.1, ⟨hk.2, ⟨hk.1.2.1, hk.1.2.2.1⟩⟩⟩)⟩, ⟨by (with_reducible repeat (first | apply Kd.R_alloc | apply Kd.R_drewN | apply Kd.R_drew)); exact HO_163003.out⟩, ⟨by (with_reducible repeat (first | refine blk_drewN ?_ _ | refine blk_drew ?_ | refine blk_alloc ?_ _)); exact BK162.out⟩, ⟨by repeat (first | (with_reducible first | exact HB.out | apply below_alloc | apply pw_below_drewN | apply below_drew1 | refine below_set ?_ GE162.out | refine below_set ?_ GE167.out) | exact HB.out)⟩⟩
                · rcases D with ⟨c118b0, c118b1, c119b0, c119b1⟩ | ⟨c118b0, c118b1, c119b0, c119b1, c123b0, c123b1⟩ | ⟨c118b0, c118b1, c134b0, c134b1, c135b0, c135b1⟩ | ⟨c118b0, c118b1, c134b0, c134b1, c135b0, c135b1, c139b0, c139b1⟩
                  all_goals
                    have H' := Aside0.mk H
                    clear H
                    have p166 : 0 ≤ (x28_1 : Int) := of_decide_eq_true (by first | (with_reducible assumption) | assumption)
                    have q166 : x28_1 < (l1.length : Int) := of_decide_eq_true (by first | (with_reducible assumption) | assumption)
                    obtain ⟨ad166, A166_3, c166_3, e166, hx166_0, hx166_1, hx166_2, hx166_3, hl166_3, hi166_3⟩ := at_T25 (Kd.V_reads' HO_26.out).2.2 x28_1 p166 q166
                    cases e166
                    obtain ⟨ce166, hce166, hMe166, hcc166⟩ := Kd.V_get HO_26.out z25 x28_1 p166 (by first | exact q166 | exact of_decide_eq_true (by first | (with_reducible assumption) | assumption) | (have e_ := (Kd.V_reads' HO_26.out).1; omega))
                    obtain ⟨ua166_3, uc166_3, rfl, ul166_3, ge166_3⟩ := k25_openF hMe166
                    have hv166_3 := hcc166 3 _ rfl
                    rw [add_field _ _ 3 (by omega)] at hv166_3
                    replace hv166_3 := Option.some.inj (hv166_3.symm.trans hx166_3)
                    injection hv166_3 with hva_ hvn_ hvc_
                    rw [hva_] at ge166_3
                    rw [hvc_] at ul166_3
                    have HL166_3 := Aside0.mk (show Kd.V (Kd.int .i64) 2 _ w.heap.size _ _ ((rd_T25 l1 x28_1).f3) from Kd.V_mk ul166_3 ge166_3)
                    clear hva_ hvn_ hvc_ ge166_3 ul166_3
                    clear hcc166 hce166
                    have HR166_3 := Aside0.mk hi166_3
                    have HC166_3 := Aside0.mk hl166_3
                    clear hi166_3 hl166_3
                    replace p166 := eq_true p166
                    replace q166 := eq_true q166
                    go_wp2_with (first | ((with_reducible refine gate_dst (N := 13) rfl ?_); refine box_event ?hg (N := 13) ?hd (cs := #[.string (⟨#[]⟩ : ByteArray), .string (⟨#[]⟩ : ByteArray), .string (⟨#[]⟩ : ByteArray), .slice none 0 0]) (t := 25) ?hr ?_; (case hd => rfl); (case hg => rfl); (case hr => first | (go_simp; done) | (go_simp; rfl)); intro gb167 hg w120 hbox hb; have n0_ := Aside0.mk (Kd.N_below (Kd.N_elderB (by (with_reducible repeat (first | apply Kd.N_alloc | apply Kd.N_drewN | apply Kd.N_drew)); exact HO_11.out) gb167 (Nat.le_of_eq hg.symm)) hb); have n1_ := Aside0.mk (Kd.V_below (Kd.V_elderB (by (with_reducible repeat (first | apply Kd.V_alloc | apply Kd.V_drewN | apply Kd.V_drew)); exact HO_26.out) gb167 (Nat.le_of_eq hg.symm)) hb); have n2_ := Aside0.mk (Kd.R_below (by (with_reducible repeat (first | apply Kd.R_alloc | apply Kd.R_drewN | apply Kd.R_drew)); exact HO_163003.out) hb); have n3_ := Aside0.mk (Kd.V_below (Kd.V_elderB (by (with_reducible repeat (first | apply Kd.V_alloc | apply Kd.V_drewN | apply Kd.V_drew)); exact HL166_3.out) gb167 (Nat.le_of_eq hg.symm)) hb); have n4_ := Aside0.mk (blk_below (g := gb162) (o := .cells #[.string t155, .string t156, .string t157, .slice Ao10 t158.length co10] 25 (0, 0)) (by (with_reducible repeat (first | refine blk_drewN ?_ _ | refine blk_drew ?_ | refine blk_alloc ?_ _)); exact BK162.out) hb); have n5_ := Aside0.mk (Kd.C_below (by repeat (first | (with_reducible exact HR166_3.out) | (with_reducible refine Kd.C_alloc ?_ _) | (with_reducible refine Kd.C_drewN ?_ _) | (with_reducible refine Kd.C_drew ?_) | exact HR166_3.out)) hb); have n6_ := Aside0.mk (below_step (by repeat (first | (with_reducible first | exact HB.out | apply below_alloc | apply pw_below_drewN | apply below_drew1 | refine below_set ?_ GE162.out) | exact HB.out)) hb); have n7_ := Aside0.mk (hbox); have n8_ := Aside0.mk ((by rw [hg]; exact (below_size (by repeat (first | (with_reducible first | exact HB.out | apply below_alloc | apply pw_below_drewN | apply below_drew1 | refine below_set ?_ GE162.out) | exact HB.out))) : w.heap.size ≤ gb167)); have n9_ := Aside0.mk ((by rw [hg]; exact (below_size (by repeat (first | (with_reducible first | exact HB.out | apply below_alloc | apply pw_below_drewN | apply below_drew1 | refine below_set ?_ GE162.out) | exact HB.out))) : w.heap.size ≤ gb167)); have n10_ := Aside0.mk ((by rw [hg]; exact Nat.ne_of_lt (blk_lt (g := gb162) (o := .cells #[.string t155, .string t156, .string t157, .slice Ao10 t158.length co10] 25 (0, 0)) (by (with_reducible repeat (first | refine blk_drewN ?_ _ | refine blk_drew ?_ | refine blk_alloc ?_ _)); exact BK162.out)) : gb162 ≠ gb167)); have n11_ := Aside0.mk ((by rw [hg]; exact Nat.ne_of_gt (blk_lt (g := gb162) (o := .cells #[.string t155, .string t156, .string t157, .slice Ao10 t158.length co10] 25 (0, 0)) (by (with_reducible repeat (first | refine blk_drewN ?_ _ | refine blk_drew ?_ | refine blk_alloc ?_ _)); exact BK162.out)) : gb167 ≠ gb162)); clear HO_11; clear HO_26; clear HO_163003; clear HL166_3; clear BK162; clear HR166_3; clear HB; have HO_11 := n0_; have HO_26 := n1_; have HO_163003 := n2_; have HL166_3 := n3_; have BK162 := n4_; have HR166_3 := n5_; have HB := n6_; have BK167 := n7_; have GW167 := n8_; have GE167 := n9_; have NB162_167 := n10_; have NB167_162 := n11_; clear n0_ n1_ n2_ n3_ n4_ n5_ n6_ n7_ n8_ n9_ n10_ n11_; clear hb hbox hg; have hnb121 := NB167_162.out; have hnc121 := NB162_167.out; have hcz122_0 : w120.cell? ⟨gb167, 0, none⟩ = some (.string (⟨#[]⟩ : ByteArray)) := (blk_cell BK167.out 0).trans rfl; have hcz122_1 : w120.cell? ⟨gb167, 1, none⟩ = some (.string (⟨#[]⟩ : ByteArray)) := (blk_cell BK167.out 1).trans rfl; have hcz122_2 : w120.cell? ⟨gb167, 2, none⟩ = some (.string (⟨#[]⟩ : ByteArray)) := (blk_cell BK167.out 2).trans rfl; have hcz122_3 : w120.cell? ⟨gb167, 3, none⟩ = some (.slice none 0 0) := (blk_cell BK167.out 3).trans rfl; have hfz122_0 := blk_frozen BK167.out 0; have hfz122_1 := blk_frozen BK167.out 1; have hfz122_2 := blk_frozen BK167.out 2; have hfz122_3 := blk_frozen BK167.out 3))
                    go_roundg k1
                    case measure => have := HK1.out; omega
                    case rel => exact ⟨(x11_1), (wrap64 (x28_1 + 1)), (by first | rfl | (simp; done) | (simp [*]; done)), H', ⟨by have := HK1.out; omega⟩, ⟨by (with_reducible repeat (first | apply Kd.N_alloc | apply Kd.N_drewN | apply Kd.N_drew)); exact Kd.N_mono (Kd.N_far (p := ⟨gb167, 3, none⟩) (Kd.N_far (p := ⟨gb167, 2, none⟩) (Kd.N_far (p := ⟨gb167, 1, none⟩) (Kd.N_far (p := ⟨gb167, 0, none⟩) (Kd.N_mono HO_11.out (fun k_ hk => (⟨hk, hk.2⟩ : _ ∧ k_ ≠ gb167))) (fun _ hk => hk.2) (.string ((rd_T25 l1 x28_1).f0))) (fun _ hk => hk.2) (.string ((rd_T25 l1 x28_1).f1))) (fun _ hk => hk.2) (.string ((rd_T25 l1 x28_1).f2))) (fun _ hk => hk.2) (.slice A166_3 ((rd_T25 l1 x28_1).f3).length c166_3)) (fun _ hk => ⟨hk.1.1.1, ⟨hk.1.1.2.1, hk.1.1.2.2⟩⟩)⟩, ⟨by (with_reducible repeat (first | apply Kd.V_alloc | apply Kd.V_drewN | apply Kd.V_drew)); exact Kd.V_mono (Kd.V_far (p := ⟨gb167, 3, none⟩) (Kd.V_far (p := ⟨gb167, 2, none⟩) (Kd.V_far (p := ⟨gb167, 1, none⟩) (Kd.V_far (p := ⟨gb167, 0, none⟩) (Kd.V_mono HO_26.out (fun k_ hk => (⟨hk, hk.2⟩ : _ ∧ k_ ≠ gb167))) (fun _ hk => hk.2) (.string ((rd_T25 l1 x28_1).f0))) (fun _ hk => hk.2) (.string ((rd_T25 l1 x28_1).f1))) (fun _ hk => hk.2) (.string ((rd_T25 l1 x28_1).f2))) (fun _ hk => hk.2) (.slice A166_3 ((rd_T25 l1 x28_1).f3).length c166_3)) (fun _ hk => ⟨hk.1.1.1, ⟨hk.1.1.2.1, ⟨hk.1.1.2.2.1, hk.1.1.2.2.2⟩⟩⟩)⟩, ⟨by (with_reducible repeat (first | apply Kd.R_alloc | apply Kd.R_drewN | apply Kd.R_drew)); exact Kd.R_mono (Kd.R_far (p := ⟨gb167, 3, none⟩) (Kd.R_far (p := ⟨gb167, 2, none⟩) (Kd.R_far (p := ⟨gb167, 1, none⟩) (Kd.R_far (p := ⟨gb167, 0, none⟩) (Kd.R_types HO_163003.out BK167.out (by decide)) (fun _ hk => hk.2) (.string ((rd_T25 l1 x28_1).f0))) (fun _ hk => hk.2) (.string ((rd_T25 l1 x28_1).f1))) (fun _ hk => hk.2) (.string ((rd_T25 l1 x28_1).f2))) (fun _ hk => hk.2) (.slice A166_3 ((rd_T25 l1 x28_1).f3).length c166_3)) (fun _ hk => hk.1)⟩, ⟨by (with_reducible repeat (first | refine blk_drewN ?_ _ | refine blk_drew ?_ | refine blk_alloc ?_ _)); refine blk_far ?_ NB162_167.out _; (with_reducible repeat (first | refine blk_drewN ?_ _ | refine blk_drew ?_ | refine blk_alloc ?_ _)); refine blk_far ?_ NB162_167.out _; (with_reducible repeat (first | refine blk_drewN ?_ _ | refine blk_drew ?_ | refine blk_alloc ?_ _)); refine blk_far ?_ NB162_167.out _; (with_reducible repeat (first | refine blk_drewN ?_ _ | refine blk_drew ?_ | refine blk_alloc ?_ _)); refine blk_far ?_ NB162_167.out _; (with_reducible repeat (first | refine blk_drewN ?_ _ | refine blk_drew ?_ | refine blk_alloc ?_ _)); exact BK162.out⟩, ⟨by repeat (first | (with_reducible first | exact HB.out | apply below_alloc | apply pw_below_drewN | apply below_drew1 | refine below_set ?_ GE162.out | refine below_set ?_ GE167.out) | exact HB.out)⟩⟩
            · rw [if_neg c14] at H
              exact absurd H (by simp)
          · rw [if_neg c13] at H
            exact absurd H (by simp)
        · rw [if_neg c12] at H
          have c12b0 : decide (x28_1 < (l1.length : Int)) = false := decide_eq_false c12
          clear c12
          replace H := Option.bind_eq_some_iff.mp H
          obtain ⟨⟨t198, t199, t200, t201, t204⟩, A1570, H⟩ := H
          replace H : (if (t161 != t204) = true then (tetherlaw06_SecretBest.j1 k1 a2 a3 t161 true t155 t156 t157 t158) else ((tetherref06_One.f k1 t155 t156 t157 t158 t198 t199 t200 t201).bind fun t206 => (tetherlaw06_SecretBest.j1 k1 a2 a3 t161 (!t206) t155 t156 t157 t158))) = some r := H
          have A157 := Aside0.mk A1570
          clear A1570
          have HC158 := Aside0.mk H
          clear H
          obtain ⟨Ao159, co159, eo159⟩ := Kd.N_slice HO_11.out
          subst eo159
          go_upto_region 11 with (first | ((with_reducible refine gate_callee (f := 5) rfl ?_); refine goesL_ (some 78) rfl rfl Tryd.func5 (by kernel_rfl) rfl #[.slice Ao159 x11_1.length co159, .string a2, .string a3] rfl (by (try simp only [List.map_toArray, List.map_cons, List.map_nil]); first | done | rfl | (simp only [List.length_drop, List.length_take]; rfl)) ?_; (with_reducible refine (secret_Find.calls k1 _ _ x11_1 a2 a3 t198 t199 t200 t201 t204 _ ?side1 ?side2 A157.out).mono ?_); (case side1 => repeat (first | exact (Kd.N_reads' HO_11.out).2.2 | (with_reducible refine Kd.C_alloc ?_ _) | (with_reducible refine Kd.C_drewN ?_ _) | (with_reducible refine Kd.C_drew ?_))); (case side2 => exact (Kd.N_reads' HO_11.out).2.1); rintro e w160 ⟨v202, rfl, ho0, hb⟩; refine ⟨_, rfl, ?_⟩; have n0_ := Aside0.mk (Kd.N_elder' (by (with_reducible repeat (first | apply Kd.N_alloc | apply Kd.N_drewN | apply Kd.N_drew)); exact HO_11.out) (Kd.R_base ho0) hb); have n1_ := Aside0.mk (Kd.V_elder' (by (with_reducible repeat (first | apply Kd.V_alloc | apply Kd.V_drewN | apply Kd.V_drew)); exact HO_26.out) (Kd.R_base ho0) hb); have n2_ := Aside0.mk (Kd.R_elder' (by (with_reducible repeat (first | apply Kd.R_alloc | apply Kd.R_drewN | apply Kd.R_drew)); exact HO_163003.out) (Kd.R_base ho0) hb); have n3_ := Aside0.mk (Kd.R_lower (Kd.R_new' (Kd.R_newM (M := fun k_ => (w.heap.size ≤ k_)) ho0 (below_size (by repeat (first | (with_reducible first | exact HB.out | apply below_alloc | apply pw_below_drewN | apply below_drew1 | refine below_set ?_ GE162.out) | exact HB.out))) (fun k_ h_ => h_)) (Kd.R_lt (by (with_reducible repeat (first | apply Kd.R_alloc | apply Kd.R_drewN | apply Kd.R_drew)); exact HO_163003.out))) (below_size (by repeat (first | (with_reducible first | exact HB.out | apply below_alloc | apply pw_below_drewN | apply below_drew1 | refine below_set ?_ GE162.out) | exact HB.out)))); have n4_ := Aside0.mk (blk_below (g := gb162) (o := .cells #[.string t155, .string t156, .string t157, .slice Ao10 t158.length co10] 25 (0, 0)) (by (with_reducible repeat (first | refine blk_drewN ?_ _ | refine blk_drew ?_ | refine blk_alloc ?_ _)); exact BK162.out) hb); have n5_ := Aside0.mk (below_step (by repeat (first | (with_reducible first | exact HB.out | apply below_alloc | apply pw_below_drewN | apply below_drew1 | refine below_set ?_ GE162.out) | exact HB.out)) hb); clear HO_11; clear HO_26; clear HO_163003; clear BK162; clear HB; have HO_11 := n0_; have HO_26 := n1_; have HO_163003 := n2_; have HO203 := n3_; have BK162 := n4_; have HB := n5_; clear n0_ n1_ n2_ n3_ n4_ n5_; (try clear hb); (try clear hb2); (try clear hk); (try clear hi); (try clear ho0)) | ((with_reducible refine gate_dst (N := 14) rfl ?_); refine box_event ?hg (N := 14) ?hd (cs := #[.string (⟨#[]⟩ : ByteArray), .string (⟨#[]⟩ : ByteArray), .string (⟨#[]⟩ : ByteArray), .slice none 0 0]) (t := 25) ?hr ?_; (case hd => rfl); (case hg => rfl); (case hr => first | (go_simp; done) | (go_simp; rfl)); intro gb205 hg w161 hbox hb; have n0_ := Aside0.mk (Kd.N_below (Kd.N_elderB (by (with_reducible repeat (first | apply Kd.N_alloc | apply Kd.N_drewN | apply Kd.N_drew)); exact HO_11.out) gb205 (Nat.le_of_eq hg.symm)) hb); have n1_ := Aside0.mk (Kd.V_below (Kd.V_elderB (by (with_reducible repeat (first | apply Kd.V_alloc | apply Kd.V_drewN | apply Kd.V_drew)); exact HO_26.out) gb205 (Nat.le_of_eq hg.symm)) hb); have n2_ := Aside0.mk (Kd.R_below (by (with_reducible repeat (first | apply Kd.R_alloc | apply Kd.R_drewN | apply Kd.R_drew)); exact HO_163003.out) hb); have n3_ := Aside0.mk (Kd.R_below (by (with_reducible repeat (first | apply Kd.R_alloc | apply Kd.R_drewN | apply Kd.R_drew)); exact HO203.out) hb); have n4_ := Aside0.mk (blk_below (g := gb162) (o := .cells #[.string t155, .string t156, .string t157, .slice Ao10 t158.length co10] 25 (0, 0)) (by (with_reducible repeat (first | refine blk_drewN ?_ _ | refine blk_drew ?_ | refine blk_alloc ?_ _)); exact BK162.out) hb); have n5_ := Aside0.mk (below_step (by repeat (first | (with_reducible first | exact HB.out | apply below_alloc | apply pw_below_drewN | apply below_drew1 | refine below_set ?_ GE162.out) | exact HB.out)) hb); have n6_ := Aside0.mk (hbox); have n7_ := Aside0.mk ((by rw [hg]; exact (below_size (by repeat (first | (with_reducible first | exact HB.out | apply below_alloc | apply pw_below_drewN | apply below_drew1 | refine below_set ?_ GE162.out) | exact HB.out))) : w.heap.size ≤ gb205)); have n8_ := Aside0.mk ((by rw [hg]; exact (below_size (by repeat (first | (with_reducible first | exact HB.out | apply below_alloc | apply pw_below_drewN | apply below_drew1 | refine below_set ?_ GE162.out) | exact HB.out))) : w.heap.size ≤ gb205)); have n9_ := Aside0.mk ((by rw [hg]; exact Nat.ne_of_lt (blk_lt (g := gb162) (o := .cells #[.string t155, .string t156, .string t157, .slice Ao10 t158.length co10] 25 (0, 0)) (by (with_reducible repeat (first | refine blk_drewN ?_ _ | refine blk_drew ?_ | refine blk_alloc ?_ _)); exact BK162.out)) : gb162 ≠ gb205)); have n10_ := Aside0.mk ((by rw [hg]; exact Nat.ne_of_gt (blk_lt (g := gb162) (o := .cells #[.string t155, .string t156, .string t157, .slice Ao10 t158.length co10] 25 (0, 0)) (by (with_reducible repeat (first | refine blk_drewN ?_ _ | refine blk_drew ?_ | refine blk_alloc ?_ _)); exact BK162.out)) : gb205 ≠ gb162)); clear HO_11; clear HO_26; clear HO_163003; clear HO203; clear BK162; clear HB; have HO_11 := n0_; have HO_26 := n1_; have HO_163003 := n2_; have HO203 := n3_; have BK162 := n4_; have HB := n5_; have BK205 := n6_; have GW205 := n7_; have GE205 := n8_; have NB162_205 := n9_; have NB205_162 := n10_; clear n0_ n1_ n2_ n3_ n4_ n5_ n6_ n7_ n8_ n9_ n10_; clear hb hbox hg; have hnb162 := NB205_162.out; have hnc162 := NB162_205.out; have hcz163_0 : w161.cell? ⟨gb205, 0, none⟩ = some (.string (⟨#[]⟩ : ByteArray)) := (blk_cell BK205.out 0).trans rfl; have hcz163_1 : w161.cell? ⟨gb205, 1, none⟩ = some (.string (⟨#[]⟩ : ByteArray)) := (blk_cell BK205.out 1).trans rfl; have hcz163_2 : w161.cell? ⟨gb205, 2, none⟩ = some (.string (⟨#[]⟩ : ByteArray)) := (blk_cell BK205.out 2).trans rfl; have hcz163_3 : w161.cell? ⟨gb205, 3, none⟩ = some (.slice none 0 0) := (blk_cell BK205.out 3).trans rfl; have hfz163_0 := blk_frozen BK205.out 0; have hfz163_1 := blk_frozen BK205.out 1; have hfz163_2 := blk_frozen BK205.out 2; have hfz163_3 := blk_frozen BK205.out 3; obtain ⟨Ao164, co164, eo164⟩ := Kd.R_slice HO203.out; subst eo164))
          (try simp only [Act.put, List.setIfInBounds_toArray, List.set_cons_zero, List.set_cons_succ])
          go_cut [89] (fun v89 wc => ∃ (kq : Nat) (x89_157 : Bool), v89 = .bool x89_157 ∧ Aside0 (tetherlaw06_SecretBest.j1 kq a2 a3 t161 x89_157 t155 t156 t157 t158 = some r) ∧ Aside0 (kq ≤ k1) ∧ Aside0 (Kd.R (Kd.int .i64) 2 wc w.heap.size (fun k_ => (w.heap.size ≤ k_) ∧ some k_ ≠ ((.slice Ao164 t201.length co164) : Value).ownBlock) (.slice Ao10 t158.length co10) t158) ∧ Aside0 (Kd.R (Kd.int .i64) 2 wc w.heap.size (fun k_ => (w.heap.size ≤ k_) ∧ some k_ ≠ ((.slice Ao10 t158.length co10) : Value).ownBlock) (.slice Ao164 t201.length co164) t201) ∧ Aside0 (wc.heap[gb162]? = some (.cells #[.string t155, .string t156, .string t157, (.slice Ao10 t158.length co10)] 25 (0, 0))) ∧ Aside0 (wc.heap[gb205]? = some (.cells #[.string t198, .string t199, .string t200, (.slice Ao164 t201.length co164)] 25 (0, 0))) ∧ Aside0 (Below w.heap.size w wc))
          case first =>
            have H := HC158.out
            clear HC158
            by_cases c165 : (t161 != t204) = true
            · rw [if_pos c165] at H
              have c165b0 : (t161 != t204) = true := c165
              (try (have c165b1 : decide (t161 = t204) = false := by simpa using c165))
              (try (have c165b2 : (t161 == t204) = false := by simpa using c165))
              (try (have c165b3 : ¬ (t161 = t204) := by simpa using c165))
              clear c165
              (first | rw [c165b0] | (simp only [i64_w, i32_w]; rw [c165b0]) | skip)
              have H' := Aside0.mk H
              clear H
              go_wp2
              go_meet
              case rel => exact ⟨_, (true), (by first | rfl | (simp; done) | (simp [*]; done)), H', ⟨by have := HK1.out; first | omega | exact Nat.le_refl _⟩, ⟨by (with_reducible repeat (first | apply Kd.R_alloc | apply Kd.R_drewN | apply Kd.R_drew)); exact Kd.R_mono (Kd.R_far (p := ⟨gb205, 3, none⟩) (Kd.R_far (p := ⟨gb205, 2, none⟩) (Kd.R_far (p := ⟨gb205, 1, none⟩) (Kd.R_far (p := ⟨gb205, 0, none⟩) (Kd.R_types HO_163003.out BK205.out (by decide)) (fun _ hk => hk.2) (.string t198)) (fun _ hk => hk.2) (.string t199)) (fun _ hk => hk.2) (.string t200)) (fun _ hk => hk.2) (.slice Ao164 t201.length co164)) (fun _ hk => ⟨hk.1.1, hk.1.2⟩)⟩, ⟨by (with_reducible repeat (first | apply Kd.R_alloc | apply Kd.R_drewN | apply Kd.R_drew)); exact Kd.R_mono (Kd.R_far (p := ⟨gb205, 3, none⟩) (Kd.R_far (p := ⟨gb205, 2, none⟩) (Kd.R_far (p := ⟨gb205, 1, none⟩) (Kd.R_far (p := ⟨gb205, 0, none⟩) (Kd.R_types HO203.out BK205.out (by decide)) (fun _ hk => hk.2) (.string t198)) (fun _ hk => hk.2) (.string t199)) (fun _ hk => hk.2) (.string t200)) (fun _ hk => hk.2) (.slice Ao164 t201.length co164)) (fun _ hk => ⟨hk.1.1.1, hk.1.2⟩)⟩, ⟨by (with_reducible repeat (first | refine blk_drewN ?_ _ | refine blk_drew ?_ | refine blk_alloc ?_ _)); refine blk_far ?_ NB162_205.out _; (with_reducible repeat (first | refine blk_drewN ?_ _ | refine blk_drew ?_ | refine blk_alloc ?_ _)); refine blk_far ?_ NB162_205.out _; (with_reducible repeat (first | refine blk_drewN ?_ _ | refine blk_drew ?_ | refine blk_alloc ?_ _)); refine blk_far ?_ NB162_205.out _; (with_reducible repeat (first | refine blk_drewN ?_ _ | refine blk_drew ?_ | refine blk_alloc ?_ _)); refine blk_far ?_ NB162_205.out _; (with_reducible repeat (first | refine blk_drewN ?_ _ | refine blk_drew ?_ | refine blk_alloc ?_ _)); exact BK162.out⟩, ⟨by (with_reducible repeat (first | refine blk_drewN ?_ _ | refine blk_drew ?_ | refine blk_alloc ?_ _)); refine blk_put (cs := #[.string t198, .string t199, .string t200, .slice none 0 0]) ?_ 3 _ rfl; (with_reducible repeat (first | refine blk_drewN ?_ _ | refine blk_drew ?_ | refine blk_alloc ?_ _)); refine blk_put (cs := #[.string t198, .string t199, .string (⟨#[]⟩ : ByteArray), .slice none 0 0]) ?_ 2 _ rfl; (with_reducible repeat (first | refine blk_drewN ?_ _ | refine blk_drew ?_ | refine blk_alloc ?_ _)); refine blk_put (cs := #[.string t198, .string (⟨#[]⟩ : ByteArray), .string (⟨#[]⟩ : ByteArray), .slice none 0 0]) ?_ 1 _ rfl; (with_reducible repeat (first | refine blk_drewN ?_ _ | refine blk_drew ?_ | refine blk_alloc ?_ _)); refine blk_put (cs := #[.string (⟨#[]⟩ : ByteArray), .string (⟨#[]⟩ : ByteArray), .string (⟨#[]⟩ : ByteArray), .slice none 0 0]) ?_ 0 _ rfl; (with_reducible repeat (first | refine blk_drewN ?_ _ | refine blk_drew ?_ | refine blk_alloc ?_ _)); exact BK205.out⟩, ⟨by repeat (first | (with_reducible first | exact HB.out | apply below_alloc | apply pw_below_drewN | apply below_drew1 | refine below_set ?_ GE162.out | refine below_set ?_ GE205.out) | exact HB.out)⟩⟩
            · rw [if_neg c165] at H
              have c165b0 : (t161 != t204) = false := by simpa using c165
              (try (have c165b1 : decide (t161 = t204) = true := by simpa using c165))
              (try (have c165b2 : (t161 == t204) = true := by simpa using c165))
              clear c165
              (first | rw [c165b0] | (simp only [i64_w, i32_w]; rw [c165b0]) | skip)
              replace H := Option.bind_eq_some_iff.mp H
              obtain ⟨t206, A1660, H⟩ := H
              replace H : (tetherlaw06_SecretBest.j1 k1 a2 a3 t161 (!t206) t155 t156 t157 t158) = some r := H
              have A166 := Aside0.mk A1660
              clear A1660
              have H' := Aside0.mk H
              clear H
              have hnb167 := NB162_205.out
              have hnc167 := NB205_162.out
              have hcz168_0 : w161.cell? ⟨gb162, 0, none⟩ = some (.string t155) := (blk_cell BK162.out 0).trans rfl
              have hcz168_1 : w161.cell? ⟨gb162, 1, none⟩ = some (.string t156) := (blk_cell BK162.out 1).trans rfl
              have hcz168_2 : w161.cell? ⟨gb162, 2, none⟩ = some (.string t157) := (blk_cell BK162.out 2).trans rfl
              have hcz168_3 : w161.cell? ⟨gb162, 3, none⟩ = some (.slice Ao10 t158.length co10) := (blk_cell BK162.out 3).trans rfl
              have hfz168_0 := blk_frozen BK162.out 0
              have hfz168_1 := blk_frozen BK162.out 1
              have hfz168_2 := blk_frozen BK162.out 2
              have hfz168_3 := blk_frozen BK162.out 3
              have hcz169_0 : w161.cell? ⟨gb205, 0, none⟩ = some (.string (⟨#[]⟩ : ByteArray)) := (blk_cell BK205.out 0).trans rfl
              have hcz169_1 : w161.cell? ⟨gb205, 1, none⟩ = some (.string (⟨#[]⟩ : ByteArray)) := (blk_cell BK205.out 1).trans rfl
              have hcz169_2 : w161.cell? ⟨gb205, 2, none⟩ = some (.string (⟨#[]⟩ : ByteArray)) := (blk_cell BK205.out 2).trans rfl
              have hcz169_3 : w161.cell? ⟨gb205, 3, none⟩ = some (.slice none 0 0) := (blk_cell BK205.out 3).trans rfl
              have hfz169_0 := blk_frozen BK205.out 0
              have hfz169_1 := blk_frozen BK205.out 1
              have hfz169_2 := blk_frozen BK205.out 2
              have hfz169_3 := blk_frozen BK205.out 3
              go_wp2_with (first | (go_at_call 6; (with_reducible refine (tetherref06_One.calls k1 t155 t156 t157 _ _ t158 t198 t199 t200 _ _ t201 t206 _ ?side1 ?side2 ?side3 ?side4 A166.out).mono ?_); (case side1 => refine (Kd.R_reads' (e := 2) (base := w.heap.size) (ok := fun k_ => ((w.heap.size ≤ k_) ∧ some k_ ≠ (.slice Ao164 t201.length co164 : Value).ownBlock)) (n := t158.length) (c := co10) ?_).2.2; exact (by (with_reducible repeat (first | apply Kd.R_alloc | apply Kd.R_drewN | apply Kd.R_drew)); exact (Kd.R_mono (Kd.R_far (p := ⟨gb205, 3, none⟩) (Kd.R_far (p := ⟨gb205, 2, none⟩) (Kd.R_far (p := ⟨gb205, 1, none⟩) (Kd.R_far (p := ⟨gb205, 0, none⟩) (Kd.R_types HO_163003.out BK205.out (by decide)) (fun _ hk => hk.2) (.string t198)) (fun _ hk => hk.2) (.string t199)) (fun _ hk => hk.2) (.string t200)) (fun _ hk => hk.2) (.slice Ao164 t201.length co164)) (fun _ h_ => h_.1)))); (case side2 => exact (Kd.R_reads' HO_163003.out).2.1); (case side3 => refine (Kd.R_reads' (e := 2) (base := w.heap.size) (ok := fun k_ => (((w.heap.size ≤ k_) ∧ True) ∧ some k_ ≠ (.slice Ao10 t158.length co10 : Value).ownBlock)) (n := t201.length) (c := co164) ?_).2.2; exact (by (with_reducible repeat (first | apply Kd.R_alloc | apply Kd.R_drewN | apply Kd.R_drew)); exact (Kd.R_mono (Kd.R_far (p := ⟨gb205, 3, none⟩) (Kd.R_far (p := ⟨gb205, 2, none⟩) (Kd.R_far (p := ⟨gb205, 1, none⟩) (Kd.R_far (p := ⟨gb205, 0, none⟩) (Kd.R_types HO203.out BK205.out (by decide)) (fun _ hk => hk.2) (.string t198)) (fun _ hk => hk.2) (.string t199)) (fun _ hk => hk.2) (.string t200)) (fun _ hk => hk.2) (.slice Ao164 t201.length co164)) (fun _ h_ => h_.1)))); (case side4 => exact (Kd.R_reads' HO203.out).2.1); rintro e w170 ⟨rfl, hb⟩; have n0_ := Aside0.mk (Kd.N_below (by (with_reducible repeat (first | apply Kd.N_alloc | apply Kd.N_drewN | apply Kd.N_drew)); exact (Kd.N_mono (Kd.N_far (p := ⟨gb205, 3, none⟩) (Kd.N_far (p := ⟨gb205, 2, none⟩) (Kd.N_far (p := ⟨gb205, 1, none⟩) (Kd.N_far (p := ⟨gb205, 0, none⟩) (Kd.N_mono HO_11.out (fun k_ hk => (⟨hk, hk.2⟩ : _ ∧ k_ ≠ gb205))) (fun _ hk => hk.2) (.string t198)) (fun _ hk => hk.2) (.string t199)) (fun _ hk => hk.2) (.string t200)) (fun _ hk => hk.2) (.slice Ao164 t201.length co164)) (fun _ h_ => h_.1))) hb); have n1_ := Aside0.mk (Kd.V_below (by (with_reducible repeat (first | apply Kd.V_alloc | apply Kd.V_drewN | apply Kd.V_drew)); exact (Kd.V_mono (Kd.V_far (p := ⟨gb205, 3, none⟩) (Kd.V_far (p := ⟨gb205, 2, none⟩) (Kd.V_far (p := ⟨gb205, 1, none⟩) (Kd.V_far (p := ⟨gb205, 0, none⟩) (Kd.V_mono HO_26.out (fun k_ hk => (⟨hk, hk.2⟩ : _ ∧ k_ ≠ gb205))) (fun _ hk => hk.2) (.string t198)) (fun _ hk => hk.2) (.string t199)) (fun _ hk => hk.2) (.string t200)) (fun _ hk => hk.2) (.slice Ao164 t201.length co164)) (fun _ h_ => h_.1))) hb); have n2_ := Aside0.mk (Kd.R_below (by (with_reducible repeat (first | apply Kd.R_alloc | apply Kd.R_drewN | apply Kd.R_drew)); exact (Kd.R_mono (Kd.R_far (p := ⟨gb205, 3, none⟩) (Kd.R_far (p := ⟨gb205, 2, none⟩) (Kd.R_far (p := ⟨gb205, 1, none⟩) (Kd.R_far (p := ⟨gb205, 0, none⟩) (Kd.R_types HO_163003.out BK205.out (by decide)) (fun _ hk => hk.2) (.string t198)) (fun _ hk => hk.2) (.string t199)) (fun _ hk => hk.2) (.string t200)) (fun _ hk => hk.2) (.slice Ao164 t201.length co164)) (fun _ h_ => h_.1))) hb); have n3_ := Aside0.mk (Kd.R_below (by (with_reducible repeat (first | apply Kd.R_alloc | apply Kd.R_drewN | apply Kd.R_drew)); exact (Kd.R_mono (Kd.R_far (p := ⟨gb205, 3, none⟩) (Kd.R_far (p := ⟨gb205, 2, none⟩) (Kd.R_far (p := ⟨gb205, 1, none⟩) (Kd.R_far (p := ⟨gb205, 0, none⟩) (Kd.R_types HO203.out BK205.out (by decide)) (fun _ hk => hk.2) (.string t198)) (fun _ hk => hk.2) (.string t199)) (fun _ hk => hk.2) (.string t200)) (fun _ hk => hk.2) (.slice Ao164 t201.length co164)) (fun _ h_ => h_.1))) hb); have n4_ := Aside0.mk (blk_below (g := gb162) (o := .cells #[.string t155, .string t156, .string t157, .slice Ao10 t158.length co10] 25 (0, 0)) (by (with_reducible repeat (first | refine blk_drewN ?_ _ | refine blk_drew ?_ | refine blk_alloc ?_ _)); refine blk_far ?_ NB162_205.out _; (with_reducible repeat (first | refine blk_drewN ?_ _ | refine blk_drew ?_ | refine blk_alloc ?_ _)); refine blk_far ?_ NB162_205.out _; (with_reducible repeat (first | refine blk_drewN ?_ _ | refine blk_drew ?_ | refine blk_alloc ?_ _)); refine blk_far ?_ NB162_205.out _; (with_reducible repeat (first | refine blk_drewN ?_ _ | refine blk_drew ?_ | refine blk_alloc ?_ _)); refine blk_far ?_ NB162_205.out _; (with_reducible repeat (first | refine blk_drewN ?_ _ | refine blk_drew ?_ | refine blk_alloc ?_ _)); exact BK162.out) hb); have n5_ := Aside0.mk (blk_below (g := gb205) (o := .cells #[.string t198, .string t199, .string t200, .slice Ao164 t201.length co164] 25 (0, 0)) (by (with_reducible repeat (first | refine blk_drewN ?_ _ | refine blk_drew ?_ | refine blk_alloc ?_ _)); refine blk_put (cs := #[.string t198, .string t199, .string t200, .slice none 0 0]) ?_ 3 _ rfl; (with_reducible repeat (first | refine blk_drewN ?_ _ | refine blk_drew ?_ | refine blk_alloc ?_ _)); refine blk_put (cs := #[.string t198, .string t199, .string (⟨#[]⟩ : ByteArray), .slice none 0 0]) ?_ 2 _ rfl; (with_reducible repeat (first | refine blk_drewN ?_ _ | refine blk_drew ?_ | refine blk_alloc ?_ _)); refine blk_put (cs := #[.string t198, .string (⟨#[]⟩ : ByteArray), .string (⟨#[]⟩ : ByteArray), .slice none 0 0]) ?_ 1 _ rfl; (with_reducible repeat (first | refine blk_drewN ?_ _ | refine blk_drew ?_ | refine blk_alloc ?_ _)); refine blk_put (cs := #[.string (⟨#[]⟩ : ByteArray), .string (⟨#[]⟩ : ByteArray), .string (⟨#[]⟩ : ByteArray), .slice none 0 0]) ?_ 0 _ rfl; (with_reducible repeat (first | refine blk_drewN ?_ _ | refine blk_drew ?_ | refine blk_alloc ?_ _)); exact BK205.out) hb); have n6_ := Aside0.mk (below_step (by repeat (first | (with_reducible first | exact HB.out | apply below_alloc | apply pw_below_drewN | apply below_drew1 | refine below_set ?_ GE162.out | refine below_set ?_ GE205.out) | exact HB.out)) hb); clear HO_11; clear HO_26; clear HO_163003; clear HO203; clear BK162; clear BK205; clear HB; have HO_11 := n0_; have HO_26 := n1_; have HO_163003 := n2_; have HO203 := n3_; have BK162 := n4_; have BK205 := n5_; have HB := n6_; clear n0_ n1_ n2_ n3_ n4_ n5_ n6_; (try clear hb); (try clear hb2); (try clear hk); (try clear hi)))
              go_meet
              case rel => exact ⟨_, (!t206), (by first | rfl | (simp; done) | (simp [*]; done)), H', ⟨by have := HK1.out; first | omega | exact Nat.le_refl _⟩, ⟨by (with_reducible repeat (first | apply Kd.R_alloc | apply Kd.R_drewN | apply Kd.R_drew)); exact HO_163003.out⟩, ⟨by (with_reducible repeat (first | apply Kd.R_alloc | apply Kd.R_drewN | apply Kd.R_drew)); exact Kd.R_mono HO203.out (fun _ hk => ⟨hk.1.1, hk.2⟩)⟩, ⟨by (with_reducible repeat (first | refine blk_drewN ?_ _ | refine blk_drew ?_ | refine blk_alloc ?_ _)); exact BK162.out⟩, ⟨by (with_reducible repeat (first | refine blk_drewN ?_ _ | refine blk_drew ?_ | refine blk_alloc ?_ _)); exact BK205.out⟩, ⟨by repeat (first | (with_reducible first | exact HB.out | apply below_alloc | apply pw_below_drewN | apply below_drew1 | refine below_set ?_ GE162.out | refine below_set ?_ GE205.out) | exact HB.out)⟩⟩
          case rest =>
            clear HC158
            try clear c1
            try clear p1
            try clear q1
            try clear hx1
            try clear p2
            try clear c5
            try clear p6
            try clear c7
            try clear c8
            try clear c9
            try clear c10
            try clear c11
            try clear c12
            try clear c12b0
            try clear c13
            try clear c14
            try clear c15
            try clear c16
            try clear c16b0
            try clear c16b1
            try clear p16
            try clear q16
            try clear hx16
            try clear p64
            try clear c72
            try clear c72b0
            try clear c72b1
            try clear c73
            try clear c73b0
            try clear c73b1
            try clear c75
            try clear c78
            try clear c78b0
            try clear c78b1
            try clear c80
            try clear c83
            try clear c85
            try clear c91
            try clear c91b0
            try clear c91b1
            try clear c92
            try clear c92b0
            try clear c92b1
            try clear c94
            try clear c97
            try clear c97b0
            try clear c97b1
            try clear c99
            try clear c102
            try clear c104
            try clear c110
            try clear c112
            try clear c118
            try clear c118b0
            try clear c118b1
            try clear c119
            try clear c119b0
            try clear c119b1
            try clear c121
            try clear c123
            try clear c123b0
            try clear c123b1
            try clear c125
            try clear c127
            try clear c129
            try clear c134
            try clear c134b0
            try clear c134b1
            try clear c135
            try clear c135b0
            try clear c135b1
            try clear c137
            try clear c139
            try clear c139b0
            try clear c139b1
            try clear c141
            try clear c143
            try clear c145
            try clear c150
            try clear c152
            try clear c162
            try clear c165
            try clear c165b0
            try clear c165b1
            try clear c165b2
            try clear c166
            try clear p166
            try clear q166
            try clear hx166
            try clear c167
            try clear hcz100_0
            try clear hcz100_1
            try clear hcz100_2
            try clear hcz100_3
            try clear hcz101_0
            try clear hcz101_1
            try clear hcz101_2
            try clear hcz101_3
            try clear hcz105_0
            try clear hcz105_1
            try clear hcz105_2
            try clear hcz105_3
            try clear hcz107_0
            try clear hcz107_1
            try clear hcz107_2
            try clear hcz107_3
            try clear hcz108_0
            try clear hcz108_1
            try clear hcz108_2
            try clear hcz108_3
            try clear hcz113_0
            try clear hcz113_1
            try clear hcz113_2
            try clear hcz113_3
            try clear hcz115_0
            try clear hcz115_1
            try clear hcz115_2
            try clear hcz115_3
            try clear hcz116_0
            try clear hcz116_1
            try clear hcz116_2
            try clear hcz116_3
            try clear hcz122_0
            try clear hcz122_1
            try clear hcz122_2
            try clear hcz122_3
            try clear hcz126_0
            try clear hcz126_1
            try clear hcz126_2
            try clear hcz126_3
            try clear hcz130_0
            try clear hcz130_1
            try clear hcz130_2
            try clear hcz130_3
            try clear hcz132_0
            try clear hcz132_1
            try clear hcz132_2
            try clear hcz132_3
            try clear hcz138_0
            try clear hcz138_1
            try clear hcz138_2
            try clear hcz138_3
            try clear hcz142_0
            try clear hcz142_1
            try clear hcz142_2
            try clear hcz142_3
            try clear hcz146_0
            try clear hcz146_1
            try clear hcz146_2
            try clear hcz146_3
            try clear hcz148_0
            try clear hcz148_1
            try clear hcz148_2
            try clear hcz148_3
            try clear hcz153_0
            try clear hcz153_1
            try clear hcz153_2
            try clear hcz153_3
            try clear hcz155_0
            try clear hcz155_1
            try clear hcz155_2
            try clear hcz155_3
            try clear hcz163_0
            try clear hcz163_1
            try clear hcz163_2
            try clear hcz163_3
            try clear hcz168_0
            try clear hcz168_1
            try clear hcz168_2
            try clear hcz168_3
            try clear hcz169_0
            try clear hcz169_1
            try clear hcz169_2
            try clear hcz169_3
            try clear hcz76_0
            try clear hcz76_1
            try clear hcz76_2
            try clear hcz76_3
            try clear hcz77_0
            try clear hcz77_1
            try clear hcz77_2
            try clear hcz77_3
            try clear hcz81_0
            try clear hcz81_1
            try clear hcz81_2
            try clear hcz81_3
            try clear hcz82_0
            try clear hcz82_1
            try clear hcz82_2
            try clear hcz82_3
            try clear hcz86_0
            try clear hcz86_1
            try clear hcz86_2
            try clear hcz86_3
            try clear hcz88_0
            try clear hcz88_1
            try clear hcz88_2
            try clear hcz88_3
            try clear hcz89_0
            try clear hcz89_1
            try clear hcz89_2
            try clear hcz89_3
            try clear hcz95_0
            try clear hcz95_1
            try clear hcz95_2
            try clear hcz95_3
            try clear hcz96_0
            try clear hcz96_1
            try clear hcz96_2
            try clear hcz96_3
            try clear hfz100_0
            try clear hfz100_1
            try clear hfz100_2
            try clear hfz100_3
            try clear hfz101_0
            try clear hfz101_1
            try clear hfz101_2
            try clear hfz101_3
            try clear hfz105_0
            try clear hfz105_1
            try clear hfz105_2
            try clear hfz105_3
            try clear hfz107_0
            try clear hfz107_1
            try clear hfz107_2
            try clear hfz107_3
            try clear hfz108_0
            try clear hfz108_1
            try clear hfz108_2
            try clear hfz108_3
            try clear hfz113_0
            try clear hfz113_1
            try clear hfz113_2
            try clear hfz113_3
            try clear hfz115_0
            try clear hfz115_1
            try clear hfz115_2
            try clear hfz115_3
            try clear hfz116_0
            try clear hfz116_1
            try clear hfz116_2
            try clear hfz116_3
            try clear hfz122_0
            try clear hfz122_1
            try clear hfz122_2
            try clear hfz122_3
            try clear hfz126_0
            try clear hfz126_1
            try clear hfz126_2
            try clear hfz126_3
            try clear hfz130_0
            try clear hfz130_1
            try clear hfz130_2
            try clear hfz130_3
            try clear hfz132_0
            try clear hfz132_1
            try clear hfz132_2
            try clear hfz132_3
            try clear hfz138_0
            try clear hfz138_1
            try clear hfz138_2
            try clear hfz138_3
            try clear hfz142_0
            try clear hfz142_1
            try clear hfz142_2
            try clear hfz142_3
            try clear hfz146_0
            try clear hfz146_1
            try clear hfz146_2
            try clear hfz146_3
            try clear hfz148_0
            try clear hfz148_1
            try clear hfz148_2
            try clear hfz148_3
            try clear hfz153_0
            try clear hfz153_1
            try clear hfz153_2
            try clear hfz153_3
            try clear hfz155_0
            try clear hfz155_1
            try clear hfz155_2
            try clear hfz155_3
            try clear hfz163_0
            try clear hfz163_1
            try clear hfz163_2
            try clear hfz163_3
            try clear hfz168_0
            try clear hfz168_1
            try clear hfz168_2
            try clear hfz168_3
            try clear hfz169_0
            try clear hfz169_1
            try clear hfz169_2
            try clear hfz169_3
            try clear hfz76_0
            try clear hfz76_1
            try clear hfz76_2
            try clear hfz76_3
            try clear hfz77_0
            try clear hfz77_1
            try clear hfz77_2
            try clear hfz77_3
            try clear hfz81_0
            try clear hfz81_1
            try clear hfz81_2
            try clear hfz81_3
            try clear hfz82_0
            try clear hfz82_1
            try clear hfz82_2
            try clear hfz82_3
            try clear hfz86_0
            try clear hfz86_1
            try clear hfz86_2
            try clear hfz86_3
            try clear hfz88_0
            try clear hfz88_1
            try clear hfz88_2
            try clear hfz88_3
            try clear hfz89_0
            try clear hfz89_1
            try clear hfz89_2
            try clear hfz89_3
            try clear hfz95_0
            try clear hfz95_1
            try clear hfz95_2
            try clear hfz95_3
            try clear hfz96_0
            try clear hfz96_1
            try clear hfz96_2
            try clear hfz96_3
            try clear hx166_0
            try clear hx166_1
            try clear hx166_2
            try clear hx166_3
            try clear p166
            try clear q166
            obtain ⟨kq, x89_157, rfl, HA, HJ157, HO_163003, HO_206003, BK162, BK205, HB⟩ := hcut
            cases kq with
            | zero => exact absurd HA.out (by simp [tetherlaw06_SecretBest.j1])
            | succ kj157 =>
              have H := HA.out
              clear HA
              simp only [tetherlaw06_SecretBest.j1] at H
              by_cases c171 : x89_157 = true
              · subst c171
                have H1 : (some false) = some r := by rw [if_pos rfl] at H; exact H
                clear H
                have H := H1
                clear H1
                obtain rfl := Option.some.inj H
                go_wp2
                go_ret
                exact ⟨by first | rfl | (simp [errW_none, errW_some] <;> rfl) | (simp [*, errW_none, errW_some] <;> rfl), by repeat (first | (with_reducible first | exact HB.out | apply below_alloc | apply pw_below_drewN | apply below_drew1 | refine below_set ?_ GE162.out | refine below_set ?_ GE205.out) | exact HB.out)⟩
              · replace c171 := Bool.eq_false_iff.mpr c171
                subst c171
                have H1 : (if t161 = true then ((secret_Right.f t155 t156 t157 t158).bind fun t207 => (if t207 = 0 then (if t155.toList = a2.toList then (if t156.toList = a3.toList then ((tetherlaw06_awake.f kj157).bind fun t208 => (some t208)) else (if t156.toList = ([42] : List UInt8) then ((tetherlaw06_awake.f kj157).bind fun t209 => (some t209)) else (some false))) else (if t155.toList = ([42] : List UInt8) then (if t156.toList = a3.toList then ((tetherlaw06_awake.f kj157).bind fun t210 => (some t210)) else (if t156.toList = ([42] : List UInt8) then ((tetherlaw06_awake.f kj157).bind fun t211 => (some t211)) else (some false))) else (some false))) else (some false))) else ((tetherlaw06_awake.f kj157).bind fun t212 => (some t212))) = some r := by rw [if_neg (show ¬ (false = true) by decide)] at H; exact H
                clear H
                have H := H1
                clear H1
                by_cases c172 : t161 = true
                · subst c172
                  have H1 : ((secret_Right.f t155 t156 t157 t158).bind fun t207 => (if t207 = 0 then (if t155.toList = a2.toList then (if t156.toList = a3.toList then ((tetherlaw06_awake.f kj157).bind fun t208 => (some t208)) else (if t156.toList = ([42] : List UInt8) then ((tetherlaw06_awake.f kj157).bind fun t209 => (some t209)) else (some false))) else (if t155.toList = ([42] : List UInt8) then (if t156.toList = a3.toList then ((tetherlaw06_awake.f kj157).bind fun t210 => (some t210)) else (if t156.toList = ([42] : List UInt8) then ((tetherlaw06_awake.f kj157).bind fun t211 => (some t211)) else (some false))) else (some false))) else (some false))) = some r := by rw [if_pos rfl] at H; exact H
                  clear H
                  have H := H1
                  clear H1
                  replace H := Option.bind_eq_some_iff.mp H
                  obtain ⟨t207, A1730, H⟩ := H
                  replace H : (if t207 = 0 then (if t155.toList = a2.toList then (if t156.toList = a3.toList then ((tetherlaw06_awake.f kj157).bind fun t208 => (some t208)) else (if t156.toList = ([42] : List UInt8) then ((tetherlaw06_awake.f kj157).bind fun t209 => (some t209)) else (some false))) else (if t155.toList = ([42] : List UInt8) then (if t156.toList = a3.toList then ((tetherlaw06_awake.f kj157).bind fun t210 => (some t210)) else (if t156.toList = ([42] : List UInt8) then ((tetherlaw06_awake.f kj157).bind fun t211 => (some t211)) else (some false))) else (some false))) else (some false)) = some r := H
                  have A173 := Aside0.mk A1730
                  clear A1730
                  by_cases c174 : t207 = 0
                  · rw [if_pos c174] at H
                    have c174b0 : (t207 == 0) = true := beq_iff_eq.mpr c174
                    have c174b1 : (t207 != 0) = false := bne_eq_false_iff_eq.mpr c174
                    clear c174
                    by_cases c175 : t155.toList = a2.toList
                    · rw [if_pos c175] at H
                      have c175b0 : (t155.toList == a2.toList) = true := beq_iff_eq.mpr c175
                      have c175b1 : (t155.toList != a2.toList) = false := bne_eq_false_iff_eq.mpr c175
                      clear c175
                      by_cases c176 : t156.toList = a3.toList
                      · rw [if_pos c176] at H
                        have c176b0 : (t156.toList == a3.toList) = true := beq_iff_eq.mpr c176
                        have c176b1 : (t156.toList != a3.toList) = false := bne_eq_false_iff_eq.mpr c176
                        clear c176
                        replace H := Option.bind_eq_some_iff.mp H
                        obtain ⟨t208, A1770, H⟩ := H
                        replace H : (some t208) = some r := H
                        have A177 := Aside0.mk A1770
                        clear A1770
                        obtain rfl := Option.some.inj H
                        have hnb178 := NB162_205.out
                        have hnc178 := NB205_162.out
                        have hcz179_0 : wc.cell? ⟨gb162, 0, none⟩ = some (.string t155) := (blk_cell BK162.out 0).trans rfl
                        have hcz179_1 : wc.cell? ⟨gb162, 1, none⟩ = some (.string t156) := (blk_cell BK162.out 1).trans rfl
                        have hcz179_2 : wc.cell? ⟨gb162, 2, none⟩ = some (.string t157) := (blk_cell BK162.out 2).trans rfl
                        have hcz179_3 : wc.cell? ⟨gb162, 3, none⟩ = some (.slice Ao10 t158.length co10) := (blk_cell BK162.out 3).trans rfl
                        have hfz179_0 := blk_frozen BK162.out 0
                        have hfz179_1 := blk_frozen BK162.out 1
                        have hfz179_2 := blk_frozen BK162.out 2
                        have hfz179_3 := blk_frozen BK162.out 3
                        go_wp2_with (first | ((with_reducible refine gate_callee (f := 8) rfl ?_); refine goesL_ (some 94) rfl rfl Tryd.func8 (by kernel_rfl) rfl #[.agg #[.string t155, .string t156, .string t157, .slice Ao10 t158.length co10]] rfl (by (try simp only [List.map_toArray, List.map_cons, List.map_nil]); first | done | rfl | (simp only [List.length_drop, List.length_take]; rfl)) ?_; (with_reducible refine (secret_Right.calls t155 t156 t157 _ _ t158 t207 _ ?side1 ?side2 A173.out).mono ?_); (case side1 => repeat (first | exact (Kd.R_reads' HO_163003.out).2.2 | (with_reducible refine Kd.C_alloc ?_ _) | (with_reducible refine Kd.C_drewN ?_ _) | (with_reducible refine Kd.C_drew ?_))); (case side2 => exact (Kd.R_reads' HO_163003.out).2.1); rintro e w180 ⟨rfl, hb⟩; refine ⟨_, rfl, ?_⟩; have n0_ := Aside0.mk (Kd.R_below (by (with_reducible repeat (first | apply Kd.R_alloc | apply Kd.R_drewN | apply Kd.R_drew)); exact HO_163003.out) hb); have n1_ := Aside0.mk (Kd.R_below (by (with_reducible repeat (first | apply Kd.R_alloc | apply Kd.R_drewN | apply Kd.R_drew)); exact HO_206003.out) hb); have n2_ := Aside0.mk (blk_below (g := gb162) (o := .cells #[.string t155, .string t156, .string t157, .slice Ao10 t158.length co10] 25 (0, 0)) (by (with_reducible repeat (first | refine blk_drewN ?_ _ | refine blk_drew ?_ | refine blk_alloc ?_ _)); exact BK162.out) hb); have n3_ := Aside0.mk (blk_below (g := gb205) (o := .cells #[.string t198, .string t199, .string t200, .slice Ao164 t201.length co164] 25 (0, 0)) (by (with_reducible repeat (first | refine blk_drewN ?_ _ | refine blk_drew ?_ | refine blk_alloc ?_ _)); exact BK205.out) hb); have n4_ := Aside0.mk (below_step (by repeat (first | (with_reducible first | exact HB.out | apply below_alloc | apply pw_below_drewN | apply below_drew1 | refine below_set ?_ GE162.out | refine below_set ?_ GE205.out) | exact HB.out)) hb); clear HO_163003; clear HO_206003; clear BK162; clear BK205; clear HB; have HO_163003 := n0_; have HO_206003 := n1_; have BK162 := n2_; have BK205 := n3_; have HB := n4_; clear n0_ n1_ n2_ n3_ n4_; (try clear hb); (try clear hb2); (try clear hk); (try clear hi); have hcz181_0 : w180.cell? ⟨gb162, 0, none⟩ = some (.string t155) := (blk_cell BK162.out 0).trans rfl; have hcz181_1 : w180.cell? ⟨gb162, 1, none⟩ = some (.string t156) := (blk_cell BK162.out 1).trans rfl; have hcz181_2 : w180.cell? ⟨gb162, 2, none⟩ = some (.string t157) := (blk_cell BK162.out 2).trans rfl; have hcz181_3 : w180.cell? ⟨gb162, 3, none⟩ = some (.slice Ao10 t158.length co10) := (blk_cell BK162.out 3).trans rfl; have hfz181_0 := blk_frozen BK162.out 0; have hfz181_1 := blk_frozen BK162.out 1; have hfz181_2 := blk_frozen BK162.out 2; have hfz181_3 := blk_frozen BK162.out 3) | (go_at_call 7; (with_reducible refine (tetherlaw06_awake.calls kj157  t208 _ ?side1 A177.out).mono ?_); (case side1 => repeat (first | exact (GW.below HG.out HB.out) | (with_reducible refine GW.alloc ?_ _) | (with_reducible refine GW.drewN ?_ _) | (with_reducible refine GW.drew ?_))); rintro e w182 ⟨rfl, hb⟩; have n0_ := Aside0.mk (Kd.R_below (by (with_reducible repeat (first | apply Kd.R_alloc | apply Kd.R_drewN | apply Kd.R_drew)); exact HO_163003.out) hb); have n1_ := Aside0.mk (Kd.R_below (by (with_reducible repeat (first | apply Kd.R_alloc | apply Kd.R_drewN | apply Kd.R_drew)); exact HO_206003.out) hb); have n2_ := Aside0.mk (blk_below (g := gb162) (o := .cells #[.string t155, .string t156, .string t157, .slice Ao10 t158.length co10] 25 (0, 0)) (by (with_reducible repeat (first | refine blk_drewN ?_ _ | refine blk_drew ?_ | refine blk_alloc ?_ _)); exact BK162.out) hb); have n3_ := Aside0.mk (blk_below (g := gb205) (o := .cells #[.string t198, .string t199, .string t200, .slice Ao164 t201.length co164] 25 (0, 0)) (by (with_reducible repeat (first | refine blk_drewN ?_ _ | refine blk_drew ?_ | refine blk_alloc ?_ _)); exact BK205.out) hb); have n4_ := Aside0.mk (below_step (by repeat (first | (with_reducible first | exact HB.out | apply below_alloc | apply pw_below_drewN | apply below_drew1 | refine below_set ?_ GE162.out | refine below_set ?_ GE205.out) | exact HB.out)) hb); clear HO_163003; clear HO_206003; clear BK162; clear BK205; clear HB; have HO_163003 := n0_; have HO_206003 := n1_; have BK162 := n2_; have BK205 := n3_; have HB := n4_; clear n0_ n1_ n2_ n3_ n4_; (try clear hb); (try clear hb2); (try clear hk); (try clear hi)))
                        go_ret
                        exact ⟨by first | rfl | (simp [errW_none, errW_some] <;> rfl) | (simp [*, errW_none, errW_some] <;> rfl), by repeat (first | (with_reducible first | exact HB.out | apply below_alloc | apply pw_below_drewN | apply below_drew1 | refine below_set ?_ GE162.out | refine below_set ?_ GE205.out) | exact HB.out)⟩
                      · rw [if_neg c176] at H
                        have c176b0 : (t156.toList == a3.toList) = false := beq_eq_false_iff_ne.mpr c176
                        have c176b1 : (t156.toList != a3.toList) = true := bne_iff_ne.mpr c176
                        by_cases c183 : t156.toList = ([42] : List UInt8)
                        · rw [if_pos c183] at H
                          have c183b0 : (t156.toList == ([42] : List UInt8)) = true := beq_iff_eq.mpr c183
                          have c183b1 : (t156.toList != ([42] : List UInt8)) = false := bne_eq_false_iff_eq.mpr c183
                          clear c183
                          replace H := Option.bind_eq_some_iff.mp H
                          obtain ⟨t209, A1840, H⟩ := H
                          replace H : (some t209) = some r := H
                          have A184 := Aside0.mk A1840
                          clear A1840
                          obtain rfl := Option.some.inj H
                          have hnb185 := NB162_205.out
                          have hnc185 := NB205_162.out
                          have hcz186_0 : wc.cell? ⟨gb162, 0, none⟩ = some (.string t155) := (blk_cell BK162.out 0).trans rfl
                          have hcz186_1 : wc.cell? ⟨gb162, 1, none⟩ = some (.string t156) := (blk_cell BK162.out 1).trans rfl
                          have hcz186_2 : wc.cell? ⟨gb162, 2, none⟩ = some (.string t157) := (blk_cell BK162.out 2).trans rfl
                          have hcz186_3 : wc.cell? ⟨gb162, 3, none⟩ = some (.slice Ao10 t158.length co10) := (blk_cell BK162.out 3).trans rfl
                          have hfz186_0 := blk_frozen BK162.out 0
                          have hfz186_1 := blk_frozen BK162.out 1
                          have hfz186_2 := blk_frozen BK162.out 2
                          have hfz186_3 := blk_frozen BK162.out 3
                          go_wp2_with (first | ((with_reducible refine gate_callee (f := 8) rfl ?_); refine goesL_ (some 94) rfl rfl Tryd.func8 (by kernel_rfl) rfl #[.agg #[.string t155, .string t156, .string t157, .slice Ao10 t158.length co10]] rfl (by (try simp only [List.map_toArray, List.map_cons, List.map_nil]); first | done | rfl | (simp only [List.length_drop, List.length_take]; rfl)) ?_; (with_reducible refine (secret_Right.calls t155 t156 t157 _ _ t158 t207 _ ?side1 ?side2 A173.out).mono ?_); (case side1 => repeat (first | exact (Kd.R_reads' HO_163003.out).2.2 | (with_reducible refine Kd.C_alloc ?_ _) | (with_reducible refine Kd.C_drewN ?_ _) | (with_reducible refine Kd.C_drew ?_))); (case side2 => exact (Kd.R_reads' HO_163003.out).2.1); rintro e w187 ⟨rfl, hb⟩; refine ⟨_, rfl, ?_⟩; have n0_ := Aside0.mk (Kd.R_below (by (with_reducible repeat (first | apply Kd.R_alloc | apply Kd.R_drewN | apply Kd.R_drew)); exact HO_163003.out) hb); have n1_ := Aside0.mk (Kd.R_below (by (with_reducible repeat (first | apply Kd.R_alloc | apply Kd.R_drewN | apply Kd.R_drew)); exact HO_206003.out) hb); have n2_ := Aside0.mk (blk_below (g := gb162) (o := .cells #[.string t155, .string t156, .string t157, .slice Ao10 t158.length co10] 25 (0, 0)) (by (with_reducible repeat (first | refine blk_drewN ?_ _ | refine blk_drew ?_ | refine blk_alloc ?_ _)); exact BK162.out) hb); have n3_ := Aside0.mk (blk_below (g := gb205) (o := .cells #[.string t198, .string t199, .string t200, .slice Ao164 t201.length co164] 25 (0, 0)) (by (with_reducible repeat (first | refine blk_drewN ?_ _ | refine blk_drew ?_ | refine blk_alloc ?_ _)); exact BK205.out) hb); have n4_ := Aside0.mk (below_step (by repeat (first | (with_reducible first | exact HB.out | apply below_alloc | apply pw_below_drewN | apply below_drew1 | refine below_set ?_ GE162.out | refine below_set ?_ GE205.out) | exact HB.out)) hb); clear HO_163003; clear HO_206003; clear BK162; clear BK205; clear HB; have HO_163003 := n0_; have HO_206003 := n1_; have BK162 := n2_; have BK205 := n3_; have HB := n4_; clear n0_ n1_ n2_ n3_ n4_; (try clear hb); (try clear hb2); (try clear hk); (try clear hi); have hcz188_0 : w187.cell? ⟨gb162, 0, none⟩ = some (.string t155) := (blk_cell BK162.out 0).trans rfl; have hcz188_1 : w187.cell? ⟨gb162, 1, none⟩ = some (.string t156) := (blk_cell BK162.out 1).trans rfl; have hcz188_2 : w187.cell? ⟨gb162, 2, none⟩ = some (.string t157) := (blk_cell BK162.out 2).trans rfl; have hcz188_3 : w187.cell? ⟨gb162, 3, none⟩ = some (.slice Ao10 t158.length co10) := (blk_cell BK162.out 3).trans rfl; have hfz188_0 := blk_frozen BK162.out 0; have hfz188_1 := blk_frozen BK162.out 1; have hfz188_2 := blk_frozen BK162.out 2; have hfz188_3 := blk_frozen BK162.out 3) | (go_at_call 7; (with_reducible refine (tetherlaw06_awake.calls kj157  t209 _ ?side1 A184.out).mono ?_); (case side1 => repeat (first | exact (GW.below HG.out HB.out) | (with_reducible refine GW.alloc ?_ _) | (with_reducible refine GW.drewN ?_ _) | (with_reducible refine GW.drew ?_))); rintro e w189 ⟨rfl, hb⟩; have n0_ := Aside0.mk (Kd.R_below (by (with_reducible repeat (first | apply Kd.R_alloc | apply Kd.R_drewN | apply Kd.R_drew)); exact HO_163003.out) hb); have n1_ := Aside0.mk (Kd.R_below (by (with_reducible repeat (first | apply Kd.R_alloc | apply Kd.R_drewN | apply Kd.R_drew)); exact HO_206003.out) hb); have n2_ := Aside0.mk (blk_below (g := gb162) (o := .cells #[.string t155, .string t156, .string t157, .slice Ao10 t158.length co10] 25 (0, 0)) (by (with_reducible repeat (first | refine blk_drewN ?_ _ | refine blk_drew ?_ | refine blk_alloc ?_ _)); exact BK162.out) hb); have n3_ := Aside0.mk (blk_below (g := gb205) (o := .cells #[.string t198, .string t199, .string t200, .slice Ao164 t201.length co164] 25 (0, 0)) (by (with_reducible repeat (first | refine blk_drewN ?_ _ | refine blk_drew ?_ | refine blk_alloc ?_ _)); exact BK205.out) hb); have n4_ := Aside0.mk (below_step (by repeat (first | (with_reducible first | exact HB.out | apply below_alloc | apply pw_below_drewN | apply below_drew1 | refine below_set ?_ GE162.out | refine below_set ?_ GE205.out) | exact HB.out)) hb); clear HO_163003; clear HO_206003; clear BK162; clear BK205; clear HB; have HO_163003 := n0_; have HO_206003 := n1_; have BK162 := n2_; have BK205 := n3_; have HB := n4_; clear n0_ n1_ n2_ n3_ n4_; (try clear hb); (try clear hb2); (try clear hk); (try clear hi)))
                          go_ret
                          exact ⟨by first | rfl | (simp [errW_none, errW_some] <;> rfl) | (simp [*, errW_none, errW_some] <;> rfl), by repeat (first | (with_reducible first | exact HB.out | apply below_alloc | apply pw_below_drewN | apply below_drew1 | refine below_set ?_ GE162.out | refine below_set ?_ GE205.out) | exact HB.out)⟩
                        · rw [if_neg c183] at H
                          have c183b0 : (t156.toList == ([42] : List UInt8)) = false := beq_eq_false_iff_ne.mpr c183
                          have c183b1 : (t156.toList != ([42] : List UInt8)) = true := bne_iff_ne.mpr c183
                          obtain rfl := Option.some.inj H
                          have hnb190 := NB162_205.out
                          have hnc190 := NB205_162.out
                          have hcz191_0 : wc.cell? ⟨gb162, 0, none⟩ = some (.string t155) := (blk_cell BK162.out 0).trans rfl
                          have hcz191_1 : wc.cell? ⟨gb162, 1, none⟩ = some (.string t156) := (blk_cell BK162.out 1).trans rfl
                          have hcz191_2 : wc.cell? ⟨gb162, 2, none⟩ = some (.string t157) := (blk_cell BK162.out 2).trans rfl
                          have hcz191_3 : wc.cell? ⟨gb162, 3, none⟩ = some (.slice Ao10 t158.length co10) := (blk_cell BK162.out 3).trans rfl
                          have hfz191_0 := blk_frozen BK162.out 0
                          have hfz191_1 := blk_frozen BK162.out 1
                          have hfz191_2 := blk_frozen BK162.out 2
                          have hfz191_3 := blk_frozen BK162.out 3
                          go_wp2_with (first | ((with_reducible refine gate_callee (f := 8) rfl ?_); refine goesL_ (some 94) rfl rfl Tryd.func8 (by kernel_rfl) rfl #[.agg #[.string t155, .string t156, .string t157, .slice Ao10 t158.length co10]] rfl (by (try simp only [List.map_toArray, List.map_cons, List.map_nil]); first | done | rfl | (simp only [List.length_drop, List.length_take]; rfl)) ?_; (with_reducible refine (secret_Right.calls t155 t156 t157 _ _ t158 t207 _ ?side1 ?side2 A173.out).mono ?_); (case side1 => repeat (first | exact (Kd.R_reads' HO_163003.out).2.2 | (with_reducible refine Kd.C_alloc ?_ _) | (with_reducible refine Kd.C_drewN ?_ _) | (with_reducible refine Kd.C_drew ?_))); (case side2 => exact (Kd.R_reads' HO_163003.out).2.1); rintro e w192 ⟨rfl, hb⟩; refine ⟨_, rfl, ?_⟩; have n0_ := Aside0.mk (Kd.R_below (by (with_reducible repeat (first | apply Kd.R_alloc | apply Kd.R_drewN | apply Kd.R_drew)); exact HO_163003.out) hb); have n1_ := Aside0.mk (Kd.R_below (by (with_reducible repeat (first | apply Kd.R_alloc | apply Kd.R_drewN | apply Kd.R_drew)); exact HO_206003.out) hb); have n2_ := Aside0.mk (blk_below (g := gb162) (o := .cells #[.string t155, .string t156, .string t157, .slice Ao10 t158.length co10] 25 (0, 0)) (by (with_reducible repeat (first | refine blk_drewN ?_ _ | refine blk_drew ?_ | refine blk_alloc ?_ _)); exact BK162.out) hb); have n3_ := Aside0.mk (blk_below (g := gb205) (o := .cells #[.string t198, .string t199, .string t200, .slice Ao164 t201.length co164] 25 (0, 0)) (by (with_reducible repeat (first | refine blk_drewN ?_ _ | refine blk_drew ?_ | refine blk_alloc ?_ _)); exact BK205.out) hb); have n4_ := Aside0.mk (below_step (by repeat (first | (with_reducible first | exact HB.out | apply below_alloc | apply pw_below_drewN | apply below_drew1 | refine below_set ?_ GE162.out | refine below_set ?_ GE205.out) | exact HB.out)) hb); clear HO_163003; clear HO_206003; clear BK162; clear BK205; clear HB; have HO_163003 := n0_; have HO_206003 := n1_; have BK162 := n2_; have BK205 := n3_; have HB := n4_; clear n0_ n1_ n2_ n3_ n4_; (try clear hb); (try clear hb2); (try clear hk); (try clear hi); have hcz193_0 : w192.cell? ⟨gb162, 0, none⟩ = some (.string t155) := (blk_cell BK162.out 0).trans rfl; have hcz193_1 : w192.cell? ⟨gb162, 1, none⟩ = some (.string t156) := (blk_cell BK162.out 1).trans rfl; have hcz193_2 : w192.cell? ⟨gb162, 2, none⟩ = some (.string t157) := (blk_cell BK162.out 2).trans rfl; have hcz193_3 : w192.cell? ⟨gb162, 3, none⟩ = some (.slice Ao10 t158.length co10) := (blk_cell BK162.out 3).trans rfl; have hfz193_0 := blk_frozen BK162.out 0; have hfz193_1 := blk_frozen BK162.out 1; have hfz193_2 := blk_frozen BK162.out 2; have hfz193_3 := blk_frozen BK162.out 3))
                          go_ret
                          exact ⟨by first | rfl | (simp [errW_none, errW_some] <;> rfl) | (simp [*, errW_none, errW_some] <;> rfl), by repeat (first | (with_reducible first | exact HB.out | apply below_alloc | apply pw_below_drewN | apply below_drew1 | refine below_set ?_ GE162.out | refine below_set ?_ GE205.out) | exact HB.out)⟩
                    · rw [if_neg c175] at H
                      have c175b0 : (t155.toList == a2.toList) = false := beq_eq_false_iff_ne.mpr c175
                      have c175b1 : (t155.toList != a2.toList) = true := bne_iff_ne.mpr c175
                      by_cases c194 : t155.toList = ([42] : List UInt8)
                      · rw [if_pos c194] at H
                        have c194b0 : (t155.toList == ([42] : List UInt8)) = true := beq_iff_eq.mpr c194
                        have c194b1 : (t155.toList != ([42] : List UInt8)) = false := bne_eq_false_iff_eq.mpr c194
                        clear c194
                        by_cases c195 : t156.toList = a3.toList
                        · rw [if_pos c195] at H
                          have c195b0 : (t156.toList == a3.toList) = true := beq_iff_eq.mpr c195
                          have c195b1 : (t156.toList != a3.toList) = false := bne_eq_false_iff_eq.mpr c195
                          clear c195
                          replace H := Option.bind_eq_some_iff.mp H
                          obtain ⟨t210, A1960, H⟩ := H
                          replace H : (some t210) = some r := H
                          have A196 := Aside0.mk A1960
                          clear A1960
                          obtain rfl := Option.some.inj H
                          have hnb197 := NB162_205.out
                          have hnc197 := NB205_162.out
                          have hcz198_0 : wc.cell? ⟨gb162, 0, none⟩ = some (.string t155) := (blk_cell BK162.out 0).trans rfl
                          have hcz198_1 : wc.cell? ⟨gb162, 1, none⟩ = some (.string t156) := (blk_cell BK162.out 1).trans rfl
                          have hcz198_2 : wc.cell? ⟨gb162, 2, none⟩ = some (.string t157) := (blk_cell BK162.out 2).trans rfl
                          have hcz198_3 : wc.cell? ⟨gb162, 3, none⟩ = some (.slice Ao10 t158.length co10) := (blk_cell BK162.out 3).trans rfl
                          have hfz198_0 := blk_frozen BK162.out 0
                          have hfz198_1 := blk_frozen BK162.out 1
                          have hfz198_2 := blk_frozen BK162.out 2
                          have hfz198_3 := blk_frozen BK162.out 3
                          go_wp2_with (first | ((with_reducible refine gate_callee (f := 8) rfl ?_); refine goesL_ (some 94) rfl rfl Tryd.func8 (by kernel_rfl) rfl #[.agg #[.string t155, .string t156, .string t157, .slice Ao10 t158.length co10]] rfl (by (try simp only [List.map_toArray, List.map_cons, List.map_nil]); first | done | rfl | (simp only [List.length_drop, List.length_take]; rfl)) ?_; (with_reducible refine (secret_Right.calls t155 t156 t157 _ _ t158 t207 _ ?side1 ?side2 A173.out).mono ?_); (case side1 => repeat (first | exact (Kd.R_reads' HO_163003.out).2.2 | (with_reducible refine Kd.C_alloc ?_ _) | (with_reducible refine Kd.C_drewN ?_ _) | (with_reducible refine Kd.C_drew ?_))); (case side2 => exact (Kd.R_reads' HO_163003.out).2.1); rintro e w199 ⟨rfl, hb⟩; refine ⟨_, rfl, ?_⟩; have n0_ := Aside0.mk (Kd.R_below (by (with_reducible repeat (first | apply Kd.R_alloc | apply Kd.R_drewN | apply Kd.R_drew)); exact HO_163003.out) hb); have n1_ := Aside0.mk (Kd.R_below (by (with_reducible repeat (first | apply Kd.R_alloc | apply Kd.R_drewN | apply Kd.R_drew)); exact HO_206003.out) hb); have n2_ := Aside0.mk (blk_below (g := gb162) (o := .cells #[.string t155, .string t156, .string t157, .slice Ao10 t158.length co10] 25 (0, 0)) (by (with_reducible repeat (first | refine blk_drewN ?_ _ | refine blk_drew ?_ | refine blk_alloc ?_ _)); exact BK162.out) hb); have n3_ := Aside0.mk (blk_below (g := gb205) (o := .cells #[.string t198, .string t199, .string t200, .slice Ao164 t201.length co164] 25 (0, 0)) (by (with_reducible repeat (first | refine blk_drewN ?_ _ | refine blk_drew ?_ | refine blk_alloc ?_ _)); exact BK205.out) hb); have n4_ := Aside0.mk (below_step (by repeat (first | (with_reducible first | exact HB.out | apply below_alloc | apply pw_below_drewN | apply below_drew1 | refine below_set ?_ GE162.out | refine below_set ?_ GE205.out) | exact HB.out)) hb); clear HO_163003; clear HO_206003; clear BK162; clear BK205; clear HB; have HO_163003 := n0_; have HO_206003 := n1_; have BK162 := n2_; have BK205 := n3_; have HB := n4_; clear n0_ n1_ n2_ n3_ n4_; (try clear hb); (try clear hb2); (try clear hk); (try clear hi); have hcz200_0 : w199.cell? ⟨gb162, 0, none⟩ = some (.string t155) := (blk_cell BK162.out 0).trans rfl; have hcz200_1 : w199.cell? ⟨gb162, 1, none⟩ = some (.string t156) := (blk_cell BK162.out 1).trans rfl; have hcz200_2 : w199.cell? ⟨gb162, 2, none⟩ = some (.string t157) := (blk_cell BK162.out 2).trans rfl; have hcz200_3 : w199.cell? ⟨gb162, 3, none⟩ = some (.slice Ao10 t158.length co10) := (blk_cell BK162.out 3).trans rfl; have hfz200_0 := blk_frozen BK162.out 0; have hfz200_1 := blk_frozen BK162.out 1; have hfz200_2 := blk_frozen BK162.out 2; have hfz200_3 := blk_frozen BK162.out 3) | (go_at_call 7; (with_reducible refine (tetherlaw06_awake.calls kj157  t210 _ ?side1 A196.out).mono ?_); (case side1 => repeat (first | exact (GW.below HG.out HB.out) | (with_reducible refine GW.alloc ?_ _) | (with_reducible refine GW.drewN ?_ _) | (with_reducible refine GW.drew ?_))); rintro e w201 ⟨rfl, hb⟩; have n0_ := Aside0.mk (Kd.R_below (by (with_reducible repeat (first | apply Kd.R_alloc | apply Kd.R_drewN | apply Kd.R_drew)); exact HO_163003.out) hb); have n1_ := Aside0.mk (Kd.R_below (by (with_reducible repeat (first | apply Kd.R_alloc | apply Kd.R_drewN | apply Kd.R_drew)); exact HO_206003.out) hb); have n2_ := Aside0.mk (blk_below (g := gb162) (o := .cells #[.string t155, .string t156, .string t157, .slice Ao10 t158.length co10] 25 (0, 0)) (by (with_reducible repeat (first | refine blk_drewN ?_ _ | refine blk_drew ?_ | refine blk_alloc ?_ _)); exact BK162.out) hb); have n3_ := Aside0.mk (blk_below (g := gb205) (o := .cells #[.string t198, .string t199, .string t200, .slice Ao164 t201.length co164] 25 (0, 0)) (by (with_reducible repeat (first | refine blk_drewN ?_ _ | refine blk_drew ?_ | refine blk_alloc ?_ _)); exact BK205.out) hb); have n4_ := Aside0.mk (below_step (by repeat (first | (with_reducible first | exact HB.out | apply below_alloc | apply pw_below_drewN | apply below_drew1 | refine below_set ?_ GE162.out | refine below_set ?_ GE205.out) | exact HB.out)) hb); clear HO_163003; clear HO_206003; clear BK162; clear BK205; clear HB; have HO_163003 := n0_; have HO_206003 := n1_; have BK162 := n2_; have BK205 := n3_; have HB := n4_; clear n0_ n1_ n2_ n3_ n4_; (try clear hb); (try clear hb2); (try clear hk); (try clear hi)))
                          go_ret
                          exact ⟨by first | rfl | (simp [errW_none, errW_some] <;> rfl) | (simp [*, errW_none, errW_some] <;> rfl), by repeat (first | (with_reducible first | exact HB.out | apply below_alloc | apply pw_below_drewN | apply below_drew1 | refine below_set ?_ GE162.out | refine below_set ?_ GE205.out) | exact HB.out)⟩
                        · rw [if_neg c195] at H
                          have c195b0 : (t156.toList == a3.toList) = false := beq_eq_false_iff_ne.mpr c195
                          have c195b1 : (t156.toList != a3.toList) = true := bne_iff_ne.mpr c195
                          by_cases c202 : t156.toList = ([42] : List UInt8)
                          · rw [if_pos c202] at H
                            have c202b0 : (t156.toList == ([42] : List UInt8)) = true := beq_iff_eq.mpr c202
                            have c202b1 : (t156.toList != ([42] : List UInt8)) = false := bne_eq_false_iff_eq.mpr c202
                            clear c202
                            replace H := Option.bind_eq_some_iff.mp H
                            obtain ⟨t211, A2030, H⟩ := H
                            replace H : (some t211) = some r := H
                            have A203 := Aside0.mk A2030
                            clear A2030
                            obtain rfl := Option.some.inj H
                            have hnb204 := NB162_205.out
                            have hnc204 := NB205_162.out
                            have hcz205_0 : wc.cell? ⟨gb162, 0, none⟩ = some (.string t155) := (blk_cell BK162.out 0).trans rfl
                            have hcz205_1 : wc.cell? ⟨gb162, 1, none⟩ = some (.string t156) := (blk_cell BK162.out 1).trans rfl
                            have hcz205_2 : wc.cell? ⟨gb162, 2, none⟩ = some (.string t157) := (blk_cell BK162.out 2).trans rfl
                            have hcz205_3 : wc.cell? ⟨gb162, 3, none⟩ = some (.slice Ao10 t158.length co10) := (blk_cell BK162.out 3).trans rfl
                            have hfz205_0 := blk_frozen BK162.out 0
                            have hfz205_1 := blk_frozen BK162.out 1
                            have hfz205_2 := blk_frozen BK162.out 2
                            have hfz205_3 := blk_frozen BK162.out 3
                            go_wp2_with (first | ((with_reducible refine gate_callee (f := 8) rfl ?_); refine goesL_ (some 94) rfl rfl Tryd.func8 (by kernel_rfl) rfl #[.agg #[.string t155, .string t156, .string t157, .slice Ao10 t158.length co10]] rfl (by (try simp only [List.map_toArray, List.map_cons, List.map_nil]); first | done | rfl | (simp only [List.length_drop, List.length_take]; rfl)) ?_; (with_reducible refine (secret_Right.calls t155 t156 t157 _ _ t158 t207 _ ?side1 ?side2 A173.out).mono ?_); (case side1 => repeat (first | exact (Kd.R_reads' HO_163003.out).2.2 | (with_reducible refine Kd.C_alloc ?_ _) | (with_reducible refine Kd.C_drewN ?_ _) | (with_reducible refine Kd.C_drew ?_))); (case side2 => exact (Kd.R_reads' HO_163003.out).2.1); rintro e w206 ⟨rfl, hb⟩; refine ⟨_, rfl, ?_⟩; have n0_ := Aside0.mk (Kd.R_below (by (with_reducible repeat (first | apply Kd.R_alloc | apply Kd.R_drewN | apply Kd.R_drew)); exact HO_163003.out) hb); have n1_ := Aside0.mk (Kd.R_below (by (with_reducible repeat (first | apply Kd.R_alloc | apply Kd.R_drewN | apply Kd.R_drew)); exact HO_206003.out) hb); have n2_ := Aside0.mk (blk_below (g := gb162) (o := .cells #[.string t155, .string t156, .string t157, .slice Ao10 t158.length co10] 25 (0, 0)) (by (with_reducible repeat (first | refine blk_drewN ?_ _ | refine blk_drew ?_ | refine blk_alloc ?_ _)); exact BK162.out) hb); have n3_ := Aside0.mk (blk_below (g := gb205) (o := .cells #[.string t198, .string t199, .string t200, .slice Ao164 t201.length co164] 25 (0, 0)) (by (with_reducible repeat (first | refine blk_drewN ?_ _ | refine blk_drew ?_ | refine blk_alloc ?_ _)); exact BK205.out) hb); have n4_ := Aside0.mk (below_step (by repeat (first | (with_reducible first | exact HB.out | apply below_alloc | apply pw_below_drewN | apply below_drew1 | refine below_set ?_ GE162.out | refine below_set ?_ GE205.out) | exact HB.out)) hb); clear HO_163003; clear HO_206003; clear BK162; clear BK205; clear HB; have HO_163003 := n0_; have HO_206003 := n1_; have BK162 := n2_; have BK205 := n3_; have HB := n4_; clear n0_ n1_ n2_ n3_ n4_; (try clear hb); (try clear hb2); (try clear hk); (try clear hi); have hcz207_0 : w206.cell? ⟨gb162, 0, none⟩ = some (.string t155) := (blk_cell BK162.out 0).trans rfl; have hcz207_1 : w206.cell? ⟨gb162, 1, none⟩ = some (.string t156) := (blk_cell BK162.out 1).trans rfl; have hcz207_2 : w206.cell? ⟨gb162, 2, none⟩ = some (.string t157) := (blk_cell BK162.out 2).trans rfl; have hcz207_3 : w206.cell? ⟨gb162, 3, none⟩ = some (.slice Ao10 t158.length co10) := (blk_cell BK162.out 3).trans rfl; have hfz207_0 := blk_frozen BK162.out 0; have hfz207_1 := blk_frozen BK162.out 1; have hfz207_2 := blk_frozen BK162.out 2; have hfz207_3 := blk_frozen BK162.out 3) | (go_at_call 7; (with_reducible refine (tetherlaw06_awake.calls kj157  t211 _ ?side1 A203.out).mono ?_); (case side1 => repeat (first | exact (GW.below HG.out HB.out) | (with_reducible refine GW.alloc ?_ _) | (with_reducible refine GW.drewN ?_ _) | (with_reducible refine GW.drew ?_))); rintro e w208 ⟨rfl, hb⟩; have n0_ := Aside0.mk (Kd.R_below (by (with_reducible repeat (first | apply Kd.R_alloc | apply Kd.R_drewN | apply Kd.R_drew)); exact HO_163003.out) hb); have n1_ := Aside0.mk (Kd.R_below (by (with_reducible repeat (first | apply Kd.R_alloc | apply Kd.R_drewN | apply Kd.R_drew)); exact HO_206003.out) hb); have n2_ := Aside0.mk (blk_below (g := gb162) (o := .cells #[.string t155, .string t156, .string t157, .slice Ao10 t158.length co10] 25 (0, 0)) (by (with_reducible repeat (first | refine blk_drewN ?_ _ | refine blk_drew ?_ | refine blk_alloc ?_ _)); exact BK162.out) hb); have n3_ := Aside0.mk (blk_below (g := gb205) (o := .cells #[.string t198, .string t199, .string t200, .slice Ao164 t201.length co164] 25 (0, 0)) (by (with_reducible repeat (first | refine blk_drewN ?_ _ | refine blk_drew ?_ | refine blk_alloc ?_ _)); exact BK205.out) hb); have n4_ := Aside0.mk (below_step (by repeat (first | (with_reducible first | exact HB.out | apply below_alloc | apply pw_below_drewN | apply below_drew1 | refine below_set ?_ GE162.out | refine below_set ?_ GE205.out) | exact HB.out)) hb); clear HO_163003; clear HO_206003; clear BK162; clear BK205; clear HB; have HO_163003 := n0_; have HO_206003 := n1_; have BK162 := n2_; have BK205 := n3_; have HB := n4_; clear n0_ n1_ n2_ n3_ n4_; (try clear hb); (try clear hb2); (try clear hk); (try clear hi)))
                            go_ret
                            exact ⟨by first | rfl | (simp [errW_none, errW_some] <;> rfl) | (simp [*, errW_none, errW_some] <;> rfl), by repeat (first | (with_reducible first | exact HB.out | apply below_alloc | apply pw_below_drewN | apply below_drew1 | refine below_set ?_ GE162.out | refine below_set ?_ GE205.out) | exact HB.out)⟩
                          · rw [if_neg c202] at H
                            have c202b0 : (t156.toList == ([42] : List UInt8)) = false := beq_eq_false_iff_ne.mpr c202
                            have c202b1 : (t156.toList != ([42] : List UInt8)) = true := bne_iff_ne.mpr c202
                            obtain rfl := Option.some.inj H
                            have hnb209 := NB162_205.out
                            have hnc209 := NB205_162.out
                            have hcz210_0 : wc.cell? ⟨gb162, 0, none⟩ = some (.string t155) := (blk_cell BK162.out 0).trans rfl
                            have hcz210_1 : wc.cell? ⟨gb162, 1, none⟩ = some (.string t156) := (blk_cell BK162.out 1).trans rfl
                            have hcz210_2 : wc.cell? ⟨gb162, 2, none⟩ = some (.string t157) := (blk_cell BK162.out 2).trans rfl
                            have hcz210_3 : wc.cell? ⟨gb162, 3, none⟩ = some (.slice Ao10 t158.length co10) := (blk_cell BK162.out 3).trans rfl
                            have hfz210_0 := blk_frozen BK162.out 0
                            have hfz210_1 := blk_frozen BK162.out 1
                            have hfz210_2 := blk_frozen BK162.out 2
                            have hfz210_3 := blk_frozen BK162.out 3
                            go_wp2_with (first | ((with_reducible refine gate_callee (f := 8) rfl ?_); refine goesL_ (some 94) rfl rfl Tryd.func8 (by kernel_rfl) rfl #[.agg #[.string t155, .string t156, .string t157, .slice Ao10 t158.length co10]] rfl (by (try simp only [List.map_toArray, List.map_cons, List.map_nil]); first | done | rfl | (simp only [List.length_drop, List.length_take]; rfl)) ?_; (with_reducible refine (secret_Right.calls t155 t156 t157 _ _ t158 t207 _ ?side1 ?side2 A173.out).mono ?_); (case side1 => repeat (first | exact (Kd.R_reads' HO_163003.out).2.2 | (with_reducible refine Kd.C_alloc ?_ _) | (with_reducible refine Kd.C_drewN ?_ _) | (with_reducible refine Kd.C_drew ?_))); (case side2 => exact (Kd.R_reads' HO_163003.out).2.1); rintro e w211 ⟨rfl, hb⟩; refine ⟨_, rfl, ?_⟩; have n0_ := Aside0.mk (Kd.R_below (by (with_reducible repeat (first | apply Kd.R_alloc | apply Kd.R_drewN | apply Kd.R_drew)); exact HO_163003.out) hb); have n1_ := Aside0.mk (Kd.R_below (by (with_reducible repeat (first | apply Kd.R_alloc | apply Kd.R_drewN | apply Kd.R_drew)); exact HO_206003.out) hb); have n2_ := Aside0.mk (blk_below (g := gb162) (o := .cells #[.string t155, .string t156, .string t157, .slice Ao10 t158.length co10] 25 (0, 0)) (by (with_reducible repeat (first | refine blk_drewN ?_ _ | refine blk_drew ?_ | refine blk_alloc ?_ _)); exact BK162.out) hb); have n3_ := Aside0.mk (blk_below (g := gb205) (o := .cells #[.string t198, .string t199, .string t200, .slice Ao164 t201.length co164] 25 (0, 0)) (by (with_reducible repeat (first | refine blk_drewN ?_ _ | refine blk_drew ?_ | refine blk_alloc ?_ _)); exact BK205.out) hb); have n4_ := Aside0.mk (below_step (by repeat (first | (with_reducible first | exact HB.out | apply below_alloc | apply pw_below_drewN | apply below_drew1 | refine below_set ?_ GE162.out | refine below_set ?_ GE205.out) | exact HB.out)) hb); clear HO_163003; clear HO_206003; clear BK162; clear BK205; clear HB; have HO_163003 := n0_; have HO_206003 := n1_; have BK162 := n2_; have BK205 := n3_; have HB := n4_; clear n0_ n1_ n2_ n3_ n4_; (try clear hb); (try clear hb2); (try clear hk); (try clear hi); have hcz212_0 : w211.cell? ⟨gb162, 0, none⟩ = some (.string t155) := (blk_cell BK162.out 0).trans rfl; have hcz212_1 : w211.cell? ⟨gb162, 1, none⟩ = some (.string t156) := (blk_cell BK162.out 1).trans rfl; have hcz212_2 : w211.cell? ⟨gb162, 2, none⟩ = some (.string t157) := (blk_cell BK162.out 2).trans rfl; have hcz212_3 : w211.cell? ⟨gb162, 3, none⟩ = some (.slice Ao10 t158.length co10) := (blk_cell BK162.out 3).trans rfl; have hfz212_0 := blk_frozen BK162.out 0; have hfz212_1 := blk_frozen BK162.out 1; have hfz212_2 := blk_frozen BK162.out 2; have hfz212_3 := blk_frozen BK162.out 3))
                            go_ret
                            exact ⟨by first | rfl | (simp [errW_none, errW_some] <;> rfl) | (simp [*, errW_none, errW_some] <;> rfl), by repeat (first | (with_reducible first | exact HB.out | apply below_alloc | apply pw_below_drewN | apply below_drew1 | refine below_set ?_ GE162.out | refine below_set ?_ GE205.out) | exact HB.out)⟩
                      · rw [if_neg c194] at H
                        have c194b0 : (t155.toList == ([42] : List UInt8)) = false := beq_eq_false_iff_ne.mpr c194
                        have c194b1 : (t155.toList != ([42] : List UInt8)) = true := bne_iff_ne.mpr c194
                        obtain rfl := Option.some.inj H
                        have hnb213 := NB162_205.out
                        have hnc213 := NB205_162.out
                        have hcz214_0 : wc.cell? ⟨gb162, 0, none⟩ = some (.string t155) := (blk_cell BK162.out 0).trans rfl
                        have hcz214_1 : wc.cell? ⟨gb162, 1, none⟩ = some (.string t156) := (blk_cell BK162.out 1).trans rfl
                        have hcz214_2 : wc.cell? ⟨gb162, 2, none⟩ = some (.string t157) := (blk_cell BK162.out 2).trans rfl
                        have hcz214_3 : wc.cell? ⟨gb162, 3, none⟩ = some (.slice Ao10 t158.length co10) := (blk_cell BK162.out 3).trans rfl
                        have hfz214_0 := blk_frozen BK162.out 0
                        have hfz214_1 := blk_frozen BK162.out 1
                        have hfz214_2 := blk_frozen BK162.out 2
                        have hfz214_3 := blk_frozen BK162.out 3
                        go_wp2_with (first | ((with_reducible refine gate_callee (f := 8) rfl ?_); refine goesL_ (some 94) rfl rfl Tryd.func8 (by kernel_rfl) rfl #[.agg #[.string t155, .string t156, .string t157, .slice Ao10 t158.length co10]] rfl (by (try simp only [List.map_toArray, List.map_cons, List.map_nil]); first | done | rfl | (simp only [List.length_drop, List.length_take]; rfl)) ?_; (with_reducible refine (secret_Right.calls t155 t156 t157 _ _ t158 t207 _ ?side1 ?side2 A173.out).mono ?_); (case side1 => repeat (first | exact (Kd.R_reads' HO_163003.out).2.2 | (with_reducible refine Kd.C_alloc ?_ _) | (with_reducible refine Kd.C_drewN ?_ _) | (with_reducible refine Kd.C_drew ?_))); (case side2 => exact (Kd.R_reads' HO_163003.out).2.1); rintro e w215 ⟨rfl, hb⟩; refine ⟨_, rfl, ?_⟩; have n0_ := Aside0.mk (Kd.R_below (by (with_reducible repeat (first | apply Kd.R_alloc | apply Kd.R_drewN | apply Kd.R_drew)); exact HO_163003.out) hb); have n1_ := Aside0.mk (Kd.R_below (by (with_reducible repeat (first | apply Kd.R_alloc | apply Kd.R_drewN | apply Kd.R_drew)); exact HO_206003.out) hb); have n2_ := Aside0.mk (blk_below (g := gb162) (o := .cells #[.string t155, .string t156, .string t157, .slice Ao10 t158.length co10] 25 (0, 0)) (by (with_reducible repeat (first | refine blk_drewN ?_ _ | refine blk_drew ?_ | refine blk_alloc ?_ _)); exact BK162.out) hb); have n3_ := Aside0.mk (blk_below (g := gb205) (o := .cells #[.string t198, .string t199, .string t200, .slice Ao164 t201.length co164] 25 (0, 0)) (by (with_reducible repeat (first | refine blk_drewN ?_ _ | refine blk_drew ?_ | refine blk_alloc ?_ _)); exact BK205.out) hb); have n4_ := Aside0.mk (below_step (by repeat (first | (with_reducible first | exact HB.out | apply below_alloc | apply pw_below_drewN | apply below_drew1 | refine below_set ?_ GE162.out | refine below_set ?_ GE205.out) | exact HB.out)) hb); clear HO_163003; clear HO_206003; clear BK162; clear BK205; clear HB; have HO_163003 := n0_; have HO_206003 := n1_; have BK162 := n2_; have BK205 := n3_; have HB := n4_; clear n0_ n1_ n2_ n3_ n4_; (try clear hb); (try clear hb2); (try clear hk); (try clear hi); have hcz216_0 : w215.cell? ⟨gb162, 0, none⟩ = some (.string t155) := (blk_cell BK162.out 0).trans rfl; have hcz216_1 : w215.cell? ⟨gb162, 1, none⟩ = some (.string t156) := (blk_cell BK162.out 1).trans rfl; have hcz216_2 : w215.cell? ⟨gb162, 2, none⟩ = some (.string t157) := (blk_cell BK162.out 2).trans rfl; have hcz216_3 : w215.cell? ⟨gb162, 3, none⟩ = some (.slice Ao10 t158.length co10) := (blk_cell BK162.out 3).trans rfl; have hfz216_0 := blk_frozen BK162.out 0; have hfz216_1 := blk_frozen BK162.out 1; have hfz216_2 := blk_frozen BK162.out 2; have hfz216_3 := blk_frozen BK162.out 3))
                        go_ret
                        exact ⟨by first | rfl | (simp [errW_none, errW_some] <;> rfl) | (simp [*, errW_none, errW_some] <;> rfl), by repeat (first | (with_reducible first | exact HB.out | apply below_alloc | apply pw_below_drewN | apply below_drew1 | refine below_set ?_ GE162.out | refine below_set ?_ GE205.out) | exact HB.out)⟩
                  · rw [if_neg c174] at H
                    have c174b0 : (t207 == 0) = false := beq_eq_false_iff_ne.mpr c174
                    have c174b1 : (t207 != 0) = true := bne_iff_ne.mpr c174
                    obtain rfl := Option.some.inj H
                    have hnb217 := NB162_205.out
                    have hnc217 := NB205_162.out
                    have hcz218_0 : wc.cell? ⟨gb162, 0, none⟩ = some (.string t155) := (blk_cell BK162.out 0).trans rfl
                    have hcz218_1 : wc.cell? ⟨gb162, 1, none⟩ = some (.string t156) := (blk_cell BK162.out 1).trans rfl
                    have hcz218_2 : wc.cell? ⟨gb162, 2, none⟩ = some (.string t157) := (blk_cell BK162.out 2).trans rfl
                    have hcz218_3 : wc.cell? ⟨gb162, 3, none⟩ = some (.slice Ao10 t158.length co10) := (blk_cell BK162.out 3).trans rfl
                    have hfz218_0 := blk_frozen BK162.out 0
                    have hfz218_1 := blk_frozen BK162.out 1
                    have hfz218_2 := blk_frozen BK162.out 2
                    have hfz218_3 := blk_frozen BK162.out 3
                    go_wp2_with (first | ((with_reducible refine gate_callee (f := 8) rfl ?_); refine goesL_ (some 94) rfl rfl Tryd.func8 (by kernel_rfl) rfl #[.agg #[.string t155, .string t156, .string t157, .slice Ao10 t158.length co10]] rfl (by (try simp only [List.map_toArray, List.map_cons, List.map_nil]); first | done | rfl | (simp only [List.length_drop, List.length_take]; rfl)) ?_; (with_reducible refine (secret_Right.calls t155 t156 t157 _ _ t158 t207 _ ?side1 ?side2 A173.out).mono ?_); (case side1 => repeat (first | exact (Kd.R_reads' HO_163003.out).2.2 | (with_reducible refine Kd.C_alloc ?_ _) | (with_reducible refine Kd.C_drewN ?_ _) | (with_reducible refine Kd.C_drew ?_))); (case side2 => exact (Kd.R_reads' HO_163003.out).2.1); rintro e w219 ⟨rfl, hb⟩; refine ⟨_, rfl, ?_⟩; have n0_ := Aside0.mk (Kd.R_below (by (with_reducible repeat (first | apply Kd.R_alloc | apply Kd.R_drewN | apply Kd.R_drew)); exact HO_163003.out) hb); have n1_ := Aside0.mk (Kd.R_below (by (with_reducible repeat (first | apply Kd.R_alloc | apply Kd.R_drewN | apply Kd.R_drew)); exact HO_206003.out) hb); have n2_ := Aside0.mk (blk_below (g := gb162) (o := .cells #[.string t155, .string t156, .string t157, .slice Ao10 t158.length co10] 25 (0, 0)) (by (with_reducible repeat (first | refine blk_drewN ?_ _ | refine blk_drew ?_ | refine blk_alloc ?_ _)); exact BK162.out) hb); have n3_ := Aside0.mk (blk_below (g := gb205) (o := .cells #[.string t198, .string t199, .string t200, .slice Ao164 t201.length co164] 25 (0, 0)) (by (with_reducible repeat (first | refine blk_drewN ?_ _ | refine blk_drew ?_ | refine blk_alloc ?_ _)); exact BK205.out) hb); have n4_ := Aside0.mk (below_step (by repeat (first | (with_reducible first | exact HB.out | apply below_alloc | apply pw_below_drewN | apply below_drew1 | refine below_set ?_ GE162.out | refine below_set ?_ GE205.out) | exact HB.out)) hb); clear HO_163003; clear HO_206003; clear BK162; clear BK205; clear HB; have HO_163003 := n0_; have HO_206003 := n1_; have BK162 := n2_; have BK205 := n3_; have HB := n4_; clear n0_ n1_ n2_ n3_ n4_; (try clear hb); (try clear hb2); (try clear hk); (try clear hi)))
                    go_ret
                    exact ⟨by first | rfl | (simp [errW_none, errW_some] <;> rfl) | (simp [*, errW_none, errW_some] <;> rfl), by repeat (first | (with_reducible first | exact HB.out | apply below_alloc | apply pw_below_drewN | apply below_drew1 | refine below_set ?_ GE162.out | refine below_set ?_ GE205.out) | exact HB.out)⟩
                · replace c172 := Bool.eq_false_iff.mpr c172
                  subst c172
                  have H1 : ((tetherlaw06_awake.f kj157).bind fun t212 => (some t212)) = some r := by rw [if_neg (show ¬ (false = true) by decide)] at H; exact H
                  clear H
                  have H := H1
                  clear H1
                  replace H := Option.bind_eq_some_iff.mp H
                  obtain ⟨t212, A2200, H⟩ := H
                  replace H : (some t212) = some r := H
                  have A220 := Aside0.mk A2200
                  clear A2200
                  obtain rfl := Option.some.inj H
                  go_wp2_with (first | ((with_reducible refine gate_callee (f := 7) rfl ?_); refine goesL_ (some 92) rfl rfl Tryd.func7 (by kernel_rfl) rfl #[] rfl (by (try simp only [List.map_toArray, List.map_cons, List.map_nil]); first | done | rfl | (simp only [List.length_drop, List.length_take]; rfl)) ?_; (with_reducible refine (tetherlaw06_awake.calls kj157  t212 _ ?side1 A220.out).mono ?_); (case side1 => repeat (first | exact (GW.below HG.out HB.out) | (with_reducible refine GW.alloc ?_ _) | (with_reducible refine GW.drewN ?_ _) | (with_reducible refine GW.drew ?_))); rintro e w221 ⟨rfl, hb⟩; refine ⟨_, rfl, ?_⟩; have n0_ := Aside0.mk (Kd.R_below (by (with_reducible repeat (first | apply Kd.R_alloc | apply Kd.R_drewN | apply Kd.R_drew)); exact HO_163003.out) hb); have n1_ := Aside0.mk (Kd.R_below (by (with_reducible repeat (first | apply Kd.R_alloc | apply Kd.R_drewN | apply Kd.R_drew)); exact HO_206003.out) hb); have n2_ := Aside0.mk (blk_below (g := gb162) (o := .cells #[.string t155, .string t156, .string t157, .slice Ao10 t158.length co10] 25 (0, 0)) (by (with_reducible repeat (first | refine blk_drewN ?_ _ | refine blk_drew ?_ | refine blk_alloc ?_ _)); exact BK162.out) hb); have n3_ := Aside0.mk (blk_below (g := gb205) (o := .cells #[.string t198, .string t199, .string t200, .slice Ao164 t201.length co164] 25 (0, 0)) (by (with_reducible repeat (first | refine blk_drewN ?_ _ | refine blk_drew ?_ | refine blk_alloc ?_ _)); exact BK205.out) hb); have n4_ := Aside0.mk (below_step (by repeat (first | (with_reducible first | exact HB.out | apply below_alloc | apply pw_below_drewN | apply below_drew1 | refine below_set ?_ GE162.out | refine below_set ?_ GE205.out) | exact HB.out)) hb); clear HO_163003; clear HO_206003; clear BK162; clear BK205; clear HB; have HO_163003 := n0_; have HO_206003 := n1_; have BK162 := n2_; have BK205 := n3_; have HB := n4_; clear n0_ n1_ n2_ n3_ n4_; (try clear hb); (try clear hb2); (try clear hk); (try clear hi)))
                  go_ret
                  exact ⟨by first | rfl | (simp [errW_none, errW_some] <;> rfl) | (simp [*, errW_none, errW_some] <;> rfl), by repeat (first | (with_reducible first | exact HB.out | apply below_alloc | apply pw_below_drewN | apply below_drew1 | refine below_set ?_ GE162.out | refine below_set ?_ GE205.out) | exact HB.out)⟩
  · rw [if_neg c6] at H
    exact absurd H (by simp)

end Go.Proofs.YtnjnipllflfmeaaDoor.Y
