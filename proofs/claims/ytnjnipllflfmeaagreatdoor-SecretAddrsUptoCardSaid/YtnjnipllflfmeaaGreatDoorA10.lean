-- Written by wip/xprint.py, a program of this session, out of the translation; Lean checks it.
import Derived.Test.YtnjnipllflfmeaaGreatDoorA0
import Derived.Test.YtnjnipllflfmeaaGreatDoorA9
namespace Go.Proofs.YtnjnipllflfmeaaGreatDoor.A
open Go.RowKit Go.Proofs.YtnjnipllflfmeaaGreatDoorW.PrintWords Go.Proofs.YtnjnipllflfmeaaGreatDoorW.PrintLast Go.Proofs.YtnjnipllflfmeaaGreatDoorW.PrintMore
attribute [local go_sem] max2_int min2_int max_two min_two max_three min_three max_four min_four   -- for this text's walks alone
set_option linter.unusedVariables false
set_option linter.unusedSimpArgs false

/-! ### tetherref06_Show: function 39 -/
def tetherref06_Show.l0 : Nat → Int → ByteArray → Int → Option (ByteArray)
  | 0, _, _, _ => none
  | k + 1, x0, x3, x4 => if x4 < 4 then (if x4 > 0 then (if x3.size + 1 ≤ 9223372036854775807 then (if 0 ≤ (IntKind.u64.wrap (wrap64 (24 - (wrap64 (8 * x4))))) then ((strconv_FormatInt.f (Go.bits .and .i64 (shr .i64 x0 (IntKind.u64.wrap (wrap64 (24 - (wrap64 (8 * x4)))))) 255) 10).bind fun t130 => (if (x3 ++ (⟨#[46]⟩ : ByteArray)).size + t130.size ≤ 9223372036854775807 then (tetherref06_Show.l0 k x0 ((x3 ++ (⟨#[46]⟩ : ByteArray)) ++ t130) (wrap64 (x4 + 1))) else (none))) else (none)) else (none)) else (if 0 ≤ (IntKind.u64.wrap (wrap64 (24 - (wrap64 (8 * x4))))) then ((strconv_FormatInt.f (Go.bits .and .i64 (shr .i64 x0 (IntKind.u64.wrap (wrap64 (24 - (wrap64 (8 * x4)))))) 255) 10).bind fun t131 => (if x3.size + t131.size ≤ 9223372036854775807 then (tetherref06_Show.l0 k x0 (x3 ++ t131) (wrap64 (x4 + 1))) else (none))) else (none))) else (some x3)
def tetherref06_Show.f (k : Nat) (a0 : Int) : Option (ByteArray) := tetherref06_Show.l0 k a0 (⟨#[]⟩ : ByteArray) 0
theorem tetherref06_Show.mono_l : ∀ k, (∀ y0 y1 y2, LeO (tetherref06_Show.l0 k y0 y1 y2) (tetherref06_Show.l0 (k + 1) y0 y1 y2))
  | 0 => fun _ _ _ r h => by simp [tetherref06_Show.l0] at h
  | k + 1 => by
    have ih0 := tetherref06_Show.mono_l k
    · intro y0 y1 y2
      unfold tetherref06_Show.l0
      repeat' first
      | (with_reducible exact ih0 _ _ _)
      | (with_reducible exact LeO.refl _)
      | (with_reducible exact LeO.none _)
      | (with_reducible refine LeO.ite ?_ ?_)
      | (with_reducible refine LeO.bind ?_ (fun _ => ?_))
      | exact ih0 _ _ _
      | exact LeO.none _
      | refine LeO.ite ?_ ?_
      | refine LeO.bind ?_ (fun _ => ?_)
theorem tetherref06_Show.mono : ∀ a0 k, LeO (tetherref06_Show.f k a0) (tetherref06_Show.f (k + 1) a0) := by
  intro a0 k
  have ih0 := tetherref06_Show.mono_l k
  unfold tetherref06_Show.f
  repeat' first
      | (with_reducible exact ih0 _ _ _)
      | (with_reducible exact LeO.refl _)
      | (with_reducible exact LeO.none _)
      | (with_reducible refine LeO.ite ?_ ?_)
      | (with_reducible refine LeO.bind ?_ (fun _ => ?_))
      | exact ih0 _ _ _
      | exact LeO.none _
      | refine LeO.ite ?_ ?_
      | refine LeO.bind ?_ (fun _ => ?_)
set_option maxHeartbeats 8000000 in
set_option maxRecDepth 100000 in
theorem tetherref06_Show.calls (k : Nat) (a0 : Int) (r : ByteArray) (w : World) (hG : GW w) (h : tetherref06_Show.f k a0 = some r) :
    Calls Tryz.prog 39 #[.int .i64 a0] w fun e w' => e = .returned (.string r) ∧ Below w.heap.size w w' := by
  have HG := Aside0.mk hG
  clear hG
  have HB := Aside0.mk (Below.refl w.heap.size w)
  have H : (tetherref06_Show.l0 k a0 (⟨#[]⟩ : ByteArray) 0) = some r := h
  clear h
  have H' := Aside0.mk H
  clear H
  go_enter Tryz.func39, Tryz.ntmps39
  go_wp2
  go_loopg [3, 4] k (fun kq v3 v4 w' => ∃ (x3_1 : ByteArray) (x4_1 : Int), v3 = .string x3_1 ∧ v4 = .int .i64 x4_1 ∧ Aside0 (tetherref06_Show.l0 kq a0 x3_1 x4_1 = some r) ∧ Aside0 (kq ≤ k) ∧ Aside0 (Below w.heap.size w w'))
  case atStart => exact ⟨((⟨#[]⟩ : ByteArray)), (0), (by first | rfl | (simp; done) | (simp [*]; done)), (by first | rfl | (simp; done) | (simp [*]; done)), H', ⟨Nat.le_refl _⟩, ⟨by repeat (first | (with_reducible first | exact HB.out | apply below_alloc | apply pw_below_drewN | apply below_drew1) | exact HB.out)⟩⟩
  case round =>
    clear H'
    obtain ⟨x3_1, x4_1, rfl, rfl, HA, HK1, HB⟩ := hrel
    cases gk with
    | zero => exact absurd HA.out (by simp [tetherref06_Show.l0])
    | succ k1 =>
      have H := HA.out
      clear HA
      simp only [tetherref06_Show.l0] at H
      by_cases c2 : x4_1 < 4
      · rw [if_pos c2] at H
        have c2b0 : decide (x4_1 < 4) = true := decide_eq_true c2
        clear c2
        by_cases c3 : x4_1 > 0
        · rw [if_pos c3] at H
          have c3b0 : decide (0 < x4_1) = true := decide_eq_true c3
          clear c3
          by_cases c4 : x3_1.size + 1 ≤ 9223372036854775807
          · rw [if_pos c4] at H
            have c4b0 := eq_true c4
            have c4b1 : decide (x3_1.size + 1 ≤ 9223372036854775807) = true := decide_eq_true c4
            try have c4b2 : (9223372036854775807 < x3_1.size + 1) = False := eq_false (Nat.not_lt.2 c4)
            have c4n := c4
            (try simp [ByteArray.size_append] at c4n)
            try have c4m := eq_true c4n
            try have c4o := eq_false (Nat.not_lt.2 c4n)
            try clear c4n
            obtain ⟨ji5, hji5⟩ : ∃ j_ : Int, (IntKind.u64.wrap (wrap64 (24 - (wrap64 (8 * x4_1))))) = j_ := ⟨_, rfl⟩
            replace H : (if 0 ≤ (ji5) then ((strconv_FormatInt.f (Go.bits .and .i64 (shr .i64 a0 (ji5)) 255) 10).bind fun t130 => (if (x3_1 ++ (⟨#[46]⟩ : ByteArray)).size + t130.size ≤ 9223372036854775807 then (tetherref06_Show.l0 k1 a0 ((x3_1 ++ (⟨#[46]⟩ : ByteArray)) ++ t130) (wrap64 (x4_1 + 1))) else (none))) else (none)) = some r := by first | (rw [hji5] at H; exact H) | (simp only [hji5] at H ⊢; exact H)
            by_cases c6 : 0 ≤ (ji5)
            · rw [if_pos c6] at H
              have c6b0 := eq_true c6
              have c6b1 : decide (0 ≤ (ji5)) = true := decide_eq_true c6
              clear c6
              obtain ⟨ji7, hji7⟩ : ∃ j_ : Int, (shr .i64 a0 (ji5)) = j_ := ⟨_, rfl⟩
              replace H : ((strconv_FormatInt.f (Go.bits .and .i64 (ji7) 255) 10).bind fun t130 => (if (x3_1 ++ (⟨#[46]⟩ : ByteArray)).size + t130.size ≤ 9223372036854775807 then (tetherref06_Show.l0 k1 a0 ((x3_1 ++ (⟨#[46]⟩ : ByteArray)) ++ t130) (wrap64 (x4_1 + 1))) else (none))) = some r := by first | (rw [hji7] at H; exact H) | (simp only [hji7] at H ⊢; exact H)
              have hji7_ : (a0 / 2 ^ min (ji5).toNat 64) = ji7 := hji7
              have hji7z : (ji5) ≤ 64 → (a0 / 2 ^ (ji5).toNat) = ji7 := shr_small hji7
              replace H := Option.bind_eq_some_iff.mp H
              obtain ⟨t130, A80, H⟩ := H
              replace H : (if (x3_1 ++ (⟨#[46]⟩ : ByteArray)).size + t130.size ≤ 9223372036854775807 then (tetherref06_Show.l0 k1 a0 ((x3_1 ++ (⟨#[46]⟩ : ByteArray)) ++ t130) (wrap64 (x4_1 + 1))) else (none)) = some r := H
              have A8 := Aside0.mk A80
              clear A80
              by_cases c9 : (x3_1 ++ (⟨#[46]⟩ : ByteArray)).size + t130.size ≤ 9223372036854775807
              · rw [if_pos c9] at H
                have c9b0 := eq_true c9
                have c9b1 : decide ((x3_1 ++ (⟨#[46]⟩ : ByteArray)).size + t130.size ≤ 9223372036854775807) = true := decide_eq_true c9
                try have c9b2 : (9223372036854775807 < (x3_1 ++ (⟨#[46]⟩ : ByteArray)).size + t130.size) = False := eq_false (Nat.not_lt.2 c9)
                have c9n := c9
                have c9x : (9223372036854775807 < x3_1.size + 1 + t130.size) = False := eq_false (Nat.not_lt.2 (by have h_ : (x3_1 ++ (⟨#[46]⟩ : ByteArray)).size = x3_1.size + 1 := (by rw [ByteArray.size_append]; rfl); (have h2_ := c9; omega)))
                (try simp [ByteArray.size_append] at c9n)
                try have c9m := eq_true c9n
                try have c9o := eq_false (Nat.not_lt.2 c9n)
                try clear c9n
                have H' := Aside0.mk H
                clear H
                go_wp2_with (first | ((with_reducible refine gate_callee (f := 37) rfl ?_); refine goesL_ (some 21) rfl rfl Tryz.func37 (by kernel_rfl) rfl #[.int .i64 (Go.bits .and .i64 (ji7) 255), .int .i64 10] rfl (by (try simp only [List.map_toArray, List.map_cons, List.map_nil]); first | done | (simp only [hji7]; rfl) | rfl | (simp only [List.length_drop, List.length_take]; rfl)) ?_; (with_reducible refine (strconv_FormatInt.calls (Go.bits .and .i64 (ji7) 255) 10 t130 _ ?side1 A8.out).mono ?_); (case side1 => repeat (first | exact (GW.below HG.out HB.out) | (with_reducible refine GW.alloc ?_ _) | (with_reducible refine GW.drewN ?_ _) | (with_reducible refine GW.drew ?_))); rintro e w10 ⟨rfl, hb⟩; refine ⟨_, rfl, ?_⟩; have n0_ := Aside0.mk (below_step (by repeat (first | (with_reducible first | exact HB.out | apply below_alloc | apply pw_below_drewN | apply below_drew1) | exact HB.out)) hb); clear HB; have HB := n0_; clear n0_; (try clear hb); (try clear hb2); (try clear hk); (try clear hi)))
                go_roundg k1
                case measure => have := HK1.out; omega
                case rel => exact ⟨((x3_1 ++ (⟨#[46]⟩ : ByteArray)) ++ t130), (wrap64 (x4_1 + 1)), (by first | rfl | (simp; done) | (simp [*]; done)), (by first | rfl | (simp; done) | (simp [*]; done)), H', ⟨by have := HK1.out; omega⟩, ⟨by repeat (first | (with_reducible first | exact HB.out | apply below_alloc | apply pw_below_drewN | apply below_drew1) | exact HB.out)⟩⟩
              · rw [if_neg c9] at H
                exact absurd H (by simp)
            · rw [if_neg c6] at H
              exact absurd H (by simp)
          · rw [if_neg c4] at H
            exact absurd H (by simp)
        · rw [if_neg c3] at H
          have c3b0 : decide (0 < x4_1) = false := decide_eq_false c3
          clear c3
          obtain ⟨ji11, hji11⟩ : ∃ j_ : Int, (IntKind.u64.wrap (wrap64 (24 - (wrap64 (8 * x4_1))))) = j_ := ⟨_, rfl⟩
          replace H : (if 0 ≤ (ji11) then ((strconv_FormatInt.f (Go.bits .and .i64 (shr .i64 a0 (ji11)) 255) 10).bind fun t131 => (if x3_1.size + t131.size ≤ 9223372036854775807 then (tetherref06_Show.l0 k1 a0 (x3_1 ++ t131) (wrap64 (x4_1 + 1))) else (none))) else (none)) = some r := by first | (rw [hji11] at H; exact H) | (simp only [hji11] at H ⊢; exact H)
          by_cases c12 : 0 ≤ (ji11)
          · rw [if_pos c12] at H
            have c12b0 := eq_true c12
            have c12b1 : decide (0 ≤ (ji11)) = true := decide_eq_true c12
            clear c12
            obtain ⟨ji13, hji13⟩ : ∃ j_ : Int, (shr .i64 a0 (ji11)) = j_ := ⟨_, rfl⟩
            replace H : ((strconv_FormatInt.f (Go.bits .and .i64 (ji13) 255) 10).bind fun t131 => (if x3_1.size + t131.size ≤ 9223372036854775807 then (tetherref06_Show.l0 k1 a0 (x3_1 ++ t131) (wrap64 (x4_1 + 1))) else (none))) = some r := by first | (rw [hji13] at H; exact H) | (simp only [hji13] at H ⊢; exact H)
            have hji13_ : (a0 / 2 ^ min (ji11).toNat 64) = ji13 := hji13
            have hji13z : (ji11) ≤ 64 → (a0 / 2 ^ (ji11).toNat) = ji13 := shr_small hji13
            replace H := Option.bind_eq_some_iff.mp H
            obtain ⟨t131, A140, H⟩ := H
            replace H : (if x3_1.size + t131.size ≤ 9223372036854775807 then (tetherref06_Show.l0 k1 a0 (x3_1 ++ t131) (wrap64 (x4_1 + 1))) else (none)) = some r := H
            have A14 := Aside0.mk A140
            clear A140
            by_cases c15 : x3_1.size + t131.size ≤ 9223372036854775807
            · rw [if_pos c15] at H
              have c15b0 := eq_true c15
              have c15b1 : decide (x3_1.size + t131.size ≤ 9223372036854775807) = true := decide_eq_true c15
              try have c15b2 : (9223372036854775807 < x3_1.size + t131.size) = False := eq_false (Nat.not_lt.2 c15)
              have c15n := c15
              (try simp [ByteArray.size_append] at c15n)
              try have c15m := eq_true c15n
              try have c15o := eq_false (Nat.not_lt.2 c15n)
              try clear c15n
              have H' := Aside0.mk H
              clear H
              go_wp2_with (first | ((with_reducible refine gate_callee (f := 37) rfl ?_); refine goesL_ (some 21) rfl rfl Tryz.func37 (by kernel_rfl) rfl #[.int .i64 (Go.bits .and .i64 (ji13) 255), .int .i64 10] rfl (by (try simp only [List.map_toArray, List.map_cons, List.map_nil]); first | done | (simp only [hji13]; rfl) | rfl | (simp only [List.length_drop, List.length_take]; rfl)) ?_; (with_reducible refine (strconv_FormatInt.calls (Go.bits .and .i64 (ji13) 255) 10 t131 _ ?side1 A14.out).mono ?_); (case side1 => repeat (first | exact (GW.below HG.out HB.out) | (with_reducible refine GW.alloc ?_ _) | (with_reducible refine GW.drewN ?_ _) | (with_reducible refine GW.drew ?_))); rintro e w16 ⟨rfl, hb⟩; refine ⟨_, rfl, ?_⟩; have n0_ := Aside0.mk (below_step (by repeat (first | (with_reducible first | exact HB.out | apply below_alloc | apply pw_below_drewN | apply below_drew1) | exact HB.out)) hb); clear HB; have HB := n0_; clear n0_; (try clear hb); (try clear hb2); (try clear hk); (try clear hi)))
              go_roundg k1
              case measure => have := HK1.out; omega
              case rel => exact ⟨(x3_1 ++ t131), (wrap64 (x4_1 + 1)), (by first | rfl | (simp; done) | (simp [*]; done)), (by first | rfl | (simp; done) | (simp [*]; done)), H', ⟨by have := HK1.out; omega⟩, ⟨by repeat (first | (with_reducible first | exact HB.out | apply below_alloc | apply pw_below_drewN | apply below_drew1) | exact HB.out)⟩⟩
            · rw [if_neg c15] at H
              exact absurd H (by simp)
          · rw [if_neg c12] at H
            exact absurd H (by simp)
      · rw [if_neg c2] at H
        have c2b0 : decide (x4_1 < 4) = false := decide_eq_false c2
        clear c2
        obtain rfl := Option.some.inj H
        go_wp2
        go_ret
        exact ⟨by first | rfl | (simp [errW_none, errW_some] <;> rfl) | (simp [*, errW_none, errW_some] <;> rfl), by repeat (first | (with_reducible first | exact HB.out | apply below_alloc | apply pw_below_drewN | apply below_drew1) | exact HB.out)⟩

/-! ### tetherref06_AddrText: function 15 -/
def tetherref06_AddrText.f (k : Nat) (a0 : Int) : Option (ByteArray × Int) := if a0 < 0 then (some ((⟨#[]⟩ : ByteArray), 150)) else (if a0 > 4294967295 then (some ((⟨#[]⟩ : ByteArray), 150)) else ((tetherref06_Show.f k a0).bind fun t132 => (some (t132, 0))))
theorem tetherref06_AddrText.mono : ∀ a0 k, LeO (tetherref06_AddrText.f k a0) (tetherref06_AddrText.f (k + 1) a0) := by
  intro a0 k
  unfold tetherref06_AddrText.f
  repeat' first
      | (with_reducible exact tetherref06_Show.mono _ _)
      | (with_reducible exact LeO.refl _)
      | (with_reducible exact LeO.none _)
      | (with_reducible refine LeO.ite ?_ ?_)
      | (with_reducible refine LeO.bind ?_ (fun _ => ?_))
      | exact tetherref06_Show.mono _ _
      | exact LeO.none _
      | refine LeO.ite ?_ ?_
      | refine LeO.bind ?_ (fun _ => ?_)
set_option maxHeartbeats 8000000 in
set_option maxRecDepth 100000 in
theorem tetherref06_AddrText.calls (k : Nat) (a0 : Int) (r1 : ByteArray) (r2 : Int) (w : World) (hG : GW w) (h : tetherref06_AddrText.f k a0 = some (r1, r2)) :
    Calls Tryz.prog 15 #[.int .i64 a0] w fun e w' => e = .returned (.tuple #[.string r1, .int .i64 r2]) ∧ Below w.heap.size w w' := by
  have HG := Aside0.mk hG
  clear hG
  have HB := Aside0.mk (Below.refl w.heap.size w)
  have H : (if a0 < 0 then (some ((⟨#[]⟩ : ByteArray), 150)) else (if a0 > 4294967295 then (some ((⟨#[]⟩ : ByteArray), 150)) else ((tetherref06_Show.f k a0).bind fun t132 => (some (t132, 0))))) = some (r1, r2) := h
  clear h
  by_cases c2 : a0 < 0
  · rw [if_pos c2] at H
    have c2b0 : decide (a0 < 0) = true := decide_eq_true c2
    clear c2
    simp only [Option.some.injEq, Prod.mk.injEq] at H
    obtain ⟨rfl, rfl⟩ := H
    go_enter Tryz.func15, Tryz.ntmps15
    go_wp2
    go_ret2
    exact ⟨by first | rfl | (simp [errW_none, errW_some] <;> rfl) | (simp [*, errW_none, errW_some] <;> rfl), by repeat (first | (with_reducible first | exact HB.out | apply below_alloc | apply pw_below_drewN | apply below_drew1) | exact HB.out)⟩
  · rw [if_neg c2] at H
    have c2b0 : decide (a0 < 0) = false := decide_eq_false c2
    clear c2
    by_cases c3 : a0 > 4294967295
    · rw [if_pos c3] at H
      have c3b0 : decide (4294967295 < a0) = true := decide_eq_true c3
      clear c3
      simp only [Option.some.injEq, Prod.mk.injEq] at H
      obtain ⟨rfl, rfl⟩ := H
      go_enter Tryz.func15, Tryz.ntmps15
      go_wp2
      go_ret2
      exact ⟨by first | rfl | (simp [errW_none, errW_some] <;> rfl) | (simp [*, errW_none, errW_some] <;> rfl), by repeat (first | (with_reducible first | exact HB.out | apply below_alloc | apply pw_below_drewN | apply below_drew1) | exact HB.out)⟩
    · rw [if_neg c3] at H
      have c3b0 : decide (4294967295 < a0) = false := decide_eq_false c3
      clear c3
      replace H := Option.bind_eq_some_iff.mp H
      obtain ⟨t132, A40, H⟩ := H
      replace H : (some (t132, 0)) = some (r1, r2) := H
      have A4 := Aside0.mk A40
      clear A40
      simp only [Option.some.injEq, Prod.mk.injEq] at H
      obtain ⟨rfl, rfl⟩ := H
      go_enter Tryz.func15, Tryz.ntmps15
      go_wp2_with (first | ((with_reducible refine gate_callee (f := 39) rfl ?_); refine goesL_ (some 11) rfl rfl Tryz.func39 (by kernel_rfl) rfl #[.int .i64 a0] rfl (by (try simp only [List.map_toArray, List.map_cons, List.map_nil]); first | done | rfl | (simp only [List.length_drop, List.length_take]; rfl)) ?_; (with_reducible refine (tetherref06_Show.calls k a0 t132 _ ?side1 A4.out).mono ?_); (case side1 => repeat (first | exact HG.out | (with_reducible refine GW.alloc ?_ _) | (with_reducible refine GW.drewN ?_ _) | (with_reducible refine GW.drew ?_))); rintro e w5 ⟨rfl, hb⟩; refine ⟨_, rfl, ?_⟩; have n0_ := Aside0.mk (below_step (by repeat (first | (with_reducible first | exact HB.out | apply below_alloc | apply pw_below_drewN | apply below_drew1) | exact HB.out)) hb); clear HB; have HB := n0_; clear n0_; (try clear hb); (try clear hb2); (try clear hk); (try clear hi)))
      go_ret2
      exact ⟨by first | rfl | (simp [errW_none, errW_some] <;> rfl) | (simp [*, errW_none, errW_some] <;> rfl), by repeat (first | (with_reducible first | exact HB.out | apply below_alloc | apply pw_below_drewN | apply below_drew1) | exact HB.out)⟩

end Go.Proofs.YtnjnipllflfmeaaGreatDoor.A
