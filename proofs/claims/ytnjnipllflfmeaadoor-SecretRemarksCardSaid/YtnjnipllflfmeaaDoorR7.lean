-- Written by wip/xprint.py, a program of this session, out of the translation; Lean checks it.
import Derived.Test.YtnjnipllflfmeaaDoorR0
import Derived.Test.YtnjnipllflfmeaaDoorR3
import Derived.Test.YtnjnipllflfmeaaDoorR6
namespace Go.Proofs.YtnjnipllflfmeaaDoor.R
open Go.RowKit Go.Proofs.YtnjnipllflfmeaaDoorW.PrintWords Go.Proofs.YtnjnipllflfmeaaDoorW.PrintLast Go.Proofs.YtnjnipllflfmeaaDoorW.PrintMore
attribute [local go_sem] max2_int min2_int max_two min_two max_three min_three max_four min_four   -- for this text's walks alone
set_option linter.unusedVariables false
set_option linter.unusedSimpArgs false

/-! ### tetherlaw06_awake: function 7 (by hand) -/
def tetherlaw06_awake.f : Option Bool := some true
def awL : List S25 := [⟨⟨#[97, 108, 105, 99, 101]⟩, ⟨#[42]⟩, ⟨#[112, 97, 115, 115, 32, 119, 111, 114, 100]⟩, [167772165]⟩]
set_option maxHeartbeats 2000000 in
set_option maxRecDepth 100000 in
theorem awake_walk (w : World) (hG : GW w) : Calls Tryd.prog 7 #[] w fun e w' => e = .returned (.bool true) ∧ Below w.heap.size w w' := by
  have HG := Aside0.mk hG
  have HP1 := Aside0.mk (show secret_Parse.f ⟨#[97, 108, 105, 99, 101, 32, 42, 32, 34, 112, 97, 115, 115, 32, 119, 111, 114, 100, 34, 32, 49, 48, 46, 48, 46, 48, 46, 53, 32, 35, 32, 104, 101, 114, 115, 10]⟩ = some (awL, 0, 0) by kernel_rfl)
  have HP2 := Aside0.mk (show secret_Parse.f ⟨#[97, 108, 105, 99, 101, 32, 109, 105, 108, 108, 32, 120, 32, 49, 48, 46, 48, 46, 48, 46, 50, 53, 54]⟩ = some ([], 150, 0) by kernel_rfl)
  have HF1 := Aside0.mk (show secret_Find.f 200 awL ⟨#[97, 108, 105, 99, 101]⟩ ⟨#[109, 105, 108, 108]⟩ = some (⟨#[97, 108, 105, 99, 101]⟩, ⟨#[42]⟩, ⟨#[112, 97, 115, 115, 32, 119, 111, 114, 100]⟩, [167772165], true) by kernel_rfl)
  have HF2 := Aside0.mk (show secret_Find.f 200 awL ⟨#[98, 111, 98]⟩ ⟨#[109, 105, 108, 108]⟩ = some (⟨#[]⟩, ⟨#[]⟩, ⟨#[]⟩, [], false) by kernel_rfl)
  clear hG
  go_enter Tryd.func7, Tryd.ntmps7
  go_wp2_with fail
  refine (secret_Parse.calls _ awL 0 0 _ HG.out HP1.out).mono ?_
  rintro e w1 ⟨v1, rfl, hr1, hb1⟩
  obtain ⟨A1, c1, rfl⟩ := Kd.R_slice hr1
  have HR := Aside0.mk hr1
  have HB1 := Aside0.mk hb1
  clear hr1 hb1
  go_wp2_with fail
  refine (secret_Find.calls 200 A1 c1 awL _ _ _ _ _ _ _ _ (Kd.R_reads' HR.out).2.2 (Kd.R_reads' HR.out).2.1 HF1.out).mono ?_
  rintro e w2 ⟨v2, rfl, hr2, hb2⟩
  have HB2 := Aside0.mk hb2
  have HW1 := Aside0.mk hb2.size
  obtain ⟨A2, c2, rfl⟩ := Kd.R_slice hr2
  clear hb2 hr2
  have hblk := blk_new w2 (.cells #[.string ⟨#[97, 108, 105, 99, 101]⟩, .string ⟨#[42]⟩, .string ⟨#[112, 97, 115, 115, 32, 119, 111, 114, 100]⟩, .slice A2 1 c2] 25)
  have HK := Aside0.mk hblk
  have HBA := Aside0.mk (HB2.out.trans ((below_alloc (Below.refl _ _) (.cells #[.string ⟨#[97, 108, 105, 99, 101]⟩, .string ⟨#[42]⟩, .string ⟨#[112, 97, 115, 115, 32, 119, 111, 114, 100]⟩, .slice A2 1 c2] 25)).mono HW1.out))
  have HR2 := Aside0.mk (Kd.R_below HR.out HBA.out)
  clear hblk HR
  go_wp2_with fail
  refine (secret_Find.calls 200 A1 c1 awL _ _ _ _ _ _ _ _ (Kd.R_reads' HR2.out).2.2 (Kd.R_reads' HR2.out).2.1 HF2.out).mono ?_
  rintro e w3 ⟨v3, rfl, hr3, hb3⟩
  have HK3 := Aside0.mk (blk_below HK.out hb3)
  have HS3 := Aside0.mk hb3.size
  have HB3 := Aside0.mk (HBA.out.trans (hb3.mono HBA.out.size))
  obtain ⟨A3, c3, rfl⟩ := Kd.R_slice hr3
  clear hr3 hb3 HK
  have HB4 := Aside0.mk (HB1.out.trans ((HB3.out.trans ((below_alloc (Below.refl _ _) (.cells #[.string ⟨#[]⟩, .string ⟨#[]⟩, .string ⟨#[]⟩, .slice A3 0 c3] 25)).mono HB3.out.size)).mono HB1.out.size))
  have HK4 := Aside0.mk (blk_alloc HK3.out (.cells #[.string ⟨#[]⟩, .string ⟨#[]⟩, .string ⟨#[]⟩, .slice A3 0 c3] 25))
  go_wp2_with fail
  refine (secret_Parse.calls _ [] 150 0 _ (HG.out.below HB4.out) HP2.out).mono ?_
  rintro e w4 ⟨v4, rfl, hr4, hb4⟩
  have hk4 := blk_below HK4.out hb4
  have hc2 := (blk_cell hk4 2).trans rfl
  have HB5 := Aside0.mk (HB4.out.trans (hb4.mono HB4.out.size))
  clear hk4 hb4 hr4
  go_wp2
  go_ret
  exact ⟨rfl, HB5.out⟩
theorem tetherlaw06_awake.calls (r : Bool) (w : World) (hG : GW w) (h : tetherlaw06_awake.f = some r) :
    Calls Tryd.prog 7 #[] w fun e w' => e = .returned (.bool r) ∧ Below w.heap.size w w' := by
  cases h
  exact awake_walk w hG

end Go.Proofs.YtnjnipllflfmeaaDoor.R
