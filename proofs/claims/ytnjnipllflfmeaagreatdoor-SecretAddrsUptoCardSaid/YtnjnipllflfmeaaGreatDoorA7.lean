-- Written by wip/xprint.py, a program of this session, out of the translation; Lean checks it.
import Derived.Test.YtnjnipllflfmeaaGreatDoorA0
import Derived.Test.YtnjnipllflfmeaaGreatDoorA4
import Derived.Test.YtnjnipllflfmeaaGreatDoorA6
namespace Go.Proofs.YtnjnipllflfmeaaGreatDoor.A
open Go.RowKit Go.Proofs.YtnjnipllflfmeaaGreatDoorW.PrintWords Go.Proofs.YtnjnipllflfmeaaGreatDoorW.PrintLast Go.Proofs.YtnjnipllflfmeaaGreatDoorW.PrintMore
attribute [local go_sem] max2_int min2_int max_two min_two max_three min_three max_four min_four   -- for this text's walks alone
set_option linter.unusedVariables false
set_option linter.unusedSimpArgs false

/-! ### tetherlaw06_awake: function 10 (by hand) -/
def tetherlaw06_awake.f : Option Bool := some true
def awL : List S32 := [⟨⟨#[97, 108, 105, 99, 101]⟩, ⟨#[42]⟩, ⟨#[112, 97, 115, 115, 32, 119, 111, 114, 100]⟩, [167772165]⟩]
set_option maxHeartbeats 2000000 in
set_option maxRecDepth 100000 in
theorem awake_walk (w : World) (hG : GW w) : Calls Tryz.prog 10 #[] w fun e w' => e = .returned (.bool true) ∧ Below w.heap.size w w' := by
  have HG := Aside0.mk hG
  have HP1 := Aside0.mk (show secret_Parse.f ⟨#[97, 108, 105, 99, 101, 32, 42, 32, 34, 112, 97, 115, 115, 32, 119, 111, 114, 100, 34, 32, 49, 48, 46, 48, 46, 48, 46, 53, 32, 35, 32, 104, 101, 114, 115, 10]⟩ = some (awL, 0, 0) by kernel_rfl)
  have HP2 := Aside0.mk (show secret_Parse.f ⟨#[97, 108, 105, 99, 101, 32, 109, 105, 108, 108, 32, 120, 32, 49, 48, 46, 48, 46, 48, 46, 50, 53, 54]⟩ = some ([], 150, 0) by kernel_rfl)
  have HF1 := Aside0.mk (show secret_Find.f 200 awL ⟨#[97, 108, 105, 99, 101]⟩ ⟨#[109, 105, 108, 108]⟩ = some (⟨#[97, 108, 105, 99, 101]⟩, ⟨#[42]⟩, ⟨#[112, 97, 115, 115, 32, 119, 111, 114, 100]⟩, [167772165], true) by kernel_rfl)
  have HF2 := Aside0.mk (show secret_Find.f 200 awL ⟨#[98, 111, 98]⟩ ⟨#[109, 105, 108, 108]⟩ = some (⟨#[]⟩, ⟨#[]⟩, ⟨#[]⟩, [], false) by kernel_rfl)
  clear hG
  go_enter Tryz.func10, Tryz.ntmps10
  go_wp2_with fail
  refine (secret_Parse.calls _ awL 0 0 _ HG.out HP1.out).mono ?_
  rintro e w1 ⟨v1, rfl, hr1, hb1⟩
  obtain ⟨A1, c1, rfl⟩ := Kd.R_slice hr1
  have HR := Aside0.mk hr1
  have HB1 := Aside0.mk hb1
  clear hr1 hb1
  go_wp2_with fail
  refine (secret_Find.calls 200 A1 c1 awL _ _ _ _ _ _ _ _ (Kd.R_reads' HR.out).2.2 (Kd.R_reads' HR.out).2.1 HF1.out).mono ?_
  rintro e w2 ⟨v2, rfl, hr2, hb2⟩
  have HB2 := Aside0.mk hb2
  have HW1 := Aside0.mk hb2.size
  obtain ⟨A2, c2, rfl⟩ := Kd.R_slice hr2
  clear hb2 hr2
  have hblk := blk_new w2 (.cells #[.string ⟨#[97, 108, 105, 99, 101]⟩, .string ⟨#[42]⟩, .string ⟨#[112, 97, 115, 115, 32, 119, 111, 114, 100]⟩, .slice A2 1 c2] 32)
  have HK := Aside0.mk hblk
  have HBA := Aside0.mk (HB2.out.trans ((below_alloc (Below.refl _ _) (.cells #[.string ⟨#[97, 108, 105, 99, 101]⟩, .string ⟨#[42]⟩, .string ⟨#[112, 97, 115, 115, 32, 119, 111, 114, 100]⟩, .slice A2 1 c2] 32)).mono HW1.out))
  have HR2 := Aside0.mk (Kd.R_below HR.out HBA.out)
  clear hblk HR
  go_wp2_with fail
  refine (secret_Find.calls 200 A1 c1 awL _ _ _ _ _ _ _ _ (Kd.R_reads' HR2.out).2.2 (Kd.R_reads' HR2.out).2.1 HF2.out).mono ?_
  rintro e w3 ⟨v3, rfl, hr3, hb3⟩
  have HK3 := Aside0.mk (blk_below HK.out hb3)
  have HS3 := Aside0.mk hb3.size
  have HB3 := Aside0.mk (HBA.out.trans (hb3.mono HBA.out.size))
  obtain ⟨A3, c3, rfl⟩ := Kd.R_slice hr3
  clear hr3 hb3 HK
  have HB4 := Aside0.mk (HB1.out.trans ((HB3.out.trans ((below_alloc (Below.refl _ _) (.cells #[.string ⟨#[]⟩, .string ⟨#[]⟩, .string ⟨#[]⟩, .slice A3 0 c3] 32)).mono HB3.out.size)).mono HB1.out.size))
  have HK4 := Aside0.mk (blk_alloc HK3.out (.cells #[.string ⟨#[]⟩, .string ⟨#[]⟩, .string ⟨#[]⟩, .slice A3 0 c3] 32))
  go_wp2_with fail
  refine (secret_Parse.calls _ [] 150 0 _ (HG.out.below HB4.out) HP2.out).mono ?_
  rintro e w4 ⟨v4, rfl, hr4, hb4⟩
  have hk4 := blk_below HK4.out hb4
  have hc2 := (blk_cell hk4 2).trans rfl
  have HB5 := Aside0.mk (HB4.out.trans (hb4.mono HB4.out.size))
  clear hk4 hb4 hr4
  go_wp2
  go_ret
  exact ⟨rfl, HB5.out⟩
theorem tetherlaw06_awake.calls (r : Bool) (w : World) (hG : GW w) (h : tetherlaw06_awake.f = some r) :
    Calls Tryz.prog 10 #[] w fun e w' => e = .returned (.bool r) ∧ Below w.heap.size w w' := by
  cases h
  exact awake_walk w hG

/-! ### tetherlaw06_Copied: function 11 (by hand) -/
def tetherlaw06_Copied.f (l0 : List S32) : Option (List S32) := if l0.length ≤ 1048576 ∧ l0.all (fun x => decide (x.f3.length ≤ 1048576)) then some l0 else none
theorem rd_mem32 {l : List S32} {i : Int} (h0 : 0 ≤ i) (h : i < (l.length : Int)) : rd_T32 l i ∈ l ∧ l.take (i + 1).toNat = l.take i.toNat ++ [rd_T32 l i] := by
  obtain ⟨n, rfl⟩ := Int.eq_ofNat_of_zero_le h0
  have hn : n < l.length := by omega
  unfold rd_T32
  rw [Int.toNat_natCast, show ((n : Int) + 1).toNat = n + 1 by omega, List.getD_eq_getElem?_getD, List.getElem?_eq_getElem hn, List.take_succ_eq_append_getElem hn]
  exact ⟨List.getElem_mem _, rfl⟩
set_option maxHeartbeats 4000000 in
set_option maxRecDepth 100000 in
theorem copied_walk (A : Option Addr) (c : Nat) (l : List S32) (w : World) (hr : Kd.C k32 w A l.length l) (hc : l.length ≤ c) (hl : l.length ≤ 1048576) (hf : ∀ x ∈ l, x.f3.length ≤ 1048576) :
    Calls Tryz.prog 11 #[.slice A l.length c] w fun e w' => ∃ v, e = .returned v ∧ Kd.R k32 32 w' w.heap.size (fun _ => True) v l ∧ Below w.heap.size w w' := by
  have HR := Aside0.mk hr
  have HF := Aside0.mk hf
  clear hr hf
  go_enter Tryz.func11, Tryz.ntmps11
  go_wp2_with fail
  go_loopw [3, 9] (fun ov iv wr => ∃ (i : Int) (v : Value), 0 ≤ i ∧ i ≤ (l.length : Int) ∧ iv = .int .i64 i ∧ ov = v ∧ Aside0 (Kd.R k32 32 wr w.heap.size (fun _ => True) v (l.take i.toNat)) ∧ Aside0 (Below w.heap.size w wr))
      (fun _ iv _ => l.length - (intOf iv).toNat)
  case atStart => exact ⟨0, .slice none 0 0, by omega, by omega, rfl, rfl, ⟨by rw [show (0 : Int).toNat = 0 by rfl, List.take_zero]; exact Kd.R_nil _ _ _ _ _⟩, ⟨Below.refl _ _⟩⟩
  case round =>
    obtain ⟨i, v, h0, hi, rfl, rfl, HO, HB⟩ := hrel
    by_cases hlt : i < (l.length : Int)
    · have hlti : decide (i < (l.length : Int)) = true := decide_eq_true hlt
      have h0i : decide (0 ≤ i) = true := decide_eq_true h0
      obtain ⟨ad, A3, c3, e0, x0, x1, x2, x3, l3, i3⟩ := at_T32 HR.out i h0 hlt
      cases e0
      obtain ⟨hmem, htk⟩ := rd_mem32 h0 hlt
      have hx3 := HF.out _ hmem
      obtain ⟨x, hx⟩ : ∃ x, rd_T32 l i = x := ⟨_, rfl⟩
      rw [hx] at x0 x1 x2 x3 l3 i3 htk hx3
      clear hmem hx
      obtain ⟨xc, xs, xp, xa⟩ := x
      dsimp only at x0 x1 x2 x3 l3 i3 htk hx3
      replace x0 := (HB.out.cell (World.block_lt_of_cell? w _ x0)).trans x0
      replace x1 := (HB.out.cell (World.block_lt_of_cell? w _ x1)).trans x1
      replace x2 := (HB.out.cell (World.block_lt_of_cell? w _ x2)).trans x2
      replace x3 := (HB.out.cell (World.block_lt_of_cell? w _ x3)).trans x3
      have HT := Aside0.mk htk
      have HI := Aside0.mk (Kd.C_below i3 HB.out)
      have hown := Kd.R_lt HO.out
      have HOwn := Aside0.mk hown
      have hll : (l.take i.toNat).length = i.toNat := by rw [List.length_take]; omega
      obtain ⟨Ao, co, hv⟩ := Kd.R_slice HO.out
      rw [hll] at hv
      subst hv
      have HLL := Aside0.mk hll
      have HI0 := Aside0.mk (show i.toNat ≤ 1048576 by omega)
      have HI1 := Aside0.mk (show i + 1 ≤ (l.length : Int) by omega)
      clear htk hown hll i3
      have p0 := eq_true h0
      have p1 := eq_true hlt
      have HH0 := Aside0.mk h0
      clear h0 hlt
      have hsz : ∀ (W : World) (o : Obj), (W.alloc o).heap.size = W.heap.size + 1 := fun W o => Array.size_push ..
      have hb2 := below_alloc (below_alloc (Below.refl wr.heap.size wr) (.cells #[.string xc, .string xs, .string xp, .slice A3 xa.length c3] 32)) (.cells #[.string xc, .string xs, .string xp, .slice none 0 0] 32)
      have HB2 := Aside0.mk hb2
      have b6 := blk_new (wr.alloc (.cells #[.string xc, .string xs, .string xp, .slice A3 xa.length c3] 32)) (.cells #[.string xc, .string xs, .string xp, .slice none 0 0] 32)
      rw [hsz] at b6
      have B6 := Aside0.mk b6
      have HSZ := Aside0.mk hsz
      clear hb2 b6 hsz
      go_wp2_with (first | ((with_reducible refine gate_builtin (b := .append) (xs := #[.tmp 16, .tmp 18]) rfl ?_); at_builtin; refine Kd.R_append_rows (Kd.int .i64) (w0 := wr) wr.heap.size rfl (.tmp 16) (.tmp 18) 30 2 (.int .i64 0) 8 rfl Tryz.underlying30 info2 rfl (by decide) (by omega) (.slice none 0 0) ([] : List Int) xa A3 xa.length c3 (fun _ => True) (fun _ => False) rfl rfl ?aO ?aR (fun _ _ h => h) (fun _ h => h.elim) ?aF ?aB ?aS ?aL ?_))
      case aO => exact Kd.R_nil _ _ _ _ _
      case aR => exact Kd.C_below HI.out HB2.out
      case aF => exact fun _ _ => trivial
      case aB => exact HB2.out
      case aS => exact HB2.out.size
      case aL => simp only [List.length_nil]; omega
      intro v1 w1 ho hb hg hat
      have hg6 := blk_grown B6.out hg (by simp [Value.ownBlock])
      have HO1 := Aside0.mk (Kd.R_grown (Kd.R_below HO.out HB2.out) hg (fun k _ => by simp [Value.ownBlock]))
      have HW1 := Aside0.mk hb.size
      obtain ⟨A1, c1, rfl⟩ := Kd.R_slice ho
      have HV1 := Aside0.mk ho
      have HBw := Aside0.mk hb
      have hc0 := (blk_cell hg6 0).trans rfl
      have hc1 := (blk_cell hg6 1).trans rfl
      have hc2 := (blk_cell hg6 2).trans rfl
      have hc3 := (blk_cell hg6 3).trans rfl
      have hf3 := blk_frozen hg6 3
      have q6 := Aside0.mk (blk_put hg6 3 (.slice A1 xa.length c1) rfl)
      have H6 := Aside0.mk hg6
      clear hg6 ho hb hg hat
      have hlow := below_set (j := 3) (v := .slice A1 xa.length c1) HBw.out (Nat.le_succ wr.heap.size)
      have HLow := Aside0.mk hlow
      have r1 := Kd.R_set HV1.out H6.out (by decide) 3 (.slice A1 xa.length c1)
      have r0 := Kd.R_mono (Kd.R_far (p := ⟨wr.heap.size + 1, 3, none⟩) (Kd.R_mono (Kd.R_below (Kd.R_bound HO.out) HBw.out) (fun k hk => (⟨hk.1, by have := hk.2.2.1; show k ≠ wr.heap.size + 1; omega⟩ : True ∧ k ≠ wr.heap.size + 1))) (fun k hk => hk.2) (.slice A1 xa.length c1)) (fun k hk => hk.1)
      have HWS := Aside0.mk (show (w1.setCell ⟨wr.heap.size + 1, 3, none⟩ (.slice A1 xa.length c1)).heap.size = w1.heap.size by simp [World.setCell])
      have R1 := Aside0.mk r1
      have R0 := Aside0.mk r0
      have d0 := (blk_cell q6.out 0).trans rfl
      have d1 := (blk_cell q6.out 1).trans rfl
      have d2 := (blk_cell q6.out 2).trans rfl
      have d3 := (blk_cell q6.out 3).trans rfl
      clear hlow r1 r0
      go_wp2_with (first | ((with_reducible refine gate_builtin (b := .append) (xs := #[.tmp 21, .tmp 23]) rfl ?_); at_builtin; refine Kd.R_append k32 (w0 := w) (W := w1.setCell ⟨wr.heap.size + 1, 3, none⟩ (.slice A1 xa.length c1)) w.heap.size rfl (.tmp 21) (.tmp 23) 22 32 (.agg #[(.string ⟨#[]⟩), (.string ⟨#[]⟩), (.string ⟨#[]⟩), (.slice none 0 0)]) 72 rfl Tryz.underlying22 info32 rfl (by decide) (by omega) (.slice Ao i.toNat co) (l.take i.toNat) (⟨xc, xs, xp, xa⟩ : S32) [.string xc, .string xs, .string xp, .slice A1 xa.length c1] (fun _ => True) (fun k => wr.heap.size ≤ k) rfl (by rw [HWS.out]; rfl) ?aP ?aN ?aF ?aO ?aB ?aS ?aL ?_))
      case aP => exact k32_mkM _ _ _ _ (Kd.R_lower (Kd.R_mono (Kd.R_bound R1.out) (fun k hk => hk.2.1)) HB.out.size)
      case aN => exact fun k hk => ⟨trivial, fun e => by have := HOwn.out k e.symm; omega⟩
      case aF => exact fun _ _ => trivial
      case aO => exact R0.out
      case aB => exact HB.out.trans (HLow.out.mono HB.out.size)
      case aS => exact Nat.le_trans HB.out.size HLow.out.size
      case aL => rw [HLL.out]; have := HI0.out; omega
      intro v4 w4 ho hb4 hg hat
      have HO4 := Aside0.mk ho
      have HB4 := Aside0.mk hb4
      have hw1 : wrap64 (i + 1) = i + 1 := by have := HI1.out; have := HH0.out; unfold wrap64; omega
      clear ho hb4 hg hat d0 d1 d2 d3
      go_wp2
      have hi0 := HH0.out
      have hi1 := HI1.out
      refine ⟨⟨i + 1, v4, by omega, hi1, by rw [hw1], rfl, ⟨by rw [HT.out]; exact HO4.out⟩, HB4⟩, by rw [hw1]; simp [intOf]; omega⟩
    · have hlti : decide (i < (l.length : Int)) = false := decide_eq_false hlt
      have hn : i.toNat = l.length := by omega
      have HX := Aside0.mk HO.out
      rw [hn, List.take_length] at HX
      clear HO
      go_wp2
      go_ret
      exact ⟨_, rfl, HX.out, HB.out⟩
theorem tetherlaw06_Copied.calls (A0 : Option Addr) (c0 : Nat) (l0 : List S32) (r : List S32) (w : World) (hr0 : Kd.C k32 w A0 l0.length l0) (hc0 : l0.length ≤ c0) (h : tetherlaw06_Copied.f l0 = some r) :
    Calls Tryz.prog 11 #[.slice A0 l0.length c0] w fun e w' => ∃ v1_ : Value, e = .returned v1_ ∧ Kd.R k32 32 w' w.heap.size (fun _ => True) v1_ r ∧ Below w.heap.size w w' := by
  unfold tetherlaw06_Copied.f at h
  split at h
  · rename_i hb
    cases h
    exact copied_walk A0 c0 l0 w hr0 hc0 hb.1 (fun x hx => by have := List.all_eq_true.1 hb.2 x hx; exact of_decide_eq_true this)
  · cases h

end Go.Proofs.YtnjnipllflfmeaaGreatDoor.A
