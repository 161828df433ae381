-- Written by wip/xprint.py, a program of this session, out of the translation; Lean checks it.
import Derived.Test.YtnjnipllflfmeaaDoorR0
namespace Go.Proofs.YtnjnipllflfmeaaDoor.R
open Go.RowKit Go.Proofs.YtnjnipllflfmeaaDoorW.PrintWords Go.Proofs.YtnjnipllflfmeaaDoorW.PrintLast Go.Proofs.YtnjnipllflfmeaaDoorW.PrintMore
attribute [local go_sem] max2_int min2_int max_two min_two max_three min_three max_four min_four   -- for this text's walks alone
set_option linter.unusedVariables false
set_option linter.unusedSimpArgs false

/-! ### secret_own: function 11 (by hand) -/
def secret_own.f (a0_0 : ByteArray) (a0_1 : ByteArray) (a0_2 : ByteArray) (l0_3 : List Int) : Option (ByteArray × ByteArray × ByteArray × List Int) := if l0_3.length ≤ 17592186044416 then some (a0_0, a0_1, a0_2, l0_3) else none
theorem own_info : (Tryd.prog.info? 2).map (fun i => (i.zero, i.size, i.bytes)) = some (some (.int .i64 0), 1, 8) := by kernel_rfl
set_option maxRecDepth 100000 in
set_option maxHeartbeats 2000000 in
theorem clone_any (A : Option Addr) (c : Nat) (l : List Int) (w : World) (hr : Kd.C (Kd.int .i64) w A l.length l) (hc : l.length ≤ c) (hm : l.length ≤ 17592186044416) :
    Calls Tryd.prog 16 #[.slice A l.length c] w fun e w' => ∃ v, e = .returned v ∧ Kd.R (Kd.int .i64) 2 w' w.heap.size (fun _ => True) v l ∧ Below w.heap.size w w' := by
  cases A with
  | none =>
    refine (Tryd.slices_Clone_nil l.length c w).mono ?_
    rintro e w' ⟨rfl, rfl⟩
    have hl : l = [] := by
      cases l with
      | nil => rfl
      | cons a t =>
        obtain ⟨ad, e, _⟩ := Kd.at_int hr 0 (by omega) (by simp)
        cases e
    subst hl
    exact ⟨_, rfl, Kd.R_nil _ _ _ _ _, Below.refl _ _⟩
  | some ad =>
    cases l with
    | nil =>
      clear hr hc hm
      go_enter Tryd.func16, Tryd.ntmps16
      have hnil : ∀ w : World, (binOp BinOp.eql 23 (.slice (some ad) 0 c) (.slice none 0 0)).run Tryd.prog w = .ok (.bool false) w := fun _ => by kernel_rfl
      go_wp2
      go_ret
      exact ⟨_, rfl, Kd.R_of_own (enc := Value.int .i64) (h1 := fun _ => rfl) ⟨rfl, .inr ⟨w.heap.size, 0, #[], rfl, Nat.le_refl _, blk_new w _, Nat.le_refl _, by simp only [maxLen]; omega, rfl, rfl⟩⟩ (fun _ _ => trivial), below_alloc (Below.refl _ _) _⟩
    | cons a t =>
      obtain ⟨ad2, e, h0⟩ := Kd.at_int hr 0 (by omega) (by simp)
      cases e
      obtain ⟨b, off, spot⟩ := ad
      have hs : spot = none := by
        cases spot with
        | none => rfl
        | some x => 
          unfold World.cell? Addr.add at h0
          split at h0
          · simp at h0
          · cases h0
      subst hs
      obtain ⟨i, hi, hz⟩ := Option.map_eq_some_iff.1 own_info
      simp only [Prod.mk.injEq] at hz
      refine (Tryd.slices_Clone i (.int .i64 0) 1 8 hi hz.1 hz.2.1 hz.2.2 rfl (by omega) (fun w => by kernel_rfl) b off (a :: t).length c (nums .i64 (a :: t)) w (by simp [nums]) (by simp only [maxLen]; omega) (by omega) ?_ ?_).mono ?_
      · intro j u hj
        have hjl : j < (a :: t).length := by
          have h := (List.getElem?_eq_some_iff.1 hj).1
          rw [nums_length] at h; exact h
        obtain ⟨ad3, e3, hk⟩ := Kd.at_int hr (j : Int) (by omega) (by omega)
        cases e3
        rw [Int.toNat_natCast] at hk
        have hk2 : w.cell? ⟨b, off + j, none⟩ = some (Value.int .i64 (rd (a :: t) j)) := by
          simp only [Addr.add] at hk
          split at hk
          · rename_i h; rw [h, Nat.add_zero]; rw [h] at hk; exact hk
          · exact hk
        refine hk2.trans ?_
        rw [← hj]
        rw [show nums .i64 (a :: t) = (a :: t).map (Value.int .i64) from rfl, List.getElem?_map, List.getElem?_eq_getElem hjl]
        simp [rd, List.getElem?_eq_getElem hjl, List.getD_eq_getElem?_getD]
      · intro u hu
        simp [nums] at hu
        rcases hu with rfl | ⟨x, _, rfl⟩ <;> rfl
      · rintro e w' ⟨v, rfl, ho, _, hb⟩
        exact ⟨v, rfl, Kd.R_of_own (enc := Value.int .i64) (h1 := fun _ => rfl) ho (fun _ _ => trivial), hb⟩
set_option maxRecDepth 100000 in
set_option maxHeartbeats 2000000 in
theorem own_walk (c s p : ByteArray) (A : Option Addr) (cp : Nat) (l : List Int) (w : World) (hr : Kd.C (Kd.int .i64) w A l.length l) (hc : l.length ≤ cp) (hm : l.length ≤ 17592186044416) :
    Calls Tryd.prog 11 #[.agg #[.string c, .string s, .string p, .slice A l.length cp]] w fun e w' => ∃ v, e = .returned (.agg #[.string c, .string s, .string p, v]) ∧ Kd.R (Kd.int .i64) 2 w' w.heap.size (fun _ => True) v l ∧ Below w.heap.size w w' := by
  have HR := Aside0.mk hr
  clear hr
  go_enter Tryd.func11, Tryd.ntmps11
  go_wp2_with fail
  have hsz : ∀ (W : World) (o : Obj), (W.alloc o).heap.size = W.heap.size + 1 := fun W o => Array.size_push ..
  have HLim := Aside0.mk hm
  refine (clone_any A cp l _ (Kd.C_below HR.out (below_alloc (below_alloc (Below.refl _ _) _) _)) hc hm).mono ?_
  rintro e w3 ⟨v, rfl, hrow, hb⟩
  have h0 := blk_below (blk_alloc (blk_new w (.cells #[.string c, .string s, .string p, .slice A l.length cp] 25)) (.cells #[.string ⟨#[]⟩, .string ⟨#[]⟩, .string ⟨#[]⟩, .slice none 0 0] 25)) hb
  have h1 := blk_below (blk_new (w.alloc (.cells #[.string c, .string s, .string p, .slice A l.length cp] 25)) (.cells #[.string ⟨#[]⟩, .string ⟨#[]⟩, .string ⟨#[]⟩, .slice none 0 0] 25)) hb
  rw [hsz] at h1
  have hlow : Below w.heap.size w w3 := (below_alloc (below_alloc (Below.refl _ _) _) _).trans (hb.mono (by rw [hsz, hsz]; omega))
  have hrow2 := Kd.R_lower hrow (show w.heap.size ≤ _ by rw [hsz, hsz]; omega)
  obtain ⟨Av, cv, rfl⟩ := Kd.R_slice hrow
  have HROW := Aside0.mk hrow2
  have HL := Aside0.mk hlow
  have H0 := Aside0.mk h0
  have H1 := Aside0.mk h1
  clear hrow hrow2 hlow hb HR hsz
  have a0 := (blk_cell h0 0).trans rfl
  have a1 := (blk_cell h0 1).trans rfl
  have a2 := (blk_cell h0 2).trans rfl
  have a3 := (blk_cell h0 3).trans rfl
  have b0 := (blk_cell h1 0).trans rfl
  have b1 := (blk_cell h1 1).trans rfl
  have b2 := (blk_cell h1 2).trans rfl
  have b3 := (blk_cell h1 3).trans rfl
  have f0 := blk_frozen h0 3
  have g0 := blk_frozen h1 0
  have g1 := blk_frozen h1 1
  have g2 := blk_frozen h1 2
  have g3 := blk_frozen h1 3
  clear h0 h1
  go_wp2
  have q1 := blk_far (p := ⟨w.heap.size, 3, none⟩) H1.out (by show w.heap.size + 1 ≠ w.heap.size; omega) (.slice Av l.length cv)
  have q2 := blk_put q1 0 (.string c) rfl
  have q3 := blk_put q2 1 (.string s) rfl
  have q4 := blk_put q3 2 (.string p) rfl
  have q5 := blk_put q4 3 (.slice Av l.length cv) rfl
  have r1 := Kd.R_set HROW.out H0.out (by decide) 3 (.slice Av l.length cv)
  have r2 := Kd.R_set r1 q1 (by decide) 0 (.string c)
  have r3 := Kd.R_set r2 q2 (by decide) 1 (.string s)
  have r4 := Kd.R_set r3 q3 (by decide) 2 (.string p)
  have r5 := Kd.R_set r4 q4 (by decide) 3 (.slice Av l.length cv)
  have hl := below_set (j := 3) (v := .slice Av l.length cv) (below_set (j := 2) (v := .string p) (below_set (j := 1) (v := .string s) (below_set (j := 0) (v := .string c) (below_set (j := 3) (v := .slice Av l.length cv) HL.out (Nat.le_refl _)) (Nat.le_succ _)) (Nat.le_succ _)) (Nat.le_succ _)) (Nat.le_succ _)
  clear q1 q2 q3 q4 r1 r2 r3 r4
  generalize (((((w3.setCell ⟨w.heap.size, 3, none⟩ (.slice Av l.length cv)).setCell ⟨w.heap.size + 1, 0, none⟩ (.string c)).setCell ⟨w.heap.size + 1, 1, none⟩ (.string s)).setCell ⟨w.heap.size + 1, 2, none⟩ (.string p)).setCell ⟨w.heap.size + 1, 3, none⟩ (.slice Av l.length cv)) = w5 at q5 r5 hl ⊢
  have c0 := (blk_cell q5 0).trans rfl
  have c1 := (blk_cell q5 1).trans rfl
  have c2 := (blk_cell q5 2).trans rfl
  have c3 := (blk_cell q5 3).trans rfl
  refine bodyPost_ret (v := .agg #[.string c, .string s, .string p, .slice Av l.length cv]) ?_ rfl ⟨_, rfl, r5, hl⟩
  simp [results, Tryd.results11, go_sem, c0, c1, c2, c3]
theorem secret_own.calls (a0_0 : ByteArray) (a0_1 : ByteArray) (a0_2 : ByteArray) (A0_3 : Option Addr) (c0_3 : Nat) (l0_3 : List Int) (r1 : ByteArray) (r2 : ByteArray) (r3 : ByteArray) (r4 : List Int) (w : World) (hr0_3 : Kd.C (Kd.int .i64) w A0_3 l0_3.length l0_3) (hc0_3 : l0_3.length ≤ c0_3) (h : secret_own.f a0_0 a0_1 a0_2 l0_3 = some (r1, r2, r3, r4)) :
    Calls Tryd.prog 11 #[.agg #[.string a0_0, .string a0_1, .string a0_2, .slice A0_3 l0_3.length c0_3]] w fun e w' => ∃ v3_ : Value, e = .returned (.agg #[.string r1, .string r2, .string r3, v3_]) ∧ Kd.R (Kd.int .i64) 2 w' w.heap.size (fun _ => True) v3_ r4 ∧ Below w.heap.size w w' := by
  unfold secret_own.f at h
  split at h
  · rename_i hm
    cases h
    exact own_walk a0_0 a0_1 a0_2 A0_3 c0_3 l0_3 w hr0_3 hc0_3 hm
  · cases h

end Go.Proofs.YtnjnipllflfmeaaDoor.R
