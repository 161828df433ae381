-- Written by wip/xprint.py, a program of this session, out of the translation; Lean checks it.
import Derived.Test.YtnjnipllflfmeaaDoorR0
namespace Go.Proofs.YtnjnipllflfmeaaDoor.R
open Go.RowKit Go.Proofs.YtnjnipllflfmeaaDoorW.PrintWords Go.Proofs.YtnjnipllflfmeaaDoorW.PrintLast Go.Proofs.YtnjnipllflfmeaaDoorW.PrintMore
attribute [local go_sem] max2_int min2_int max_two min_two max_three min_three max_four min_four   -- for this text's walks alone
set_option linter.unusedVariables false
set_option linter.unusedSimpArgs false

/-! ### secret_name: function 12 (by hand) -/
def nameC (c : Int) : Bool := decide (32 ≤ c) && decide (c ≤ 126) && c != 34 && c != 92
def nameB (s : ByteArray) : Bool := decide (1 ≤ s.size) && decide (s.size ≤ 64) && (bytesOf s).all nameC
def secret_name.f (a0 : ByteArray) : Option Bool := some (nameB a0)

set_option maxHeartbeats 1000000 in
theorem name_long (a0 : ByteArray) (w : World) (h : a0.size < 1 ∨ 64 < a0.size) :
    Calls Tryd.prog 12 #[.string a0] w fun e w' => e = .returned (.bool false) ∧ Below w.heap.size w w' := by
  by_cases h1 : a0.size < 1
  · have c1 : decide ((a0.size : Int) < 1) = true := decide_eq_true (by omega)
    go_enter Tryd.func12, Tryd.ntmps12
    go_wp2
    go_ret
    exact ⟨rfl, Below.refl _ _⟩
  · have c1 : decide ((a0.size : Int) < 1) = false := decide_eq_false (by omega)
    have c2 : decide (64 < (a0.size : Int)) = true := decide_eq_true (by omega)
    go_enter Tryd.func12, Tryd.ntmps12
    go_wp2
    go_ret
    exact ⟨rfl, Below.refl _ _⟩

theorem all_take_succ (s : ByteArray) (k : Nat) (h : k < s.size) : ((bytesOf s).take (k + 1)).all nameC = (((bytesOf s).take k).all nameC && nameC (bt s k)) := by
  have hl : k < (bytesOf s).length := by rw [bytesOf_length]; exact h
  rw [List.take_succ_eq_append_getElem hl, List.all_append]
  simp only [List.all_cons, List.all_nil, Bool.and_true]
  congr 2
  have := rd_bytesOf s k
  rw [← this]; unfold rd; simp [List.getD_eq_getElem?_getD, List.getElem?_eq_getElem hl]

theorem all_of_take_false (s : ByteArray) (k : Nat) (h : ((bytesOf s).take k).all nameC = false) : (bytesOf s).all nameC = false := by
  rw [← List.take_append_drop k (bytesOf s), List.all_append, h]; rfl

set_option maxHeartbeats 1000000 in
theorem name_short (a0 : ByteArray) (w : World) (h : 1 ≤ a0.size) (h' : a0.size ≤ 64) (r : Bool) (hr0 : (bytesOf a0).all nameC = r) :
    Calls Tryd.prog 12 #[.string a0] w fun e w' => e = .returned (.bool r) ∧ Below w.heap.size w w' := by
  have c1 : decide ((a0.size : Int) < 1) = false := decide_eq_false (by omega)
  have c2 : decide (64 < (a0.size : Int)) = false := decide_eq_false (by omega)
  have HR := Aside0.mk hr0
  clear hr0
  have kb := fun W => print_bytes (P := Tryd.prog) 9 37 5 Tryd.underlying9 Tryd.underlying37 Tryd.underlying5 a0 W
  have hc : ∀ k : Nat, k < a0.size → (Lib.bytesWorld w 5 a0).cell? ⟨w.heap.size, k, none⟩ = some (.int .u8 (bt a0 k)) := by
    intro k hk
    obtain ⟨ad, e, h⟩ := (bytes_reads w 5 a0 (by omega)).at_ (k : Int) (by omega) (by omega)
    cases e
    rw [rd_bytesOf, add_plain] at h
    simpa using h
  have hbb : Below w.heap.size w (Lib.bytesWorld w 5 a0) := bytes_below (Below.refl _ _) (Nat.le_refl _) _ _
  have HB := Aside0.mk hbb
  clear hbb
  have HC := Aside0.mk hc
  clear hc
  go_enter Tryd.func12, Tryd.ntmps12
  go_wp2
  go_loop [16] (fun i => ∃ k : Nat, k ≤ a0.size ∧ i = .int .i64 k ∧ Aside0 (((bytesOf a0).take k).all nameC = true)) (fun i => a0.size - (intOf i).toNat)
  case atStart => exact ⟨0, Nat.zero_le _, rfl, ⟨by simp⟩⟩
  case round =>
    obtain ⟨k, hk, rfl, HA⟩ := hrel
    by_cases hlt : k < a0.size
    · have hcell := HC.out k hlt
      have hr := bt_range a0 k
      have hs := all_take_succ a0 k hlt
      rw [HA.out, Bool.true_and] at hs
      have HS := Aside0.mk hs
      clear hs
      by_cases hn : nameC (bt a0 k) = true
      · rw [hn] at HS
        have hn' := hn
        unfold nameC at hn'
        simp only [Bool.and_eq_true, decide_eq_true_eq, bne_iff_ne, ne_eq] at hn'
        obtain ⟨⟨⟨n1, n2⟩, n3⟩, n4⟩ := hn'
        clear hn
        have d1 : (bt a0 k == 34) = false := beq_eq_false_iff_ne.2 n3
        have d2 : (bt a0 k == 92) = false := beq_eq_false_iff_ne.2 n4
        clear n3 n4
        go_wp2
        go_round
        case rel => exact ⟨k + 1, by omega, by go_num, HS⟩
        case measure => simp [intOf]; omega
      · obtain rfl : r = false := by
          have h2 := HS.out
          rw [Bool.not_eq_true] at hn
          rw [hn] at h2
          rw [← HR.out]; exact all_of_take_false a0 (k + 1) h2
        clear HR HS HA
        by_cases m1 : bt a0 k < 32
        · clear hn
          go_wp2
          go_ret
          exact ⟨rfl, HB.out⟩
        · by_cases m2 : 126 < bt a0 k
          · clear hn
            go_wp2
            go_ret
            exact ⟨rfl, HB.out⟩
          · by_cases m3 : bt a0 k = 34
            · have d1 : (bt a0 k == 34) = true := beq_iff_eq.2 m3
              clear hn m3
              go_wp2
              go_ret
              exact ⟨rfl, HB.out⟩
            · have d1 : (bt a0 k == 34) = false := beq_eq_false_iff_ne.2 m3
              have d2 : (bt a0 k == 92) = true := by
                unfold nameC at hn
                simp only [Bool.and_eq_true, decide_eq_true_eq, bne_iff_ne, ne_eq] at hn
                exact beq_iff_eq.2 (Decidable.byContradiction fun h => hn ⟨⟨⟨by omega, by omega⟩, m3⟩, h⟩)
              clear hn m3
              go_wp2
              go_ret
              exact ⟨rfl, HB.out⟩
    · obtain rfl : k = a0.size := by omega
      obtain rfl : r = true := by have := HA.out; rw [List.take_of_length_le (by rw [bytesOf_length]; exact Nat.le_refl _)] at this; rw [← HR.out]; exact this
      clear HR HA
      go_wp2
      go_ret
      exact ⟨rfl, HB.out⟩

theorem name_any (a0 : ByteArray) (w : World) (r : Bool) (h : nameB a0 = r) :
    Calls Tryd.prog 12 #[.string a0] w fun e w' => e = .returned (.bool r) ∧ Below w.heap.size w w' := by
  by_cases h1 : a0.size < 1 ∨ 64 < a0.size
  · have : r = false := by
      rw [← h]; unfold nameB
      rcases h1 with h1 | h1
      · simp; intro h2; omega
      · simp; intro _ h2; omega
    subst this
    exact name_long a0 w h1
  · refine name_short a0 w (by omega) (by omega) r ?_
    rw [← h]; unfold nameB
    have e1 : decide (1 ≤ a0.size) = true := decide_eq_true (by omega)
    have e2 : decide (a0.size ≤ 64) = true := decide_eq_true (by omega)
    rw [e1, e2]; rfl

theorem secret_name.calls (a0 : ByteArray) (r : Bool) (w : World) (h : secret_name.f a0 = some r) :
    Calls Tryd.prog 12 #[.string a0] w fun e w' => e = .returned (.bool r) ∧ Below w.heap.size w w' :=
  name_any a0 w r (Option.some.inj h)

/-! ### secret_Right: function 8 (by hand) -/
def badA (a : Int) : Bool := decide (a < 1) || decide (a > 4294967295)
/-- Is one of the first k met twice? -/
def twiceK (l : List Int) : Nat → Bool
  | 0 => false
  | k + 1 => twiceK l k || (l.take k).contains (l.getD k 0)
def rightE (c s p : ByteArray) (l : List Int) : Int :=
  if !nameB c || !nameB s then 60 else if p.toList ≠ [] ∧ nameB p = false then 52 else if 16 < l.length then 7 else if l.any badA then 150 else if twiceK l l.length then 6 else 0
def secret_Right.f (a0_0 : ByteArray) (a0_1 : ByteArray) (a0_2 : ByteArray) (l0_3 : List Int) : Option Int := some (rightE a0_0 a0_1 a0_2 l0_3)

theorem wf_addr (a : Int) (h1 : ¬ a < 1) (h2 : ¬ 4294967295 < a) : (Lit.int .i64 a).wf = true := by
  have e1 : (IntKind.i64).min ≤ a := by show (-9223372036854775808 : Int) ≤ a; omega
  have e2 : a ≤ (IntKind.i64).max := by show a ≤ (9223372036854775807 : Int); omega
  show (decide (IntKind.i64.min ≤ a) && decide (a ≤ IntKind.i64.max)) = true
  rw [decide_eq_true e1, decide_eq_true e2]; rfl
theorem rd_nat (l : List Int) (k : Nat) : rd l (k : Int) = l.getD k 0 := by unfold rd; rw [Int.toNat_natCast]
theorem take_snoc_rd (l : List Int) (k : Nat) (h : k < l.length) : l.take (k + 1) = l.take k ++ [rd l k] := by
  rw [List.take_succ_eq_append_getElem h, rd_nat]
  simp [List.getD_eq_getElem?_getD, List.getElem?_eq_getElem h]
theorem any_take_of_bad (l : List Int) (k : Nat) (h : k < l.length) (hb : badA (rd l k) = true) : l.any badA = true := by
  rw [← List.take_append_drop (k + 1) l, List.any_append, take_snoc_rd l k h]
  simp [hb]
theorem right_60 {c s p : ByteArray} {l : List Int} (h : (!nameB c || !nameB s) = true) : rightE c s p l = 60 := by unfold rightE; rw [if_pos h]
theorem right_52 {c s p : ByteArray} {l : List Int} (h : (!nameB c || !nameB s) = false) (h2 : (!p.toList.isEmpty && !nameB p) = true) : rightE c s p l = 52 := by
  unfold rightE
  simp only [Bool.and_eq_true, Bool.not_eq_true'] at h2
  rw [h, if_neg (by simp), if_pos ⟨by intro hh; rw [hh] at h2; simp at h2, h2.2⟩]
theorem right_7 {c s p : ByteArray} {l : List Int} (h : (!nameB c || !nameB s) = false) (h2 : (!p.toList.isEmpty && !nameB p) = false) (h3 : 16 < l.length) : rightE c s p l = 7 := by
  unfold rightE
  rw [h, if_neg (by simp), if_neg (by intro hh; rw [hh.2] at h2; simp [hh.1] at h2), if_pos h3]
theorem right_rest {c s p : ByteArray} {l : List Int} (h : (!nameB c || !nameB s) = false) (h2 : (!p.toList.isEmpty && !nameB p) = false) (h3 : ¬ 16 < l.length) : rightE c s p l = if l.any badA then 150 else if twiceK l l.length then 6 else 0 := by
  unfold rightE
  rw [h, if_neg (by simp), if_neg (by intro hh; rw [hh.2] at h2; simp [hh.1] at h2), if_neg h3]
theorem star_name : nameB ⟨#[42]⟩ = true := by decide +kernel
theorem star_of (s : ByteArray) (h : nameB s = false) : (s.toList == [42]) = false := by
  rw [beq_eq_false_iff_ne]
  intro e
  have : s = ⟨#[42]⟩ := by
    have e2 : s.data.toList = [42] := by
      rw [← ByteArray.toList_eq]; exact e
    cases s with | mk d => cases d; simp_all
  rw [this, star_name] at h
  cases h

set_option maxHeartbeats 4000000 in
set_option maxRecDepth 100000 in
theorem right_walk (c s p : ByteArray) (A : Option Addr) (cp : Nat) (l : List Int) (w : World) (hr : Kd.C (Kd.int .i64) w A l.length l) (hc : l.length ≤ cp) (r : Int) (h : rightE c s p l = r) :
    Calls Tryd.prog 8 #[.agg #[.string c, .string s, .string p, .slice A l.length cp]] w fun e w' => e = .returned (.int .i64 r) ∧ Below w.heap.size w w' := by
  have HR := Aside0.mk hr
  have HC := Aside0.mk hc
  have H := Aside0.mk h
  clear hr hc h
  have hu := Tryd.underlying25
  go_enter Tryd.func8, Tryd.ntmps8
  go_upto_region 1 with fail
  go_cut [7] (fun s7 wx => s7 = .bool (!nameB c || !nameB s) ∧ Aside0 (wx.heap[w.heap.size]? = some (.cells #[.string c, .string s, .string p, .slice A l.length cp] 25 (0, 0))) ∧ Aside0 (Below w.heap.size w wx))
  case first =>
    have hb : Below w.heap.size w (w.alloc (Obj.cells #[.string c, .string s, .string p, .slice A l.length cp] 25)) := (Below.refl _ _).alloc (Nat.le_refl _) _
    have hg : (w.alloc (Obj.cells #[.string c, .string s, .string p, .slice A l.length cp] 25)).heap[w.heap.size]? = some (.cells #[.string c, .string s, .string p, .slice A l.length cp] 25 (0, 0)) := heap_alloc_new w _
    have HB := Aside0.mk hb; clear hb
    have HG := Aside0.mk hg; clear hg
    cases n1 : nameB c
    · have d1 := star_of c n1
      have N1 := Aside0.mk n1; clear n1
      go_wp2_with fail
      refine (name_any c _ false N1.out).mono ?_; rintro e w1 ⟨rfl, hb1⟩
      have HB1 := Aside0.mk hb1; clear hb1
      go_wp2
      go_meet
      exact ⟨by rw [N1.out]; rfl, ⟨blk_below HG.out HB1.out⟩, ⟨below_then HB.out (by simp) HB1.out⟩⟩
    · have N1 := Aside0.mk n1; clear n1
      cases n2 : nameB s
      · have d2 := star_of s n2
        have N2 := Aside0.mk n2; clear n2
        by_cases d1 : (c.toList == [42]) = true
        · go_wp2_with fail
          refine (name_any s _ false N2.out).mono ?_; rintro e w1 ⟨rfl, hb1⟩
          have HB1 := Aside0.mk hb1; clear hb1
          go_wp2
          go_meet
          exact ⟨by rw [N1.out, N2.out]; rfl, ⟨blk_below HG.out HB1.out⟩, ⟨below_then HB.out (by simp) HB1.out⟩⟩
        · rw [Bool.not_eq_true] at d1
          go_wp2_with fail
          refine (name_any c _ true N1.out).mono ?_; rintro e w1 ⟨rfl, hb1⟩
          have g1 := blk_below HG.out hb1
          have k1 := (show _ = some (Value.string s) from (blk_cell g1 1).trans rfl)
          have HG1 := Aside0.mk g1; clear g1
          have HB1 := Aside0.mk hb1; clear hb1
          go_wp2_with fail
          refine (name_any s _ false N2.out).mono ?_; rintro e w2 ⟨rfl, hb2⟩
          have HB2 := Aside0.mk hb2; clear hb2
          go_wp2
          go_meet
          exact ⟨by rw [N1.out, N2.out]; rfl, ⟨blk_below HG1.out HB2.out⟩, ⟨below_then (below_then HB.out (by simp) HB1.out) (by have := HB1.out.size; simp at this; omega) HB2.out⟩⟩
      · have N2 := Aside0.mk n2; clear n2
        by_cases d1 : (c.toList == [42]) = true
        · by_cases d2 : (s.toList == [42]) = true
          · go_wp2
            go_meet
            exact ⟨by rw [N1.out, N2.out]; rfl, HG, HB⟩
          · rw [Bool.not_eq_true] at d2
            go_wp2_with fail
            refine (name_any s _ true N2.out).mono ?_; rintro e w1 ⟨rfl, hb1⟩
            have HB1 := Aside0.mk hb1; clear hb1
            go_wp2
            go_meet
            exact ⟨by rw [N1.out, N2.out]; rfl, ⟨blk_below HG.out HB1.out⟩, ⟨below_then HB.out (by simp) HB1.out⟩⟩
        · rw [Bool.not_eq_true] at d1
          go_wp2_with fail
          refine (name_any c _ true N1.out).mono ?_; rintro e w1 ⟨rfl, hb1⟩
          have g1 := blk_below HG.out hb1
          have k1 := (show _ = some (Value.string s) from (blk_cell g1 1).trans rfl)
          have HG1 := Aside0.mk g1; clear g1
          have HB1 := Aside0.mk hb1; clear hb1
          by_cases d2 : (s.toList == [42]) = true
          · go_wp2
            go_meet
            exact ⟨by rw [N1.out, N2.out]; rfl, HG1, ⟨below_then HB.out (by simp) HB1.out⟩⟩
          · rw [Bool.not_eq_true] at d2
            go_wp2_with fail
            refine (name_any s _ true N2.out).mono ?_; rintro e w2 ⟨rfl, hb2⟩
            have HB2 := Aside0.mk hb2; clear hb2
            go_wp2
            go_meet
            exact ⟨by rw [N1.out, N2.out]; rfl, ⟨blk_below HG1.out HB2.out⟩, ⟨below_then (below_then HB.out (by simp) HB1.out) (by have := HB1.out.size; simp at this; omega) HB2.out⟩⟩
  case rest =>
    obtain ⟨rfl, HG, HB⟩ := hcut
    have k2 := (show _ = some (Value.string p) from (blk_cell HG.out 2).trans rfl)
    cases e1 : (!nameB c || !nameB s)
    · have E1 := Aside0.mk e1; clear e1
      go_upto_region 3 with fail
      go_cut [28] (fun s28 wx => s28 = .bool (!p.toList.isEmpty && !nameB p) ∧ Aside0 (wx.heap[w.heap.size]? = some (.cells #[.string c, .string s, .string p, .slice A l.length cp] 25 (0, 0))) ∧ Aside0 (Below w.heap.size w wx))
      case first =>
        by_cases pe : p.toList = []
        · have pe2 : p.toList.isEmpty = true := by rw [pe]; rfl
          go_wp2
          go_meet
          exact ⟨by first | rfl | (simp [pe]; done), HG, HB⟩
        · have pe2 : p.toList.isEmpty = false := by simpa using pe
          cases n3 : nameB p
          all_goals
            have N3 := Aside0.mk n3; clear n3
            go_wp2_with fail
            refine (name_any p _ _ N3.out).mono ?_; rintro e w1 ⟨rfl, hb1⟩
            have HB1 := Aside0.mk hb1; clear hb1
            have PE := Aside0.mk pe2
            go_wp2
            go_meet
            exact ⟨by rw [N3.out, PE.out]; rfl, ⟨blk_below HG.out HB1.out⟩, ⟨below_then HB.out HB.out.size HB1.out⟩⟩
      case rest =>
        obtain ⟨rfl, HG2, HB2⟩ := hcut
        have k3 := (show _ = some (Value.slice A l.length cp) from (blk_cell HG2.out 3).trans rfl)
        clear HG HB
        cases e2 : (!p.toList.isEmpty && !nameB p)
        · by_cases h16 : 16 < l.length
          · obtain rfl : r = 7 := by rw [← H.out]; exact right_7 E1.out e2 h16
            have E2 := Aside0.mk e2; clear e2
            have c16 : decide (16 < (l.length : Int)) = true := decide_eq_true (by omega)
            go_wp2
            go_ret
            exact ⟨rfl, HB2.out⟩
          · have hr3 : (if l.any badA then 150 else if twiceK l l.length then 6 else 0) = r := by
              rw [← H.out]; exact (right_rest E1.out e2 h16).symm
            have R3 := Aside0.mk hr3; clear hr3
            have E2 := Aside0.mk e2; clear e2
            have c16 : decide (16 < (l.length : Int)) = false := decide_eq_false (by omega)
            have hmm := @run_makeMap Tryd.prog
            have k3a := fun o => (show (wc.alloc o).cell? ⟨w.heap.size, 3, none⟩ = some (Value.slice A l.length cp) from (blk_cell (blk_below HG2.out (below_alloc (Below.refl _ _) o)) 3).trans rfl)
            clear H k2
            go_wp2
            go_loopw [4, 47] (fun tw i wr => ∃ k : Nat, k ≤ l.length ∧ i = .int .i64 k ∧ tw = .bool (twiceK l k) ∧ Aside0 ((l.take k).any badA = false) ∧ Aside0 (∃ xs, IntSet Tryd.prog 2 4 wr wc.heap.size k xs ∧ ∀ a, xs.contains a = (l.take k).contains a) ∧ Aside0 (Below wc.heap.size wc wr))
              (fun _ i _ => l.length - (intOf i).toNat)
            case atStart => exact ⟨0, Nat.zero_le _, rfl, rfl, ⟨by simp⟩, ⟨[], IntSet.made _ _ _ _, fun a => by simp⟩, ⟨below_alloc (Below.refl _ _) _⟩⟩
            case round =>
              clear k3 k3a hmm c16
              obtain ⟨k, hk, rfl, rfl, HA, HS, HBr⟩ := hrel
              by_cases hlt : k < l.length
              · have hs0 := take_snoc_rd l k hlt
                have hbad := any_take_of_bad l k hlt
                obtain ⟨ad, e, hcell⟩ := Kd.at_int (Kd.C_below HR.out (below_then HB2.out HB2.out.size HBr.out)) (k : Int) (by omega) (by omega)
                rw [Int.toNat_natCast] at hcell
                have htw : twiceK l (k + 1) = (twiceK l k || (l.take k).contains (rd l k)) := by rw [rd_nat]; rfl
                generalize rd l k = a at *
                cases e
                have HS0 := Aside0.mk hs0; clear hs0
                have HTW := Aside0.mk htw; clear htw
                have d0 : decide ((k : Int) < (l.length : Int)) = true := decide_eq_true (by omega)
                by_cases a1 : a < 1
                · obtain rfl : r = 150 := by rw [← R3.out, if_pos (hbad (by unfold badA; rw [decide_eq_true a1]; rfl))]
                  clear hbad R3
                  go_wp2
                  go_ret
                  exact ⟨rfl, below_then HB2.out HB2.out.size HBr.out⟩
                · by_cases a2 : 4294967295 < a
                  · obtain rfl : r = 150 := by rw [← R3.out, if_pos (hbad (by unfold badA; rw [decide_eq_true (show a > 4294967295 from a2), Bool.or_true]))]
                    clear hbad R3
                    go_wp2
                    go_ret
                    exact ⟨rfl, below_then HB2.out HB2.out.size HBr.out⟩
                  · have hgood : badA a = false := by unfold badA; rw [decide_eq_false a1, decide_eq_false (show ¬ a > 4294967295 from a2)]; rfl
                    have HGD := Aside0.mk hgood; clear hgood hbad
                    obtain ⟨xs, hset, hxs⟩ := HS.out
                    have hwf := wf_addr a a1 a2
                    have hlook := hset.look Tryd.underlying42 Tryd.underlying2 Tryd.underlying4 (by kernel_rfl) hwf
                    have HSET := Aside0.mk hset; clear hset
                    have HXS := Aside0.mk hxs; clear hxs
                    have HWF := Aside0.mk hwf; clear hwf
                    cases ht : twiceK l k
                    all_goals
                      have HT := Aside0.mk ht; clear ht
                      go_wp2_with (first | (at_mapUpdate; refine wpList_put_set rfl _ _ _ rfl a HSET.out (by unfold maxLen; omega) Tryd.underlying42 Tryd.underlying2 Tryd.underlying4 HWF.out rfl rfl rfl ?_; intro w1 hset1 hgr1))
                      go_roundw
                      case rel =>
                        refine ⟨k + 1, by omega, by go_num, ?_, ⟨?_⟩, ⟨a :: xs, hset1, fun b => ?_⟩, ⟨pw_below_grown HBr.out _ HBr.out.size hgr1 (fun q e => by cases e; exact Nat.le_refl _)⟩⟩
                        · rw [HTW.out, HT.out, ← HXS.out]; simp
                        · rw [HS0.out, List.any_append, HA.out]; simp [HGD.out]
                        · rw [HS0.out, List.contains_append, ← HXS.out b]; simp [Bool.or_comm]
                      case measure => simp [intOf]; omega
              · obtain rfl : k = l.length := by omega
                have hA : l.any badA = false := by have := HA.out; rwa [List.take_length] at this
                have R4 := R3.out
                rw [hA, if_neg (by simp)] at R4
                clear R3 hA
                cases ht : twiceK l l.length
                · rw [ht, if_neg (by simp)] at R4
                  subst R4
                  have HT := Aside0.mk ht; clear ht
                  go_wp2
                  go_ret
                  exact ⟨rfl, below_then HB2.out HB2.out.size HBr.out⟩
                · rw [ht, if_pos rfl] at R4
                  subst R4
                  have HT := Aside0.mk ht; clear ht
                  go_wp2
                  go_ret
                  exact ⟨rfl, below_then HB2.out HB2.out.size HBr.out⟩
        · obtain rfl : r = 52 := by
            rw [← H.out]; exact right_52 E1.out e2
          have E2 := Aside0.mk e2; clear e2
          go_wp2
          go_ret
          exact ⟨rfl, HB2.out⟩
    · obtain rfl : r = 60 := by rw [← H.out]; exact right_60 e1
      have E1 := Aside0.mk e1; clear e1
      go_wp2
      go_ret
      exact ⟨rfl, HB.out⟩
theorem secret_Right.calls (a0_0 : ByteArray) (a0_1 : ByteArray) (a0_2 : ByteArray) (A0_3 : Option Addr) (c0_3 : Nat) (l0_3 : List Int) (r : Int) (w : World) (hr0_3 : Kd.C (Kd.int .i64) w A0_3 l0_3.length l0_3) (hc0_3 : l0_3.length ≤ c0_3) (h : secret_Right.f a0_0 a0_1 a0_2 l0_3 = some r) :
    Calls Tryd.prog 8 #[.agg #[.string a0_0, .string a0_1, .string a0_2, .slice A0_3 l0_3.length c0_3]] w fun e w' => e = .returned (.int .i64 r) ∧ Below w.heap.size w w' :=
  right_walk a0_0 a0_1 a0_2 A0_3 c0_3 l0_3 w hr0_3 hc0_3 r (Option.some.inj h)

end Go.Proofs.YtnjnipllflfmeaaDoor.R
