-- Written by wip/xprint.py, a program of this session, out of the translation; Lean checks it.
import Derived.Test.YtnjnipllflfmeaaDoorR0
namespace Go.Proofs.YtnjnipllflfmeaaDoor.R
open Go.RowKit Go.Proofs.YtnjnipllflfmeaaDoorW.PrintWords Go.Proofs.YtnjnipllflfmeaaDoorW.PrintLast Go.Proofs.YtnjnipllflfmeaaDoorW.PrintMore
attribute [local go_sem] max2_int min2_int max_two min_two max_three min_three max_four min_four   -- for this text's walks alone
set_option linter.unusedVariables false
set_option linter.unusedSimpArgs false

/-! ### secret_Addr: function 27 (by hand) -/
def pieceV (p : ByteArray) : Option Int := match Lib.atoiAll p.data.toList with
  | .ok v => if 0 ≤ v ∧ v ≤ 255 ∧ Lib.itoa v = p.data.toList then some v else none
  | _ => none
def addrGo : Int → List ByteArray → Option Int
  | n, [] => some n
  | n, p :: r => match pieceV p with
    | some v => addrGo (n * 256 + v) r
    | none => none
def dots (s : ByteArray) : List ByteArray := Lib.splitB ⟨#[46]⟩ 0 (Lib.countB s ⟨#[46]⟩) s
def addrE (s : ByteArray) : Int × Int := if (dots s).length = 4 then (match addrGo 0 (dots s) with | some n => (n, 0) | none => (0, 150)) else (0, 150)
def secret_Addr.f (a0 : ByteArray) : Option (Int × Int) := if a0.size < 4294967281 then some (addrE a0) else none

theorem join8 (n v : Int) (h0 : 0 ≤ n) (h1 : n < 4294967296) (h2 : 0 ≤ v) (h3 : v ≤ 255) : Go.bits .or .i64 (n * 256) v = n * 256 + v :=
  bits_join .i64 63 (by decide) (fun m a b => by rw [IntKind.wrap_i64]; omega) 8 (n * 256) v (by omega) (by omega) (by omega) h2 (by omega) (by omega)
theorem addrGo_cons (n : Int) (p : ByteArray) (r : List ByteArray) : addrGo n (p :: r) = match pieceV p with
    | some v => addrGo (n * 256 + v) r
    | none => none := rfl
theorem splitB_size (sep : ByteArray) : ∀ (k : Nat) (s p : ByteArray), p ∈ Lib.splitB sep 0 k s → p.size ≤ s.size
  | 0, s, p, h => by
    rw [Lib.splitB_zero, List.mem_singleton] at h
    rw [h]; exact Nat.le_refl _
  | k + 1, s, p, h => by
    unfold Lib.splitB at h
    split at h
    · rw [List.mem_singleton] at h
      rw [h]; exact Nat.le_refl _
    · rcases List.mem_cons.1 h with h | h
      · rw [h, ByteArray.size_extract]; omega
      · have := splitB_size sep k _ p h
        rw [ByteArray.size_extract] at this
        omega
theorem pieceV_some {p : ByteArray} {v : Int} (h : pieceV p = some v) : Lib.atoiAll p.data.toList = .ok v ∧ 0 ≤ v ∧ v ≤ 255 ∧ Lib.itoa v = p.data.toList := by
  unfold pieceV at h
  split at h
  · rename_i u hu
    split at h
    · rename_i hc
      cases h
      exact ⟨hu, hc⟩
    · cases h
  · cases h
theorem pieceV_none {p : ByteArray} {v : Int} (h : pieceV p = none) (hv : Lib.atoiAll p.data.toList = .ok v) : ¬ (0 ≤ v ∧ v ≤ 255 ∧ Lib.itoa v = p.data.toList) := by
  unfold pieceV at h
  rw [hv] at h
  intro hc
  simp only [hc, and_self, if_true] at h
  cases h
theorem itoa_head (v : Int) (h : 0 ≤ v) (p : List UInt8) (e : Lib.itoa v = p) : ∃ c r, p = c :: r ∧ c ≠ 45 := by
  unfold Lib.itoa at e
  rw [if_neg (by omega)] at e
  have hl := Lib.decDigits_length v.toNat
  have hp := Lib.nDigits_pos v.toNat
  rw [e] at hl
  cases p with
  | nil => simp at hl; omega
  | cons c r =>
    refine ⟨c, r, rfl, ?_⟩
    have h0 : (Lib.decDigits v.toNat)[0]? = some c := by rw [e]; rfl
    rw [Lib.decDigits_eq] at h0
    have hr : 0 < Lib.nDigits v.toNat := by omega
    simp only [List.getElem?_map, List.getElem?_range hr, Option.map_some, Option.some.injEq] at h0
    intro hc
    rw [hc] at h0
    unfold Lib.dg at h0
    have h1 := congrArg UInt8.toNat h0
    rw [UInt8.toNat_ofNat'] at h1
    have : v.toNat / 10 ^ (Lib.nDigits v.toNat - 1 - 0) % 10 < 10 := Nat.mod_lt _ (by omega)
    simp at h1
    omega
theorem atoi_any (p : ByteArray) (w : World) (hp : p.size < 4294967281) (hG : GW w) (hv : ∀ v, Lib.atoiAll p.data.toList ≠ .ok v) :
    Calls Tryd.prog 38 #[.string p] w fun e w' => ∃ (x : Int) (b : Nat), e = .returned (.tuple #[.int .i64 x, .iface 119 (.pointer (some ⟨b, 0, none⟩))]) ∧ Below w.heap.size w w' := by
  cases hc : Lib.atoiAll p.data.toList with
  | ok v => exact absurd hc (hv v)
  | range =>
    obtain ⟨tp, q, hs⟩ := hG.ran
    refine (Tryd.strconv_Atoi_range p (by omega) hc _ w hs (.inr ⟨_, _, rfl⟩)).mono ?_
    rintro e w' ⟨N, rfl, _, _, hb⟩
    exact ⟨_, _, rfl, hb⟩
  | _ =>
    obtain ⟨tp, q, hs⟩ := hG.syn
    refine (Any.strconv_Atoi_syntax Tryd.laysC172 p (by omega) hc _ w hs (.inr ⟨_, _, rfl⟩)).mono ?_
    rintro e w' ⟨N, rfl, _, _, hb⟩
    exact ⟨_, _, rfl, hb⟩
theorem atoi_ok (p : ByteArray) (w : World) (hp : p.size < 4294967281) (v : Int) (hv : Lib.atoiAll p.data.toList = .ok v) :
    Calls Tryd.prog 38 #[.string p] w fun e w' => e = .returned (.tuple #[.int .i64 v, .nilIface]) ∧ Below w.heap.size w w' := by
  refine (Tryd.strconv_Atoi_ok p (by omega) v hv w).mono ?_
  rintro e w' ⟨rfl, rfl | ⟨t, rfl⟩⟩
  · exact ⟨rfl, Below.refl _ _⟩
  · exact ⟨rfl, bytes_below (Below.refl _ _) (Nat.le_refl _) _ _⟩
theorem itoa_call (v : Int) (w : World) (h0 : -9223372036854775808 ≤ v) (h1 : v ≤ 9223372036854775807) (hG : GW w) :
    Calls Tryd.prog 39 #[.int .i64 v] w fun e w' => e = .returned (.string ⟨(Lib.itoa v).toArray⟩) ∧ Below w.heap.size w w' := by
  refine (Tryd.strconv_Itoa v h0 h1 w hG.pow).mono ?_
  rintro e w' ⟨rfl, k, os, rfl⟩
  exact ⟨rfl, below_grow1 _ _ _⟩
theorem split_call (s : ByteArray) (c : UInt8) (w : World) (hs : s.size < 4294967281) (hG : GW w) :
    Calls Tryd.prog 17 #[.string s, .string ⟨#[c]⟩] w fun e w' => ∃ l : List ByteArray, l = Lib.splitB ⟨#[c]⟩ 0 (Lib.countB s ⟨#[c]⟩) s ∧ e = .returned (.slice (some ⟨w.heap.size, 0, none⟩) l.length l.length) ∧ w' = w.alloc (.cells (l.map Value.string).toArray 9) := by
  obtain ⟨m, hm⟩ := hG.max
  refine (Tryd.strings_Split s ⟨#[c]⟩ m w hs hm (by show 1 ≤ (#[c] : Array UInt8).size; simp)).mono ?_
  rintro e w' ⟨rfl, rfl⟩
  refine ⟨_, rfl, ?_, rfl⟩
  rw [Lib.splitB_all _ (by show 1 ≤ (#[c] : Array UInt8).size; simp) 0 _ s rfl]
set_option maxHeartbeats 4000000 in
set_option maxRecDepth 100000 in
theorem addr_walk (s : ByteArray) (w : World) (hs : s.size < 4294967281) (hG : GW w) (r1 r2 : Int) (h : addrE s = (r1, r2)) :
    Calls Tryd.prog 27 #[.string s] w fun e w' => e = .returned (.tuple #[.int .i64 r1, .int .i64 r2]) ∧ Below w.heap.size w w' := by
  have HGW := Aside0.mk hG
  have H := Aside0.mk h
  clear hG h
  go_enter Tryd.func27, Tryd.ntmps27
  go_wp2_with fail
  refine (split_call s 46 w hs HGW.out).mono ?_
  rintro e w1 ⟨l, hl, rfl, hw1⟩
  have HL := Aside0.mk hl
  clear hl
  have hcell : ∀ k : Nat, k < l.length → w1.cell? ⟨w.heap.size, k, none⟩ = some (.string (l.getD k ByteArray.empty)) := by
    intro k hk
    rw [hw1]
    refine (blk_cell (heap_alloc_new w _) k).trans ?_
    simp [List.getD_eq_getElem?_getD, List.getElem?_eq_getElem hk]
  have HC := Aside0.mk hcell
  clear hcell
  have HB := Aside0.mk (show Below w.heap.size w w1 by rw [hw1]; exact below_alloc (Below.refl w.heap.size w) _)
  clear hw1
  by_cases h4 : l.length = 4
  · have c4 : ((l.length : Int) != 4) = false := bne_eq_false_iff_eq.mpr (by omega)
    have hg : l.length = 4 → addrGo 0 l = none → r1 = 0 ∧ r2 = 150 := by
      intro h4 hn
      have h2 := H.out
      unfold addrE dots at h2
      rw [← HL.out, if_pos h4, hn] at h2
      cases h2
      exact ⟨rfl, rfl⟩
    have hgs : ∀ n, l.length = 4 → addrGo 0 l = some n → r1 = n ∧ r2 = 0 := by
      intro n h4 hn
      have h2 := H.out
      unfold addrE dots at h2
      rw [← HL.out, if_pos h4, hn] at h2
      cases h2
      exact ⟨rfl, rfl⟩
    have HN := Aside0.mk hg; clear hg
    have HS := Aside0.mk hgs; clear hgs
    have hps : ∀ k, k < l.length → (l.getD k ByteArray.empty).size < 4294967281 := by
      intro k hk
      have hm : l.getD k ByteArray.empty ∈ l := by
        simp [List.getD_eq_getElem?_getD, List.getElem?_eq_getElem hk]
      rw [HL.out] at hm
      exact Nat.lt_of_le_of_lt (splitB_size _ _ _ _ (by rw [HL.out]; exact hm)) hs
    have HPS := Aside0.mk hps; clear hps
    go_wp2
    have H4 := Aside0.mk h4
    clear h4 c4
    go_loopw [5, 17] (fun nv i wr => ∃ (k : Nat) (n : Int), k ≤ 4 ∧ i = .int .i64 k ∧ nv = .int .i64 n ∧ 0 ≤ n ∧ n < 256 ^ k ∧ Aside0 (addrGo n (l.drop k) = addrGo 0 l) ∧ Aside0 (Below w1.heap.size w1 wr))
      (fun _ i _ => 4 - (intOf i).toNat)
    case atStart => exact ⟨0, 0, by omega, rfl, rfl, by omega, by omega, ⟨rfl⟩, ⟨Below.refl _ _⟩⟩
    case round =>
      obtain ⟨k, n, hk, rfl, rfl, hn0, hn1, HA, HBr⟩ := hrel
      have hbt := below_then HB.out HB.out.size HBr.out
      have HT := Aside0.mk hbt; clear hbt
      by_cases hlt : k < 4
      · have hl : k < l.length := by have := H4.out; omega
        have hcell := cell_low (HC.out k hl) HBr.out
        have hdrop : l.drop k = l.getD k ByteArray.empty :: l.drop (k + 1) := by
          rw [List.drop_eq_getElem_cons hl]
          simp [List.getD_eq_getElem?_getD, List.getElem?_eq_getElem hl]
        have hpz := HPS.out k hl
        generalize l.getD k ByteArray.empty = p at *
        have hA := HA.out
        rw [hdrop, addrGo_cons] at hA
        have d0 : decide ((k : Int) < 4) = true := decide_eq_true (by omega)
        clear HPS HC HA hdrop
        cases hp : pieceV p with
        | none =>
          rw [hp] at hA
          obtain ⟨rfl, rfl⟩ := HN.out H4.out hA.symm
          clear hA HN HS
          by_cases hv : ∃ v, Lib.atoiAll p.data.toList = .ok v
          · obtain ⟨v, hv⟩ := hv
            have hno := pieceV_none hp hv
            have hbd := Lib.atoiAll_bounds hv
            have HV := Aside0.mk hv; clear hv hp
            by_cases v1 : 255 < v
            · clear hno
              go_wp2_with fail
              refine (atoi_ok p _ hpz v HV.out).mono ?_
              rintro e w2 ⟨rfl, hb2⟩
              have HB2 := Aside0.mk hb2; clear hb2
              go_wp2
              go_ret2
              exact ⟨rfl, below_then HT.out HT.out.size HB2.out⟩
            · by_cases he : Lib.itoa v = p.data.toList
              · have v0 : v < 0 := by
                  rcases Int.lt_or_le v 0 with h | h
                  · exact h
                  · exact absurd ⟨h, by omega, he⟩ hno
                have hse : (Lib.itoa v = p.toList) = True := eq_true (by rw [ByteArray.toList_eq]; exact he)
                clear hno he
                go_wp2_with fail
                refine (atoi_ok p _ hpz v HV.out).mono ?_
                rintro e w2 ⟨rfl, hb2⟩
                have HB2 := Aside0.mk hb2; clear hb2
                go_wp2_with fail
                refine (itoa_call v _ hbd.1 hbd.2 (HGW.out.below (below_then HT.out HT.out.size HB2.out))).mono ?_
                rintro e w3 ⟨rfl, hb3⟩
                have HB3 := Aside0.mk hb3; clear hb3
                go_wp2
                go_ret2
                exact ⟨rfl, below_then (below_then HT.out HT.out.size HB2.out) (Nat.le_trans HT.out.size HB2.out.size) HB3.out⟩
              · have hse : (Lib.itoa v = p.toList) = False := eq_false (by rw [ByteArray.toList_eq]; exact he)
                clear hno he
                go_wp2_with fail
                refine (atoi_ok p _ hpz v HV.out).mono ?_
                rintro e w2 ⟨rfl, hb2⟩
                have HB2 := Aside0.mk hb2; clear hb2
                go_wp2_with fail
                refine (itoa_call v _ hbd.1 hbd.2 (HGW.out.below (below_then HT.out HT.out.size HB2.out))).mono ?_
                rintro e w3 ⟨rfl, hb3⟩
                have HB3 := Aside0.mk hb3; clear hb3
                go_wp2
                go_ret2
                exact ⟨rfl, below_then (below_then HT.out HT.out.size HB2.out) (Nat.le_trans HT.out.size HB2.out.size) HB3.out⟩
          · clear hp
            go_wp2_with fail
            refine (atoi_any p _ hpz (HGW.out.below HT.out) (fun v h => hv ⟨v, h⟩)).mono ?_
            rintro e w2 ⟨x, b, rfl, hb2⟩
            have HB2 := Aside0.mk hb2; clear hb2
            clear hv
            go_wp2
            go_ret2
            exact ⟨rfl, below_then HT.out HT.out.size HB2.out⟩
        | some v =>
          rw [hp] at hA
          dsimp only at hA
          obtain ⟨hv, v0, v1, he⟩ := pieceV_some hp
          obtain ⟨c, rr, hcr, hc45⟩ := itoa_head v v0 _ he
          have hp0 : 0 < p.size := by rw [← data_length, hcr]; simp
          have hse : (Lib.itoa v = p.toList) = True := eq_true (by rw [ByteArray.toList_eq]; exact he)
          have hb0 : (((p[0]'hp0).toNat : Int) == 45) = false := by
            have e0 : p[0]'hp0 = c := by
              have e1 : p.data.toList[0]? = some c := by rw [hcr]; rfl
              rw [Lib.data_getElem? p 0 hp0] at e1
              exact Option.some.inj e1
            rw [e0, beq_eq_false_iff_ne]
            intro hh
            exact hc45 (UInt8.toNat_inj.1 (by show c.toNat = 45; omega))
          have hse2 : (Lib.itoa v == p.toList) = true := beq_iff_eq.2 (of_eq_true hse)
          have hn2 : n < 16777216 := by
            rcases (show k = 0 ∨ k = 1 ∨ k = 2 ∨ k = 3 by omega) with rfl | rfl | rfl | rfl <;> (simp at hn1; omega)
          have HV := Aside0.mk hv; clear hv hp he hcr
          have HAA := Aside0.mk hA; clear hA
          have hjoin := join8 n v hn0 (by omega) v0 v1
          go_wp2_with fail
          refine (atoi_ok p _ hpz v HV.out).mono ?_
          rintro e w2 ⟨rfl, hb2⟩
          have HB2 := Aside0.mk hb2; clear hb2
          have d1 : ¬ 255 < v := by omega
          go_wp2_with fail
          refine (itoa_call v _ (by omega) (by omega) (HGW.out.below (below_then HT.out HT.out.size HB2.out))).mono ?_
          rintro e w3 ⟨rfl, hb3⟩
          have HB3 := Aside0.mk hb3; clear hb3
          go_wp2
          go_roundw
          case rel =>
            refine ⟨k + 1, n * 256 + v, by omega, by go_num, rfl, by omega, ?_, HAA, ⟨below_then (below_then HBr.out HBr.out.size HB2.out) (Nat.le_trans HBr.out.size HB2.out.size) HB3.out⟩⟩
            rw [Int.pow_succ]; omega
          case measure => simp [intOf]; omega
      · obtain rfl : k = 4 := by omega
        have hA := HA.out
        rw [List.drop_of_length_le (by rw [H4.out]; exact Nat.le_refl _)] at hA
        obtain ⟨rfl, rfl⟩ := HS.out n H4.out hA.symm
        clear hA HA HN HS HPS HC
        go_wp2
        go_ret2
        exact ⟨rfl, HT.out⟩
  · have c4 : ((l.length : Int) != 4) = true := by rw [bne_iff_ne]; omega
    obtain ⟨rfl, rfl⟩ : r1 = 0 ∧ r2 = 150 := by
      have h2 := H.out
      unfold addrE dots at h2
      rw [← HL.out, if_neg h4] at h2
      cases h2
      exact ⟨rfl, rfl⟩
    go_wp2
    go_ret2
    exact ⟨rfl, HB.out⟩
theorem secret_Addr.calls (a0 : ByteArray) (r1 r2 : Int) (w : World) (hG : GW w) (h : secret_Addr.f a0 = some (r1, r2)) :
    Calls Tryd.prog 27 #[.string a0] w fun e w' => e = .returned (.tuple #[.int .i64 r1, .int .i64 r2]) ∧ Below w.heap.size w w' := by
  unfold secret_Addr.f at h
  split at h
  · rename_i hs
    exact addr_walk a0 w hs hG r1 r2 (Option.some.inj h)
  · cases h

/-! ### strings_IndexByte: function 34 (by hand) -/
def strings_IndexByte.f (a0 : ByteArray) (a1 : Int) : Option Int := some (Lib.indexByte a0.data.toList a1.toNat.toUInt8)
theorem strings_IndexByte.calls (a0 : ByteArray) (a1 : Int) (r : Int) (w : World) (h : strings_IndexByte.f a0 a1 = some r) :
    Calls Tryd.prog 34 #[.string a0, .int .u8 a1] w fun e w' => e = .returned (.int .i64 r) ∧ Drawn0 w w' := by
  obtain rfl := Option.some.inj h
  refine (Tryd.strings_IndexByte a0 a1 w).mono ?_
  rintro e w' ⟨rfl, rfl⟩
  exact ⟨rfl, Drawn0.refl _⟩

end Go.Proofs.YtnjnipllflfmeaaDoor.R
