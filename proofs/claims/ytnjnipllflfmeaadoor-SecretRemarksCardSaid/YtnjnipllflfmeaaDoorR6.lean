-- Written by wip/xprint.py, a program of this session, out of the translation; Lean checks it.
import Derived.Test.YtnjnipllflfmeaaDoorR0
import Derived.Test.YtnjnipllflfmeaaDoorR1
import Derived.Test.YtnjnipllflfmeaaDoorR4
import Derived.Test.YtnjnipllflfmeaaDoorR5
namespace Go.Proofs.YtnjnipllflfmeaaDoor.R
open Go.RowKit Go.Proofs.YtnjnipllflfmeaaDoorW.PrintWords Go.Proofs.YtnjnipllflfmeaaDoorW.PrintLast Go.Proofs.YtnjnipllflfmeaaDoorW.PrintMore
attribute [local go_sem] max2_int min2_int max_two min_two max_three min_three max_four min_four   -- for this text's walks alone
set_option linter.unusedVariables false
set_option linter.unusedSimpArgs false

/-! ### secret_Parse: function 9 (by hand) -/
/-! Words of a line, over bytes. -/
def isBl (c : UInt8) : Bool := c == 32 || c == 9 || c == 13
def isSt (c : UInt8) : Bool := isBl c || c == 35
def mkB (l : List UInt8) : ByteArray := ⟨l.toArray⟩
/-- Behind an opening quote: the word, and how many bytes it takes with the closing one. -/
def qS : Bool → List UInt8 → List UInt8 → Option (List UInt8 × Nat)
  | _, _, [] => none
  | true, acc, d :: r => if d = 34 ∨ d = 92 then (qS false (acc ++ [d]) r).map (fun p => (p.1, p.2 + 1)) else none
  | false, acc, c :: r =>
    if c = 34 then (if r = [] ∨ isSt (r.headD 0) = true then some (acc, 1) else none)
    else if c = 92 then (qS true acc r).map (fun p => (p.1, p.2 + 1))
    else (qS false (acc ++ [c]) r).map (fun p => (p.1, p.2 + 1))
def qScan (acc l : List UInt8) : Option (List UInt8 × Nat) := qS false acc l
theorem qScan_nil (acc : List UInt8) : qScan acc [] = none := rfl
theorem qScan_quote (acc r : List UInt8) : qScan acc (34 :: r) = if r = [] ∨ isSt (r.headD 0) = true then some (acc, 1) else none := rfl
theorem qScan_esc0 (acc : List UInt8) : qScan acc [92] = none := rfl
theorem qScan_esc (acc : List UInt8) (d : UInt8) (r : List UInt8) : qScan acc (92 :: d :: r) = if d = 34 ∨ d = 92 then (qScan (acc ++ [d]) r).map (fun p => (p.1, p.2 + 2)) else none := by
  show (qS true acc (d :: r)).map _ = _
  show Option.map _ (if d = 34 ∨ d = 92 then (qS false (acc ++ [d]) r).map (fun p => (p.1, p.2 + 1)) else none) = _
  split
  · rw [Option.map_map]; rfl
  · rfl
theorem qScan_plain (acc : List UInt8) (c : UInt8) (r : List UInt8) (h : ¬ c = 34) (h2 : ¬ c = 92) : qScan acc (c :: r) = (qScan (acc ++ [c]) r).map (fun p => (p.1, p.2 + 1)) := by
  show (if c = 34 then _ else if c = 92 then _ else _) = _
  rw [if_neg h, if_neg h2]; rfl
def toI (l : List UInt8) : List Int := l.map fun b => (b.toNat : Int)
theorem toI_snoc (l : List UInt8) (b : UInt8) : toI (l ++ [b]) = toI l ++ [(b.toNat : Int)] := by simp [toI]
theorem strOf_toI (l : List UInt8) : strOfNums (toI l) = mkB l := by
  unfold strOfNums toI mkB
  congr 2
  rw [List.map_map]
  conv => rhs; rw [← List.map_id l]
  refine List.map_congr_left fun b _ => ?_
  simp
theorem bt_drop (s : ByteArray) (i : Nat) (h : i < s.size) : ∃ c, s.data.toList.drop i = c :: s.data.toList.drop (i + 1) ∧ bt s i = (c.toNat : Int) := by
  refine ⟨s[i]'h, ?_, ?_⟩
  · have hl : i < s.data.toList.length := by rw [data_length]; exact h
    rw [List.drop_eq_getElem_cons hl]; rfl
  · rw [← bt_at s (i : Int) (by rw [Int.toNat_natCast]; exact h)]
    simp only [Int.toNat_natCast]
theorem bt_head (s : ByteArray) (i : Nat) {c : UInt8} {r : List UInt8} (e : s.data.toList.drop i = c :: r) : i < s.size ∧ bt s i = (c.toNat : Int) ∧ s.data.toList.drop (i + 1) = r := by
  have hl : i < s.size := by
    rcases Nat.lt_or_ge i s.size with h | h
    · exact h
    · rw [List.drop_of_length_le (by rw [data_length]; exact h)] at e; cases e
  obtain ⟨c', e', hb⟩ := bt_drop s i hl
  rw [e] at e'
  injection e' with e1 e2
  exact ⟨hl, by rw [hb, e1], e2.symm⟩
theorem idx_stop (c : UInt8) : decide (0 ≤ Lib.indexByte [32, 9, 13, 35] c) = isSt c := by
  rw [← Lib.contains_iff_indexByte]
  unfold isSt isBl
  simp [Bool.or_assoc]
  rfl
theorem idx_blank (c : UInt8) : decide (0 ≤ Lib.indexByte [32, 9, 13] c) = isBl c := by
  rw [← Lib.contains_iff_indexByte]
  unfold isBl
  simp [Bool.or_assoc]
  rfl
theorem toU8_back (c : UInt8) : ((c.toNat : Int)).toNat.toUInt8 = c := by simp
theorem wrap_small {i : Int} (h0 : 0 ≤ i) (h : i < 9223372036854775807) : wrap64 (i + 1) = i + 1 := by unfold wrap64; omega
def QEnd (s : ByteArray) (acc : List UInt8) (i : Nat) (r : ByteArray × Int × Bool) : Prop :=
  match qScan acc (s.data.toList.drop i) with
  | some (wd, m) => r = (mkB wd, ((i + m : Nat) : Int), true)
  | none => r.2.2 = false
theorem quoted_ends (s : ByteArray) (hs : s.size ≤ 4294967296) (d : Nat) : ∀ (k i : Nat) (acc : List UInt8), s.size - i = d → i ≤ s.size → acc.length ≤ i → d < k →
    ∃ r, secret_quoted.l0 k s (toI acc) (i : Int) = some r ∧ QEnd s acc i r := by
  induction d using Nat.strongRecOn with
  | _ d ih =>
  intro k i acc hd hi hacc hk
  obtain ⟨k, rfl⟩ : ∃ m, k = m + 1 := ⟨k - 1, by omega⟩
  simp only [secret_quoted.l0]
  by_cases hlt : i < s.size
  · obtain ⟨c, hc, hb⟩ := bt_drop s i hlt
    rw [if_pos (by omega), if_pos (by omega), hb, wrap_small (by omega) (by omega)]
    have hlen : (toI acc).length = acc.length := by simp [toI]
    have hl : (toI acc).length < 140737488355328 := by omega
    by_cases h34 : c = 34
    · subst h34
      rw [if_pos (by rfl)]
      by_cases he : i + 1 = s.size
      · rw [if_pos (by omega)]
        refine ⟨_, rfl, ?_⟩
        unfold QEnd
        rw [hc, qScan_quote, if_pos (.inl (List.drop_of_length_le (by rw [data_length]; omega)))]
        rw [strOf_toI]; rfl
      · rw [if_neg (by omega), if_pos (by omega), if_pos (by omega)]
        obtain ⟨c2, hc2, hb2⟩ := bt_drop s (i + 1) (by omega)
        have hb2' : bt s ((i : Int) + 1) = (c2.toNat : Int) := by have : ((i : Int) + 1) = ((i + 1 : Nat) : Int) := by omega
                                                                  rw [this]; exact hb2
        rw [hb2']
        unfold strings_IndexByte.f
        simp only [Option.bind_some]
        refine ⟨_, rfl, ?_⟩
        unfold QEnd
        rw [hc, qScan_quote, hc2, toU8_back]
        have hid := idx_stop c2
        by_cases hst : isSt c2 = true
        · rw [if_pos (.inr hst)]
          rw [hst] at hid
          have : decide (Lib.indexByte (⟨#[32, 9, 13, 35]⟩ : ByteArray).data.toList c2 ≥ 0) = true := hid
          rw [this, strOf_toI]; rfl
        · rw [if_neg (by simp [hst])]
          rw [Bool.not_eq_true] at hst
          rw [hst] at hid
          exact hid
    · rw [if_neg (by intro e; exact h34 (UInt8.toNat_inj.1 (by show c.toNat = 34; omega)))]
      by_cases h92 : c = 92
      · subst h92
        rw [if_pos (by rfl)]
        by_cases he : i + 1 = s.size
        · rw [if_pos (by omega)]
          refine ⟨_, rfl, ?_⟩
          unfold QEnd
          rw [hc, List.drop_of_length_le (i := i + 1) (by rw [data_length]; omega), qScan_esc0]
        · rw [if_neg (by omega), if_pos (by omega), if_pos (by omega)]
          obtain ⟨c2, hc2, hb2⟩ := bt_drop s (i + 1) (by omega)
          have e1 : ((i : Int) + 1) = ((i + 1 : Nat) : Int) := by omega
          rw [e1, hb2, ← e1]
          have hq : qScan acc (s.data.toList.drop i) = if c2 = 34 ∨ c2 = 92 then (qScan (acc ++ [c2]) (s.data.toList.drop (i + 2))).map (fun p => (p.1, p.2 + 2)) else none := by
            rw [hc, hc2, qScan_esc]
          have step : c2 = 34 ∨ c2 = 92 → ∃ r, secret_quoted.l0 k s (toI acc ++ [(c2.toNat : Int)]) (wrap64 ((i : Int) + 1 + 1)) = some r ∧ QEnd s acc i r := by
            intro h
            obtain ⟨r, hr, hQ⟩ := ih (s.size - (i + 2)) (by omega) k (i + 2) (acc ++ [c2]) rfl (by omega) (by simp; omega) (by omega)
            refine ⟨r, ?_, ?_⟩
            · rw [wrap_small (by omega) (by omega), ← toI_snoc, show (i : Int) + 1 + 1 = ((i + 2 : Nat) : Int) by omega]
              exact hr
            · unfold QEnd at hQ ⊢
              rw [hq, if_pos h]
              cases hh : qScan (acc ++ [c2]) (s.data.toList.drop (i + 2)) with
              | none => rw [hh] at hQ; exact hQ
              | some p => rw [hh] at hQ; rw [Option.map_some]; dsimp only at hQ ⊢; rw [hQ]; congr 3; omega
          by_cases g34 : c2 = 34
          · rw [if_pos (by rw [g34]; rfl), if_pos hl]
            exact step (.inl g34)
          · rw [if_neg (by intro e; exact g34 (UInt8.toNat_inj.1 (by show c2.toNat = 34; omega)))]
            by_cases g92 : c2 = 92
            · rw [if_pos (by rw [g92]; rfl), if_pos hl]
              exact step (.inr g92)
            · rw [if_neg (by intro e; exact g92 (UInt8.toNat_inj.1 (by show c2.toNat = 92; omega)))]
              refine ⟨_, rfl, ?_⟩
              unfold QEnd
              rw [hq, if_neg (by simp [g34, g92])]
      · rw [if_neg (by intro e; exact h92 (UInt8.toNat_inj.1 (by show c.toNat = 92; omega))), if_pos hl]
        obtain ⟨r, hr, hQ⟩ := ih (s.size - (i + 1)) (by omega) k (i + 1) (acc ++ [c]) rfl (by omega) (by simp; omega) (by omega)
        refine ⟨r, ?_, ?_⟩
        · rw [← toI_snoc, show (i : Int) + 1 = ((i + 1 : Nat) : Int) by omega]
          exact hr
        · unfold QEnd at hQ ⊢
          have hq : qScan acc (s.data.toList.drop i) = (qScan (acc ++ [c]) (s.data.toList.drop (i + 1))).map (fun p => (p.1, p.2 + 1)) := by
            rw [hc, qScan_plain _ _ _ h34 h92]
          rw [hq]
          cases hh : qScan (acc ++ [c]) (s.data.toList.drop (i + 1)) with
          | none => rw [hh] at hQ; exact hQ
          | some p => rw [hh] at hQ; rw [Option.map_some]; dsimp only at hQ ⊢; rw [hQ]; congr 3; omega
  · rw [if_neg (by omega)]
    refine ⟨_, rfl, ?_⟩
    unfold QEnd
    rw [List.drop_of_length_le (by rw [data_length]; omega), qScan_nil]
theorem quoted_call (s : ByteArray) (w : World) (h1 : 1 ≤ s.size) (hs : s.size ≤ 4294967296) :
    Calls Tryd.prog 35 #[.string s] w fun e w' => ∃ r : ByteArray × Int × Bool, e = .returned (.tuple #[.string r.1, .int .i64 r.2.1, .bool r.2.2]) ∧ QEnd s [] 1 r ∧ Below w.heap.size w w' := by
  obtain ⟨r, hr, hQ⟩ := quoted_ends s hs (s.size - 1) (s.size + 1) 1 [] rfl h1 (by simp) (by omega)
  refine (secret_quoted.calls (s.size + 1) s r.1 r.2.1 r.2.2 w hr).mono ?_
  rintro e w' ⟨rfl, hb⟩
  exact ⟨r, rfl, hQ, hb⟩

theorem words1_ok (p q : Addr) (u : FrameMode) (w : World) (hc : w.cell? p = some .nilIface) :
    CallsD Tryd.prog 33 #[.pointer (some p), .pointer (some q)] u w fun e u' w' => u' = u ∧ e = .returned (.tuple #[]) ∧ w' = w := by
  go_enter_d Tryd.func33, Tryd.ntmps33
  go_wp2
  go_end0
  exact ⟨rfl, rfl⟩
theorem words1_err (p q : Addr) (u : FrameMode) (w : World) (tp : TypeId) (pv v : Value) (hc : w.cell? p = some (.iface tp pv)) (hv : w.cell? q = some v) (hz : w.frozen? q = false) :
    CallsD Tryd.prog 33 #[.pointer (some p), .pointer (some q)] u w fun e u' w' => u' = u ∧ e = .returned (.tuple #[]) ∧ w' = w.setCell q (.slice none 0 0) := by
  go_enter_d Tryd.func33, Tryd.ntmps33
  go_wp2
  go_end0
  exact ⟨rfl, rfl⟩

def wordsF : Nat → List UInt8 → List ByteArray → Option (List ByteArray)
  | 0, _, _ => none
  | _ + 1, [], acc => some acc
  | k + 1, c :: r, acc =>
    if isBl c = true then wordsF k r acc
    else if c = 35 then some acc
    else if c = 34 then (match qScan [] r with
      | some (wd, m) => wordsF k (r.drop m) (acc ++ [mkB wd])
      | none => none)
    else if (34 : UInt8) ∈ c :: r.takeWhile (fun b => !isSt b) then none
    else wordsF k (r.dropWhile (fun b => !isSt b)) (acc ++ [mkB (c :: r.takeWhile (fun b => !isSt b))])
def wordsE (l : List UInt8) : Option (List ByteArray) := wordsF (l.length + 1) l []
structure WV (w w' : World) (v : Value) (xs : List ByteArray) : Prop where
  var : w'.heap[w.heap.size]? = some (.cells #[v] 36 (0, 0))
  err : w'.heap[w.heap.size + 1]? = some (.cells #[.nilIface] 44 (0, 0))
  row : Kd.R Kd.string 9 w' (w.heap.size + 2) (fun _ => True) v xs
  low : Below w.heap.size w w'
theorem WV.below {w w' w1 : World} {v : Value} {xs : List ByteArray} (h : WV w w' v xs) (hb : Below w'.heap.size w' w1) : WV w w1 v xs :=
  ⟨blk_below h.var hb, blk_below h.err hb, Kd.R_below h.row hb, below_then h.low h.low.size hb⟩
theorem alloc_two (w : World) (o1 o2 : Obj) : ((w.alloc o1).alloc o2).heap[w.heap.size + 1]? = some o2 := by
  have h := blk_new (w.alloc o1) o2
  have e : (w.alloc o1).heap.size = w.heap.size + 1 := by show (w.heap.push o1).size = _; exact Array.size_push ..
  rw [e] at h; exact h
def WEnd (r : Option (List ByteArray)) (w w' : World) (v ev : Value) : Prop := match r with
  | some xs => ev = .nilIface ∧ Kd.R Kd.string 9 w' w.heap.size (fun _ => True) v xs
  | none => ∃ tp pv, ev = .iface tp pv
theorem WV.put {w wr : World} {v v' : Value} {xs xs' : List ByteArray} (h : WV w wr v xs) (hr : Kd.R Kd.string 9 wr (w.heap.size + 2) (fun _ => True) v' xs') : WV w (wr.setCell ⟨w.heap.size, 0, none⟩ v') v' xs' :=
  ⟨blk_put h.var 0 v' rfl, blk_far h.err (by show w.heap.size + 1 ≠ w.heap.size; omega) v', Kd.R_set hr h.var (by decide) 0 v', below_set h.low (Nat.le_refl _)⟩
theorem WV.nil {w wr : World} {v : Value} {xs : List ByteArray} (h : WV w wr v xs) : WV w (wr.setCell ⟨w.heap.size + 1, 0, none⟩ .nilIface) v xs :=
  ⟨blk_far h.var (by show w.heap.size ≠ w.heap.size + 1; omega) _, blk_put h.err 0 _ rfl, Kd.R_set h.row h.err (by decide) 0 _, below_set h.low (Nat.le_succ _)⟩
theorem WV.cellv {w wr : World} {v : Value} {xs : List ByteArray} (h : WV w wr v xs) : wr.cell? ⟨w.heap.size, 0, none⟩ = some v := (blk_cell h.var 0).trans rfl
theorem WV.celle {w wr : World} {v : Value} {xs : List ByteArray} (h : WV w wr v xs) : wr.cell? ⟨w.heap.size + 1, 0, none⟩ = some .nilIface := (blk_cell h.err 0).trans rfl
/-- The two variables behind a word at fault. -/
structure WB (w w' : World) (v ev : Value) : Prop where
  var : w'.heap[w.heap.size]? = some (.cells #[v] 36 (0, 0))
  err : w'.heap[w.heap.size + 1]? = some (.cells #[ev] 44 (0, 0))
  low : Below w.heap.size w w'
theorem WV.bad {w wr : World} {v : Value} {xs : List ByteArray} (h : WV w wr v xs) (A : Option Addr) (cp : Nat) (ev : Value) : WB w ((wr.setCell ⟨w.heap.size, 0, none⟩ (.slice A xs.length cp)).setCell ⟨w.heap.size + 1, 0, none⟩ ev) (.slice A xs.length cp) ev :=
  ⟨blk_far (blk_put h.var 0 _ rfl) (by show w.heap.size ≠ w.heap.size + 1; omega) _, blk_put (blk_far h.err (by show w.heap.size + 1 ≠ w.heap.size; omega) _) 0 _ rfl, below_set (below_set h.low (Nat.le_refl _)) (Nat.le_succ _)⟩
theorem WB.clear {w wr : World} {v ev : Value} (h : WB w wr v ev) : WB w (wr.setCell ⟨w.heap.size, 0, none⟩ (.slice none 0 0)) (.slice none 0 0) ev :=
  ⟨blk_put h.var 0 _ rfl, blk_far h.err (by show w.heap.size + 1 ≠ w.heap.size; omega) _, below_set h.low (Nat.le_refl _)⟩
theorem WB.drew {w wr : World} {v ev : Value} (h : WB w wr v ev) : WB w wr.drew v ev := ⟨h.var, h.err, h.low.drew⟩
theorem WB.cellv {w wr : World} {v ev : Value} (h : WB w wr v ev) : wr.cell? ⟨w.heap.size, 0, none⟩ = some v := (blk_cell h.var 0).trans rfl
theorem WB.celle {w wr : World} {v ev : Value} (h : WB w wr v ev) : wr.cell? ⟨w.heap.size + 1, 0, none⟩ = some ev := (blk_cell h.err 0).trans rfl
theorem qS_len : ∀ (b : Bool) (acc l : List UInt8) (wd : List UInt8) (m : Nat), qS b acc l = some (wd, m) → m ≤ l.length
  | _, _, [], _, _, h => by unfold qS at h; cases h
  | true, acc, d :: r, wd, m, h => by
    unfold qS at h
    split at h
    · cases hq : qS false (acc ++ [d]) r with
      | none => rw [hq] at h; cases h
      | some p => rw [hq] at h; cases h; have := qS_len _ _ _ p.1 p.2 hq; simp; omega
    · cases h
  | false, acc, c :: r, wd, m, h => by
    unfold qS at h
    split at h
    · split at h
      · cases h; simp
      · cases h
    · split at h
      · cases hq : qS true acc r with
        | none => rw [hq] at h; cases h
        | some p => rw [hq] at h; cases h; have := qS_len _ _ _ p.1 p.2 hq; simp; omega
      · cases hq : qS false (acc ++ [c]) r with
        | none => rw [hq] at h; cases h
        | some p => rw [hq] at h; cases h; have := qS_len _ _ _ p.1 p.2 hq; simp; omega
theorem any_stop : ∀ l : List UInt8, (Lib.indexAny l [32, 9, 13, 35] = -1 ∧ l.takeWhile (fun b => !isSt b) = l) ∨ (Lib.indexAny l [32, 9, 13, 35] = ((l.takeWhile (fun b => !isSt b)).length : Int) ∧ (l.takeWhile (fun b => !isSt b)).length < l.length)
  | [] => .inl ⟨rfl, rfl⟩
  | b :: l => by
    have hst : ([32, 9, 13, 35] : List UInt8).contains b = isSt b := by
      unfold isSt isBl
      simp [Bool.or_assoc]
      rfl
    unfold Lib.indexAny
    rw [hst]
    cases hb : isSt b with
    | true => right; simp [List.takeWhile, hb]
    | false =>
      rcases any_stop l with ⟨h1, h2⟩ | ⟨h1, h2⟩
      · left; simp [List.takeWhile, hb, h1, h2]
      · right
        rw [h1]
        simp only [Bool.false_eq_true, if_false, List.takeWhile, hb, Bool.not_false, List.length_cons]
        rw [if_neg (by intro e; have := beq_iff_eq.1 e; omega)]
        omega
theorem drop_tw (p : UInt8 → Bool) : ∀ l : List UInt8, l.drop (l.takeWhile p).length = l.dropWhile p
  | [] => rfl
  | c :: r => by
    by_cases h : p c = true
    · rw [List.takeWhile_cons, if_pos h, List.dropWhile_cons, if_pos h, List.length_cons, List.drop_succ_cons, drop_tw p r]
    · rw [List.takeWhile_cons, if_neg h, List.dropWhile_cons, if_neg h]; rfl
theorem ext_list (s : ByteArray) (i : Nat) (h : i ≤ s.size) : (s.extract i s.size).data.toList = s.data.toList.drop i := by
  rw [ByteArray.data_extract, Array.toList_extract, List.extract_eq_take_drop, List.take_of_length_le]
  rw [List.length_drop, data_length]; omega
set_option maxHeartbeats 4000000 in
set_option maxRecDepth 100000 in
theorem words_walk (s : ByteArray) (w : World) (hs : s.size < 4294967281) (hG : GW w) (R0 : Option (List ByteArray)) (hR0 : wordsE s.data.toList = R0)
    (hany : ∀ (i : Nat) (W : World), i < s.size → Calls Tryd.prog 36 #[.string (s.extract i s.size), .string ⟨#[32, 9, 13, 35]⟩] W fun e w' => e = .returned (.int .i64 (Lib.indexAny (s.extract i s.size).data.toList [32, 9, 13, 35])) ∧ Below W.heap.size W w') :
    Calls Tryd.prog 26 #[.string s] w fun e w' => ∃ v ev, e = .returned (.tuple #[v, ev]) ∧ Below w.heap.size w w' ∧ WEnd R0 w w' v ev := by
  have hmf : ∀ (fn : Fn) (first cap : Array Value) (w : World), (Instr.makeFunc fn first cap).run Tryd.prog w = .ok (.func fn first cap) w := fun _ _ _ _ => rfl
  have HGW := Aside0.mk hG
  have HR0 := Aside0.mk hR0
  have HAny := Aside0.mk hany
  clear hG hR0 hany
  go_enter_defers Tryd.func26, Tryd.ntmps26
  go_wp2_with fail
  go_loopw [4] (fun iv wr => ∃ (k i : Nat) (v : Value) (xs : List ByteArray), iv = .int .i64 i ∧ i ≤ s.size ∧ s.size - i < k ∧ xs.length ≤ i ∧ Aside0 (wordsF k (s.data.toList.drop i) xs = R0) ∧ Aside0 (WV w wr v xs))
      (fun i _ => s.size - (intOf i).toNat)
  case atStart =>
    refine ⟨s.size + 1, 0, .slice none 0 0, [], rfl, by omega, by omega, by simp, ⟨?_⟩, ⟨?_⟩⟩
    · rw [← HR0.out]; unfold wordsE; rw [data_length]; rfl
    · exact ⟨blk_alloc (blk_new w _) _, alloc_two w _ _, Kd.R_nil _ _ _ _ _, below_alloc (below_alloc (Below.refl _ _) _) _⟩
  case round =>
    obtain ⟨k, i, v, xs, rfl, hi, hk, hxl, HA, HV⟩ := hrel
    clear HR0
    obtain ⟨A, cp, rfl⟩ := Kd.R_slice HV.out.row
    have hcl := HV.out.cellv
    have hfl := blk_frozen HV.out.var 0
    have hce := HV.out.celle
    have hfe := blk_frozen HV.out.err 0
    obtain ⟨k, rfl⟩ : ∃ m, k = m + 1 := ⟨k - 1, by omega⟩
    by_cases hlt : i < s.size
    · obtain ⟨c, hc, hb⟩ := bt_drop s i hlt
      have hsi : s[i]'hlt = c := by
        have h1 := Lib.data_getElem? s i hlt
        have h2 : (s.data.toList.drop i)[0]? = some c := by rw [hc]; rfl
        rw [List.getElem?_drop, Nat.add_zero] at h2
        exact Option.some.inj (h1.symm.trans h2)
      have hA := HA.out
      rw [hc] at hA
      unfold wordsF at hA
      have hix := idx_blank c
      have Hc := Aside0.mk hc
      clear hc hb HA
      by_cases c1 : isBl c = true
      · rw [if_pos c1] at hA
        have HA := Aside0.mk hA
        clear hA
        rw [c1] at hix
        go_wp2_with fail
        refine (strings_IndexByte.calls ⟨#[32, 9, 13]⟩ (c.toNat : Int) _ _ rfl).mono ?_
        rintro e w2 ⟨rfl, hd2⟩
        have hb2 := hd2.below
        rw [toU8_back]
        have HB2 := Aside0.mk hb2
        clear hb2 hd2
        go_wp2
        go_roundw
        case rel =>
          exact ⟨k, i + 1, _, xs, by go_num, by omega, by omega, by omega, HA, ⟨HV.out.below HB2.out⟩⟩
        case measure => simp [intOf]; omega
      · rw [if_neg c1] at hA
        rw [Bool.not_eq_true] at c1
        rw [c1] at hix
        have HI := Aside0.mk hix
        clear hix
        go_wp2_with fail
        refine (strings_IndexByte.calls ⟨#[32, 9, 13]⟩ (c.toNat : Int) _ _ rfl).mono ?_
        rintro e w2 ⟨rfl, hd2⟩
        have hb2 := hd2.below
        rw [toU8_back]
        have hix := HI.out
        have HV2 := Aside0.mk (HV.out.below hb2)
        clear HV hb2 hd2 hcl hfl hce hfe HI
        have hcl := HV2.out.cellv
        have hfl := blk_frozen HV2.out.var 0
        have hce := HV2.out.celle
        have hfe := blk_frozen HV2.out.err 0
        by_cases c2 : c = 35
        · subst c2
          rw [if_pos rfl] at hA
          subst hA
          go_wp2
          have HVD := (HV2.out.put HV2.out.row).nil
          generalize ((w2.setCell ⟨w.heap.size, 0, none⟩ (Value.slice A xs.length cp)).setCell ⟨w.heap.size + 1, 0, none⟩ .nilIface) = W2 at HVD ⊢
          refine leaves_cons (f := 33) (args := #[.pointer (some ⟨w.heap.size + 1, 0, none⟩), .pointer (some ⟨w.heap.size, 0, none⟩)]) (by simp) (by simp [go_sem]) ?_
          refine (words1_ok _ _ .returning _ HVD.celle).mono ?_
          rintro e u' w'' ⟨rfl, rfl, rfl⟩
          have hcv := HVD.cellv
          have hcn := HVD.celle
          simp [Leaves, settle, results, Tryd.results26, go_sem, hcv, hcn]
          exact ⟨_, _, ⟨rfl, rfl⟩, HVD.low, rfl, Kd.R_lower HVD.row (by omega)⟩
        · rw [if_neg c2] at hA
          have c2b : ((c.toNat : Int) == 35) = false := beq_eq_false_iff_ne.2 (fun e => c2 (UInt8.toNat_inj.1 (by show c.toNat = 35; omega)))
          by_cases c3 : c = 34
          · subst c3
            rw [if_pos rfl] at hA
            have hsz : (s.extract i s.size).size = s.size - i := by rw [ByteArray.size_extract]; omega
            go_wp2_with fail
            refine (quoted_call (s.extract i s.size) _ (by omega) (by omega)).mono ?_
            rintro e w3 ⟨⟨r1, r2, r3⟩, rfl, hQ, hb3⟩
            unfold QEnd at hQ
            rw [ext_list s i hi, Hc.out, List.drop_succ_cons, List.drop_zero] at hQ
            have HV3 := Aside0.mk (HV2.out.below hb3)
            clear HV2 hb3 hcl hfl hce hfe
            have hcl := HV3.out.cellv
            have hfl := blk_frozen HV3.out.var 0
            have hce := HV3.out.celle
            have hfe := blk_frozen HV3.out.err 0
            cases hq : qScan [] (s.data.toList.drop (i + 1)) with
            | none =>
              rw [hq] at hQ hA
              dsimp only at hQ hA
              subst hQ hA
              clear hq
              obtain ⟨g, hgl⟩ := HGW.out.err
              have hge := (hgl.below HV3.out.low).1
              have hgw := hgl.1
              have hge2 : (w3.setCell ⟨w.heap.size, 0, none⟩ (.slice A xs.length cp)).cell? ⟨0, 0, none⟩ = some (.iface 144 (.pointer (some g))) := by
                rw [World.cell?_setCell_other _ _ _ _ (by intro e; have e := congrArg Addr.block e; have := World.block_lt_of_cell? w _ hgw; dsimp at e this; omega)]
                exact hge
              go_wp2
              go_region
              go_wp2
              have HVD := HV3.out.bad A cp (.iface 144 (.pointer (some g)))
              have HVD := HVD.drew
              generalize (((w3.setCell ⟨w.heap.size, 0, none⟩ (Value.slice A xs.length cp)).setCell ⟨w.heap.size + 1, 0, none⟩ (.iface 144 (.pointer (some g)))).drew) = W2 at HVD ⊢
              refine leaves_cons (f := 33) (args := #[.pointer (some ⟨w.heap.size + 1, 0, none⟩), .pointer (some ⟨w.heap.size, 0, none⟩)]) (by simp) (by simp [go_sem]) ?_
              refine (words1_err _ _ .returning _ _ _ _ HVD.celle HVD.cellv (blk_frozen HVD.var 0)).mono ?_
              rintro e u' w'' ⟨rfl, rfl, rfl⟩
              have HVE := HVD.clear
              have hcv := HVE.cellv
              have hcn := HVE.celle
              simp [Leaves, settle, results, Tryd.results26, go_sem, hcv, hcn]
              exact ⟨_, _, ⟨rfl, rfl⟩, HVE.low, _, _, rfl⟩
            | some p =>
              obtain ⟨wd, m⟩ := p
              rw [hq] at hQ hA
              dsimp only at hQ hA
              cases hQ
              have hm := qS_len _ _ _ _ _ hq
              rw [List.length_drop, data_length] at hm
              have HA := Aside0.mk hA
              clear hA hq
              go_wp2_with (first | ((with_reducible refine gate_builtin (b := .append) (xs := #[.tmp 66, .tmp 68]) rfl ?_); at_builtin; refine Kd.R_append Kd.string (w0 := w3) (w.heap.size + 2) rfl (.tmp 66) (.tmp 68) 36 9 (.string ⟨#[]⟩) 16 rfl Tryd.underlying36 info9 rfl (by decide) (by omega) (.slice A xs.length cp) xs (mkB wd) [.string (mkB wd)] (fun _ => True) (fun _ => False) rfl rfl ?aP (fun _ hk => hk.elim) ?aF ?aO ?aB ?aS ?aL ?_))
              case aP => exact rfl
              case aF => exact fun _ _ => trivial
              case aO => exact HV3.out.row
              case aB => exact Below.refl _ _
              case aS => have := HV3.out.err; have := blk_lt this; omega
              case aL => omega
              intro v1 w4 ho hb4 hg hat
              have hn : ∀ (j : Nat) (cs : Array Value) (t : TypeId), 9 ≠ t → w3.heap[j]? = some (.cells cs t (0, 0)) → w4.heap[j]? = some (.cells cs t (0, 0)) := fun j cs t ht hj => blk_grown hj hg (Kd.R_ne HV3.out.row hj ht)
              have HV4 := Aside0.mk (show WB w w4 (.slice A xs.length cp) .nilIface from ⟨hn _ _ _ (by decide) HV3.out.var, hn _ _ _ (by decide) HV3.out.err, HV3.out.low.trans (hb4.mono (by omega))⟩)
              obtain ⟨A4, cp4, rfl⟩ := Kd.R_slice ho
              rw [List.length_append, List.length_singleton] at ho
              have HO := Aside0.mk ho
              clear ho hb4 hg hat hn hcl hfl hce hfe
              have hcl := HV4.out.cellv
              have hfl := blk_frozen HV4.out.var 0
              have hwr : wrap64 ((i : Int) + (1 + (m : Int))) = (i : Int) + (1 + (m : Int)) := by unfold wrap64; omega
              go_wp2
              go_roundw
              case rel =>
                refine ⟨k, i + (1 + m), _, xs ++ [mkB wd], by go_num, by omega, by omega, by simp; omega, ⟨?_⟩, ⟨⟨blk_put HV4.out.var 0 _ rfl, blk_far HV4.out.err (by show w.heap.size + 1 ≠ w.heap.size; omega) _, Kd.R_set HO.out HV4.out.var (by decide) 0 _, below_set HV4.out.low (Nat.le_refl _)⟩⟩⟩
                rw [← HA.out, List.drop_drop]
                congr 2; omega
              case measure => simp [intOf]; omega
          · rw [if_neg c3] at hA
            have c3b : ((c.toNat : Int) == 34) = false := beq_eq_false_iff_ne.2 (fun e => c3 (UInt8.toNat_inj.1 (by show c.toNat = 34; omega)))
            have hst : isSt c = false := by unfold isSt; rw [c1]; simp [c2]
            have htk : (s.data.toList.drop i).takeWhile (fun b => !isSt b) = c :: (s.data.toList.drop (i + 1)).takeWhile (fun b => !isSt b) := by
              rw [Hc.out, List.takeWhile_cons, if_pos (by simp [hst])]
            have hdw : (s.data.toList.drop (i + 1)).dropWhile (fun b => !isSt b) = s.data.toList.drop (i + ((s.data.toList.drop i).takeWhile (fun b => !isSt b)).length) := by
              have h1 : (s.data.toList.drop i).dropWhile (fun b => !isSt b) = (s.data.toList.drop (i + 1)).dropWhile (fun b => !isSt b) := by
                rw [Hc.out, List.dropWhile_cons, if_pos (by simp [hst])]
              rw [← h1, ← List.drop_drop, drop_tw]
            rw [← htk, hdw] at hA
            have hsz : (s.extract i s.size).size = s.size - i := by rw [ByteArray.size_extract]; omega
            have hel := ext_list s i hi
            have hp1 : 1 ≤ ((s.data.toList.drop i).takeWhile (fun b => !isSt b)).length := by rw [htk]; simp
            have hstop := any_stop (s.data.toList.drop i)
            rw [← hel] at hstop
            have HT := Aside0.mk hstop
            have HA2 := Aside0.mk hA
            clear hA htk hdw hstop
            go_wp2_with fail
            refine (HAny.out i _ hlt).mono ?_
            rintro e w3 ⟨rfl, hb3⟩
            have HV3 := Aside0.mk (HV2.out.below hb3)
            clear HV2 hb3 hcl hfl hce hfe
            have hcl := HV3.out.cellv
            have hfl := blk_frozen HV3.out.var 0
            have hce := HV3.out.celle
            have hfe := blk_frozen HV3.out.err 0
            generalize hpp : s.extract i s.size = p at hsz hel HT ⊢
            clear hpp HAny
            rw [← hel] at hp1
            have hA3 := HA2.out
            rw [← hel] at hA3
            have HA := Aside0.mk hA3
            clear hA3 HA2
            obtain ⟨tw, htw⟩ : ∃ tw, tw = p.data.toList.takeWhile (fun b => !isSt b) := ⟨_, rfl⟩
            have hT := HT.out
            rw [← htw] at hT hp1 HA
            have hel2 : p.data.toList.length = s.size - i := by rw [data_length]; exact hsz
            clear HT hel
            have hgoal : ∃ q : ByteArray, q.data.toList = tw ∧ q.size = tw.length ∧ ((Lib.indexAny p.data.toList [32, 9, 13, 35] = -1 ∧ q = p) ∨ (Lib.indexAny p.data.toList [32, 9, 13, 35] = (tw.length : Int) ∧ q = p.extract 0 tw.length ∧ tw.length < p.size)) := by
              rcases hT with ⟨h1, h2⟩ | ⟨h1, h2⟩
              · exact ⟨p, h2.symm, by rw [h2, data_length], .inl ⟨h1, rfl⟩⟩
              · have hq : (p.extract 0 tw.length).data.toList = tw := by
                  rw [ByteArray.data_extract, Array.toList_extract, List.extract_eq_take_drop, List.drop_zero, Nat.sub_zero]
                  conv => lhs; rw [← List.takeWhile_append_dropWhile (p := fun b => !isSt b) (l := p.data.toList), ← htw]
                  exact List.take_left
                exact ⟨_, hq, by rw [← data_length, hq], .inr ⟨h1, rfl, by rw [← data_length]; exact h2⟩⟩
            obtain ⟨q, hq1, hq2, hq3⟩ := hgoal
            have HQ := Aside0.mk hq1
            have htl : tw.length ≤ s.size - i := by
              rcases hq3 with ⟨_, h⟩ | ⟨_, _, h⟩
              · rw [← hq2, h]; omega
              · omega
            clear hT htw hq1 hel2
            generalize hix2 : Lib.indexAny p.data.toList [32, 9, 13, 35] = ix at hq3 ⊢
            clear hix2
            have hqm : mkB tw = q := by rw [← HQ.out]; rfl
            rw [hqm] at HA
            have hwr : wrap64 ((i : Int) + (q.size : Int)) = (i : Int) + (q.size : Int) := by unfold wrap64; omega
            rcases hq3 with ⟨rfl, h2⟩ | ⟨rfl, h2, h3⟩
            · go_wp2_with fail
              rw [← h2]
              clear h2
              refine (Tryd.strings_Contains_one q 34 _).mono ?_
              rintro e w4 ⟨rfl, rfl⟩
              rw [HQ.out, ← Lib.contains_iff_indexByte]
              by_cases hm : (34 : UInt8) ∈ tw
              · have hA := HA.out
                rw [if_pos hm] at hA
                subst hA
                rw [show tw.contains 34 = true from by simpa using hm]
                obtain ⟨g, hgl⟩ := HGW.out.err
                have hge := (hgl.below HV3.out.low).1
                have hgw := hgl.1
                have hge2 : (w4.setCell ⟨w.heap.size, 0, none⟩ (.slice A xs.length cp)).cell? ⟨0, 0, none⟩ = some (.iface 144 (.pointer (some g))) := by
                  rw [World.cell?_setCell_other _ _ _ _ (by intro e; have e := congrArg Addr.block e; have := World.block_lt_of_cell? w _ hgw; dsimp at e this; omega)]
                  exact hge
                clear hm
                go_wp2
                go_region
                go_wp2
                have HVD := HV3.out.bad A cp (.iface 144 (.pointer (some g)))
                have HVD := HVD.drew
                generalize (((w4.setCell ⟨w.heap.size, 0, none⟩ (Value.slice A xs.length cp)).setCell ⟨w.heap.size + 1, 0, none⟩ (.iface 144 (.pointer (some g)))).drew) = W2 at HVD ⊢
                refine leaves_cons (f := 33) (args := #[.pointer (some ⟨w.heap.size + 1, 0, none⟩), .pointer (some ⟨w.heap.size, 0, none⟩)]) (by simp) (by simp [go_sem]) ?_
                refine (words1_err _ _ .returning _ _ _ _ HVD.celle HVD.cellv (blk_frozen HVD.var 0)).mono ?_
                rintro e u' w'' ⟨rfl, rfl, rfl⟩
                have HVE := HVD.clear
                have hcv := HVE.cellv
                have hcn := HVE.celle
                simp [Leaves, settle, results, Tryd.results26, go_sem, hcv, hcn]
                exact ⟨_, _, ⟨rfl, rfl⟩, HVE.low, _, _, rfl⟩
              · have hA := HA.out
                rw [if_neg hm] at hA
                rw [show tw.contains 34 = false from by simpa using hm]
                have HA := Aside0.mk hA
                clear hA hm
                go_wp2_with (first | ((with_reducible refine gate_builtin (b := .append) (xs := #[.tmp 33, .tmp 35]) rfl ?_); at_builtin; refine Kd.R_append Kd.string (w0 := w4) (w.heap.size + 2) rfl (.tmp 33) (.tmp 35) 36 9 (.string ⟨#[]⟩) 16 rfl Tryd.underlying36 info9 rfl (by decide) (by omega) (.slice A xs.length cp) xs q [.string q] (fun _ => True) (fun _ => False) rfl rfl ?aP (fun _ hk => hk.elim) ?aF ?aO ?aB ?aS ?aL ?_))
                case aP => exact rfl
                case aF => exact fun _ _ => trivial
                case aO => exact HV3.out.row
                case aB => exact Below.refl _ _
                case aS => have := HV3.out.err; have := blk_lt this; omega
                case aL => omega
                intro v1 w5 ho hb4 hg hat
                have hn : ∀ (j : Nat) (cs : Array Value) (t : TypeId), 9 ≠ t → w4.heap[j]? = some (.cells cs t (0, 0)) → w5.heap[j]? = some (.cells cs t (0, 0)) := fun j cs t ht hj => blk_grown hj hg (Kd.R_ne HV3.out.row hj ht)
                have HV4 := Aside0.mk (show WB w w5 (.slice A xs.length cp) .nilIface from ⟨hn _ _ _ (by decide) HV3.out.var, hn _ _ _ (by decide) HV3.out.err, HV3.out.low.trans (hb4.mono (by omega))⟩)
                obtain ⟨A4, cp4, rfl⟩ := Kd.R_slice ho
                rw [List.length_append, List.length_singleton] at ho
                have HO := Aside0.mk ho
                clear ho hb4 hg hat hn hcl hfl hce hfe
                have hcl := HV4.out.cellv
                have hfl := blk_frozen HV4.out.var 0
                go_wp2
                go_roundw
                case rel =>
                  refine ⟨k, i + tw.length, _, xs ++ [q], by go_num, by omega, by omega, by simp; omega, HA, ⟨⟨blk_put HV4.out.var 0 _ rfl, blk_far HV4.out.err (by show w.heap.size + 1 ≠ w.heap.size; omega) _, Kd.R_set HO.out HV4.out.var (by decide) 0 _, below_set HV4.out.low (Nat.le_refl _)⟩⟩⟩
                case measure => simp [intOf]; omega
            · go_wp2_with fail
              rw [← h2]
              clear h2
              refine (Tryd.strings_Contains_one q 34 _).mono ?_
              rintro e w4 ⟨rfl, rfl⟩
              rw [HQ.out, ← Lib.contains_iff_indexByte]
              by_cases hm : (34 : UInt8) ∈ tw
              · have hA := HA.out
                rw [if_pos hm] at hA
                subst hA
                rw [show tw.contains 34 = true from by simpa using hm]
                obtain ⟨g, hgl⟩ := HGW.out.err
                have hge := (hgl.below HV3.out.low).1
                have hgw := hgl.1
                have hge2 : (w4.setCell ⟨w.heap.size, 0, none⟩ (.slice A xs.length cp)).cell? ⟨0, 0, none⟩ = some (.iface 144 (.pointer (some g))) := by
                  rw [World.cell?_setCell_other _ _ _ _ (by intro e; have e := congrArg Addr.block e; have := World.block_lt_of_cell? w _ hgw; dsimp at e this; omega)]
                  exact hge
                clear hm
                go_wp2
                go_region
                go_wp2
                have HVD := HV3.out.bad A cp (.iface 144 (.pointer (some g)))
                have HVD := HVD.drew
                generalize (((w4.setCell ⟨w.heap.size, 0, none⟩ (Value.slice A xs.length cp)).setCell ⟨w.heap.size + 1, 0, none⟩ (.iface 144 (.pointer (some g)))).drew) = W2 at HVD ⊢
                refine leaves_cons (f := 33) (args := #[.pointer (some ⟨w.heap.size + 1, 0, none⟩), .pointer (some ⟨w.heap.size, 0, none⟩)]) (by simp) (by simp [go_sem]) ?_
                refine (words1_err _ _ .returning _ _ _ _ HVD.celle HVD.cellv (blk_frozen HVD.var 0)).mono ?_
                rintro e u' w'' ⟨rfl, rfl, rfl⟩
                have HVE := HVD.clear
                have hcv := HVE.cellv
                have hcn := HVE.celle
                simp [Leaves, settle, results, Tryd.results26, go_sem, hcv, hcn]
                exact ⟨_, _, ⟨rfl, rfl⟩, HVE.low, _, _, rfl⟩
              · have hA := HA.out
                rw [if_neg hm] at hA
                rw [show tw.contains 34 = false from by simpa using hm]
                have HA := Aside0.mk hA
                clear hA hm
                go_wp2_with (first | ((with_reducible refine gate_builtin (b := .append) (xs := #[.tmp 33, .tmp 35]) rfl ?_); at_builtin; refine Kd.R_append Kd.string (w0 := w4) (w.heap.size + 2) rfl (.tmp 33) (.tmp 35) 36 9 (.string ⟨#[]⟩) 16 rfl Tryd.underlying36 info9 rfl (by decide) (by omega) (.slice A xs.length cp) xs q [.string q] (fun _ => True) (fun _ => False) rfl rfl ?aP (fun _ hk => hk.elim) ?aF ?aO ?aB ?aS ?aL ?_))
                case aP => exact rfl
                case aF => exact fun _ _ => trivial
                case aO => exact HV3.out.row
                case aB => exact Below.refl _ _
                case aS => have := HV3.out.err; have := blk_lt this; omega
                case aL => omega
                intro v1 w5 ho hb4 hg hat
                have hn : ∀ (j : Nat) (cs : Array Value) (t : TypeId), 9 ≠ t → w4.heap[j]? = some (.cells cs t (0, 0)) → w5.heap[j]? = some (.cells cs t (0, 0)) := fun j cs t ht hj => blk_grown hj hg (Kd.R_ne HV3.out.row hj ht)
                have HV4 := Aside0.mk (show WB w w5 (.slice A xs.length cp) .nilIface from ⟨hn _ _ _ (by decide) HV3.out.var, hn _ _ _ (by decide) HV3.out.err, HV3.out.low.trans (hb4.mono (by omega))⟩)
                obtain ⟨A4, cp4, rfl⟩ := Kd.R_slice ho
                rw [List.length_append, List.length_singleton] at ho
                have HO := Aside0.mk ho
                clear ho hb4 hg hat hn hcl hfl hce hfe
                have hcl := HV4.out.cellv
                have hfl := blk_frozen HV4.out.var 0
                go_wp2
                go_roundw
                case rel =>
                  refine ⟨k, i + tw.length, _, xs ++ [q], by go_num, by omega, by omega, by simp; omega, HA, ⟨⟨blk_put HV4.out.var 0 _ rfl, blk_far HV4.out.err (by show w.heap.size + 1 ≠ w.heap.size; omega) _, Kd.R_set HO.out HV4.out.var (by decide) 0 _, below_set HV4.out.low (Nat.le_refl _)⟩⟩⟩
                case measure => simp [intOf]; omega
    · obtain rfl : i = s.size := by omega
      have hA := HA.out
      rw [List.drop_of_length_le (by rw [data_length]; exact Nat.le_refl _)] at hA
      unfold wordsF at hA
      subst hA
      clear HA
      go_wp2
      have HVD := (HV.out.put HV.out.row).nil
      generalize ((wr.setCell ⟨w.heap.size, 0, none⟩ (Value.slice A xs.length cp)).setCell ⟨w.heap.size + 1, 0, none⟩ .nilIface) = W2 at HVD ⊢
      refine leaves_cons (f := 33) (args := #[.pointer (some ⟨w.heap.size + 1, 0, none⟩), .pointer (some ⟨w.heap.size, 0, none⟩)]) (by simp) (by simp [go_sem]) ?_
      refine (words1_ok _ _ .returning _ HVD.celle).mono ?_
      rintro e u' w'' ⟨rfl, rfl, rfl⟩
      have hcv := HVD.cellv
      have hcn := HVD.celle
      simp [Leaves, settle, results, Tryd.results26, go_sem, hcv, hcn]
      exact ⟨_, _, ⟨rfl, rfl⟩, HVD.low, rfl, Kd.R_lower HVD.row (by omega)⟩

def badW : List ByteArray → Int
  | [] => 0
  | w :: r => if (addrE w).2 = 0 then badW r else (addrE w).2
def addrsW (l : List ByteArray) : List Int := l.map fun w => (addrE w).1
abbrev Sec := ByteArray × ByteArray × ByteArray × List Int
def whyW (c s p : ByteArray) (l : List ByteArray) : Int :=
  if badW l ≠ 0 ∧ rightE c s p (addrsW l) ≠ 60 ∧ rightE c s p (addrsW l) ≠ 52 then badW l else rightE c s p (addrsW l)
def lineW : List ByteArray → Int × Option Sec
  | [] => (0, none)
  | [_] => (50, none)
  | [_, _] => (50, none)
  | c :: s :: p :: l => if whyW c s p l = 0 then (0, some (c, s, p, addrsW l)) else (whyW c s p l, none)
def lineE (s : ByteArray) : Int × Option Sec :=
  if s.size > 1024 then (4, none) else match wordsE s.data.toList with
    | none => (50, none)
    | some l => lineW l
theorem qS_size : ∀ (b : Bool) (acc l : List UInt8) (wd : List UInt8) (m : Nat), qS b acc l = some (wd, m) → wd.length ≤ acc.length + l.length
  | _, _, [], _, _, h => by unfold qS at h; cases h
  | true, acc, d :: r, wd, m, h => by
    unfold qS at h
    split at h
    · cases hq : qS false (acc ++ [d]) r with
      | none => rw [hq] at h; cases h
      | some p => rw [hq] at h; cases h; have := qS_size _ _ _ p.1 p.2 hq; simp at this ⊢; omega
    · cases h
  | false, acc, c :: r, wd, m, h => by
    unfold qS at h
    split at h
    · split at h
      · cases h; simp
      · cases h
    · split at h
      · cases hq : qS true acc r with
        | none => rw [hq] at h; cases h
        | some p => rw [hq] at h; cases h; have := qS_size _ _ _ p.1 p.2 hq; simp at this ⊢; omega
      · cases hq : qS false (acc ++ [c]) r with
        | none => rw [hq] at h; cases h
        | some p => rw [hq] at h; cases h; have := qS_size _ _ _ p.1 p.2 hq; simp at this ⊢; omega
theorem mkB_size (l : List UInt8) : (mkB l).size = l.length := by rw [← data_length]; rfl
theorem wordsF_size (N : Nat) : ∀ (k : Nat) (l : List UInt8) (acc r : List ByteArray), wordsF k l acc = some r → l.length ≤ N → (∀ x ∈ acc, x.size ≤ N) → ∀ x ∈ r, x.size ≤ N := by
  intro k
  induction k with
  | zero => intro l acc r h; unfold wordsF at h; cases h
  | succ k ih =>
    intro l acc r h hl ha
    cases l with
    | nil => unfold wordsF at h; cases h; exact ha
    | cons c t =>
      unfold wordsF at h
      rw [List.length_cons] at hl
      split at h
      · exact ih _ _ _ h (by omega) ha
      · split at h
        · cases h; exact ha
        · split at h
          · split at h
            · rename_i wd m hq
              refine ih _ _ _ h (by rw [List.length_drop]; omega) ?_
              intro x hx
              rcases List.mem_append.1 hx with hx | hx
              · exact ha x hx
              · rw [List.mem_singleton.1 hx, mkB_size]
                have := qS_size _ _ _ _ _ hq
                simp at this; omega
            · cases h
          · split at h
            · cases h
            · have h1 : (t.dropWhile (fun b => !isSt b)).length ≤ t.length := (List.dropWhile_sublist _).length_le
              have h2 : (t.takeWhile (fun b => !isSt b)).length ≤ t.length := (List.takeWhile_sublist _).length_le
              refine ih _ _ _ h (by omega) ?_
              intro x hx
              rcases List.mem_append.1 hx with hx | hx
              · exact ha x hx
              · rw [List.mem_singleton.1 hx, mkB_size, List.length_cons]; omega
theorem words_size {s : ByteArray} {l : List ByteArray} (h : wordsE s.data.toList = some l) : ∀ x ∈ l, x.size ≤ s.size :=
  wordsF_size s.size _ _ _ _ h (by rw [data_length]; exact Nat.le_refl _) (fun _ h => by cases h)
theorem wordsF_len : ∀ (k : Nat) (l : List UInt8) (acc r : List ByteArray), wordsF k l acc = some r → r.length ≤ acc.length + l.length := by
  intro k
  induction k with
  | zero => intro l acc r h; unfold wordsF at h; cases h
  | succ k ih =>
    intro l acc r h
    cases l with
    | nil => unfold wordsF at h; cases h; simp
    | cons c t =>
      unfold wordsF at h
      rw [List.length_cons]
      split at h
      · have := ih _ _ _ h; omega
      · split at h
        · cases h; omega
        · split at h
          · split at h
            · have := ih _ _ _ h
              rw [List.length_append, List.length_singleton, List.length_drop] at this; omega
            · cases h
          · split at h
            · cases h
            · have h1 : (t.dropWhile (fun b => !isSt b)).length ≤ t.length := (List.dropWhile_sublist _).length_le
              have := ih _ _ _ h
              rw [List.length_append, List.length_singleton] at this; omega
theorem words_len {s : ByteArray} {l : List ByteArray} (h : wordsE s.data.toList = some l) : l.length ≤ s.size := by
  have := wordsF_len _ _ _ _ h
  rw [data_length] at this
  simpa using this
theorem badW_snoc (l : List ByteArray) (x : ByteArray) : badW (l ++ [x]) = if badW l = 0 then (addrE x).2 else badW l := by
  induction l with
  | nil => show (if (addrE x).2 = 0 then 0 else (addrE x).2) = _; unfold badW; split <;> simp_all
  | cons a t ih =>
    rw [List.cons_append]
    unfold badW
    split
    · exact ih
    · rename_i h; first | rfl | rw [if_neg h]
theorem addrsW_snoc (l : List ByteArray) (x : ByteArray) : addrsW (l ++ [x]) = addrsW l ++ [(addrE x).1] := by simp [addrsW]
theorem take_snoc_b (l : List ByteArray) (k : Nat) (h : k < l.length) : l.take (k + 1) = l.take k ++ [l.getD k ByteArray.empty] := by
  rw [List.take_succ_eq_append_getElem h]; congr 2; simp [List.getD_eq_getElem?_getD, List.getElem?_eq_getElem h]
def LEnd (r : Int × Option Sec) (g : Addr) (w w' : World) (x : Value) (some_ : Bool) (why : Int) (ev : Value) : Prop :=
  why = r.1 ∧ match r.2 with
    | some (c, s, p, l) => some_ = true ∧ ev = .nilIface ∧ ∃ v, x = .agg #[.string c, .string s, .string p, v] ∧ Kd.R (Kd.int .i64) 2 w' w.heap.size (fun _ => True) v l
    | none => some_ = false ∧ x = .agg #[.string ⟨#[]⟩, .string ⟨#[]⟩, .string ⟨#[]⟩, .slice none 0 0] ∧ ev = if r.1 = 0 then .nilIface else .iface 144 (.pointer (some g))
def LPost (r : Int × Option Sec) (g : Addr) (w : World) (e : Ending) (w' : World) : Prop :=
  ∃ x b why ev, e = .returned (.tuple #[x, .bool b, .int .i64 why, ev]) ∧ Below w.heap.size w w' ∧ LEnd r g w w' x b why ev
theorem LPost.mk {r : Int × Option Sec} {g : Addr} {w w' : World} {e : Ending} (x : Value) (b : Bool) (why : Int) (ev : Value) (h1 : e = .returned (.tuple #[x, .bool b, .int .i64 why, ev])) (h2 : Below w.heap.size w w') (h3 : LEnd r g w w' x b why ev) : LPost r g w e w' := ⟨x, b, why, ev, h1, h2, h3⟩
theorem right_call (c s p : ByteArray) (A : Option Addr) (cp : Nat) (l : List Int) (n : Nat) (hn : l.length = n) (w : World) (r : Int) (hr : ∃ A' c', Value.slice A n cp = .slice A' l.length c' ∧ l.length ≤ c' ∧ Kd.C (Kd.int .i64) w A' l.length l) (h : rightE c s p l = r) :
    Calls Tryd.prog 8 #[.agg #[.string c, .string s, .string p, .slice A n cp]] w fun e w' => e = .returned (.int .i64 r) ∧ Below w.heap.size w w' := by
  obtain ⟨A', c', h1, h2, h3⟩ := hr
  rw [h1]
  exact secret_Right.calls c s p A' c' l r w h3 h2 (by unfold secret_Right.f; rw [h])
set_option maxRecDepth 100000 in
theorem slice3 (gl k cp : Nat) (h : k + 3 ≤ cp) : ∃ o, (∀ W : World, (Instr.slice 36 (.slice (some ⟨gl, 0, none⟩) (k + 3) cp) (some (.int .i64 3)) none none).run Tryd.prog W = .ok (.slice (some ⟨gl, o, none⟩) k (cp - 3)) W) ∧ (k = 0 ∨ o = 3) := by
  have hi := info9
  have hu := Tryd.underlying36
  by_cases hc : cp = 3
  · subst hc
    obtain rfl : k = 0 := by omega
    exact ⟨0, fun W => by simp [Instr.slice, Instr.sliceBounds, go_sem, run_underlying hu, sliced], .inl rfl⟩
  · have h3 : (3 : Int) ≤ (k : Int) + 3 := by omega
    obtain ⟨i, hi1, hi2⟩ := Option.map_eq_some_iff.1 hi
    have hi3 : i.size = 1 := by injection hi2 with _ h; injection h
    exact ⟨3, fun W => by simp only [Instr.slice]; simp [go_sem, run_underlying hu, sliced, h3, sizeOf, typeInfo, hi1, hi3, hc], .inr rfl⟩
structure LX (w w' : World) (x1 x2 x3 : ByteArray) (v : Value) (l : List Int) : Prop where
  var : w'.heap[w.heap.size]? = some (.cells #[.string x1, .string x2, .string x3, v] 25 (0, 0))
  row : Kd.R (Kd.int .i64) 2 w' (w.heap.size + 1) (fun _ => True) v l
  low : Below w.heap.size w w'
theorem LX.below {w w' w1 : World} {x1 x2 x3 : ByteArray} {v : Value} {l : List Int} (h : LX w w' x1 x2 x3 v l) (hb : Below w'.heap.size w' w1) : LX w w1 x1 x2 x3 v l :=
  ⟨blk_below h.var hb, Kd.R_below h.row hb, below_then h.low h.low.size hb⟩
theorem LX.c0 {w w' : World} {x1 x2 x3 : ByteArray} {v : Value} {l : List Int} (h : LX w w' x1 x2 x3 v l) : w'.cell? ⟨w.heap.size, 0, none⟩ = some (.string x1) := (blk_cell h.var 0).trans rfl
theorem LX.c1 {w w' : World} {x1 x2 x3 : ByteArray} {v : Value} {l : List Int} (h : LX w w' x1 x2 x3 v l) : w'.cell? ⟨w.heap.size, 1, none⟩ = some (.string x2) := (blk_cell h.var 1).trans rfl
theorem LX.c2 {w w' : World} {x1 x2 x3 : ByteArray} {v : Value} {l : List Int} (h : LX w w' x1 x2 x3 v l) : w'.cell? ⟨w.heap.size, 2, none⟩ = some (.string x3) := (blk_cell h.var 2).trans rfl
theorem LX.c3 {w w' : World} {x1 x2 x3 : ByteArray} {v : Value} {l : List Int} (h : LX w w' x1 x2 x3 v l) : w'.cell? ⟨w.heap.size, 3, none⟩ = some v := (blk_cell h.var 3).trans rfl
theorem LX.new (w : World) : LX w (w.alloc (.cells #[.string ⟨#[]⟩, .string ⟨#[]⟩, .string ⟨#[]⟩, .slice none 0 0] 25)) ⟨#[]⟩ ⟨#[]⟩ ⟨#[]⟩ (.slice none 0 0) [] :=
  ⟨blk_new w _, Kd.R_nil _ _ _ _ _, below_alloc (Below.refl _ _) _⟩
theorem LX.drew {w w' : World} {x1 x2 x3 : ByteArray} {v : Value} {l : List Int} (h : LX w w' x1 x2 x3 v l) : LX w w'.drew x1 x2 x3 v l := ⟨h.var, Kd.R_below h.row (Below.refl _ _).drew, h.low.drew⟩
theorem line_results {w W : World} {x1 x2 x3 : ByteArray} {v : Value} {l : List Int} (h : LX w W x1 x2 x3 v l) (tmps : Array Value) (hp : tmps[2]?.getD undef = .pointer (some ⟨w.heap.size, 0, none⟩)) :
    (results Tryd.f18 tmps).run Tryd.prog W = .ok (.tuple #[.agg #[.string x1, .string x2, .string x3, v], tmps.getD 3 undef, tmps.getD 4 undef, tmps.getD 5 undef]) W := by
  have hc0 := h.c0
  have hc1 := h.c1
  have hc2 := h.c2
  have hc3 := h.c3
  simp [results, Tryd.results18, go_sem, hp, hc0, hc1, hc2, hc3]
theorem LX.p0 {w w' : World} {x1 x2 x3 : ByteArray} {v : Value} {l : List Int} (h : LX w w' x1 x2 x3 v l) (y : ByteArray) : LX w (w'.setCell ⟨w.heap.size, 0, none⟩ (.string y)) y x2 x3 v l :=
  ⟨blk_put h.var 0 _ rfl, Kd.R_set h.row h.var (by decide) 0 _, below_set h.low (Nat.le_refl _)⟩
theorem LX.p1 {w w' : World} {x1 x2 x3 : ByteArray} {v : Value} {l : List Int} (h : LX w w' x1 x2 x3 v l) (y : ByteArray) : LX w (w'.setCell ⟨w.heap.size, 1, none⟩ (.string y)) x1 y x3 v l :=
  ⟨blk_put h.var 1 _ rfl, Kd.R_set h.row h.var (by decide) 1 _, below_set h.low (Nat.le_refl _)⟩
theorem LX.p2 {w w' : World} {x1 x2 x3 : ByteArray} {v : Value} {l : List Int} (h : LX w w' x1 x2 x3 v l) (y : ByteArray) : LX w (w'.setCell ⟨w.heap.size, 2, none⟩ (.string y)) x1 x2 y v l :=
  ⟨blk_put h.var 2 _ rfl, Kd.R_set h.row h.var (by decide) 2 _, below_set h.low (Nat.le_refl _)⟩
theorem LX.p3 {w w' : World} {x1 x2 x3 : ByteArray} {v u : Value} {l m : List Int} (h : LX w w' x1 x2 x3 v l) (hr : Kd.R (Kd.int .i64) 2 w' (w.heap.size + 1) (fun _ => True) u m) : LX w (w'.setCell ⟨w.heap.size, 3, none⟩ u) x1 x2 x3 u m :=
  ⟨blk_put h.var 3 _ rfl, Kd.R_set hr h.var (by decide) 3 _, below_set h.low (Nat.le_refl _)⟩
set_option maxHeartbeats 4000000 in
set_option maxRecDepth 100000 in
theorem line_walk (s : ByteArray) (w : World) (hs : s.size < 4294967281) (hG : GW w) (g : Addr) (hg : ErrLine w g) (R0 : Int × Option Sec) (hR0 : lineE s = R0)
    (hany : s.size ≤ 1024 → ∀ (i : Nat) (W : World), i < s.size → Calls Tryd.prog 36 #[.string (s.extract i s.size), .string ⟨#[32, 9, 13, 35]⟩] W fun e w' => e = .returned (.int .i64 (Lib.indexAny (s.extract i s.size).data.toList [32, 9, 13, 35])) ∧ Below W.heap.size W w') :
    Calls Tryd.prog 18 #[.string s] w fun e w' => LPost R0 g w e w' := by
  have HGW := Aside0.mk hG
  have HR0 := Aside0.mk hR0
  have HAny := Aside0.mk hany
  have HE := Aside0.mk hg
  have hge := hg.1
  clear hG hR0 hany hg
  go_enter Tryd.func18, Tryd.ntmps18
  by_cases h1 : s.size > 1024
  · have h1i : decide ((1024 : Int) < (s.size : Int)) = true := decide_eq_true (by omega)
    have hr := HR0.out
    unfold lineE at hr
    rw [if_pos h1] at hr
    subst hr
    clear HR0
    have HX := LX.new w
    have hge := cell_low hge HX.low
    have hc0 := HX.c0
    have hc1 := HX.c1
    have hc2 := HX.c2
    have hc3 := HX.c3
    go_wp2
    go_region
    go_wp2
    refine bodyPost_ret (line_results HX.drew _ rfl) rfl ?_
    exact LPost.mk _ _ _ _ rfl HX.drew.low ⟨rfl, rfl, rfl, rfl⟩
  · have h1i : decide ((1024 : Int) < (s.size : Int)) = false := decide_eq_false (by omega)
    have hr := HR0.out
    unfold lineE at hr
    rw [if_neg h1] at hr
    have HR := Aside0.mk hr
    clear hr HR0
    go_wp2_with fail
    refine (words_walk s _ hs (HGW.out.below (LX.new w).low) _ rfl (HAny.out (by omega))).mono ?_
    rintro e w2 ⟨v, ev, rfl, hb, hE⟩
    have hX := (LX.new w).below hb
    have hge := cell_low hge hX.low
    have HX := Aside0.mk hX
    clear hb HAny hX
    have hc0 := HX.out.c0
    have hc1 := HX.out.c1
    have hc2 := HX.out.c2
    have hc3 := HX.out.c3
    have hf0 := blk_frozen HX.out.var 0
    have hf1 := blk_frozen HX.out.var 1
    have hf2 := blk_frozen HX.out.var 2
    have hf3 := blk_frozen HX.out.var 3
    have hge2 : ∀ v : Value, (w2.setCell ⟨w.heap.size, 0, none⟩ v).cell? ⟨0, 0, none⟩ = some (.iface 144 (.pointer (some g))) := by
      intro v
      rw [World.cell?_setCell_other _ _ _ _ (by intro e; have e := congrArg Addr.block e; have := World.block_lt_of_cell? w _ HE.out.1; dsimp at e this; omega)]
      exact hge
    cases hw : wordsE s.data.toList with
    | none =>
      rw [hw] at hE
      have hr := HR.out
      rw [hw] at hr
      dsimp only at hr
      subst hr
      obtain ⟨tp, pv, rfl⟩ := hE
      clear HR hw
      go_wp2
      go_region
      go_wp2
      have HX4 := ((((HX.out.p0 ⟨#[]⟩).p1 ⟨#[]⟩).p2 ⟨#[]⟩).p3 (Kd.R_nil (Kd.int .i64) _ _ _ _)).drew
      refine bodyPost_ret (line_results HX4 _ rfl) rfl ?_
      exact LPost.mk _ _ _ _ rfl HX4.low ⟨rfl, rfl, rfl, rfl⟩
    | some l =>
      rw [hw] at hE
      have hr := HR.out
      rw [hw] at hr
      dsimp only at hr
      obtain ⟨rfl, hrow⟩ := hE
      have hsz := words_size hw
      have hwl := words_len hw
      clear HR hw
      have hrw := Aside0.mk hrow
      obtain ⟨A, cp, rfl⟩ := Kd.R_slice hrow
      match l, hr, hrow, hrw with
      | [], hr, hrow, hrw =>
        unfold lineW at hr
        subst hr
        clear hrow hrw
        go_wp2
        have HX4 := ((((HX.out.p0 ⟨#[]⟩).p1 ⟨#[]⟩).p2 ⟨#[]⟩).p3 (Kd.R_nil (Kd.int .i64) _ _ _ _))
        refine bodyPost_ret (line_results HX4 _ rfl) rfl ?_
        exact LPost.mk _ _ _ _ rfl HX4.low ⟨rfl, rfl, rfl, rfl⟩
      | [a], hr, hrow, hrw =>
        unfold lineW at hr
        subst hr
        clear hrow hrw
        go_wp2
        go_region
        go_wp2
        have HX4 := ((((HX.out.p0 ⟨#[]⟩).p1 ⟨#[]⟩).p2 ⟨#[]⟩).p3 (Kd.R_nil (Kd.int .i64) _ _ _ _)).drew
        refine bodyPost_ret (line_results HX4 _ rfl) rfl ?_
        exact LPost.mk _ _ _ _ rfl HX4.low ⟨rfl, rfl, rfl, rfl⟩
      | [a, b], hr, hrow, hrw =>
        unfold lineW at hr
        subst hr
        clear hrow hrw
        go_wp2
        go_region
        go_wp2
        have HX4 := ((((HX.out.p0 ⟨#[]⟩).p1 ⟨#[]⟩).p2 ⟨#[]⟩).p3 (Kd.R_nil (Kd.int .i64) _ _ _ _)).drew
        refine bodyPost_ret (line_results HX4 _ rfl) rfl ?_
        exact LPost.mk _ _ _ _ rfl HX4.low ⟨rfl, rfl, rfl, rfl⟩
      | a :: b :: d :: m, hr, hrow, hrw =>
        unfold lineW at hr
        have HR := Aside0.mk hr
        clear hr
        have hl4 : (a :: b :: d :: m).length = m.length + 3 := rfl
        obtain ⟨gl, rfl⟩ : ∃ gl, A = some ⟨gl, 0, none⟩ := by
          obtain ⟨inner, ho⟩ := Kd.R_own hrow
          rcases ho.2 with ⟨h, _⟩ | ⟨gl, cap, cur, h, _⟩
          · injection h with h1 h2; rw [hl4] at h2; omega
          · injection h with h1; exact ⟨gl, h1⟩
        obtain ⟨A', c', hAe, hle, hC⟩ := Kd.R_reads hrow
        cases hAe
        have hk : ∀ j : Nat, j < m.length → w2.cell? ⟨gl, j + 3, none⟩ = some (.string (m.getD j ByteArray.empty)) := by
          intro j hj
          have h := (Kd.R_cell (h1 := fun _ => rfl) ByteArray.empty hrow ((j + 3 : Nat) : Int) (by omega) (by rw [hl4]; omega)).1
          rw [Int.toNat_natCast] at h
          rw [h]
          unfold rdOf
          rw [Int.toNat_natCast]
          rfl
        have k0 : w2.cell? ⟨gl, 0, none⟩ = some (.string a) := (Kd.R_cell (h1 := fun _ => rfl) ByteArray.empty hrow 0 (by omega) (by rw [hl4]; omega)).1
        have k1 : w2.cell? ⟨gl, 1, none⟩ = some (.string b) := (Kd.R_cell (h1 := fun _ => rfl) ByteArray.empty hrow 1 (by omega) (by rw [hl4]; omega)).1
        have k2 : w2.cell? ⟨gl, 2, none⟩ = some (.string d) := (Kd.R_cell (h1 := fun _ => rfl) ByteArray.empty hrow 2 (by omega) (by rw [hl4]; omega)).1
        have hgl : w.heap.size + 1 ≤ gl ∧ gl < w2.heap.size := by
          obtain ⟨inner, ho⟩ := Kd.R_own hrow
          have h1 := own_base ho gl rfl
          have h2 := own_lt ho gl rfl
          have h3 : (w.alloc (.cells #[.string ⟨#[]⟩, .string ⟨#[]⟩, .string ⟨#[]⟩, .slice none 0 0] 25)).heap.size = w.heap.size + 1 := Array.size_push ..
          omega
        have HK := Aside0.mk hk
        have HC := Aside0.mk hC
        rw [hl4] at hle ⊢
        clear hrow hrw hk hC hl4
        have n0 : decide ((0 : Int) < (m.length : Int) + 3) = true := decide_eq_true (by omega)
        have n1 : ((m.length : Int) + 3 == 1) = false := beq_eq_false_iff_ne.2 (by omega)
        have n2 : ((m.length : Int) + 3 == 2) = false := beq_eq_false_iff_ne.2 (by omega)
        have n3 : ((m.length : Int) + 3 == 0) = false := beq_eq_false_iff_ne.2 (by omega)
        have n4 : decide ((1 : Int) < (m.length : Int) + 3) = true := decide_eq_true (by omega)
        have n5 : decide ((2 : Int) < (m.length : Int) + 3) = true := decide_eq_true (by omega)
        have m0 : ((0 : Int) < (m.length : Int) + 3) = True := eq_true (by omega)
        have m1 : ((1 : Int) < (m.length : Int) + 3) = True := eq_true (by omega)
        have m2 : ((2 : Int) < (m.length : Int) + 3) = True := eq_true (by omega)
        have HRW := Aside0.mk (show ∀ x ∈ m, x.size < 4294967281 from fun x hx => Nat.lt_of_le_of_lt (hsz x (by simp [hx])) hs)
        clear hsz
        have hml : m.length ≤ 1024 := by rw [show (a :: b :: d :: m).length = m.length + 3 from rfl] at hwl; omega
        clear hwl
        obtain ⟨o, hsl, ho3⟩ := slice3 gl m.length cp hle
        have hk : ∀ j : Nat, j < m.length → w2.cell? ⟨gl, o + j, none⟩ = some (.string (m.getD j ByteArray.empty)) := fun j hj => by
          rcases ho3 with h | h
          · omega
          · rw [h, Nat.add_comm]; exact HK.out j hj
        clear ho3
        go_wp2
        go_region
        go_wp2
        clear hsl
        have hX8 := ((((HX.out.p0 a).p1 b).p2 d).p3 (Kd.R_nil (Kd.int .i64) _ _ _ _)).drew
        have hfr : ∀ k, k < w2.heap.size → k ≠ w.heap.size → (((((w2.setCell ⟨w.heap.size, 0, none⟩ (.string a)).setCell ⟨w.heap.size, 1, none⟩ (.string b)).setCell ⟨w.heap.size, 2, none⟩ (.string d)).setCell ⟨w.heap.size, 3, none⟩ (.slice none 0 0)).drew).heap[k]? = w2.heap[k]? := by
          intro k _ hk
          show ((((w2.setCell ⟨w.heap.size, 0, none⟩ (.string a)).setCell ⟨w.heap.size, 1, none⟩ (.string b)).setCell ⟨w.heap.size, 2, none⟩ (.string d)).setCell ⟨w.heap.size, 3, none⟩ (.slice none 0 0)).heap[k]? = _
          rw [Below.heap_setCell _ _ _ _ hk, Below.heap_setCell _ _ _ _ hk, Below.heap_setCell _ _ _ _ hk, Below.heap_setCell _ _ _ _ hk]
        have hsz8 : (((((w2.setCell ⟨w.heap.size, 0, none⟩ (.string a)).setCell ⟨w.heap.size, 1, none⟩ (.string b)).setCell ⟨w.heap.size, 2, none⟩ (.string d)).setCell ⟨w.heap.size, 3, none⟩ (.slice none 0 0)).drew).heap.size = w2.heap.size := by
          show (((((w2.setCell _ _).setCell _ _).setCell _ _).setCell _ _)).heap.size = _
          simp [World.setCell]
        generalize ((((w2.setCell ⟨w.heap.size, 0, none⟩ (.string a)).setCell ⟨w.heap.size, 1, none⟩ (.string b)).setCell ⟨w.heap.size, 2, none⟩ (.string d)).setCell ⟨w.heap.size, 3, none⟩ (.slice none 0 0)).drew = w8 at hX8 hfr hsz8 ⊢
        have HX8 := Aside0.mk hX8
        have HF8 := Aside0.mk hfr
        have HK2 := Aside0.mk hk
        have HW2 := Aside0.mk HX.out.low.size
        clear hX8 hfr hk HK HX hc0 hc1 hc2 hc3 hf0 hf1 hf2 hf3 hge2 hge k0 k1 k2 n0 n1 n2 n3 n4 n5 m0 m1 m2
        go_loopw [7, 55] (fun bv iv wr => ∃ (i : Nat) (bad : Int) (v : Value), i ≤ m.length ∧ bv = .int .i64 bad ∧ iv = .int .i64 i ∧ bad = badW (m.take i) ∧ Aside0 (w2.heap.size ≤ wr.heap.size ∧ (∀ k, k < w2.heap.size → k ≠ w.heap.size → wr.heap[k]? = w2.heap[k]?)) ∧ Aside0 (Kd.R (Kd.int .i64) 2 wr w2.heap.size (fun _ => True) v (addrsW (m.take i))) ∧ Aside0 (LX w wr a b d v (addrsW (m.take i))))
            (fun _ iv _ => m.length - (intOf iv).toNat)
        case atStart => exact ⟨0, 0, .slice none 0 0, by omega, rfl, rfl, rfl, ⟨by omega, HF8.out⟩, ⟨Kd.R_nil _ _ _ _ _⟩, HX8⟩
        case round =>
          obtain ⟨i, bad, v, hi, rfl, rfl, hbad, HF, HO, HX⟩ := hrel
          have hal : (addrsW (m.take i)).length = i := by simp [addrsW, List.length_take]; omega
          obtain ⟨Av, cv, rfl⟩ : ∃ Av cv, v = .slice Av i cv := by
            obtain ⟨Av, cv, h⟩ := Kd.R_slice HO.out
            exact ⟨Av, cv, by rw [h, hal]⟩
          have hc3 := HX.out.c3
          have hf3 := blk_frozen HX.out.var 3
          by_cases hlt : i < m.length
          · have hlti : decide ((i : Int) < (m.length : Int)) = true := decide_eq_true (by omega)
            have hcell : wr.cell? ⟨gl, o + i, none⟩ = some (.string (m.getD i ByteArray.empty)) :=
              (World.cell?_of_block (w := w2) (HF.out.2 gl hgl.2 (by omega))).trans (HK2.out i hlt)
            have hp : (m.getD i ByteArray.empty).size < 4294967281 := HRW.out _ (by simp [List.getD_eq_getElem?_getD, List.getElem?_eq_getElem hlt])
            have htk := take_snoc_b m i hlt
            generalize m.getD i ByteArray.empty = p at hcell hp htk
            have HT := Aside0.mk htk
            have hbs := badW_snoc (m.take i) p
            have has := addrsW_snoc (m.take i) p
            rw [← htk, ← hbad] at hbs
            rw [← htk] at has
            have HA := Aside0.mk has
            clear htk has
            by_cases hb0 : bad = 0
            · have hbb : (bad == 0) = true := beq_iff_eq.2 hb0
              rw [if_pos hb0] at hbs
              clear hb0
              have HBs := Aside0.mk hbs
              clear hbs hbad
              go_wp2_with fail
              refine (secret_Addr.calls p (addrE p).1 (addrE p).2 _ (HGW.out.below HX.out.low) (by unfold secret_Addr.f; rw [if_pos hp])).mono ?_
              rintro e w3 ⟨rfl, hb3⟩
              have HX3 := Aside0.mk (HX.out.below hb3)
              have HO3 := Aside0.mk (Kd.R_below HO.out hb3)
              have HF3 := Aside0.mk (show w2.heap.size ≤ w3.heap.size ∧ ∀ k, k < w2.heap.size → k ≠ w.heap.size → w3.heap[k]? = w2.heap[k]? from ⟨Nat.le_trans HF.out.1 hb3.size, fun k h1 h2 => (hb3.block k (Nat.lt_of_lt_of_le h1 HF.out.1)).trans (HF.out.2 k h1 h2)⟩)
              clear HX HO HF hb3 hc3 hf3 hcell
              have hc3 := HX3.out.c3
              have hf3 := blk_frozen HX3.out.var 3
              have HL := Aside0.mk hal
              clear hal
              go_wp2_with (first | ((with_reducible refine gate_builtin (b := .append) (xs := #[.tmp 68, .tmp 70]) rfl ?_); at_builtin; refine Kd.R_append (Kd.int .i64) (w0 := w3) w2.heap.size rfl (.tmp 68) (.tmp 70) 23 2 (.int .i64 0) 8 rfl Tryd.underlying23 info2 rfl (by decide) (by omega) (.slice Av i cv) (addrsW (m.take i)) (addrE p).1 [.int .i64 (addrE p).1] (fun _ => True) (fun _ => False) rfl rfl ?aP (fun _ hk => hk.elim) ?aF ?aO ?aB ?aS ?aL ?_))
              case aP => exact rfl
              case aF => exact fun _ _ => trivial
              case aO => exact HO3.out
              case aB => exact Below.refl _ _
              case aS => exact HF3.out.1
              case aL => rw [HL.out]; omega
              intro v1 w4 ho hb4 hg hat
              obtain ⟨A4, cp4, rfl⟩ : ∃ Av cv, v1 = .slice Av (i + 1) cv := by
                obtain ⟨Av, cv, h⟩ := Kd.R_slice ho
                exact ⟨Av, cv, by rw [h, List.length_append, HL.out]; rfl⟩
              have hvar := blk_grown HX3.out.var hg (Kd.R_ne HX3.out.row HX3.out.var (by decide))
              have hx4 : LX w w4 a b d (.slice A4 (i + 1) cp4) (addrsW (m.take (i + 1))) → True := fun _ => trivial
              have HO4 := Aside0.mk ho
              have HV4 := Aside0.mk hvar
              have HF4 := Aside0.mk (show w2.heap.size ≤ w4.heap.size ∧ (∀ k, k < w2.heap.size → k ≠ w.heap.size → w4.heap[k]? = w2.heap[k]?) ∧ Below w.heap.size w w4 from ⟨Nat.le_trans HF3.out.1 hb4.size, fun k h1 h2 => (hb4.block k h1).trans (HF3.out.2 k h1 h2), HX3.out.low.trans (hb4.mono (by omega))⟩)
              have hc3 := (blk_cell hvar 3).trans rfl
              have hf3 := blk_frozen hvar 3
              clear ho hvar hb4 hg hat hx4 HX3 HO3 HF3
              go_wp2
              refine ⟨⟨i + 1, _, .slice A4 (i + 1) cp4, by omega, rfl, by go_num, HBs.out.symm, ⟨?_, ?_⟩, ⟨?_⟩, ⟨?_⟩⟩, by simp [intOf]; omega⟩
              · have h := HF4.out.1; simpa [World.setCell] using h
              · intro k h1 h2
                rw [Below.heap_setCell _ _ _ _ h2]
                exact HF4.out.2.1 k h1 h2
              · rw [HA.out]
                exact Kd.R_set HO4.out HV4.out (by decide) 3 _
              · rw [HA.out]
                exact ⟨blk_put HV4.out 3 _ rfl, Kd.R_lower (Kd.R_set HO4.out HV4.out (by decide) 3 _) (by omega), below_set HF4.out.2.2 (Nat.le_refl _)⟩
            · have hbb : (bad == 0) = false := beq_eq_false_iff_ne.2 hb0
              rw [if_neg hb0] at hbs
              clear hb0
              have HBs := Aside0.mk hbs
              clear hbs hbad
              go_wp2_with fail
              refine (secret_Addr.calls p (addrE p).1 (addrE p).2 _ (HGW.out.below HX.out.low) (by unfold secret_Addr.f; rw [if_pos hp])).mono ?_
              rintro e w3 ⟨rfl, hb3⟩
              have HX3 := Aside0.mk (HX.out.below hb3)
              have HO3 := Aside0.mk (Kd.R_below HO.out hb3)
              have HF3 := Aside0.mk (show w2.heap.size ≤ w3.heap.size ∧ ∀ k, k < w2.heap.size → k ≠ w.heap.size → w3.heap[k]? = w2.heap[k]? from ⟨Nat.le_trans HF.out.1 hb3.size, fun k h1 h2 => (hb3.block k (Nat.lt_of_lt_of_le h1 HF.out.1)).trans (HF.out.2 k h1 h2)⟩)
              clear HX HO HF hb3 hc3 hf3 hcell
              have hc3 := HX3.out.c3
              have hf3 := blk_frozen HX3.out.var 3
              have HL := Aside0.mk hal
              clear hal
              go_wp2_with (first | ((with_reducible refine gate_builtin (b := .append) (xs := #[.tmp 68, .tmp 70]) rfl ?_); at_builtin; refine Kd.R_append (Kd.int .i64) (w0 := w3) w2.heap.size rfl (.tmp 68) (.tmp 70) 23 2 (.int .i64 0) 8 rfl Tryd.underlying23 info2 rfl (by decide) (by omega) (.slice Av i cv) (addrsW (m.take i)) (addrE p).1 [.int .i64 (addrE p).1] (fun _ => True) (fun _ => False) rfl rfl ?aP (fun _ hk => hk.elim) ?aF ?aO ?aB ?aS ?aL ?_))
              case aP => exact rfl
              case aF => exact fun _ _ => trivial
              case aO => exact HO3.out
              case aB => exact Below.refl _ _
              case aS => exact HF3.out.1
              case aL => rw [HL.out]; omega
              intro v1 w4 ho hb4 hg hat
              obtain ⟨A4, cp4, rfl⟩ : ∃ Av cv, v1 = .slice Av (i + 1) cv := by
                obtain ⟨Av, cv, h⟩ := Kd.R_slice ho
                exact ⟨Av, cv, by rw [h, List.length_append, HL.out]; rfl⟩
              have hvar := blk_grown HX3.out.var hg (Kd.R_ne HX3.out.row HX3.out.var (by decide))
              have hx4 : LX w w4 a b d (.slice A4 (i + 1) cp4) (addrsW (m.take (i + 1))) → True := fun _ => trivial
              have HO4 := Aside0.mk ho
              have HV4 := Aside0.mk hvar
              have HF4 := Aside0.mk (show w2.heap.size ≤ w4.heap.size ∧ (∀ k, k < w2.heap.size → k ≠ w.heap.size → w4.heap[k]? = w2.heap[k]?) ∧ Below w.heap.size w w4 from ⟨Nat.le_trans HF3.out.1 hb4.size, fun k h1 h2 => (hb4.block k h1).trans (HF3.out.2 k h1 h2), HX3.out.low.trans (hb4.mono (by omega))⟩)
              have hc3 := (blk_cell hvar 3).trans rfl
              have hf3 := blk_frozen hvar 3
              clear ho hvar hb4 hg hat hx4 HX3 HO3 HF3
              go_wp2
              refine ⟨⟨i + 1, _, .slice A4 (i + 1) cp4, by omega, rfl, by go_num, HBs.out.symm, ⟨?_, ?_⟩, ⟨?_⟩, ⟨?_⟩⟩, by simp [intOf]; omega⟩
              · have h := HF4.out.1; simpa [World.setCell] using h
              · intro k h1 h2
                rw [Below.heap_setCell _ _ _ _ h2]
                exact HF4.out.2.1 k h1 h2
              · rw [HA.out]
                exact Kd.R_set HO4.out HV4.out (by decide) 3 _
              · rw [HA.out]
                exact ⟨blk_put HV4.out 3 _ rfl, Kd.R_lower (Kd.R_set HO4.out HV4.out (by decide) 3 _) (by omega), below_set HF4.out.2.2 (Nat.le_refl _)⟩
          · obtain rfl : i = m.length := by omega
            rw [List.take_of_length_le (Nat.le_refl _)] at hbad HO HX hal
            have hc0 := HX.out.c0
            have hc1 := HX.out.c1
            have hc2 := HX.out.c2
            go_wp2_with fail
            refine (right_call a b d Av cv (addrsW m) m.length hal _ _ (Kd.R_reads HO.out) rfl).mono ?_
            rintro e w9 ⟨rfl, hb9⟩
            have HX9 := Aside0.mk (HX.out.below hb9)
            clear HX HO HF hb9 hc0 hc1 hc2 hc3 hf3
            have hc0 := HX9.out.c0
            have hc1 := HX9.out.c1
            have hc2 := HX9.out.c2
            have hc3 := HX9.out.c3
            have hf0 := blk_frozen HX9.out.var 0
            have hf1 := blk_frozen HX9.out.var 1
            have hf2 := blk_frozen HX9.out.var 2
            have hf3 := blk_frozen HX9.out.var 3
            have hge2 : ∀ v : Value, (w9.setCell ⟨w.heap.size, 0, none⟩ v).cell? ⟨0, 0, none⟩ = some (.iface 144 (.pointer (some g))) := by
              intro v
              rw [World.cell?_setCell_other _ _ _ _ (by intro e; have e := congrArg Addr.block e; have := World.block_lt_of_cell? w _ HE.out.1; dsimp at e this; omega)]
              exact cell_low HE.out.1 HX9.out.low
            have hge := cell_low HE.out.1 HX9.out.low
            have hr := HR.out
            unfold whyW at hr
            rw [← hbad] at hr
            clear HR hal hbad
            generalize rightE a b d (addrsW m) = r at hr ⊢
            by_cases q1 : bad = 0
            · have q1b : (bad != 0) = false := bne_eq_false_iff_eq.2 q1
              rw [show (if bad ≠ 0 ∧ r ≠ 60 ∧ r ≠ 52 then bad else r) = r from if_neg (by simp [q1])] at hr
              by_cases q2 : r = 0
              · have q2b : (r != 0) = false := bne_eq_false_iff_eq.2 q2
                rw [if_pos q2] at hr
                subst hr
                clear q1 q2
                go_wp2
                have HX4 := ((HX9.out.p0 a).p1 b).p2 d
                have HX4 := HX4.p3 HX4.row
                refine bodyPost_ret (line_results HX4 _ rfl) rfl ?_
                exact LPost.mk _ _ _ _ rfl HX4.low ⟨rfl, rfl, rfl, _, rfl, Kd.R_lower HX4.row (by omega)⟩
              · have q2b : (r != 0) = true := bne_iff_ne.2 q2
                rw [if_neg q2] at hr
                have hev : (if r = 0 then Value.nilIface else .iface 144 (.pointer (some g))) = .iface 144 (.pointer (some g)) := if_neg q2
                subst hr
                have HEV := Aside0.mk hev
                clear q1 q2 hev
                go_wp2
                go_region
                go_wp2
                have HX4 := ((((HX9.out.p0 ⟨#[]⟩).p1 ⟨#[]⟩).p2 ⟨#[]⟩).p3 (Kd.R_nil (Kd.int .i64) _ _ _ _)).drew
                refine bodyPost_ret (line_results HX4 _ rfl) rfl ?_
                exact LPost.mk _ _ _ _ rfl HX4.low ⟨rfl, rfl, rfl, HEV.out.symm⟩
            · have q1b : (bad != 0) = true := bne_iff_ne.2 q1
              by_cases q3 : r = 60
              · have q3b : (r != 60) = false := bne_eq_false_iff_eq.2 q3
                have q2b : (r != 0) = true := bne_iff_ne.2 (by omega)
                rw [show (if bad ≠ 0 ∧ r ≠ 60 ∧ r ≠ 52 then bad else r) = r from if_neg (by simp [q3]), if_neg (by omega)] at hr
                have hev : (if r = 0 then Value.nilIface else .iface 144 (.pointer (some g))) = .iface 144 (.pointer (some g)) := if_neg (by omega)
                subst hr
                have HEV := Aside0.mk hev
                clear q1 q3 hev
                go_wp2
                go_region
                go_wp2
                have HX4 := ((((HX9.out.p0 ⟨#[]⟩).p1 ⟨#[]⟩).p2 ⟨#[]⟩).p3 (Kd.R_nil (Kd.int .i64) _ _ _ _)).drew
                refine bodyPost_ret (line_results HX4 _ rfl) rfl ?_
                exact LPost.mk _ _ _ _ rfl HX4.low ⟨rfl, rfl, rfl, HEV.out.symm⟩
              · have q3b : (r != 60) = true := bne_iff_ne.2 q3
                by_cases q4 : r = 52
                · have q4b : (r != 52) = false := bne_eq_false_iff_eq.2 q4
                  have q2b : (r != 0) = true := bne_iff_ne.2 (by omega)
                  rw [show (if bad ≠ 0 ∧ r ≠ 60 ∧ r ≠ 52 then bad else r) = r from if_neg (by simp [q4]), if_neg (by omega)] at hr
                  have hev : (if r = 0 then Value.nilIface else .iface 144 (.pointer (some g))) = .iface 144 (.pointer (some g)) := if_neg (by omega)
                  subst hr
                  have HEV := Aside0.mk hev
                  clear q1 q3 q4 hev
                  go_wp2
                  go_region
                  go_wp2
                  have HX4 := ((((HX9.out.p0 ⟨#[]⟩).p1 ⟨#[]⟩).p2 ⟨#[]⟩).p3 (Kd.R_nil (Kd.int .i64) _ _ _ _)).drew
                  refine bodyPost_ret (line_results HX4 _ rfl) rfl ?_
                  exact LPost.mk _ _ _ _ rfl HX4.low ⟨rfl, rfl, rfl, HEV.out.symm⟩
                · have q4b : (r != 52) = true := bne_iff_ne.2 q4
                  rw [show (if bad ≠ 0 ∧ r ≠ 60 ∧ r ≠ 52 then bad else r) = bad from if_pos ⟨q1, q3, q4⟩, if_neg q1] at hr
                  have hev : (if bad = 0 then Value.nilIface else .iface 144 (.pointer (some g))) = .iface 144 (.pointer (some g)) := if_neg q1
                  subst hr
                  have HEV := Aside0.mk hev
                  clear q1 q3 q4 hev
                  go_wp2
                  go_region
                  go_wp2
                  have HX4 := ((((HX9.out.p0 ⟨#[]⟩).p1 ⟨#[]⟩).p2 ⟨#[]⟩).p3 (Kd.R_nil (Kd.int .i64) _ _ _ _)).drew
                  refine bodyPost_ret (line_results HX4 _ rfl) rfl ?_
                  exact LPost.mk _ _ _ _ rfl HX4.low ⟨rfl, rfl, rfl, HEV.out.symm⟩

def toS (x : Sec) : S25 := ⟨x.1, x.2.1, x.2.2.1, x.2.2.2⟩
/-- The lines of a text, one behind the other: the first at fault, or the secrets. -/
def readG : Nat → List ByteArray → List S25 → Option (Nat × Int) × List S25
  | _, [], acc => (none, acc)
  | i, s :: r, acc => if (lineE s).1 = 0 then (match (lineE s).2 with
      | some x => readG (i + 1) r (acc ++ [toS x])
      | none => readG (i + 1) r acc)
    else (some (i, (lineE s).1), [])
def linesB (s : ByteArray) : List ByteArray := Lib.splitB ⟨#[10]⟩ 0 (Lib.countB s ⟨#[10]⟩) s
def readE (s : ByteArray) : Option (Nat × Int) × List S25 := readG 0 (linesB s) []
/-- strings.IndexAny on the rests of a line. -/
def AnyOk (s : ByteArray) : Prop := s.size ≤ 1024 → ∀ (i : Nat) (W : World), i < s.size → Calls Tryd.prog 36 #[.string (s.extract i s.size), .string ⟨#[32, 9, 13, 35]⟩] W fun e w' => e = .returned (.int .i64 (Lib.indexAny (s.extract i s.size).data.toList [32, 9, 13, 35])) ∧ Below W.heap.size W w'
def RPost (r : Option (Nat × Int) × List S25) (g : Addr) (w : World) (e : Ending) (w' : World) : Prop :=
  ∃ v ev, e = .returned (.tuple #[v, ev]) ∧ Below w.heap.size w w' ∧ match r with
    | (none, out) => ev = .nilIface ∧ Kd.R k25 25 w' w.heap.size (fun _ => True) v out
    | (some (i, why), _) => ∃ b, ev = .iface 47 (.pointer (some ⟨b, 0, none⟩)) ∧ w.heap.size ≤ b ∧ w'.heap[b]? = some (.cells #[.int .i64 i, .int .i64 why, .iface 144 (.pointer (some g))] 52 (0, 0))
theorem secInfo : (Tryd.prog.info? 25).map (fun i => (i.zero, i.size, i.bytes)) = some (some (.agg #[(.string ⟨#[]⟩), (.string ⟨#[]⟩), (.string ⟨#[]⟩), (.slice none 0 0)]), 4, 72) := by kernel_rfl
theorem lineE_some {p : ByteArray} {y : Int} {x : Sec} (h : lineE p = (y, some x)) : y = 0 := by
  unfold lineE at h
  split at h
  · cases h
  · split at h
    · cases h
    · unfold lineW at h
      split at h
      · cases h
      · cases h
      · cases h
      · split at h
        · cases h; rfl
        · cases h
set_option maxHeartbeats 4000000 in
set_option maxRecDepth 100000 in
theorem read_walk (s : ByteArray) (w : World) (hs : s.size < 4294967281) (hG : GW w) (g : Addr) (hg : ErrLine w g) (R0 : Option (Nat × Int) × List S25) (hR0 : readE s = R0)
    (hany : ∀ p ∈ linesB s, AnyOk p) :
    Calls Tryd.prog 13 #[.string s] w fun e w' => RPost R0 g w e w' := by
  have HGW := Aside0.mk hG
  have HR := Aside0.mk hR0
  have HAny := Aside0.mk hany
  have HE := Aside0.mk hg
  clear hG hR0 hany hg
  go_enter Tryd.func13, Tryd.ntmps13
  go_wp2_with fail
  refine (split_call s 10 w hs HGW.out).mono ?_
  rintro e w1 ⟨l, hl, rfl, hw1⟩
  have hcell : ∀ k : Nat, k < l.length → w1.cell? ⟨w.heap.size, k, none⟩ = some (.string (l.getD k ByteArray.empty)) := by
    intro k hk
    rw [hw1]
    refine (blk_cell (heap_alloc_new w _) k).trans ?_
    simp [List.getD_eq_getElem?_getD, List.getElem?_eq_getElem hk]
  have HC := Aside0.mk hcell
  have hps : ∀ p ∈ l, p.size < 4294967281 := by
    intro p hp
    rw [hl] at hp
    exact Nat.lt_of_le_of_lt (splitB_size _ _ _ _ hp) hs
  have HPS := Aside0.mk hps
  have hllen : l.length ≤ s.size + 1 := by
    rw [hl]
    have h1 := Lib.splitB_length_le ⟨#[10]⟩ 0 (Lib.countB s ⟨#[10]⟩) s
    have h2 := Lib.countB_le ⟨#[10]⟩ (by decide) s.size s (Nat.le_refl _)
    omega
  have HB := Aside0.mk (show Below w.heap.size w w1 by rw [hw1]; exact below_alloc (Below.refl w.heap.size w) _)
  have hl2 : linesB s = l := hl.symm
  rw [hl2] at HAny
  have hr := HR.out
  unfold readE at hr
  rw [hl2] at hr
  have HR := Aside0.mk hr
  clear hcell hps hw1 hl hl2 hr
  go_wp2
  go_loopw [4, 14] (fun ov iv wr => ∃ (i : Nat) (v : Value) (out : List S25), i ≤ l.length ∧ iv = .int .i64 i ∧ ov = v ∧ out.length ≤ i ∧ Aside0 (readG i (l.drop i) out = R0) ∧ Aside0 (Kd.R k25 25 wr w1.heap.size (fun _ => True) v out) ∧ Aside0 (Below w1.heap.size w1 wr))
      (fun _ i _ => l.length - (intOf i).toNat)
  case atStart => exact ⟨0, .slice none 0 0, [], by omega, rfl, rfl, by simp, HR, ⟨Kd.R_nil _ _ _ _ _⟩, ⟨Below.refl _ _⟩⟩
  case round =>
    obtain ⟨i, v, out, hi, rfl, rfl, hol, HA, HO, HBr⟩ := hrel
    have HT := Aside0.mk (HB.out.trans (HBr.out.mono HB.out.size))
    clear HR
    by_cases hlt : i < l.length
    · have hlti : decide ((i : Int) < (l.length : Int)) = true := decide_eq_true (by omega)
      have hcell := cell_low (HC.out i hlt) HBr.out
      have hmem : l.getD i ByteArray.empty ∈ l := by simp [List.getD_eq_getElem?_getD, List.getElem?_eq_getElem hlt]
      have hany := HAny.out _ hmem
      have hps := HPS.out _ hmem
      have hdrop : l.drop i = l.getD i ByteArray.empty :: l.drop (i + 1) := by
        rw [List.drop_eq_getElem_cons hlt]
        simp [List.getD_eq_getElem?_getD, List.getElem?_eq_getElem hlt]
      generalize l.getD i ByteArray.empty = p at *
      have hA := HA.out
      rw [hdrop] at hA
      unfold readG at hA
      have HAN := Aside0.mk hany
      clear HAny HPS HC HA hdrop hmem hany
      have HA := Aside0.mk hA
      clear hA
      obtain ⟨Ao, co, rfl⟩ := Kd.R_slice HO.out
      go_wp2_with fail
      refine (line_walk p _ hps (HGW.out.below HT.out) g (HE.out.below HT.out) _ rfl HAN.out).mono ?_
      rintro e w2 ⟨x, b, why, ev, rfl, hb, hL⟩
      have HB2 := Aside0.mk hb
      have HO2 := Aside0.mk (Kd.R_below HO.out hb)
      have HT2 := Aside0.mk (below_then HT.out HT.out.size hb)
      have HBr2 := Aside0.mk (below_then HBr.out HBr.out.size hb)
      clear hcell
      unfold LEnd at hL
      rcases hq : lineE p with ⟨y, xo⟩
      have hA := HA.out
      rw [hq] at hA hL
      dsimp only at hA hL
      obtain ⟨rfl, hL⟩ := hL
      have hown : ∀ k, (Value.slice Ao out.length co).ownBlock = some k → k < wr.heap.size := by
        obtain ⟨inner, ho⟩ := Kd.R_own HO.out
        exact fun k hk => own_lt ho k hk
      have hw1r := HBr.out.size
      clear HA HO HBr HT
      cases xo with
      | some x4 =>
        obtain ⟨c, sv, pw, ad⟩ := x4
        obtain rfl : why = 0 := lineE_some hq
        rw [if_pos rfl] at hA
        dsimp only at hA hL
        obtain ⟨rfl, rfl, vr, rfl, hrow⟩ := hL
        have HA := Aside0.mk hA
        have HROW := Aside0.mk hrow
        obtain ⟨Ar, cr, rfl⟩ := Kd.R_slice hrow
        clear hA hrow hb
        have hszA : ∀ o : Obj, (w2.alloc o).heap.size = w2.heap.size + 1 := fun o => Array.size_push ..
        have HX := Aside0.mk (below_alloc (Below.refl w2.heap.size w2) (.cells #[.string c, .string sv, .string pw, .slice Ar ad.length cr] 25))
        have HOx := Aside0.mk (Kd.R_below HO2.out HX.out)
        have HRx := Aside0.mk (Kd.R_below HROW.out HX.out)
        go_wp2_with (first | ((with_reducible refine gate_builtin (b := .append) (xs := #[.tmp 35, .tmp 37]) rfl ?_); at_builtin; refine Kd.R_append k25 (w0 := w2) (W := w2.alloc (.cells #[.string c, .string sv, .string pw, .slice Ar ad.length cr] 25)) w1.heap.size rfl (.tmp 35) (.tmp 37) 22 25 (.agg #[(.string ⟨#[]⟩), (.string ⟨#[]⟩), (.string ⟨#[]⟩), (.slice none 0 0)]) 72 rfl Tryd.underlying22 secInfo rfl (by decide) (by omega) (.slice Ao out.length co) out (toS (c, sv, pw, ad)) [.string c, .string sv, .string pw, .slice Ar ad.length cr] (fun _ => True) (fun k => wr.heap.size ≤ k) rfl (by rw [hszA]; rfl) ?aP ?aN ?aF ?aO ?aB ?aS ?aL ?_))
        case aP => exact k25_mkM _ _ _ _ (Kd.R_lower (Kd.R_mono (Kd.R_bound HRx.out) (fun k hk => hk.2.1)) hw1r)
        case aN => exact fun k hk => ⟨trivial, fun e => by have := hown k e.symm; omega⟩
        case aF => exact fun _ _ => trivial
        case aO => exact HOx.out
        case aB => exact HX.out.mono HBr2.out.size
        case aS => rw [hszA]; have := HBr2.out.size; omega
        case aL => omega
        intro v1 w4 ho hb4 hg hat
        obtain ⟨A4, cp4, rfl⟩ : ∃ Av cv, v1 = .slice Av (out.length + 1) cv := by
          obtain ⟨Av, cv, h⟩ := Kd.R_slice ho
          exact ⟨Av, cv, by rw [h, List.length_append]; rfl⟩
        have HO4 := Aside0.mk ho
        have HB4 := Aside0.mk (HBr2.out.trans hb4)
        clear ho hb4 hg hat hown
        go_wp2
        refine ⟨⟨i + 1, _, out ++ [toS (c, sv, pw, ad)], by omega, by go_num, rfl, by simp; omega, HA, HO4, HB4⟩, by simp [intOf]; omega⟩
      | none =>
        dsimp only at hA hL
        obtain ⟨rfl, rfl, hev⟩ := hL
        by_cases hy : why = 0
        · rw [if_pos hy] at hA hev
          subst hev
          have HA := Aside0.mk hA
          have hb0 := below_alloc HBr2.out (.cells #[.string ⟨#[]⟩, .string ⟨#[]⟩, .string ⟨#[]⟩, .slice none 0 0] 25)
          have HX := Aside0.mk (below_alloc (Below.refl w2.heap.size w2) (.cells #[.string ⟨#[]⟩, .string ⟨#[]⟩, .string ⟨#[]⟩, .slice none 0 0] 25))
          have HOx := Aside0.mk (Kd.R_below HO2.out HX.out)
          have HB0 := Aside0.mk hb0
          clear hA hb hb0 hy
          go_wp2
          refine ⟨⟨i + 1, _, out, by omega, by go_num, rfl, by omega, HA, HOx, HB0⟩, by simp [intOf]; omega⟩
        · rw [if_neg hy] at hA hev
          subst hev
          subst hA
          clear hb hy
          go_wp2
          go_ret2
          exact ⟨_, _, rfl, below_alloc (below_alloc HT2.out _) _, _, rfl, by have := HT2.out.size; omega, alloc_two w2 _ _⟩
    · obtain rfl : i = l.length := by omega
      have hA := HA.out
      rw [List.drop_of_length_le (Nat.le_refl _)] at hA
      unfold readG at hA
      subst hA
      clear HA
      go_wp2
      go_ret2
      exact ⟨_, _, rfl, HT.out, rfl, Kd.R_lower HO.out HB.out.size⟩

section
open Go.Extern.Stop Go.Stop Go.Extern

theorem As.valueOf27 (t : Addr) (w : World) : (ReflectliteValue.unpack (.iface 50 (.pointer (some t)))).run Tryd.prog w
    = .ok (.agg #[.pointer (some ⟨10, 50, none⟩), .pointer (some ⟨w.heap.size, 0, none⟩), .int .u64 150]) (w.alloc (.cells #[.pointer (some t)] 50)) := by kernel_rfl
theorem As.type27 (a : Addr) (w : World) : (ReflectliteValue.methodAny (ReflectliteValue.valueError "reflectlite.Value.Type" 0) (fun t _ _ _ => ReflectliteType.toType t) #[.agg #[.pointer (some ⟨10, 50, none⟩), .pointer (some a), .int .u64 150]]).run Tryd.prog w
    = .ok (.iface 77 (.agg #[.pointer (some ⟨10, 50, none⟩)])) w := by kernel_rfl
theorem As.methodKind (h : Value) (w : World) : (Go.method 282 77 (.agg #[h]) "Kind").run Tryd.prog w = .ok (95, h) w := by kernel_rfl
theorem As.kind27 (w : World) : ((ReflectliteType.abiMethod fun t => (fun a : Nat => Value.int IntKind.u8 (a : Int)) <$> Rtype.kind t) #[.pointer (some ⟨10, 50, none⟩)]).run Tryd.prog w = .ok (.int .u8 22) w := by kernel_rfl
theorem As.kind25 (w : World) : ((ReflectliteType.abiMethod fun t => (fun a : Nat => Value.int IntKind.u8 (a : Int)) <$> Rtype.kind t) #[.pointer (some ⟨10, 47, none⟩)]).run Tryd.prog w = .ok (.int .u8 22) w := by kernel_rfl


theorem rlm (z : Sem Value) (f : TypeId → Addr → Nat → Nat → Sem Value) (v : Value) :
    ReflectliteValue.method z f #[v] = (do match ← ReflectliteValue.parts v with | none => z | some (t, a, fl) => f t a fl (fl % 32)) := rfl
theorem As.parts27 (a : Addr) (w : World) : (ReflectliteValue.parts (.agg #[.pointer (some ⟨10, 50, none⟩), .pointer (some a), .int .u64 150])).run Tryd.prog w = .ok (some (50, a, 150)) w := by kernel_rfl

theorem As.isNil27 (a p : Addr) (W : World) (ha : W.cell? a = some (.pointer (some p))) :
    (ReflectliteValue.method (ReflectliteValue.valueError "reflectlite.Value.IsNil" 0) ReflectliteValue.isNil #[.agg #[.pointer (some ⟨10, 50, none⟩), .pointer (some a), .int .u64 150]]).run Tryd.prog W = .ok (.bool false) W := by
  rw [rlm]
  simp only [Sem.run_bind, As.parts27, Result.andThen]
  simp [ReflectliteValue.isNil, loadVar, isAgg, underlying, Tryd.underlying50, ha, Result.andThen]

theorem As.methodElem (h : Value) (w : World) : (Go.method 282 77 (.agg #[h]) "Elem").run Tryd.prog w = .ok (106, .agg #[h]) w := by kernel_rfl
theorem As.methodImplements (h : Value) (w : World) : (Go.method 282 77 (.agg #[h]) "Implements").run Tryd.prog w = .ok (107, .agg #[h]) w := by kernel_rfl
theorem As.methodAssignableTo (h : Value) (w : World) : (Go.method 282 77 (.agg #[h]) "AssignableTo").run Tryd.prog w = .ok (104, .agg #[h]) w := by kernel_rfl
theorem As.elem27 (w : World) : (ReflectliteType.method ReflectliteType.elem #[.agg #[.pointer (some ⟨10, 50, none⟩)]]).run Tryd.prog w = .ok (.iface 77 (.agg #[.pointer (some ⟨10, 47, none⟩)])) w := by kernel_rfl
theorem As.implements25 (w : World) : (ReflectliteType.relation "Implements" ReflectliteType.implements_ #[.agg #[.pointer (some ⟨10, 47, none⟩)], .iface 77 (.agg #[.pointer (some ⟨10, 44, none⟩)])]).run Tryd.prog w = .ok (.bool true) w := by kernel_rfl
theorem As.typeOf25 (v : Value) (w : World) : (ReflectliteType.typeOf #[.iface 47 v]).run Tryd.prog w = .ok (.iface 77 (.agg #[.pointer (some ⟨10, 47, none⟩)])) w := by kernel_rfl
theorem As.assignable25 (w : World) : (ReflectliteType.relation "AssignableTo" ReflectliteType.assignableTo #[.agg #[.pointer (some ⟨10, 47, none⟩)], .iface 77 (.agg #[.pointer (some ⟨10, 47, none⟩)])]).run Tryd.prog w = .ok (.bool true) w := by kernel_rfl
theorem As.valueOf25 (e : Addr) (w : World) : (ReflectliteValue.unpack (.iface 47 (.pointer (some e)))).run Tryd.prog w
    = .ok (.agg #[.pointer (some ⟨10, 47, none⟩), .pointer (some ⟨w.heap.size, 0, none⟩), .int .u64 150]) (w.alloc (.cells #[.pointer (some e)] 47)) := by kernel_rfl

theorem As.elemOf27 (w : World) : (Rtype.elem? 50).run Tryd.prog w = .ok (some 47) w := by kernel_rfl
theorem As.mk25 (p : Addr) (w : World) : (ReflectliteValue.mk 47 p ReflectliteValue.flagAddr).run Tryd.prog w = .ok (.agg #[.pointer (some ⟨10, 47, none⟩), .pointer (some p), .int .u64 406]) w := by kernel_rfl

theorem As.elemV27 (a p : Addr) (W : World) (ha : W.cell? a = some (.pointer (some p))) :
    (ReflectliteValue.method (ReflectliteValue.valueError "reflectlite.Value.Elem" 0) ReflectliteValue.elem #[.agg #[.pointer (some ⟨10, 50, none⟩), .pointer (some a), .int .u64 150]]).run Tryd.prog W
      = .ok (.agg #[.pointer (some ⟨10, 47, none⟩), .pointer (some p), .int .u64 406]) W := by
  rw [rlm]
  simp only [Sem.run_bind, As.parts27, Result.andThen]
  simp [ReflectliteValue.elem, loadVar, isAgg, underlying, Tryd.underlying50, ha, Result.andThen, As.elemOf27, As.mk25]
theorem rls (v x : Value) : ReflectliteValue.set #[v, x] = (do
    let (some (dst, a, fl), some (src, b, _)) := (← ReflectliteValue.parts v, ← ReflectliteValue.parts x)
      | unsupported (.noEntry "extern/(internal/reflectlite.Value).Set.zeroValue")
    if fl / ReflectliteValue.flagAddr % 2 == 0 then unsupported (.noEntry "extern/(internal/reflectlite.Value).Set.unaddressable")
    let val ← loadVar src b
    if ← Rtype.directlyAssignable dst src then storeVar dst a val
    else if ← Rtype.implements dst src then
      if (← Rtype.kind src) == 20 then
        match val with
        | .nilIface => unsupported (.noEntry "extern/reflectlite: a nil value of one interface type handed on as a value of another")
        | _ => storeVar dst a val
      else storeVar dst a (.iface src val)
    else panicString ("reflectlite.Set: value of type " ++ (← Rtype.spelt src) ++ " is not assignable to type " ++ (← Rtype.spelt dst))
    pure (.tuple #[])) := rfl
theorem As.parts25a (a : Addr) (w : World) : (ReflectliteValue.parts (.agg #[.pointer (some ⟨10, 47, none⟩), .pointer (some a), .int .u64 406])).run Tryd.prog w = .ok (some (47, a, 406)) w := by kernel_rfl
theorem As.parts25 (a : Addr) (w : World) : (ReflectliteValue.parts (.agg #[.pointer (some ⟨10, 47, none⟩), .pointer (some a), .int .u64 150])).run Tryd.prog w = .ok (some (47, a, 150)) w := by kernel_rfl
theorem As.direct25 (w : World) : (Rtype.directlyAssignable 47 47).run Tryd.prog w = .ok true w := by kernel_rfl
theorem As.size25 (w : World) : (sizeOf 47).run Tryd.prog w = .ok 1 w := by kernel_rfl

theorem As.set25 (ta b e : Addr) (old : Value) (W : World) (hb : W.cell? b = some (.pointer (some e))) (ht : W.cell? ta = some old) (hf : W.frozen? ta = false) :
    (ReflectliteValue.set #[.agg #[.pointer (some ⟨10, 47, none⟩), .pointer (some ta), .int .u64 406], .agg #[.pointer (some ⟨10, 47, none⟩), .pointer (some b), .int .u64 150]]).run Tryd.prog W
      = .ok (.tuple #[]) (W.setCell ta (.pointer (some e))) := by
  rw [rls]
  simp only [Sem.run_bind, As.parts25a, As.parts25, Result.andThen]
  simp [ReflectliteValue.flagAddr, loadVar, isAgg, underlying, Tryd.underlying47, hb, Result.andThen, As.direct25, storeVar, Value.cells, storeCells, Addr.add]
  rw [run_store Tryd.prog W ta _ _ (by rfl)]
  simp [ht, hf]

set_option maxHeartbeats 4000000 in
set_option maxRecDepth 100000 in
theorem as_hit (e t : Addr) (old : Value) (w : World) (hg : w.cell? ⟨1, 0, none⟩ = some (.iface 77 (.agg #[.pointer (some ⟨10, 44, none⟩)]))) (ht0 : w.cell? t = some old) (hf0 : w.frozen? t = false) :
    Calls Tryd.prog 15 #[.iface 47 (.pointer (some e)), .iface 50 (.pointer (some t))] w fun ev w' => ev = .returned (.bool true) ∧ w' = ((((w.alloc (.cells #[.pointer (some t)] 50)).alloc (.cells #[.pointer (some ⟨10, 50, none⟩), .pointer (some ⟨w.heap.size, 0, none⟩), .int .u64 150] 64)).alloc (.cells #[.pointer (some ⟨10, 50, none⟩), .pointer (some ⟨w.heap.size, 0, none⟩), .int .u64 150] 64)).alloc (.cells #[.pointer (some e)] 47)).setCell t (.pointer (some e)) := by
  have h6 := @run_callFunc_extern Tryd.prog 21 _ (fun args => ReflectliteValue.unpack (args.getD 0 (.tuple #[]))) Tryd.func21 (by kernel_rfl) (by kernel_rfl) (by kernel_rfl) (by kernel_rfl)
  have h7 := @run_callFunc_extern Tryd.prog 22 _ (ReflectliteValue.methodAny (ReflectliteValue.valueError "reflectlite.Value.Type" 0) (fun t _ _ _ => ReflectliteType.toType t)) Tryd.func22 (by kernel_rfl) (by kernel_rfl) (by kernel_rfl) (by kernel_rfl)
  have h8 := @run_callFunc_extern Tryd.prog 23 _ (ReflectliteValue.method (ReflectliteValue.valueError "reflectlite.Value.IsNil" 0) ReflectliteValue.isNil) Tryd.func23 (by kernel_rfl) (by kernel_rfl) (by kernel_rfl) (by kernel_rfl)
  have h27 := @run_callFunc_extern Tryd.prog 95 _ (ReflectliteType.abiMethod fun t => do pure (.int .u8 (← Rtype.kind t))) Tryd.func95 (by kernel_rfl) (by kernel_rfl) (by kernel_rfl) (by kernel_rfl)
  have h37 := @run_callFunc_extern Tryd.prog 106 _ (ReflectliteType.method ReflectliteType.elem) Tryd.func106 (by kernel_rfl) (by kernel_rfl) (by kernel_rfl) (by kernel_rfl)
  have h38 := @run_callFunc_extern Tryd.prog 107 _ (ReflectliteType.relation "Implements" ReflectliteType.implements_) Tryd.func107 (by kernel_rfl) (by kernel_rfl) (by kernel_rfl) (by kernel_rfl)
  have h10 := @run_callFunc_extern Tryd.prog 19 _ ReflectliteType.typeOf Tryd.func19 (by kernel_rfl) (by kernel_rfl) (by kernel_rfl) (by kernel_rfl)
  have h35 := @run_callFunc_extern Tryd.prog 104 _ (ReflectliteType.relation "AssignableTo" ReflectliteType.assignableTo) Tryd.func104 (by kernel_rfl) (by kernel_rfl) (by kernel_rfl) (by kernel_rfl)
  have h11 := @run_callFunc_extern Tryd.prog 28 _ (ReflectliteValue.method (ReflectliteValue.valueError "reflectlite.Value.Elem" 0) ReflectliteValue.elem) Tryd.func28 (by kernel_rfl) (by kernel_rfl) (by kernel_rfl) (by kernel_rfl)
  have h12 := @run_callFunc_extern Tryd.prog 29 _ ReflectliteValue.set Tryd.func29 (by kernel_rfl) (by kernel_rfl) (by kernel_rfl) (by kernel_rfl)
  have tO := As.typeOf25
  have mA := As.methodAssignableTo
  have a25 := As.assignable25
  have v25 := As.valueOf25
  have f6 := As.valueOf27
  have f7 := As.type27
  have mK := As.methodKind
  have mE := As.methodElem
  have mI := As.methodImplements
  have k27 := As.kind27
  have k25 := As.kind25
  have e27 := As.elem27
  have i25 := As.implements25
  have n8 := As.isNil27 ⟨w.heap.size, 0, none⟩ t ((w.alloc (.cells #[.pointer (some t)] 50)).alloc (.cells #[.pointer (some ⟨10, 50, none⟩), .pointer (some ⟨w.heap.size, 0, none⟩), .int .u64 150] 64)) (by simp)
  have hlt : 1 < w.heap.size := by
    exact World.block_lt_of_cell? w _ hg
  have hg2 : ((w.alloc (.cells #[.pointer (some t)] 50)).alloc (.cells #[.pointer (some ⟨10, 50, none⟩), .pointer (some ⟨w.heap.size, 0, none⟩), .int .u64 150] 64)).cell? ⟨1, 0, none⟩ = some (.iface 77 (.agg #[.pointer (some ⟨10, 44, none⟩)])) := by
    rw [World.cell?_alloc_lt _ _ ⟨1, 0, none⟩ (by first | (simp; done) | (simp; omega)), World.cell?_alloc_lt _ _ ⟨1, 0, none⟩ hlt]; exact hg
  have htl : t.block < w.heap.size := by
    rcases Nat.lt_or_ge t.block w.heap.size with h | h
    · exact h
    · simp [World.cell?, Array.getElem?_eq_none h] at ht0
  have el := As.elemV27 ⟨w.heap.size, 0, none⟩ t (((w.alloc (.cells #[.pointer (some t)] 50)).alloc (.cells #[.pointer (some ⟨10, 50, none⟩), .pointer (some ⟨w.heap.size, 0, none⟩), .int .u64 150] 64)).alloc (.cells #[.pointer (some ⟨10, 50, none⟩), .pointer (some ⟨w.heap.size, 0, none⟩), .int .u64 150] 64)) (by rw [World.cell?_alloc_lt _ _ ⟨w.heap.size, 0, none⟩ (by simp; omega)]; simp)
  have st := As.set25 t ⟨w.heap.size + 1 + 1 + 1, 0, none⟩ e old ((((w.alloc (.cells #[.pointer (some t)] 50)).alloc (.cells #[.pointer (some ⟨10, 50, none⟩), .pointer (some ⟨w.heap.size, 0, none⟩), .int .u64 150] 64)).alloc (.cells #[.pointer (some ⟨10, 50, none⟩), .pointer (some ⟨w.heap.size, 0, none⟩), .int .u64 150] 64)).alloc (.cells #[.pointer (some e)] 47))
    (by rw [World.cell?_alloc_at _ _ _ _ (by simp)]; rfl)
    (by rw [World.cell?_alloc_lt _ _ t (by simp; omega), World.cell?_alloc_lt _ _ t (by simp; omega), World.cell?_alloc_lt _ _ t (by simp; omega), World.cell?_alloc_lt _ _ t htl]; exact ht0)
    (by rw [World.frozen?_alloc_old _ _ t (by simp; omega), World.frozen?_alloc_old _ _ t (by simp; omega), World.frozen?_alloc_old _ _ t (by simp; omega), World.frozen?_alloc_old _ _ t (Nat.ne_of_lt htl)]; exact hf0)
  go_enter Tryd.func15, Tryd.ntmps15
  go_wp2
  refine wp_loop_rounds 1 ?_
  rw [rounds_succ]
  go_wp2
  go_ret
  exact ⟨rfl, rfl⟩

end

section
open Go.Extern.Stop Go.Stop Go.Extern
def compE : Array Value → Sem Value := Extern.ReflectliteType.method fun t => do Rtype.noPackHeld "Comparable" t; pure (.bool (← typeInfo t).comparable)

theorem Is.isTypeOf (v : Value) (w : World) : (Extern.ReflectliteType.typeOf #[.iface 144 v]).run Tryd.prog w = .ok (.iface 77 (.agg #[.pointer (some ⟨10, 144, none⟩)])) w := by kernel_rfl
theorem Is.isComparable (w : World) : (compE #[.agg #[.pointer (some ⟨10, 144, none⟩)]]).run Tryd.prog w = .ok (.bool true) w := by kernel_rfl
theorem Is.isMethodComparable (v : Value) (w : World) : (Go.method 282 77 v "Comparable").run Tryd.prog w = .ok (105, v) w := by kernel_rfl
theorem Is.isComp : (Tryd.prog.info? 144).map (·.comparable) = some true := by kernel_rfl
theorem Is.isSize : (Tryd.prog.info? 146).map (·.size) = some 1 := by kernel_rfl


theorem Is.noIsE (v : Value) (xT : TypeId) (w : World) : (Instr.typeAssert (.iface 144 v) xT 79 true).run Tryd.prog w = .ok (.tuple #[.nilIface, .bool false]) w := run_typeAssert_lacksB Tryd.underlying79 (by kernel_rfl) (by kernel_rfl) v xT w
theorem Is.noUnwrapE (v : Value) (xT : TypeId) (w : World) : (Instr.typeAssert (.iface 144 v) xT 82 true).run Tryd.prog w = .ok (.tuple #[.nilIface, .bool false]) w := run_typeAssert_lacksB Tryd.underlying82 (by kernel_rfl) (by kernel_rfl) v xT w
theorem Is.noUnwrapsE (v : Value) (xT : TypeId) (w : World) : (Instr.typeAssert (.iface 144 v) xT 84 true).run Tryd.prog w = .ok (.tuple #[.nilIface, .bool false]) w := run_typeAssert_lacksB Tryd.underlying84 (by kernel_rfl) (by kernel_rfl) v xT w
theorem Is.noIsW (v : Value) (xT : TypeId) (w : World) : (Instr.typeAssert (.iface 47 v) xT 79 true).run Tryd.prog w = .ok (.tuple #[.nilIface, .bool false]) w := run_typeAssert_lacksB Tryd.underlying79 (by kernel_rfl) (by kernel_rfl) v xT w
theorem Is.hasUnwrapW (v : Value) (xT : TypeId) (w : World) : (Instr.typeAssert (.iface 47 v) xT 82 true).run Tryd.prog w = .ok (.tuple #[.iface 47 v, .bool true]) w := run_typeAssert_hasB Tryd.underlying82 (by kernel_rfl) v xT w
theorem Is.methodUnwrap (v : Value) (w : World) : (Go.method 282 47 v "Unwrap").run Tryd.prog w = .ok (99, v) w := by kernel_rfl


theorem is_nil (b : Addr) (w : World) :
    Calls Tryd.prog 14 #[.nilIface, .iface 144 (.pointer (some b))] w fun e w' => e = .returned (.bool false) ∧ w' = w := by
  have hn := run_eql_iface_nil_left (P := Tryd.prog) w 144 (.pointer (some b)) Tryd.underlying44
  go_enter Tryd.func14, Tryd.ntmps14
  go_wp2
  go_ret
  exact ⟨rfl, rfl⟩


theorem is_wrap_same (pb po : Nat) (b : Addr) (w : World) (h1 : w.cell? ⟨pb, po + 2, none⟩ = some (.iface 144 (.pointer (some b)))) :
    Calls Tryd.prog 14 #[.iface 47 (.pointer (some ⟨pb, po, none⟩)), .iface 144 (.pointer (some b))] w fun e w' => e = .returned (.bool true) ∧ w' = w := by
  obtain ⟨i, hi, hcmp⟩ := Option.map_eq_some_iff.1 Is.isComp
  obtain ⟨j, hj, hjs⟩ := Option.map_eq_some_iff.1 Is.isSize
  have h8 := @run_callFunc_extern Tryd.prog 19 _ Extern.ReflectliteType.typeOf Tryd.func19 (by kernel_rfl) (by kernel_rfl) (by kernel_rfl) (by kernel_rfl)
  have h32 := @run_callFunc_extern Tryd.prog 105 _ compE Tryd.func105 (by kernel_rfl) (by kernel_rfl) (by kernel_rfl) (by kernel_rfl)
  have tT := Is.isTypeOf
  have cT := Is.isComparable
  have mR := Is.isMethodComparable
  have nE := Is.noIsE
  have uE := Is.noUnwrapE
  have vE := Is.noUnwrapsE
  have nW := Is.noIsW
  have uW := Is.hasUnwrapW
  have mU := Is.methodUnwrap
  have heq := run_eql_iface_ptr_same (P := Tryd.prog) w b Tryd.underlying44 Tryd.underlying144 hi hcmp hj
  have hty := run_eql_iface_types (P := Tryd.prog) 47 144 (.pointer (some ⟨pb, po, none⟩)) (.pointer (some b)) Tryd.underlying44 (by decide) w
  go_enter Tryd.func14, Tryd.ntmps14
  go_wp2
  refine wp_loop_rounds 2 ?_
  rw [rounds_succ]
  go_wp2
  rw [rounds_succ]
  go_wp2
  go_ret
  exact ⟨rfl, rfl⟩


end

def parseE (s : ByteArray) : List S25 × Int × Int :=
  if s.size > 65536 then ([], 4, 0) else match readE s with
    | (some (i, why), _) => ([], why, (i : Int))
    | (none, out) => if out.length > 64 then ([], 7, 64) else (out, 0, 0)
def PPost (r : List S25 × Int × Int) (w : World) (e : Ending) (w' : World) : Prop :=
  ∃ v, e = .returned (.tuple #[v, .int .i64 r.2.1, .int .i64 r.2.2]) ∧ Kd.R k25 25 w' w.heap.size (fun _ => True) v r.1 ∧ Below w.heap.size w w'
theorem globals10 : Tryd.prog.globals.size = 10 := by kernel_rfl
set_option maxHeartbeats 4000000 in
set_option maxRecDepth 100000 in
theorem parse_walk (s : ByteArray) (w : World) (hG : GW w) (R0 : List S25 × Int × Int) (hR0 : parseE s = R0)
    (hany : ∀ p ∈ linesB s, AnyOk p) :
    Calls Tryd.prog 9 #[.string s] w fun e w' => PPost R0 w e w' := by
  obtain ⟨g, hg⟩ := hG.err
  have HGW := Aside0.mk hG
  have HAny := Aside0.mk hany
  have HE := Aside0.mk hg
  clear hG hany hg
  go_enter Tryd.func9, Tryd.ntmps9
  unfold parseE at hR0
  by_cases h1 : s.size > 65536
  · have h1i : decide ((65536 : Int) < (s.size : Int)) = true := decide_eq_true (by omega)
    rw [if_pos h1] at hR0
    subst hR0
    go_wp2
    go_ret3
    exact ⟨_, rfl, Kd.R_nil _ _ _ _ _, Below.refl _ _⟩
  · have h1i : decide ((65536 : Int) < (s.size : Int)) = false := decide_eq_false (by omega)
    rw [if_neg h1] at hR0
    have hs : s.size < 4294967281 := by omega
    have HR := Aside0.mk hR0
    clear hR0
    go_wp2_with fail
    refine (read_walk s _ hs HGW.out g HE.out _ rfl HAny.out).mono ?_
    rintro e w2 ⟨v, ev, rfl, hb, hE⟩
    have hr := HR.out
    have HB := Aside0.mk hb
    have hge := cell_low HE.out.1 hb
    clear HAny HR hb
    rcases hq : readE s with ⟨ro, out⟩
    rw [hq] at hr hE
    clear hq
    cases ro with
    | none =>
      dsimp only at hr hE
      obtain ⟨rfl, hrow⟩ := hE
      have HROW := Aside0.mk hrow
      obtain ⟨Ao, co, rfl⟩ := Kd.R_slice hrow
      clear hrow
      have hsz : ∀ o : Obj, (w2.alloc o).heap.size = w2.heap.size + 1 := fun o => Array.size_push ..
      have HX := Aside0.mk (below_alloc (Below.refl w2.heap.size w2) (.cells #[.pointer none] 47))
      have hge3 := cell_low hge HX.out
      go_wp2_with fail
      refine (is_nil g _).mono ?_
      rintro e w3 ⟨rfl, rfl⟩
      by_cases h64 : out.length > 64
      · have h64i : decide ((64 : Int) < (out.length : Int)) = true := decide_eq_true (by omega)
        rw [if_pos h64] at hr
        subst hr
        go_wp2
        go_ret3
        exact ⟨_, rfl, Kd.R_nil _ _ _ _ _, HB.out.trans (HX.out.mono HB.out.size)⟩
      · have h64i : decide ((64 : Int) < (out.length : Int)) = false := decide_eq_false (by omega)
        rw [if_neg h64] at hr
        subst hr
        go_wp2
        go_ret3
        exact ⟨_, rfl, Kd.R_below HROW.out HX.out, HB.out.trans (HX.out.mono HB.out.size)⟩
    | some p =>
      obtain ⟨i, why⟩ := p
      dsimp only at hr hE
      obtain ⟨b, rfl, hbw, hbb⟩ := hE
      subst hr
      have hsz : ∀ o : Obj, (w2.alloc o).heap.size = w2.heap.size + 1 := fun o => Array.size_push ..
      have HX := Aside0.mk (below_alloc (Below.refl w2.heap.size w2) (.cells #[.pointer none] 47))
      have hge3 := cell_low hge HX.out
      have hbb3 := blk_below hbb HX.out
      have hc2 := (blk_cell hbb3 2).trans rfl
      go_wp2_with fail
      refine (is_wrap_same b 0 g _ hc2).mono ?_
      rintro e w3 ⟨rfl, rfl⟩
      have hty := HGW.out.below (HB.out.trans (HX.out.mono HB.out.size)) |>.typ
      rw [globals10] at hty
      have hbf := blk_new w2 (.cells #[.pointer none] 47)
      go_wp2_with fail
      refine (as_hit ⟨b, 0, none⟩ ⟨w2.heap.size, 0, none⟩ (.pointer none) _ hty ((blk_cell hbf 0).trans rfl) (blk_frozen hbf 0)).mono ?_
      rintro e w4 ⟨rfl, hw4⟩
      have h5 := fun o1 o2 o3 o4 => below_alloc (below_alloc (below_alloc (below_alloc (Below.refl (w2.alloc (.cells #[.pointer none] 47)).heap.size (w2.alloc (.cells #[.pointer none] 47))) o1) o2) o3) o4
      have hbl := blk_lt hbb
      have hpt : w4.heap[w2.heap.size]? = some (.cells #[.pointer (some ⟨b, 0, none⟩)] 47 (0, 0)) := by
        rw [hw4]; exact blk_put (blk_below hbf (h5 _ _ _ _)) 0 _ rfl
      have hfb : w4.heap[b]? = some (.cells #[.int .i64 i, .int .i64 why, .iface 144 (.pointer (some g))] 52 (0, 0)) := by
        rw [hw4]; exact blk_far (blk_below hbb3 (h5 _ _ _ _)) (by show b ≠ w2.heap.size; omega) _
      have hlow : Below w.heap.size w w4 := by
        rw [hw4]
        exact ((HB.out.trans (HX.out.mono HB.out.size)).trans ((h5 _ _ _ _).mono (by rw [hsz]; have := HB.out.size; omega))).setCell (by show w.heap.size ≤ w2.heap.size; exact HB.out.size) _
      have HL := Aside0.mk hlow
      have hp0 := (blk_cell hpt 0).trans rfl
      have hf0 := (blk_cell hfb 0).trans rfl
      have hf1 := (blk_cell hfb 1).trans rfl
      clear hw4 h5 hlow hc2 hge hge3 hbb hbb3 hbf hty hpt hfb
      go_wp2
      go_region
      go_wp2
      go_ret3
      exact ⟨_, rfl, Kd.R_nil _ _ _ _ _, HL.out.drew⟩

theorem validRune_range {r : Int} (h : Lib.validRune r = true) : Utf8.valid r = true := by
  unfold Lib.validRune at h; unfold Utf8.valid
  simp at h ⊢; omega
theorem enc_hi (r : Int) (h0 : 128 ≤ r) (hv : Lib.validRune r = true) : (∃ a b : UInt8, Utf8.encode r = ⟨#[a, b]⟩ ∧ 128 ≤ b.toNat) ∨ (∃ a b c : UInt8, Utf8.encode r = ⟨#[a, b, c]⟩ ∧ 128 ≤ c.toNat) ∨ (∃ a b c d : UInt8, Utf8.encode r = ⟨#[a, b, c, d]⟩ ∧ 128 ≤ d.toNat) := by
  have hv2 := validRune_range hv
  unfold Utf8.encode
  simp only [hv2, if_true]
  rw [if_neg (by omega)]
  by_cases h1 : r.toNat < 2048
  · rw [if_pos h1]; left
    exact ⟨_, _, rfl, by simp [UInt8.toNat_ofNat']; omega⟩
  · rw [if_neg h1]; right
    by_cases h2 : r.toNat < 65536
    · rw [if_pos h2]; left
      exact ⟨_, _, _, rfl, by simp [UInt8.toNat_ofNat']; omega⟩
    · rw [if_neg h2]; right
      exact ⟨_, _, _, _, rfl, by simp [UInt8.toNat_ofNat']; omega⟩
theorem ix_none (b : UInt8) (hb : 128 ≤ b.toNat) : ∀ l : List UInt8, (∀ c ∈ l, c.toNat < 128) → Lib.indexByte l b = -1
  | [], _ => rfl
  | c :: l, h => by
    have hc : (c == b) = false := beq_eq_false_iff_ne.2 (fun e => by have := h c (by simp); subst e; omega)
    unfold Lib.indexByte
    rw [hc, ix_none b hb l (fun c hc => h c (by simp [hc]))]
    rfl
set_option maxHeartbeats 1000000 in
set_option maxRecDepth 100000 in
theorem rune_err (w : World) :
    Calls Tryd.prog 45 #[.string ⟨#[32, 9, 13, 35]⟩, .int .i32 65533] w fun e w' => e = .returned (.int .i64 (-1)) ∧ Below w.heap.size w w' := by
  go_enter Tryd.func45, Tryd.ntmps45
  go_wp2_with fail
  go_loopg [5, 6] 4 (fun g _ _ wx => ∃ i : Nat, i + g = 4 ∧ wx = w.iter ⟨#[32, 9, 13, 35]⟩ i)
  case atStart => exact ⟨0, rfl, rfl⟩
  case round =>
    obtain ⟨i, hig, rfl⟩ := hrel
    cases gk with
    | zero =>
      obtain rfl : i = 4 := by omega
      have hnx := run_next_end (P := Tryd.prog) w ⟨#[32, 9, 13, 35]⟩ 4
      go_wp2
      go_ret
      exact ⟨rfl, below_alloc (Below.refl _ _) _⟩
    | succ g =>
      obtain ⟨x, hx, hn⟩ : ∃ x : Nat, (∀ ty, (Instr.next (.pointer (some ⟨w.heap.size, 0, none⟩)) true ty).run Tryd.prog (w.iter ⟨#[32, 9, 13, 35]⟩ i) = .ok (.tuple #[.bool true, .int .i64 i, .int .i32 x]) (w.iter ⟨#[32, 9, 13, 35]⟩ (i + 1))) ∧ ((x : Int) == 65533) = false := by
        have hsz : ByteArray.size ⟨#[32, 9, 13, 35]⟩ = 4 := rfl
        rcases (show i = 0 ∨ i = 1 ∨ i = 2 ∨ i = 3 by omega) with rfl | rfl | rfl | rfl
        · exact ⟨32, fun ty => run_next_ascii (P := Tryd.prog) w ⟨#[32, 9, 13, 35]⟩ 0 ty (by decide) (by decide), rfl⟩
        · exact ⟨9, fun ty => run_next_ascii (P := Tryd.prog) w ⟨#[32, 9, 13, 35]⟩ 1 ty (by decide) (by decide), rfl⟩
        · exact ⟨13, fun ty => run_next_ascii (P := Tryd.prog) w ⟨#[32, 9, 13, 35]⟩ 2 ty (by decide) (by decide), rfl⟩
        · exact ⟨35, fun ty => run_next_ascii (P := Tryd.prog) w ⟨#[32, 9, 13, 35]⟩ 3 ty (by decide) (by decide), rfl⟩
      go_wp2
      go_roundg g
      case measure => omega
      case rel => exact ⟨i + 1, by omega, rfl⟩
set_option maxHeartbeats 1000000 in
set_option maxRecDepth 100000 in
theorem rune_hi (r : Int) (h0 : 128 ≤ r) (h1 : r ≠ 65533) (hv : Lib.validRune r = true) (w : World) :
    Calls Tryd.prog 45 #[.string ⟨#[32, 9, 13, 35]⟩, .int .i32 r] w fun e w' => e = .returned (.int .i64 (-1)) ∧ Below w.heap.size w w' := by
  have hr1 : (r == 65533) = false := beq_eq_false_iff_ne.2 h1
  have hr2 : decide (0 ≤ r) = true := decide_eq_true (by omega)
  have hr3 : decide (r < 128) = false := decide_eq_false (by omega)
  have HV := Lib.hid hv
  have hE := Lib.hid (enc_hi r h0 hv)
  clear hv h1
  go_enter Tryd.func45, Tryd.ntmps45
  go_wp2_with fail
  refine (Tryd.utf8_ValidRune r _).mono ?_
  rintro e w1 ⟨rfl, rfl⟩
  rw [HV.out]
  rcases hE.out with ⟨a, b, he, hb⟩ | ⟨a, b, c, he, hb⟩ | ⟨a, b, c, d, he, hb⟩
  · clear hE HV
    have hcv : ∀ W : World, (convert 21 9 (.int .i32 r)).run Tryd.prog W = .ok (.string ⟨#[a, b]⟩) W := fun W => by
      have h : (convert 21 9 (.int .i32 r)).run Tryd.prog W = .ok (.string (Utf8.encode r)) W := by kernel_rfl
      rw [h, he]
    clear he
    have hne : ((((⟨#[32, 9, 13, 35]⟩ : ByteArray)[1]'(show 1 < 4 by decide)).toNat : Int) != (((⟨#[a, b]⟩ : ByteArray)[1]'(show 1 < 2 by decide)).toNat : Int)) = true := bne_iff_ne.2 (by
      show ((9 : UInt8).toNat : Int) ≠ (b.toNat : Int)
      have : (9 : UInt8).toNat = 9 := rfl
      omega)
    have hix : Lib.indexByte [13, 35] ((⟨#[a, b]⟩ : ByteArray)[1]'(show 1 < 2 by decide)) = -1 := ix_none b hb [13, 35] (by simp)
    have hwr : IntKind.i64.wrap 2 = 2 := by decide
    go_wp2_with fail
    refine wp_scope_straight ?_
    go_wp2_with fail
    refine wp_loop_once ?_
    go_wp2_with fail
    refine wp_scope_straight ?_
    go_wp2_with fail
    go_region
    go_wp2_with fail
    go_region_with ((go_at_call 34; refine (Tryd.strings_IndexByte _ _ _).mono ?_; rintro e w2 ⟨rfl, rfl⟩))
    all_goals
      go_wp2
      repeat (rw [Exit.noGoto_ret]; try go_wp2)
      go_ret
      exact ⟨rfl, ((Below.refl _ _).drew).drew⟩
  · clear hE HV
    have hcv : ∀ W : World, (convert 21 9 (.int .i32 r)).run Tryd.prog W = .ok (.string ⟨#[a, b, c]⟩) W := fun W => by
      have h : (convert 21 9 (.int .i32 r)).run Tryd.prog W = .ok (.string (Utf8.encode r)) W := by kernel_rfl
      rw [h, he]
    clear he
    have hne : ((((⟨#[32, 9, 13, 35]⟩ : ByteArray)[2]'(show 2 < 4 by decide)).toNat : Int) != (((⟨#[a, b, c]⟩ : ByteArray)[2]'(show 2 < 3 by decide)).toNat : Int)) = true := bne_iff_ne.2 (by
      show ((13 : UInt8).toNat : Int) ≠ (c.toNat : Int)
      have : (13 : UInt8).toNat = 13 := rfl
      omega)
    have hix : Lib.indexByte [35] ((⟨#[a, b, c]⟩ : ByteArray)[2]'(show 2 < 3 by decide)) = -1 := ix_none c hb [35] (by simp)
    have hwr : IntKind.i64.wrap 3 = 3 := by decide
    go_wp2_with fail
    refine wp_scope_straight ?_
    go_wp2_with fail
    refine wp_loop_once ?_
    go_wp2_with fail
    refine wp_scope_straight ?_
    go_wp2_with fail
    go_region
    go_wp2_with fail
    go_region_with ((go_at_call 34; refine (Tryd.strings_IndexByte _ _ _).mono ?_; rintro e w2 ⟨rfl, rfl⟩))
    all_goals
      go_wp2
      repeat (rw [Exit.noGoto_ret]; try go_wp2)
      go_ret
      exact ⟨rfl, ((Below.refl _ _).drew).drew⟩
  · clear hE HV
    have hcv : ∀ W : World, (convert 21 9 (.int .i32 r)).run Tryd.prog W = .ok (.string ⟨#[a, b, c, d]⟩) W := fun W => by
      have h : (convert 21 9 (.int .i32 r)).run Tryd.prog W = .ok (.string (Utf8.encode r)) W := by kernel_rfl
      rw [h, he]
    clear he
    have hne : ((((⟨#[32, 9, 13, 35]⟩ : ByteArray)[3]'(show 3 < 4 by decide)).toNat : Int) != (((⟨#[a, b, c, d]⟩ : ByteArray)[3]'(show 3 < 4 by decide)).toNat : Int)) = true := bne_iff_ne.2 (by
      show ((35 : UInt8).toNat : Int) ≠ (d.toNat : Int)
      have : (35 : UInt8).toNat = 35 := rfl
      omega)
    have hix : Lib.indexByte [] ((⟨#[a, b, c, d]⟩ : ByteArray)[3]'(show 3 < 4 by decide)) = -1 := ix_none d hb [] (by simp)
    have hwr : IntKind.i64.wrap 4 = 4 := by decide
    go_wp2_with fail
    refine wp_scope_straight ?_
    go_wp2_with fail
    refine wp_loop_once ?_
    go_wp2_with fail
    refine wp_scope_straight ?_
    go_wp2_with fail
    go_region
    go_wp2_with fail
    go_region_with ((go_at_call 34; refine (Tryd.strings_IndexByte _ _ _).mono ?_; rintro e w2 ⟨rfl, rfl⟩))
    all_goals
      go_wp2
      repeat (rw [Exit.noGoto_ret]; try go_wp2)
      go_ret
      exact ⟨rfl, ((Below.refl _ _).drew).drew⟩
theorem decode_hi (s : ByteArray) (pos : Nat) (h : pos < s.size) (hb : 128 ≤ (s.get! pos).toNat) :
    128 ≤ (Utf8.decode s pos).1 ∧ Lib.validRune ((Utf8.decode s pos).1 : Int) = true ∧ 1 ≤ (Utf8.decode s pos).2 ∧ ∀ j, j < (Utf8.decode s pos).2 → pos + j < s.size ∧ 128 ≤ (s.get! (pos + j)).toNat := by
  have hbd : ∀ k, (s.get! (pos + k)).toNat < 256 := fun k => (s.get! (pos + k)).toNat_lt
  have h0 := hbd 0; have h1 := hbd 1; have h2 := hbd 2; have h3 := hbd 3
  have one : ∀ j, j < 1 → pos + j < s.size ∧ 128 ≤ (s.get! (pos + j)).toNat := by
    intro j hj; obtain rfl : j = 0 := by omega
    exact ⟨by omega, hb⟩
  have hz : (s.get! (pos + 0)).toNat = (s.get! pos).toNat := rfl
  have hbad : 128 ≤ Utf8.runeError ∧ Lib.validRune (Utf8.runeError : Int) = true := by decide
  have bad : 128 ≤ Utf8.runeError ∧ Lib.validRune (Utf8.runeError : Int) = true ∧ 1 ≤ 1 ∧ ∀ j, j < 1 → pos + j < s.size ∧ 128 ≤ (s.get! (pos + j)).toNat := ⟨hbad.1, hbad.2, by omega, one⟩
  have val : ∀ c : Nat, Utf8.valid (c : Int) = true → Lib.validRune (c : Int) = true := by
    intro c hc
    unfold Utf8.valid at hc; unfold Lib.validRune
    simp at hc ⊢; omega
  simp only [Utf8.decode]
  rw [if_neg (by omega)]
  split
  · rename_i hc
    simp at hc
    split
    · refine ⟨by omega, val _ ?_, by omega, ?_⟩
      · unfold Utf8.valid; simp; omega
      · intro j hj
        rcases (show j = 0 ∨ j = 1 by omega) with rfl | rfl
        · exact one 0 (by omega)
        · exact ⟨by omega, by omega⟩
    · exact bad
  · split
    · rename_i hc
      simp at hc
      split
      · rename_i hv
        obtain ⟨hv1, hv2⟩ := (Bool.and_eq_true_iff).1 hv
        have hv1 := of_decide_eq_true hv1
        refine ⟨by omega, val _ ?_, by omega, ?_⟩
        · exact hv2
        · intro j hj
          rcases (show j = 0 ∨ j = 1 ∨ j = 2 by omega) with rfl | rfl | rfl
          · exact one 0 (by omega)
          · exact ⟨by omega, by omega⟩
          · exact ⟨by omega, by omega⟩
      · exact bad
    · split
      · rename_i hc
        simp at hc
        split
        · rename_i hv
          obtain ⟨hv1, hv2⟩ := (Bool.and_eq_true_iff).1 hv
          have hv1 := of_decide_eq_true hv1
          refine ⟨by omega, val _ ?_, by omega, ?_⟩
          · exact hv2
          · intro j hj
            rcases (show j = 0 ∨ j = 1 ∨ j = 2 ∨ j = 3 by omega) with rfl | rfl | rfl | rfl
            · exact one 0 (by omega)
            · exact ⟨by omega, by omega⟩
            · exact ⟨by omega, by omega⟩
            · exact ⟨by omega, by omega⟩
        · exact bad
      · exact bad
theorem get_data (s : ByteArray) (i : Nat) (h : i < s.size) : s.data.toList[i]? = some (s.get! i) := by
  have h1 : s.get! i = s.data[i]! := rfl
  rw [h1, Array.getElem!_eq_getD]
  have h2 : i < s.data.size := h
  rw [Array.getElem?_toList, Array.getElem?_eq_getElem h2, Array.getD_eq_getD_getElem?, Array.getElem?_eq_getElem h2]; rfl
theorem noany_skip {s : ByteArray} {i n : Nat} (hi : Lib.NoAny s.data.toList [32, 9, 13, 35] i) (h : ∀ j, j < n → i + j < s.size ∧ 128 ≤ (s.get! (i + j)).toNat) : Lib.NoAny s.data.toList [32, 9, 13, 35] (i + n) := by
  intro j b hj hb
  by_cases e : j < i
  · exact hi j b e hb
  · obtain ⟨h1, h2⟩ := h (j - i) (by omega)
    rw [show i + (j - i) = j by omega] at h1 h2
    rw [get_data s j h1] at hb
    cases hb
    generalize s.get! j = b at h2
    cases hc : [32, 9, 13, 35].contains b with
    | false => rfl
    | true =>
      simp at hc
      rcases hc with rfl | rfl | rfl | rfl <;> simp at h2
set_option maxHeartbeats 2000000 in
set_option maxRecDepth 100000 in
theorem any_short (s : ByteArray) (w : World) (h8 : s.size ≤ 8) :
    Calls Tryd.prog 36 #[.string s, .string ⟨#[32, 9, 13, 35]⟩] w fun e w' => e = .returned (.int .i64 (Lib.indexAny s.data.toList [32, 9, 13, 35])) ∧ Below w.heap.size w w' := by
  have h8z : decide ((8 : Int) < (s.size : Int)) = false := decide_eq_false (by omega)
  go_enter Tryd.func36, Tryd.ntmps36
  go_wp2_with fail
  refine (Tryd.strings_shouldUseASCIISet _ _).mono ?_
  rintro e w' ⟨rfl, rfl⟩
  rw [h8z]
  go_wp2_with fail
  go_loopg [9, 10] s.size (fun g _ _ wx => ∃ i : Nat, i + g = s.size ∧ Aside0 (wx.heap[w'.heap.size]? = some (.stringIter s i)) ∧ Aside0 (Below w'.heap.size w' wx) ∧ Aside0 (Lib.NoAny s.data.toList [32, 9, 13, 35] i))
  case atStart => exact ⟨0, by omega, ⟨World.iter_heap _ _ _⟩, ⟨below_alloc (Below.refl _ _) _⟩, ⟨Lib.NoAny.zero _ _⟩⟩
  case round =>
    obtain ⟨i, hig, HK, HB, HN⟩ := hrel
    by_cases hlt : i < s.size
    · by_cases hb : (s.get! i).toNat < 128
      · have hx : s[i]'hlt = s.get! i := by
          have h1 := get_data s i hlt
          rw [Lib.data_getElem? s i hlt] at h1
          exact Option.some.inj h1
        have hnx := fun ty => Lib.run_next_ascii_at (P := Tryd.prog) wr w'.heap.size s i ty HK.out hlt (by rw [hx]; exact hb)
        rw [hx] at hnx
        have hgd := Aside0.mk (get_data s i hlt)
        clear hx
        generalize s.get! i = x at hb hnx hgd
        have hcon := Lib.contains_iff_indexByte [32, 9, 13, 35] x
        have hback : ((x.toNat : Int)).toNat.toUInt8 = x := by simp
        have hbl := Aside0.mk (Lib.below_iterAt HB.out (Nat.le_refl _) s (i + 1))
        have hit := Aside0.mk (Lib.iterAt_heap wr w'.heap.size s i (i + 1) HK.out)
        cases hin : [32, 9, 13, 35].contains x
        · rw [hin] at hcon
          have hlt : ¬ ((0 : Int) ≤ Lib.indexByte [32, 9, 13, 35] x) := of_decide_eq_false hcon.symm
          have Hcon := Aside0.mk hin
          clear hcon hin
          go_wp2_with fail
          refine (Tryd.strings_IndexRune_ascii _ _ _ (by omega) (by omega)).mono ?_
          rintro e w2 ⟨rfl, rfl⟩
          rw [hback]
          go_wp2
          go_roundg (gk - 1)
          case measure => omega
          case rel => exact ⟨i + 1, by omega, hit, hbl, ⟨HN.out.succ hgd.out Hcon.out⟩⟩
        · rw [hin] at hcon
          have hge : (0 : Int) ≤ Lib.indexByte [32, 9, 13, 35] x := of_decide_eq_true hcon.symm
          have Hcon := Aside0.mk hin
          clear hcon hin
          go_wp2_with fail
          refine (Tryd.strings_IndexRune_ascii _ _ _ (by omega) (by omega)).mono ?_
          rintro e w2 ⟨rfl, rfl⟩
          rw [hback]
          go_wp2
          go_ret
          exact ⟨by rw [Lib.indexAny_hit HN.out hgd.out Hcon.out]; rfl, hbl.out⟩
      · have hnx := fun ty => Lib.run_next_any_at (P := Tryd.prog) wr w'.heap.size s i ty HK.out hlt
        obtain ⟨d1, d2, d3, d4⟩ := decode_hi s i hlt (by omega)
        have d5 : i + (Utf8.decode s i).2 ≤ s.size := by
          have := (d4 ((Utf8.decode s i).2 - 1) (by omega)).1
          omega
        have HN2 := Aside0.mk (noany_skip HN.out d4)
        clear d4
        generalize (Utf8.decode s i).1 = r at hnx d1 d2
        generalize (Utf8.decode s i).2 = n at hnx d3 d5 HN2
        have hbl := Aside0.mk (Lib.below_iterAt HB.out (Nat.le_refl _) s (i + n))
        have hit := Aside0.mk (Lib.iterAt_heap wr w'.heap.size s i (i + n) HK.out)
        have hr : ∀ W, Calls Tryd.prog 45 #[.string ⟨#[32, 9, 13, 35]⟩, .int .i32 r] W fun e w' => e = .returned (.int .i64 (-1)) ∧ Below W.heap.size W w' := by
          intro W
          by_cases e : (r : Int) = 65533
          · rw [e]; exact rune_err W
          · exact rune_hi r (by omega) e d2 W
        have HR := Aside0.mk hr
        clear hr d2 HN
        go_wp2_with fail
        refine (HR.out _).mono ?_
        rintro e w2 ⟨rfl, hb2⟩
        have hsz := Lib.iterAt_size wr w'.heap.size s (i + n)
        have hlt2 : w'.heap.size < wr.heap.size := (Array.getElem?_eq_some_iff.1 HK.out).1
        have hit2 := Aside0.mk ((hb2.block _ (by rw [hsz]; exact hlt2)).trans hit.out)
        have hbl2 := Aside0.mk (hbl.out.trans (hb2.mono (by rw [hsz]; omega)))
        clear hsz hb2 hit hbl
        go_wp2
        go_roundg (gk - n)
        case measure => omega
        case rel => exact ⟨i + n, by omega, hit2, hbl2, HN2⟩
    · obtain rfl : i = s.size := by omega
      have hnx := fun ty => Lib.run_next_end_at (P := Tryd.prog) wr w'.heap.size s s.size ty HK.out (by omega)
      go_wp2
      go_ret
      exact ⟨by rw [Lib.indexAny_none (by rw [← Lib.size_eq]; exact HN.out)]; rfl, HB.out⟩
theorem any_all (s : ByteArray) (w : World) (hs : s.size < 4294967281) :
    Calls Tryd.prog 36 #[.string s, .string ⟨#[32, 9, 13, 35]⟩] w fun e w' => e = .returned (.int .i64 (Lib.indexAny s.data.toList [32, 9, 13, 35])) ∧ Below w.heap.size w w' := by
  by_cases h8 : s.size ≤ 8
  · exact any_short s w h8
  · refine (Tryd.strings_IndexAny_long (fun _ => by kernel_rfl) s ⟨#[32, 9, 13, 35]⟩ w (by decide) (by omega) hs (by decide) ?_).mono ?_
    · intro j b hb
      have hm := List.mem_of_getElem? hb
      simp at hm
      rcases hm with rfl | rfl | rfl | rfl <;> decide
    · rintro e w' ⟨rfl, rfl⟩
      exact ⟨rfl, below_alloc (below_alloc (Below.refl _ _) _) _⟩

theorem anyOk_all (s : ByteArray) : AnyOk s := by
  intro hs i W hi
  exact any_all _ W (by rw [ByteArray.size_extract]; omega)
def secret_Parse.f (a0 : ByteArray) : Option (List S25 × Int × Int) := some (parseE a0)
theorem secret_Parse.calls (a0 : ByteArray) (r1 : List S25) (r2 : Int) (r3 : Int) (w : World) (hG : GW w) (h : secret_Parse.f a0 = some (r1, r2, r3)) :
    Calls Tryd.prog 9 #[.string a0] w fun e w' => ∃ v1_ : Value, e = .returned (.tuple #[v1_, .int .i64 r2, .int .i64 r3]) ∧ Kd.R k25 25 w' w.heap.size (fun _ => True) v1_ r1 ∧ Below w.heap.size w w' := by
  refine (parse_walk a0 w hG (r1, r2, r3) (Option.some.inj h) (fun p _ => anyOk_all p)).mono ?_
  rintro e w' ⟨v, he, hr, hb⟩
  exact ⟨v, he, hr, hb⟩

end Go.Proofs.YtnjnipllflfmeaaDoor.R
