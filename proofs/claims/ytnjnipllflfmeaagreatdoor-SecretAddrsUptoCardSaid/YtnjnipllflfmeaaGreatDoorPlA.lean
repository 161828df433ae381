import Derived.Test.YtnjnipllflfmeaaGreatDoorA1
import Derived.Test.YtnjnipllflfmeaaGreatDoorA8
import Derived.Lib.SplitLaws
namespace Go.Proofs.YtnjnipllflfmeaaGreatDoor.Pl2
open Go.Proofs.YtnjnipllflfmeaaGreatDoor.A
open Go.RowKit Go.Proofs.YtnjnipllflfmeaaGreatDoorW.PrintWords Go.Proofs.YtnjnipllflfmeaaGreatDoorW.PrintLast Go.Proofs.YtnjnipllflfmeaaGreatDoorW.PrintMore
set_option linter.unusedVariables false
set_option linter.unusedSimpArgs false
/-! Splitting at one byte, on lists. -/
def pieces (c : UInt8) : List UInt8 → List (List UInt8)
  | [] => [[]]
  | b :: l => if b = c then [] :: pieces c l else match pieces c l with
    | p :: r => (b :: p) :: r
    | [] => [[b]]
theorem pieces_ne (c : UInt8) : ∀ l, pieces c l ≠ []
  | [] => by simp [pieces]
  | b :: l => by
    unfold pieces
    split
    · simp
    · split <;> simp
theorem pieces_none (c : UInt8) : ∀ l : List UInt8, c ∉ l → pieces c l = [l]
  | [], _ => rfl
  | b :: l, h => by
    unfold pieces
    rw [if_neg (fun e => h (by simp [e])), pieces_none c l (fun e => h (by simp [e]))]
theorem pieces_hit (c : UInt8) (b : List UInt8) : ∀ a : List UInt8, c ∉ a → pieces c (a ++ c :: b) = a :: pieces c b
  | [], _ => by simp [pieces]
  | x :: a, h => by
    rw [List.cons_append, show pieces c (x :: (a ++ c :: b)) = (if x = c then [] :: pieces c (a ++ c :: b) else match pieces c (a ++ c :: b) with | p :: r => (x :: p) :: r | [] => [[x]]) from rfl, if_neg (fun e => h (by simp [e])), pieces_hit c b a (fun e => h (by simp [e]))]
theorem index_cases (c : UInt8) : ∀ l : List UInt8, (c ∉ l ∧ Lib.index l [c] = -1) ∨ ∃ a b, l = a ++ c :: b ∧ c ∉ a ∧ Lib.index l [c] = (a.length : Int)
  | [] => .inl ⟨by simp, rfl⟩
  | x :: l => by
    by_cases e : x = c
    · subst e
      exact .inr ⟨[], l, rfl, by simp, by simp [Lib.index]⟩
    · have hp : ([c] : List UInt8).isPrefixOf (x :: l) = false := by simp [List.isPrefixOf, Ne.symm e]
      rcases index_cases c l with ⟨h1, h2⟩ | ⟨a, b, rfl, h1, h2⟩
      · refine .inl ⟨by simp [h1, Ne.symm e], ?_⟩
        unfold Lib.index
        rw [hp, h2]; rfl
      · refine .inr ⟨x :: a, b, rfl, by simp [h1, Ne.symm e], ?_⟩
        unfold Lib.index
        rw [hp, h2]
        simp
theorem data_extract (s : ByteArray) (i j : Nat) : (s.extract i j).data.toList = (s.data.toList.take j).drop i := by
  rw [ByteArray.data_extract, Array.toList_extract, List.extract_eq_take_drop, List.drop_take]
theorem split_pieces (c : UInt8) : ∀ (k : Nat) (s : ByteArray), s.data.toList.count c = k → (Lib.splitB ⟨#[c]⟩ 0 k s).map (·.data.toList) = pieces c s.data.toList
  | k, s, hk => by
    have hi : Lib.indexB s ⟨#[c]⟩ = Lib.index s.data.toList [c] := rfl
    rcases index_cases c s.data.toList with ⟨h1, h2⟩ | ⟨a, b, hs, h1, h2⟩
    · rw [Lib.splitB_miss _ _ _ _ (by rw [hi]; exact h2), pieces_none c _ h1]; rfl
    · cases k with
      | zero =>
        rw [hs] at hk
        simp [List.count_append] at hk
      | succ k =>
        rw [Lib.splitB_hit _ _ _ _ a.length (by rw [hi]; exact h2)]
        have hlen : s.data.toList.length = s.size := by simp
        have e2 : (s.extract (a.length + (⟨#[c]⟩ : ByteArray).size) s.size).data.toList = b := by
          rw [data_extract, List.take_of_length_le (by omega), hs, show (⟨#[c]⟩ : ByteArray).size = 1 from rfl]
          rw [show a ++ c :: b = (a ++ [c]) ++ b by simp, List.drop_append_of_le_length (by simp), List.drop_of_length_le (by simp)]; rfl
        have hk2 : (s.extract (a.length + (⟨#[c]⟩ : ByteArray).size) s.size).data.toList.count c = k := by
          rw [e2]
          rw [hs] at hk
          simp [List.count_append, List.count_eq_zero.2 h1] at hk
          exact hk
        rw [List.map_cons, split_pieces c k _ hk2, e2, hs, pieces_hit c b a h1]
        congr 1
        rw [data_extract, hs]
        simp
theorem dots_pieces (s : ByteArray) : (dots s).map (·.data.toList) = pieces 46 s.data.toList := by
  unfold dots
  refine split_pieces 46 _ s ?_
  show _ = Lib.countB s ⟨#[46]⟩
  exact (Lib.count_one 46 s.data.toList).symm
/-! A number's text, as it may be. -/
def dg (b : UInt8) : Bool := decide (48 ≤ b.toNat) && decide (b.toNat ≤ 57)
def val (q : List UInt8) : Int := q.foldl (fun v b => v * 10 + ((b.toNat : Int) - 48)) 0
def good (q : List UInt8) : Bool := decide (1 ≤ q.length) && decide (q.length ≤ 3) && q.all dg && (decide (q.length ≤ 1) || !(q.headD 0 == 48)) && decide (val q ≤ 255)
def pv (q : List UInt8) : Option Int := match Lib.atoiAll q with
  | .ok v => if 0 ≤ v ∧ v ≤ 255 ∧ Lib.itoa v = q then some v else none
  | _ => none
theorem pieceV_pv (p : ByteArray) : pieceV p = pv p.data.toList := rfl
set_option maxRecDepth 100000 in
theorem itoa_good : ∀ n : Fin 256, (good (Lib.itoa (n.val : Int)) && (val (Lib.itoa (n.val : Int)) == (n.val : Int)) && (pv (Lib.itoa (n.val : Int)) == some (n.val : Int))) = true := by decide +kernel
theorem one_text : ∀ a : Fin 10, Lib.itoa (a.val : Int) = [UInt8.ofNat (48 + a.val)] := by decide +kernel
theorem two_text : ∀ a b : Fin 10, a.val = 0 ∨ Lib.itoa (10 * a.val + b.val : Int) = [UInt8.ofNat (48 + a.val), UInt8.ofNat (48 + b.val)] := by decide +kernel
theorem three_text : ∀ a b c : Fin 10, a.val = 0 ∨ Lib.itoa (100 * a.val + 10 * b.val + c.val : Int) = [UInt8.ofNat (48 + a.val), UInt8.ofNat (48 + b.val), UInt8.ofNat (48 + c.val)] := by decide +kernel
theorem dg_fin {b : UInt8} (h : dg b = true) : ∃ a : Fin 10, b = UInt8.ofNat (48 + a.val) ∧ (b.toNat : Int) - 48 = (a.val : Int) := by
  unfold dg at h
  simp at h
  refine ⟨⟨b.toNat - 48, by omega⟩, ?_, by simp; omega⟩
  rw [show 48 + (b.toNat - 48) = b.toNat by omega]
  simp
theorem good_text {q : List UInt8} (h : good q = true) : Lib.itoa (val q) = q ∧ 0 ≤ val q ∧ val q ≤ 255 := by
  unfold good at h
  simp only [Bool.and_eq_true, decide_eq_true_eq, Bool.or_eq_true] at h
  obtain ⟨⟨⟨⟨h1, h2⟩, h3⟩, h4⟩, h5⟩ := h
  match q, h1, h2 with
  | [a], _, _ =>
    simp at h3
    obtain ⟨x, rfl, hx⟩ := dg_fin h3
    have e : val [UInt8.ofNat (48 + x.val)] = (x.val : Int) := by simp only [val, List.foldl]; omega
    rw [e] at h5 ⊢
    exact ⟨one_text x, by omega, h5⟩
  | [a, b], _, _ =>
    simp at h3
    obtain ⟨x, rfl, hx⟩ := dg_fin h3.1
    obtain ⟨y, rfl, hy⟩ := dg_fin h3.2
    have e : val [UInt8.ofNat (48 + x.val), UInt8.ofNat (48 + y.val)] = 10 * (x.val : Int) + y.val := by simp only [val, List.foldl]; omega
    have hx0 : x.val ≠ 0 := by
      intro e0
      rcases h4 with h4 | h4
      · simp at h4
      · rw [e0] at h4; simp at h4
    rw [e] at h5 ⊢
    exact ⟨(two_text x y).resolve_left hx0, by omega, h5⟩
  | [a, b, c], _, _ =>
    simp at h3
    obtain ⟨x, rfl, hx⟩ := dg_fin h3.1
    obtain ⟨y, rfl, hy⟩ := dg_fin h3.2.1
    obtain ⟨z, rfl, hz⟩ := dg_fin h3.2.2
    have e : val [UInt8.ofNat (48 + x.val), UInt8.ofNat (48 + y.val), UInt8.ofNat (48 + z.val)] = 100 * (x.val : Int) + 10 * y.val + z.val := by simp only [val, List.foldl]; omega
    have hx0 : x.val ≠ 0 := by
      intro e0
      rcases h4 with h4 | h4
      · simp at h4
      · rw [e0] at h4; simp at h4
    rw [e] at h5 ⊢
    exact ⟨(three_text x y z).resolve_left hx0, by omega, h5⟩
  | [], h1, _ => simp at h1
  | _ :: _ :: _ :: _ :: _, _, h2 => simp at h2
theorem itoa_all {v : Int} (h0 : 0 ≤ v) (h1 : v ≤ 255) : good (Lib.itoa v) = true ∧ val (Lib.itoa v) = v ∧ pv (Lib.itoa v) = some v := by
  obtain ⟨n, rfl⟩ := Int.eq_ofNat_of_zero_le h0
  have h := itoa_good ⟨n, by omega⟩
  simp only [Bool.and_eq_true, beq_iff_eq] at h
  exact ⟨h.1.1, h.1.2, h.2⟩
theorem pv_good (q : List UInt8) : pv q = if good q = true then some (val q) else none := by
  by_cases hg : good q = true
  · rw [if_pos hg]
    obtain ⟨h1, h2, h3⟩ := good_text hg
    have := (itoa_all h2 h3).2.2
    rw [h1] at this
    exact this
  · rw [if_neg hg]
    cases hp : pv q with
    | none => rfl
    | some v =>
      exfalso
      unfold pv at hp
      split at hp
      · split at hp
        · rename_i hc
          obtain ⟨c0, c1, c2⟩ := hc
          have := (itoa_all c0 c1).1
          rw [c2] at this
          exact hg this
        · cases hp
      · cases hp
/-! The scan, part by part. -/
def addrL : Int → List (List UInt8) → Option Int
  | n, [] => some n
  | n, p :: r => if good p = true then addrL (n * 256 + val p) r else none
theorem addrGo_L : ∀ (l : List ByteArray) (n : Int), addrGo n l = addrL n (l.map (·.data.toList))
  | [], n => rfl
  | p :: r, n => by
    rw [addrGo, pieceV_pv, pv_good, List.map_cons, addrL]
    by_cases h : good p.data.toList = true
    · rw [if_pos h, if_pos h]; exact addrGo_L r _
    · rw [if_neg h, if_neg h]
def told (d : Nat) (n : Int) (ps : List (List UInt8)) : Int × Int := if ps.length = d then (match addrL n ps with | some v => (v, 0) | none => (0, 150)) else (0, 150)
theorem addrE_told (s : ByteArray) : addrE s = told 4 0 (pieces 46 s.data.toList) := by
  unfold addrE told
  rw [← dots_pieces, List.length_map, addrGo_L]
  by_cases h : (dots s).length = 4
  · rw [if_pos h, if_pos h]
    cases addrL 0 (List.map (fun x => x.data.toList) (dots s)) <;> rfl
  · rw [if_neg h, if_neg h]
theorem told_cons (d : Nat) (n : Int) (p : List UInt8) (ps : List (List UInt8)) : told (d + 1) n (p :: ps) = if good p = true then told d (n * 256 + val p) ps else (0, 150) := by
  unfold told
  by_cases hl : ps.length = d
  · rw [if_pos (by simp [hl]), addrL]
    by_cases h : good p = true
    · rw [if_pos h, if_pos h, if_pos hl]
    · rw [if_neg h, if_neg h]
  · rw [if_neg (by simp; exact hl), if_neg hl]; simp
theorem told_nil (n : Int) : told 0 n [] = (n, 0) := rfl
theorem bt_get (s : ByteArray) (i : Nat) (b : UInt8) (r : List UInt8) (h : s.data.toList.drop i = b :: r) : i < s.size ∧ bt s (i : Int) = (b.toNat : Int) ∧ s.data.toList.drop (i + 1) = r := by
  have hlen : s.data.toList.length = s.size := by simp
  have hl : i < s.size := by
    have := congrArg List.length h
    rw [List.length_drop] at this; simp at this; omega
  rw [List.drop_eq_getElem_cons (by omega)] at h
  injection h with h1 h2
  refine ⟨hl, ?_, h2⟩
  unfold bt
  rw [Int.toNat_natCast, dif_pos hl, ← h1]
  rfl
theorem at_end (s : ByteArray) (i : Nat) (hi : i ≤ s.size) (h : s.data.toList.drop i = []) : i = s.size := by
  have hlen : s.data.toList.length = s.size := by simp
  have := congrArg List.length h
  rw [List.length_drop] at this; simp at this; omega
theorem w1 {i : Int} (h0 : 0 ≤ i) (h : i ≤ 1099511627776) : wrap64 (i + 1) = i + 1 := by unfold wrap64; omega
theorem tw_all : ∀ l : List UInt8, l.all dg = true → l.takeWhile dg = l
  | [], _ => rfl
  | a :: l, h => by
    rw [List.all_cons, Bool.and_eq_true] at h
    rw [List.takeWhile_cons, if_pos h.1, tw_all l h.2]
/-- The digits at the beginning, three at the most. -/
def run (l : List UInt8) : List UInt8 := (l.take 3).takeWhile dg
theorem l1_run (s : ByteArray) (hn : s.size ≤ 1099511627776) (parts n : Int) (f : Nat) : ∀ (t : Nat) (k : Nat) (pre l : List UInt8), pre.length + t = 3 → t < k → s.data.toList.drop f = pre ++ l → pre.all dg = true → f ≤ s.size →
    ∃ k', k ≤ k' + t + 1 ∧ tetherref06_Addr.l1 k s parts n (f : Int) ((f + pre.length : Nat) : Int) (val pre) = tetherref06_Addr.j2 k' s parts n (f : Int) ((f + (run (pre ++ l)).length : Nat) : Int) (val (run (pre ++ l)))
  | t, k, pre, l, ht, hk, hd, hp, hf => by
    obtain ⟨k, rfl⟩ : ∃ m, k = m + 1 := ⟨k - 1, by omega⟩
    have hlen : s.data.toList.length = s.size := by simp
    have htw : pre.takeWhile dg = pre := tw_all pre hp
    have hdl : s.data.toList.drop (f + pre.length) = l := by
      rw [← List.drop_drop, hd, List.drop_left]
    have hvb : 0 ≤ val pre ∧ val pre < 1000 := by
      match pre, ht, hp with
      | [], _, _ => simp [val]
      | [a], _, hp => simp at hp; obtain ⟨x, rfl, hx⟩ := dg_fin hp; have := x.isLt; simp only [val, List.foldl]; omega
      | [a, b], _, hp => simp at hp; obtain ⟨x, rfl, hx⟩ := dg_fin hp.1; obtain ⟨y, rfl, hy⟩ := dg_fin hp.2; have := x.isLt; have := y.isLt; simp only [val, List.foldl]; omega
      | [a, b, c], _, hp => simp at hp; obtain ⟨x, rfl, hx⟩ := dg_fin hp.1; obtain ⟨y, rfl, hy⟩ := dg_fin hp.2.1; obtain ⟨z, rfl, hz⟩ := dg_fin hp.2.2; have := x.isLt; have := y.isLt; have := z.isLt; simp only [val, List.foldl]; omega
      | _ :: _ :: _ :: _ :: _, ht, _ => simp at ht; omega
    have stop : (run (pre ++ l) = pre) → ∃ k', k + 1 ≤ k' + t + 1 ∧ tetherref06_Addr.j2 k s parts n (f : Int) ((f + pre.length : Nat) : Int) (val pre) = tetherref06_Addr.j2 k' s parts n (f : Int) ((f + (run (pre ++ l)).length : Nat) : Int) (val (run (pre ++ l))) := by
      intro e
      rw [e]
      exact ⟨k, by omega, rfl⟩
    rw [tetherref06_Addr.l1]
    cases l with
    | nil =>
      have he := at_end s (f + pre.length) (by
        have := congrArg List.length hd
        rw [List.length_drop] at this; simp at this; omega) hdl
      rw [if_neg (by omega)]
      exact stop (by unfold run; rw [List.append_nil, List.take_of_length_le (by omega), htw])
    | cons b r =>
      obtain ⟨h1, h2, h3⟩ := bt_get s (f + pre.length) b r hdl
      rw [if_pos (by omega), if_pos (by omega), h2]
      have hb := b.toNat_lt
      by_cases hdb : dg b = true
      · have hdb2 := hdb
        unfold dg at hdb2
        simp at hdb2
        rw [if_pos (by omega), if_pos (by omega)]
        have hwd : wrap64 (((f + pre.length : Nat) : Int) - (f : Int)) = (pre.length : Int) := by unfold wrap64; omega
        rw [hwd]
        by_cases ht0 : pre.length < 3
        · rw [if_pos (by omega)]
          have hv : wrap64 (wrap64 (val pre * 10) + ((b.toNat : Int) - 48) % 256) = val (pre ++ [b]) := by
            unfold val at hvb ⊢
            rw [List.foldl_append]
            simp only [List.foldl]
            unfold wrap64
            omega
          have hw := w1 (i := ((f + pre.length : Nat) : Int)) (by omega) (by omega)
          rw [hw, hv]
          obtain ⟨k', hk', e⟩ := l1_run s hn parts n f (t - 1) k (pre ++ [b]) r (by simp; omega) (by omega) (by rw [hd]; simp) (by rw [List.all_append, hp]; simp [hdb]) hf
          refine ⟨k', by omega, ?_⟩
          rw [show pre ++ b :: r = (pre ++ [b]) ++ r by simp, ← e]
          congr 1
          simp; omega
        · rw [if_neg (by omega)]
          exact stop (by unfold run; rw [List.take_append_of_le_length (by omega), List.take_of_length_le (by omega), htw])
      · have hst : run (pre ++ b :: r) = pre := by
          unfold run
          by_cases ht0 : pre.length < 3
          · rw [List.take_append, List.take_of_length_le (by omega)]
            obtain ⟨m, hm⟩ : ∃ m, 3 - pre.length = m + 1 := ⟨2 - pre.length, by omega⟩
            rw [hm, List.take_succ_cons, List.takeWhile_append_of_pos (fun x hx => List.all_eq_true.1 hp x hx), List.takeWhile_cons, if_neg hdb, List.append_nil]
          · rw [List.take_append_of_le_length (by omega), List.take_of_length_le (by omega), htw]
        have hdb2 : ¬ (48 ≤ b.toNat ∧ b.toNat ≤ 57) := by
          intro e; apply hdb; unfold dg; simp [e.1, e.2]
        by_cases g1 : (b.toNat : Int) ≥ 48
        · rw [if_pos g1, if_neg (by omega)]; exact stop hst
        · rw [if_neg g1]; exact stop hst
termination_by t => t
theorem tw_is : ∀ l : List UInt8, (l.takeWhile dg).all dg = true
  | [] => rfl
  | a :: l => by
    rw [List.takeWhile_cons]
    by_cases h : dg a = true
    · rw [if_pos h, List.all_cons, h, tw_is l]; rfl
    · rw [if_neg h]; rfl
theorem run_split (l : List UInt8) : ∃ l2, l = run l ++ l2 ∧ (run l).all dg = true ∧ (run l).length ≤ 3 := by
  have h : run l <+: l := List.IsPrefix.trans (List.takeWhile_prefix _) (List.take_prefix 3 l)
  obtain ⟨t, ht⟩ := h
  refine ⟨t, ht.symm, tw_is _, ?_⟩
  unfold run
  refine Nat.le_trans (List.Sublist.length_le (List.takeWhile_sublist _)) ?_
  rw [List.length_take]; omega
theorem not46 {q : List UInt8} (h : q.all dg = true) : (46 : UInt8) ∉ q := by
  intro hm
  have := List.all_eq_true.1 h 46 hm
  revert this; decide
theorem run_eq {p l2 : List UInt8} (h : good p = true) (h2 : l2 = [] ∨ ∃ r, l2 = 46 :: r) : run (p ++ l2) = p := by
  unfold good at h
  simp only [Bool.and_eq_true, decide_eq_true_eq] at h
  obtain ⟨⟨⟨⟨h1, hl⟩, h3⟩, h4⟩, h5⟩ := h
  unfold run
  rw [List.take_append, List.take_of_length_le hl, List.takeWhile_append_of_pos (fun x hx => List.all_eq_true.1 h3 x hx)]
  rcases h2 with rfl | ⟨r, rfl⟩
  · simp
  · cases hm : 3 - p.length with
    | zero => simp
    | succ m => rw [List.take_succ_cons, List.takeWhile_cons, if_neg (by decide), List.append_nil]
/-- What comes behind a number. -/
def rest (s : ByteArray) (k : Nat) (parts n : Int) (e : Int) (v : Int) : Option (Int × Int) :=
  if parts + 1 = 4 then (if e = (s.size : Int) then some (n * 256 + v, 0) else some (0, 150)) else if e ≥ (s.size : Int) then some (0, 150) else if bt s e = 46 then tetherref06_Addr.l0 k s (parts + 1) (n * 256 + v) (e + 1) else some (0, 150)
theorem j2_eq (s : ByteArray) (hn : s.size ≤ 1099511627776) (parts n : Int) (hp : 0 ≤ parts ∧ parts ≤ 3) (hnb : 0 ≤ n ∧ n ≤ 1099511627776) (f k : Nat) (l : List UInt8) (hd : s.data.toList.drop f = l) (hf : f ≤ s.size) :
    tetherref06_Addr.j2 (k + 2) s parts n (f : Int) ((f + (run l).length : Nat) : Int) (val (run l)) = if good (run l) = true then rest s k parts n ((f + (run l).length : Nat) : Int) (val (run l)) else some (0, 150) := by
  obtain ⟨l2, hl, hall, hlen3⟩ := run_split l
  have hlen : s.data.toList.length = s.size := by simp
  have hle : f + (run l).length ≤ s.size := by
    have h1 := congrArg List.length hd
    have h2 := congrArg List.length hl
    rw [List.length_drop] at h1
    rw [List.length_append] at h2
    omega
  generalize run l = q at *
  have hvb : 0 ≤ val q ∧ val q < 1000 := by
    match q, hlen3, hall with
    | [], _, _ => simp [val]
    | [a], _, hp => simp at hp; obtain ⟨x, rfl, hx⟩ := dg_fin hp; have := x.isLt; simp only [val, List.foldl]; omega
    | [a, b], _, hp => simp at hp; obtain ⟨x, rfl, hx⟩ := dg_fin hp.1; obtain ⟨y, rfl, hy⟩ := dg_fin hp.2; have := x.isLt; have := y.isLt; simp only [val, List.foldl]; omega
    | [a, b, c], _, hp => simp at hp; obtain ⟨x, rfl, hx⟩ := dg_fin hp.1; obtain ⟨y, rfl, hy⟩ := dg_fin hp.2.1; obtain ⟨z, rfl, hz⟩ := dg_fin hp.2.2; have := x.isLt; have := y.isLt; have := z.isLt; simp only [val, List.foldl]; omega
    | _ :: _ :: _ :: _ :: _, ht, _ => simp at ht
  have jt : tetherref06_Addr.j3 (k + 1) s parts n ((f + q.length : Nat) : Int) (val q) true = some (0, 150) := by rw [tetherref06_Addr.j3, if_pos rfl]
  have jf : val q ≤ 255 → tetherref06_Addr.j3 (k + 1) s parts n ((f + q.length : Nat) : Int) (val q) false = rest s k parts n ((f + q.length : Nat) : Int) (val q) := by
    intro hv
    have e1 : wrap64 (parts + 1) = parts + 1 := w1 hp.1 (by omega)
    have e2 : wrap64 (wrap64 (n * 256) + val q) = n * 256 + val q := by unfold wrap64; omega
    have e3 : wrap64 (((f + q.length : Nat) : Int) + 1) = ((f + q.length : Nat) : Int) + 1 := w1 (by omega) (by omega)
    rw [tetherref06_Addr.j3, if_neg (by simp), e1, e2, e3]
    unfold rest
    by_cases h4 : parts + 1 = 4
    · rw [if_pos h4, if_pos h4]
    · rw [if_neg h4, if_neg h4]
      by_cases h5 : ((f + q.length : Nat) : Int) ≥ (s.size : Int)
      · rw [if_pos h5, if_pos h5]
      · rw [if_neg h5, if_neg h5, if_pos (by omega), if_pos (by omega)]
  rw [tetherref06_Addr.j2]
  unfold good
  rw [hall, decide_eq_true hlen3]
  by_cases h0 : q = []
  · rw [if_pos (by rw [h0]; rfl), jt, h0]; rfl
  · have hq1 : 1 ≤ q.length := List.length_pos_iff.2 h0
    rw [if_neg (by omega), decide_eq_true hq1]
    by_cases hv : val q > 255
    · rw [if_pos hv, jt, decide_eq_false (show ¬ val q ≤ 255 by omega)]; simp
    · rw [if_neg hv, decide_eq_true (by omega : val q ≤ 255)]
      have hwd : wrap64 (((f + q.length : Nat) : Int) - (f : Int)) = (q.length : Int) := by unfold wrap64; omega
      rw [hwd]
      by_cases h1 : (q.length : Int) > 1
      · obtain ⟨b, r, rfl⟩ : ∃ b r, q = b :: r := by
          cases q with
          | nil => exact absurd rfl h0
          | cons b r => exact ⟨b, r, rfl⟩
        obtain ⟨g1, g2, _⟩ := bt_get s f b (r ++ l2) (by rw [hd, hl]; rfl)
        rw [if_pos h1, if_pos (by omega), if_pos (by omega), g2, decide_eq_false (by omega : ¬ (b :: r).length ≤ 1)]
        by_cases hb : b = 48
        · subst hb
          rw [show (((48 : UInt8).toNat : Int) == 48) = true from rfl, jt]; simp
        · have hb2 : ((b.toNat : Int) == 48) = false := beq_eq_false_iff_ne.2 (fun e => hb (UInt8.toNat_inj.1 (by show b.toNat = 48; omega)))
          rw [hb2, jf (by omega)]
          simp [hb]
      · rw [if_neg h1, jf (by omega), decide_eq_true (by omega : q.length ≤ 1)]; simp
theorem ref_scan (s : ByteArray) (hn : s.size ≤ 1099511627776) : ∀ (d k : Nat) (n : Int) (f : Nat), d ≤ 3 → 10 * d + 10 ≤ k → f ≤ s.size → 0 ≤ n → n ≤ 1099511627776 / 1024 ^ d →
    tetherref06_Addr.l0 k s (3 - d : Int) n (f : Int) = some (told (d + 1) n (pieces 46 (s.data.toList.drop f)))
  | d, k, n, f, hd3, hk, hf, h0, hnb => by
    have hlen : s.data.toList.length = s.size := by simp
    have hnb2 : n ≤ 1099511627776 := by
      have : (1099511627776 : Int) / 1024 ^ d ≤ 1099511627776 := Int.ediv_le_self _ (by decide)
      omega
    obtain ⟨k, rfl⟩ : ∃ m, k = m + 1 := ⟨k - 1, by omega⟩
    rw [tetherref06_Addr.l0]
    obtain ⟨k', hk', e⟩ := l1_run s hn (3 - d : Int) n f 3 k [] (s.data.toList.drop f) rfl (by omega) rfl rfl hf
    obtain ⟨k2, rfl⟩ : ∃ m, k' = m + 2 := ⟨k' - 2, by omega⟩
    have e' := e.trans (j2_eq s hn (3 - d : Int) n (by omega) ⟨h0, hnb2⟩ f k2 (s.data.toList.drop f) rfl hf)
    refine Eq.trans (by exact e') ?_
    clear e e'
    generalize hl : s.data.toList.drop f = l
    have hll : l.length = s.size - f := by rw [← hl, List.length_drop, hlen]
    rcases index_cases 46 l with ⟨hm, _⟩ | ⟨a, b, rfl, hm, _⟩
    · rw [pieces_none 46 l hm, told_cons]
      by_cases hg : good l = true
      · have hr : run l = l := by have := run_eq (p := l) (l2 := []) hg (.inl rfl); rwa [List.append_nil] at this
        rw [hr, if_pos hg, if_pos hg]
        unfold rest
        cases d with
        | zero => rw [if_pos (by simp), if_pos (by omega)]; rfl
        | succ d =>
          rw [if_neg (by omega), if_pos (by omega)]
          unfold told
          rw [if_neg (by simp)]
      · rw [if_neg hg]
        by_cases hq : good (run l) = true
        · rw [if_pos hq]
          obtain ⟨l2, hl2, hall, _⟩ := run_split l
          generalize run l = q at *
          cases l2 with
          | nil => rw [List.append_nil] at hl2; rw [← hl2] at hq; exact absurd hq hg
          | cons x r =>
            have hx : x ≠ 46 := fun e => hm (by rw [hl2, e]; simp)
            have hdr : s.data.toList.drop (f + q.length) = x :: r := by rw [← List.drop_drop, hl, hl2, List.drop_left]
            obtain ⟨g1, g2, _⟩ := bt_get s _ x r hdr
            unfold rest
            rw [g2]
            have hx2 : ¬ (x.toNat : Int) = 46 := fun e => hx (UInt8.toNat_inj.1 (by show x.toNat = 46; omega))
            rw [if_neg hx2]
            split
            · rw [if_neg (by omega)]
            · split <;> rfl
        · rw [if_neg hq]
    · rw [pieces_hit 46 b a hm, told_cons]
      by_cases hg : good a = true
      · have hr : run (a ++ 46 :: b) = a := run_eq hg (.inr ⟨b, rfl⟩)
        rw [hr, if_pos hg, if_pos hg]
        have hdr : s.data.toList.drop (f + a.length) = 46 :: b := by rw [← List.drop_drop, hl, List.drop_left]
        obtain ⟨g1, g2, g3⟩ := bt_get s _ 46 b hdr
        have hv := good_text hg
        unfold rest
        cases d with
        | zero =>
          rw [if_pos (by simp), if_neg (by omega)]
          unfold told
          rw [if_neg (by have := List.length_pos_iff.2 (pieces_ne 46 b); omega)]
        | succ d =>
          rw [if_neg (by omega), if_neg (by omega), g2, if_pos (by rfl)]
          have hb2 : n * 256 + val a ≤ 1099511627776 / 1024 ^ d := by
            have hc : d = 0 ∨ d = 1 ∨ d = 2 := by omega
            rcases hc with rfl | rfl | rfl <;> simp at hnb ⊢ <;> omega
          have ih := ref_scan s hn d k2 (n * 256 + val a) (f + a.length + 1) (by omega) (by omega) (by omega) (by omega) hb2
          rw [g3] at ih
          rw [← ih]
          congr 1
          omega
      · rw [if_neg hg]
        by_cases hq : good (run (a ++ 46 :: b)) = true
        · rw [if_pos hq]
          obtain ⟨l2, hl2, hall, _⟩ := run_split (a ++ 46 :: b)
          generalize run (a ++ 46 :: b) = q at *
          have hq46 := not46 hall
          cases l2 with
          | nil => rw [List.append_nil] at hl2; exact absurd (by rw [← hl2]; simp) hq46
          | cons x r =>
            have hx : x ≠ 46 := by
              rintro rfl
              have h1 := pieces_hit 46 b a hm
              have h2 := pieces_hit 46 r q hq46
              rw [hl2, h2] at h1
              injection h1 with h1 _
              rw [h1] at hq
              exact hg hq
            have hdr : s.data.toList.drop (f + q.length) = x :: r := by rw [← List.drop_drop, hl, hl2, List.drop_left]
            obtain ⟨g1, g2, _⟩ := bt_get s _ x r hdr
            unfold rest
            rw [g2]
            have hx2 : ¬ (x.toNat : Int) = 46 := fun e => hx (UInt8.toNat_inj.1 (by show x.toNat = 46; omega))
            rw [if_neg hx2]
            split
            · rw [if_neg (by omega)]
            · split <;> rfl
        · rw [if_neg hq]
termination_by d => d
theorem ref_addr (s : ByteArray) (hn : s.size ≤ 1099511627776) (k : Nat) (hk : 40 ≤ k) : tetherref06_Addr.f k s = some (addrE s) := by
  rw [addrE_told]
  exact ref_scan s hn 3 k 0 0 (by omega) (by omega) (by omega) (by omega) (by decide)
end Go.Proofs.YtnjnipllflfmeaaGreatDoor.Pl2
