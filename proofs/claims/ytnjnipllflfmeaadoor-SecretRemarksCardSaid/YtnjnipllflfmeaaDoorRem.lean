import Derived.Test.YtnjnipllflfmeaaDoorR6
import Derived.Lib.SplitLaws
namespace Go.Proofs.YtnjnipllflfmeaaDoor.Rem
open Go.Proofs.YtnjnipllflfmeaaDoor.R
open Go.RowKit Go.Proofs.YtnjnipllflfmeaaDoorW.PrintWords Go.Proofs.YtnjnipllflfmeaaDoorW.PrintLast Go.Proofs.YtnjnipllflfmeaaDoorW.PrintMore
set_option linter.unusedVariables false
set_option linter.unusedSimpArgs false
/-! Splitting at one byte, on lists. -/
def pieces (c : UInt8) : List UInt8 → List (List UInt8)
  | [] => [[]]
  | b :: l => if b = c then [] :: pieces c l else match pieces c l with
    | p :: r => (b :: p) :: r
    | [] => [[b]]
theorem pieces_ne (c : UInt8) : ∀ l, pieces c l ≠ []
  | [] => by simp [pieces]
  | b :: l => by
    unfold pieces
    split
    · simp
    · split <;> simp
theorem pieces_none (c : UInt8) : ∀ l : List UInt8, c ∉ l → pieces c l = [l]
  | [], _ => rfl
  | b :: l, h => by
    unfold pieces
    rw [if_neg (fun e => h (by simp [e])), pieces_none c l (fun e => h (by simp [e]))]
theorem pieces_hit (c : UInt8) (b : List UInt8) : ∀ a : List UInt8, c ∉ a → pieces c (a ++ c :: b) = a :: pieces c b
  | [], _ => by simp [pieces]
  | x :: a, h => by
    rw [List.cons_append, show pieces c (x :: (a ++ c :: b)) = (if x = c then [] :: pieces c (a ++ c :: b) else match pieces c (a ++ c :: b) with | p :: r => (x :: p) :: r | [] => [[x]]) from rfl, if_neg (fun e => h (by simp [e])), pieces_hit c b a (fun e => h (by simp [e]))]
theorem index_cases (c : UInt8) : ∀ l : List UInt8, (c ∉ l ∧ Lib.index l [c] = -1) ∨ ∃ a b, l = a ++ c :: b ∧ c ∉ a ∧ Lib.index l [c] = (a.length : Int)
  | [] => .inl ⟨by simp, rfl⟩
  | x :: l => by
    by_cases e : x = c
    · subst e
      exact .inr ⟨[], l, rfl, by simp, by simp [Lib.index]⟩
    · have hp : ([c] : List UInt8).isPrefixOf (x :: l) = false := by simp [List.isPrefixOf, Ne.symm e]
      rcases index_cases c l with ⟨h1, h2⟩ | ⟨a, b, rfl, h1, h2⟩
      · refine .inl ⟨by simp [h1, Ne.symm e], ?_⟩
        unfold Lib.index
        rw [hp, h2]; rfl
      · refine .inr ⟨x :: a, b, rfl, by simp [h1, Ne.symm e], ?_⟩
        unfold Lib.index
        rw [hp, h2]
        simp
theorem data_extract (s : ByteArray) (i j : Nat) : (s.extract i j).data.toList = (s.data.toList.take j).drop i := by
  rw [ByteArray.data_extract, Array.toList_extract, List.extract_eq_take_drop, List.drop_take]
theorem split_pieces (c : UInt8) : ∀ (k : Nat) (s : ByteArray), s.data.toList.count c = k → (Lib.splitB ⟨#[c]⟩ 0 k s).map (·.data.toList) = pieces c s.data.toList
  | k, s, hk => by
    have hi : Lib.indexB s ⟨#[c]⟩ = Lib.index s.data.toList [c] := rfl
    rcases index_cases c s.data.toList with ⟨h1, h2⟩ | ⟨a, b, hs, h1, h2⟩
    · rw [Lib.splitB_miss _ _ _ _ (by rw [hi]; exact h2), pieces_none c _ h1]; rfl
    · cases k with
      | zero =>
        rw [hs] at hk
        simp [List.count_append] at hk
      | succ k =>
        rw [Lib.splitB_hit _ _ _ _ a.length (by rw [hi]; exact h2)]
        have hlen : s.data.toList.length = s.size := by simp
        have e2 : (s.extract (a.length + (⟨#[c]⟩ : ByteArray).size) s.size).data.toList = b := by
          rw [data_extract, List.take_of_length_le (by omega), hs, show (⟨#[c]⟩ : ByteArray).size = 1 from rfl]
          rw [show a ++ c :: b = (a ++ [c]) ++ b by simp, List.drop_append_of_le_length (by simp), List.drop_of_length_le (by simp)]; rfl
        have hk2 : (s.extract (a.length + (⟨#[c]⟩ : ByteArray).size) s.size).data.toList.count c = k := by
          rw [e2]
          rw [hs] at hk
          simp [List.count_append, List.count_eq_zero.2 h1] at hk
          exact hk
        rw [List.map_cons, split_pieces c k _ hk2, e2, hs, pieces_hit c b a h1]
        congr 1
        rw [data_extract, hs]
        simp
theorem linesB_pieces (s : ByteArray) : (linesB s).map (·.data.toList) = pieces 10 s.data.toList := by
  unfold linesB
  refine split_pieces 10 _ s ?_
  show _ = Lib.countB s ⟨#[10]⟩
  exact (Lib.count_one 10 s.data.toList).symm
/-! Words: what stands behind a line. -/
structure Endy (e : List UInt8) : Prop where
  head : e = [] ∨ isSt (e.headD 0) = true
  none : ∀ k acc, e.length < k → wordsF k e acc = some acc
  nl : (10 : UInt8) ∉ e
  len : e.length ≤ 4
theorem endy0 : Endy [] := ⟨.inl rfl, fun k acc h => by obtain ⟨k, rfl⟩ : ∃ m, k = m + 1 := ⟨k - 1, by simp at h; omega⟩; rfl, by simp, by decide⟩
theorem endy1 : Endy [32] := ⟨.inr rfl, fun k acc h => by obtain ⟨k, rfl⟩ : ∃ m, k = m + 1 + 1 := ⟨k - 2, by simp at h; omega⟩; rfl, by decide, by decide⟩
theorem endy2 : Endy [9, 13] := ⟨.inr rfl, fun k acc h => by obtain ⟨k, rfl⟩ : ∃ m, k = m + 1 + 1 + 1 := ⟨k - 3, by simp at h; omega⟩; rfl, by decide, by decide⟩
theorem endy3 : Endy [32, 35, 32, 120] := ⟨.inr rfl, fun k acc h => by obtain ⟨k, rfl⟩ : ∃ m, k = m + 1 + 1 + 1 := ⟨k - 3, by simp at h; omega⟩; rfl, by decide, by decide⟩
theorem qS_end {e : List UInt8} (he : e = [] ∨ isSt (e.headD 0) = true) : ∀ (l : List UInt8) (b : Bool) (acc wd : List UInt8) (m : Nat), qS b acc l = some (wd, m) → qS b acc (l ++ e) = some (wd, m) ∧ m ≤ l.length
  | [], b, acc, wd, m, h => by cases b <;> simp [qS] at h
  | d :: r, true, acc, wd, m, h => by
    rw [List.cons_append]
    unfold qS at h ⊢
    split at h
    · rename_i hd
      rw [if_pos hd]
      obtain ⟨p, hp, hq⟩ := Option.map_eq_some_iff.1 h
      obtain ⟨h1, h2⟩ := qS_end he r false _ p.1 p.2 hp
      rw [h1]
      cases hq
      exact ⟨rfl, by simp; exact h2⟩
    · cases h
  | c :: r, false, acc, wd, m, h => by
    rw [List.cons_append]
    unfold qS at h ⊢
    split at h
    · rename_i hc
      rw [if_pos hc]
      split at h
      · rename_i hr
        cases h
        rw [if_pos ?_]
        · exact ⟨rfl, by simp⟩
        · rcases hr with rfl | hr
          · rw [List.nil_append]; exact he
          · right
            cases r with
            | nil => exact absurd hr (by decide)
            | cons x y => exact hr
      · cases h
    · rename_i hc
      rw [if_neg hc]
      split at h
      · rename_i h2
        rw [if_pos h2]
        obtain ⟨p, hp, hq⟩ := Option.map_eq_some_iff.1 h
        obtain ⟨h1, h2⟩ := qS_end he r true _ p.1 p.2 hp
        rw [h1]
        cases hq
        exact ⟨rfl, by simp; exact h2⟩
      · rename_i h2
        rw [if_neg h2]
        obtain ⟨p, hp, hq⟩ := Option.map_eq_some_iff.1 h
        obtain ⟨h1, h2⟩ := qS_end he r false _ p.1 p.2 hp
        rw [h1]
        cases hq
        exact ⟨rfl, by simp; exact h2⟩
theorem take_end {e : List UInt8} (he : e = [] ∨ isSt (e.headD 0) = true) : ∀ r : List UInt8, (r ++ e).takeWhile (fun b => !isSt b) = r.takeWhile (fun b => !isSt b) ∧ (r ++ e).dropWhile (fun b => !isSt b) = r.dropWhile (fun b => !isSt b) ++ e
  | [] => by
    rcases he with rfl | he
    · exact ⟨rfl, rfl⟩
    · cases e with
      | nil => exact ⟨rfl, rfl⟩
      | cons x y =>
        have hx : isSt x = true := he
        simp [hx]
  | c :: r => by
    obtain ⟨h1, h2⟩ := take_end he r
    cases hc : isSt c
    · simp only [List.cons_append, List.takeWhile_cons, List.dropWhile_cons, hc, Bool.not_false, if_true]
      exact ⟨by rw [h1], h2⟩
    · simp [hc]
theorem words_end {e : List UInt8} (he : Endy e) : ∀ (k : Nat) (l : List UInt8) (acc xs : List ByteArray), wordsF k l acc = some xs → wordsF (k + e.length) (l ++ e) acc = some xs
  | 0, l, acc, xs, h => by cases h
  | k + 1, [], acc, xs, h => by
    cases h
    rw [List.nil_append]
    exact he.none _ _ (by omega)
  | k + 1, c :: r, acc, xs, h => by
    rw [show k + 1 + e.length = (k + e.length) + 1 by omega, List.cons_append]
    unfold wordsF at h ⊢
    obtain ⟨t1, t2⟩ := take_end he.head r
    split at h
    · rename_i h1
      rw [if_pos h1]
      exact words_end he k r acc xs h
    rename_i h1
    rw [if_neg h1]
    split at h
    · rename_i h2
      rw [if_pos h2]
      exact h
    rename_i h2
    rw [if_neg h2]
    split at h
    · rename_i h3
      rw [if_pos h3]
      cases hq : qScan [] r with
      | none => rw [hq] at h; cases h
      | some p =>
        rw [hq] at h
        obtain ⟨q1, q2⟩ := qS_end he.head r false [] p.1 p.2 hq
        rw [show qScan [] (r ++ e) = some (p.1, p.2) from q1]
        show wordsF (k + e.length) ((r ++ e).drop p.2) (acc ++ [mkB p.1]) = some xs
        rw [List.drop_append_of_le_length q2]
        exact words_end he k _ _ xs h
    rename_i h3
    rw [if_neg h3, t1, t2]
    split at h
    · cases h
    · rename_i h4
      rw [if_neg h4]
      exact words_end he k _ _ xs h
/-! Lines. -/
def okL (l : List UInt8) : Prop := (lineE (mkB l)).1 = 0
def secL (l : List UInt8) : List S25 := match (lineE (mkB l)).2 with
  | some x => [toS x]
  | none => []
theorem mkB_list (l : List UInt8) : (mkB l).data.toList = l := by simp [mkB]
theorem mkB_size (l : List UInt8) : (mkB l).size = l.length := by simp [mkB, ByteArray.size]
theorem mkB_of (s : ByteArray) : mkB s.data.toList = s := by simp [mkB]
theorem line_end {e : List UInt8} (he : Endy e) (l : List UInt8) (hl : l.length + 4 ≤ 1024) (h : okL l) : okL (l ++ e) ∧ secL (l ++ e) = secL l := by
  have hlen := he.len
  have hw : lineE (mkB (l ++ e)) = lineE (mkB l) := by
    unfold okL lineE at h
    unfold lineE
    rw [if_neg (by rw [mkB_size, List.length_append]; omega)]
    rw [if_neg (by rw [mkB_size]; omega)] at h ⊢
    rw [mkB_list] at h ⊢
    rw [mkB_list]
    cases hx : wordsE l with
    | none => rw [hx] at h; exact absurd h (by decide)
    | some xs =>
      have := words_end he (l.length + 1) l [] xs hx
      have e2 : wordsE (l ++ e) = some xs := by
        unfold wordsE
        rw [List.length_append, show l.length + e.length + 1 = l.length + 1 + e.length by omega]
        exact this
      rw [e2]
  unfold okL secL
  rw [hw]
  exact ⟨h, rfl⟩
theorem blank_line : lineE (mkB []) = (0, none) ∧ lineE (mkB [35, 32, 97, 32, 34, 114, 101, 109, 97, 114, 107]) = (0, none) ∧ lineE (mkB [32, 9, 13]) = (0, none) := by
  refine ⟨?_, ?_, ?_⟩
  · unfold lineE; rw [if_neg (by decide), mkB_list]; rfl
  · unfold lineE; rw [if_neg (by decide), mkB_list]; rfl
  · unfold lineE; rw [if_neg (by decide), mkB_list]; rfl
/-- The one list of lines reads as the other does. -/
def As (a b : List (List UInt8)) : Prop := (∀ l ∈ a, okL l) → (∀ l ∈ b, okL l) ∧ b.flatMap secL = a.flatMap secL
theorem As.refl (a) : As a a := fun h => ⟨h, rfl⟩
theorem As.cons {x y : List UInt8} {a b : List (List UInt8)} (hx : okL x → okL y ∧ secL y = secL x) (h : As a b) : As (x :: a) (y :: b) := fun hok => by
  obtain ⟨h1, h2⟩ := hx (hok x (by simp))
  obtain ⟨h3, h4⟩ := h (fun l hl => hok l (by simp [hl]))
  refine ⟨fun l hl => ?_, by simp only [List.flatMap_cons, h2, h4]⟩
  rcases List.mem_cons.1 hl with rfl | hl
  · exact h1
  · exact h3 l hl
theorem As.more {y : List UInt8} {a b : List (List UInt8)} (hy : lineE (mkB y) = (0, none)) (h : As a b) : As a (y :: b) := fun hok => by
  obtain ⟨h3, h4⟩ := h hok
  refine ⟨fun l hl => ?_, by rw [List.flatMap_cons, h4, show secL y = [] by unfold secL; rw [hy]]; rfl⟩
  rcases List.mem_cons.1 hl with rfl | hl
  · show (lineE (mkB l)).1 = 0; rw [hy]
  · exact h3 l hl
/-! The text with its remarks, as the law makes it. -/
def linesK : Nat → List UInt8
  | 0 => []
  | 1 => [10]
  | 2 => [35, 32, 97, 32, 34, 114, 101, 109, 97, 114, 107, 10]
  | _ => [32, 9, 13, 10]
def endsK : Nat → List UInt8
  | 0 => []
  | 1 => [32]
  | 2 => [9, 13]
  | _ => [32, 35, 32, 120]
theorem endsK_endy : ∀ k, Endy (endsK k)
  | 0 => endy0
  | 1 => endy1
  | 2 => endy2
  | _ + 3 => endy3
def endsAt (k s : Nat) : List UInt8 := if s + 8 < 1024 then endsK k else []
theorem endsAt_no (k s : Nat) : (10 : UInt8) ∉ endsAt k s := by
  unfold endsAt; split
  · exact (endsK_endy k).nl
  · simp
def G (kk : Nat → Nat) : Bool → Nat → Nat → List UInt8 → List UInt8
  | _, n, s, [] => endsAt (kk n) s
  | st, n, s, c :: r => (if st = true then linesK (kk n) else []) ++ ((if c = 10 then endsAt (kk n) (if st = true then 0 else s) else []) ++ c :: G kk (c == 10) (if st = true then n + 1 else n) ((if st = true then 0 else s) + 1) r)
theorem end_line (k : Nat) (l : List UInt8) (h : okL l) : okL (l ++ endsAt k l.length) ∧ secL (l ++ endsAt k l.length) = secL l := by
  unfold endsAt; split
  · exact line_end (endsK_endy k) l (by omega) h
  · rw [List.append_nil]; exact ⟨h, rfl⟩
theorem G_as (kk : Nat → Nat) : ∀ (r : List UInt8), (∀ P n, (10 : UInt8) ∉ P → As (pieces 10 (P ++ r)) (pieces 10 (P ++ G kk false n P.length r))) ∧ (∀ n s, As (pieces 10 r) (pieces 10 (G kk true n s r)))
  | [] => by
    refine ⟨fun P n hP => ?_, fun n s => ?_⟩
    · rw [List.append_nil, pieces_none 10 P hP, show G kk false n P.length [] = endsAt (kk n) P.length from rfl]
      rw [pieces_none 10 _ (by simp [hP, endsAt_no])]
      exact As.cons (end_line _ _) (As.refl _)
    · rw [show G kk true n s [] = endsAt (kk n) s from rfl, pieces_none 10 _ (endsAt_no _ _), pieces_none 10 _ (by simp)]
      refine As.cons (fun h => ?_) (As.refl _)
      unfold endsAt; split
      · exact line_end (endsK_endy _) [] (by simp) h
      · exact ⟨h, rfl⟩
  | c :: r => by
    obtain ⟨ihA, ihB⟩ := G_as kk r
    refine ⟨fun P n hP => ?_, fun n s => ?_⟩
    · rw [G]
      simp only [Bool.false_eq_true, if_false, List.nil_append]
      by_cases hc : c = 10
      · subst hc
        rw [if_pos rfl, ← List.append_assoc, pieces_hit 10 _ P hP, pieces_hit 10 _ _ (by simp [hP, endsAt_no])]
        exact As.cons (end_line _ _) (ihB n _)
      · rw [if_neg hc, List.nil_append, show (c == 10) = false by simp [hc]]
        have := ihA (P ++ [c]) n (by simp [hP]; exact fun h => hc h.symm)
        simpa using this
    · rw [G]
      simp only [if_true]
      have hY : As (pieces 10 (c :: r)) (pieces 10 ((if c = 10 then endsAt (kk n) 0 else []) ++ c :: G kk (c == 10) (n + 1) (0 + 1) r)) := by
        by_cases hc : c = 10
        · subst hc
          rw [if_pos rfl, pieces_hit 10 _ _ (endsAt_no _ _)]
          have := pieces_hit 10 r [] (by simp)
          rw [List.nil_append] at this
          rw [this]
          refine As.cons (fun h => ?_) (ihB (n + 1) _)
          exact end_line (kk n) [] h
        · rw [if_neg hc, List.nil_append, show (c == 10) = false by simp [hc]]
          have := ihA [c] (n + 1) (by simp; exact fun h => hc h.symm)
          simpa using this
      generalize hYY : ((if c = 10 then endsAt (kk n) 0 else []) ++ c :: G kk (c == 10) (n + 1) (0 + 1) r) = Y at hY ⊢
      match kk n with
      | 0 => exact hY
      | 1 =>
        rw [show linesK 1 ++ Y = [] ++ 10 :: Y from rfl, pieces_hit 10 _ _ (by simp)]
        exact As.more blank_line.1 hY
      | 2 =>
        rw [show linesK 2 ++ Y = [35, 32, 97, 32, 34, 114, 101, 109, 97, 114, 107] ++ 10 :: Y from rfl, pieces_hit 10 _ _ (by decide)]
        exact As.more blank_line.2.1 hY
      | _ + 3 =>
        rw [show ∀ q, linesK (q + 3) ++ Y = [32, 9, 13] ++ 10 :: Y from fun _ => rfl, pieces_hit 10 _ _ (by decide)]
        exact As.more blank_line.2.2 hY
/-! Reading. -/
theorem readG_spec : ∀ (ls : List ByteArray) (i : Nat) (acc : List S25), ((∀ l ∈ ls.map (·.data.toList), okL l) ∧ readG i ls acc = (none, acc ++ (ls.map (·.data.toList)).flatMap secL)) ∨ ∃ j y, y ≠ 0 ∧ readG i ls acc = (some (j, y), []) ∧ ¬ (∀ l ∈ ls.map (·.data.toList), okL l)
  | [], i, acc => .inl ⟨by simp, by simp [readG]⟩
  | s :: r, i, acc => by
    unfold readG
    by_cases h : (lineE s).1 = 0
    · rw [if_pos h]
      have hs : okL s.data.toList := by unfold okL; rw [mkB_of]; exact h
      have hsec : secL s.data.toList = match (lineE s).2 with | some x => [toS x] | none => [] := by unfold secL; rw [mkB_of]
      cases hx : (lineE s).2 with
      | none =>
        rw [hx] at hsec
        rcases readG_spec r (i + 1) acc with ⟨h1, h2⟩ | h2
        · refine .inl ⟨fun l hl => ?_, ?_⟩
          · rcases List.mem_cons.1 hl with rfl | hl
            · exact hs
            · exact h1 l hl
          · simp only [List.map_cons, List.flatMap_cons, hsec, List.nil_append]; exact h2
        · obtain ⟨j, y, hy, h2, h3⟩ := h2
          exact .inr ⟨j, y, hy, h2, fun hh => h3 fun l hl => hh l (List.mem_cons_of_mem _ hl)⟩
      | some x =>
        rw [hx] at hsec
        rcases readG_spec r (i + 1) (acc ++ [toS x]) with ⟨h1, h2⟩ | h2
        · refine .inl ⟨fun l hl => ?_, ?_⟩
          · rcases List.mem_cons.1 hl with rfl | hl
            · exact hs
            · exact h1 l hl
          · simp only [List.map_cons, List.flatMap_cons, hsec]; rw [h2]; simp
        · obtain ⟨j, y, hy, h2, h3⟩ := h2
          exact .inr ⟨j, y, hy, h2, fun hh => h3 fun l hl => hh l (List.mem_cons_of_mem _ hl)⟩
    · rw [if_neg h]
      exact .inr ⟨_, _, h, rfl, fun hh => h (by have := hh s.data.toList (by simp); unfold okL at this; rw [mkB_of] at this; exact this)⟩
theorem parse_as (t u : ByteArray) (out : List S25) (at_ : Int) (h : parseE t = (out, 0, at_)) (hu : u.size ≤ 65536) (has : As (pieces 10 t.data.toList) (pieces 10 u.data.toList)) : parseE u = (out, 0, 0) := by
  unfold parseE at h ⊢
  split at h
  · cases h
  rw [if_neg (by omega)]
  unfold readE at h ⊢
  rcases readG_spec (linesB t) 0 [] with ⟨h1, h2⟩ | ⟨j, y, hy, h2, _⟩
  · rw [h2] at h
    rw [linesB_pieces] at h1 h
    obtain ⟨a1, a2⟩ := has h1
    rcases readG_spec (linesB u) 0 [] with ⟨b1, b2⟩ | ⟨j, y, hy, b2, b3⟩
    · rw [b2, linesB_pieces, a2]
      dsimp only at h ⊢
      split at h
      · cases h
      · rename_i hn
        rw [if_neg hn]
        cases h
        rfl
    · exfalso
      rw [linesB_pieces] at b3
      exact b3 a1
  · rw [h2] at h
    simp only [Prod.mk.injEq] at h
    exact absurd h.2.1 hy
end Go.Proofs.YtnjnipllflfmeaaDoor.Rem
