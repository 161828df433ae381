
import Derived.Test.YtnjnipllflfmeaaDoorY
/-! The plain law of SecretBest. -/
namespace Go.Proofs.YtnjnipllflfmeaaDoor.Best
open Go.Proofs.YtnjnipllflfmeaaDoor.Y
open Go.RowKit Go.Proofs.YtnjnipllflfmeaaDoorW.PrintWords Go.Proofs.YtnjnipllflfmeaaDoorW.PrintLast Go.Proofs.YtnjnipllflfmeaaDoorW.PrintMore
set_option linter.unusedVariables false
set_option linter.unusedSimpArgs false

set_option maxRecDepth 1000000 in
theorem awake_200 : tetherlaw06_awake.f 200 = some true := by decide +kernel
theorem awake_true : ∀ n, tetherlaw06_awake.f (200 + n) = some true
  | 0 => awake_200
  | n + 1 => tetherlaw06_awake.mono (200 + n) true (awake_true n)

abbrev Sx := S25
def hit (c s : ByteArray) (x : Sx) : Prop := ¬ c.toList = ([42] : List UInt8) ∧ ¬ s.toList = ([42] : List UInt8) ∧ (x.f0.toList = c.toList ∨ x.f0.toList = ([42] : List UInt8)) ∧ (x.f1.toList = s.toList ∨ x.f1.toList = ([42] : List UInt8)) ∧ rightE x.f0 x.f1 x.f2 x.f3 = 0
instance (c s : ByteArray) (x : Sx) : Decidable (hit c s x) := by unfold hit; infer_instance
def rk (c s : ByteArray) (x : Sx) : Int := (if x.f0.toList = c.toList then 2 else 0) + (if x.f1.toList = s.toList then 1 else 0)
def stp (c s : ByteArray) (p : Int × Int) (i : Int) (x : Sx) : Int × Int := if hit c s x then (if rk c s x > p.1 then (rk c s x, i) else p) else p
def fld (c s : ByteArray) : List Sx → Int → Int × Int → Int × Int
  | [], _, p => p
  | x :: r, i, p => fld c s r (i + 1) (stp c s p i x)
def fin (xs : List Sx) (p : Int × Int) : Option (ByteArray × ByteArray × ByteArray × List Int × Bool) :=
  if p.1 < 0 then (some ((⟨#[]⟩ : ByteArray), (⟨#[]⟩ : ByteArray), (⟨#[]⟩ : ByteArray), ([] : List Int), false)) else (if 0 ≤ p.2 then (if p.2 < (xs.length : Int) then ((secret_own.f ((rd_T25 xs p.2).f0) ((rd_T25 xs p.2).f1) ((rd_T25 xs p.2).f2) ((rd_T25 xs p.2).f3)).bind fun bt103 => (some (bt103.1, bt103.2.1, bt103.2.2.1, bt103.2.2.2, true))) else (none)) else (none))

theorem wrap_small {i : Int} (h0 : 0 ≤ i) (h : i ≤ 1099511627776) : wrap64 (i + 1) = i + 1 := by unfold wrap64; omega
theorem rd_drop (xs : List Sx) (i : Nat) (x : Sx) (r : List Sx) (h : xs.drop i = x :: r) : rd_T25 xs (i : Int) = x ∧ i < xs.length ∧ xs.drop (i + 1) = r := by
  have hl : i < xs.length := by
    have := congrArg List.length h
    rw [List.length_drop] at this; simp at this; omega
  rw [List.drop_eq_getElem_cons hl] at h
  injection h with h1 h2
  refine ⟨?_, hl, h2⟩
  unfold rd_T25
  rw [Int.toNat_natCast, List.getD_eq_getElem?_getD, List.getElem?_eq_getElem hl, h1]; rfl

theorem find_l0 (xs : List Sx) (c s : ByteArray) (hn : xs.length ≤ 1099511627776) : ∀ (r : List Sx) (k i : Nat) (p : Int × Int), xs.drop i = r → i ≤ xs.length → 3 * r.length < k →
    secret_Find.l0 k xs c s p.1 p.2 xs (xs.length : Int) (i : Int) = fin xs (fld c s r i p)
  | [], k, i, p, hd, hi, hk => by
    obtain ⟨k, rfl⟩ : ∃ m, k = m + 1 := ⟨k - 1, by omega⟩
    have hl : xs.length ≤ i := by
      have := congrArg List.length hd
      rw [List.length_drop] at this; simp at this; omega
    simp only [secret_Find.l0]
    rw [if_neg (by omega)]
    rfl
  | x :: r, k, i, p, hd, hi, hk => by
    obtain ⟨hx, hl, hd2⟩ := rd_drop xs i x r hd
    simp only [List.length_cons] at hk
    obtain ⟨k, rfl⟩ : ∃ m, k = m + 3 := ⟨k - 3, by omega⟩
    have hw : wrap64 ((i : Int) + 1) = ((i + 1 : Nat) : Int) := by rw [wrap_small (by omega) (by omega)]; rfl
    have ih := fun k q hk => find_l0 xs c s hn r k (i + 1) q hd2 (by omega) hk
    have hj : ∀ b : Bool, secret_Find.j1 (k + 2) xs c s p.1 p.2 (i : Int) xs (xs.length : Int) (i : Int) b x.f0 x.f1 x.f2 x.f3 = fin xs (fld c s r ((i : Int) + 1) (if b = true then p else if rk c s x > p.1 then (rk c s x, (i : Int)) else p)) := by
      intro b
      simp only [secret_Find.j1, hw]
      cases b with
      | true =>
        simp only [if_true]
        exact ih (k + 1) p (by omega)
      | false =>
        have w3 : wrap64 (0 + 2 + 1) = 3 := by unfold wrap64; rfl
        have w1 : wrap64 (0 + 1) = 1 := by unfold wrap64; rfl
        simp only [Bool.false_eq_true, if_false, secret_Find.j2, hw, w3, w1]
        unfold rk
        by_cases e0 : x.f0.toList = c.toList
        · by_cases e1 : x.f1.toList = s.toList
          · simp only [e0, e1, if_true]
            by_cases g : (3 : Int) > p.1
            · rw [if_pos g]; rw [show (2 : Int) + 1 = 3 by rfl]; rw [if_pos g]; exact ih k (3, (i : Int)) (by omega)
            · rw [if_neg g]; rw [show (2 : Int) + 1 = 3 by rfl]; rw [if_neg g]; exact ih k p (by omega)
          · simp only [e0, e1, if_true, if_false]
            by_cases g : (2 : Int) > p.1
            · rw [if_pos (show (0 + 2 : Int) > p.1 by omega), if_pos (show (2 + 0 : Int) > p.1 by omega)]; exact ih k (2, (i : Int)) (by omega)
            · rw [if_neg (show ¬ (0 + 2 : Int) > p.1 by omega), if_neg (show ¬ (2 + 0 : Int) > p.1 by omega)]; exact ih k p (by omega)
        · by_cases e1 : x.f1.toList = s.toList
          · simp only [e0, e1, if_true, if_false]
            by_cases g : (1 : Int) > p.1
            · rw [if_pos g, if_pos (show (0 + 1 : Int) > p.1 by omega)]; exact ih k (1, (i : Int)) (by omega)
            · rw [if_neg g, if_neg (show ¬ (0 + 1 : Int) > p.1 by omega)]; exact ih k p (by omega)
          · simp only [e0, e1, if_false]
            by_cases g : (0 : Int) > p.1
            · rw [if_pos g, if_pos (show (0 + 0 : Int) > p.1 by omega)]; exact ih k (0, (i : Int)) (by omega)
            · rw [if_neg g, if_neg (show ¬ (0 + 0 : Int) > p.1 by omega)]; exact ih k p (by omega)
    simp only [secret_Find.l0]
    rw [if_pos (by omega), if_pos (by omega), if_pos (by omega), hx]
    simp only [hj, secret_Right.f, Option.bind_some]
    rw [show fld c s (x :: r) (i : Int) p = fld c s r ((i : Int) + 1) (stp c s p (i : Int) x) from rfl]
    unfold stp
    by_cases a1 : c.toList = ([42] : List UInt8)
    · rw [if_pos a1, if_neg (fun h : hit c s x => h.1 a1)]; simp only [if_true]
    · rw [if_neg a1]
      by_cases a2 : s.toList = ([42] : List UInt8)
      · rw [if_pos a2, if_neg (fun h : hit c s x => h.2.1 a2)]; simp only [if_true]
      · rw [if_neg a2]
        have key : ∀ (h0 : x.f0.toList = c.toList ∨ x.f0.toList = ([42] : List UInt8)) (h1 : x.f1.toList = s.toList ∨ x.f1.toList = ([42] : List UInt8)),
            fin xs (fld c s r ((i : Int) + 1) (if (rightE x.f0 x.f1 x.f2 x.f3 != 0) = true then p else if rk c s x > p.1 then (rk c s x, (i : Int)) else p)) = fin xs (fld c s r ((i : Int) + 1) (if hit c s x then (if rk c s x > p.1 then (rk c s x, (i : Int)) else p) else p)) := by
          intro h0 h1
          by_cases hr : rightE x.f0 x.f1 x.f2 x.f3 = 0
          · rw [if_neg (by rw [hr]; decide), if_pos (show hit c s x from ⟨a1, a2, h0, h1, hr⟩)]
          · rw [if_pos (by rw [bne_iff_ne]; exact hr), if_neg (fun h : hit c s x => hr h.2.2.2.2)]
        by_cases e0 : x.f0.toList = c.toList
        · rw [if_pos e0]
          by_cases e1 : x.f1.toList = s.toList
          · rw [if_pos e1]; exact key (.inl e0) (.inl e1)
          · rw [if_neg e1]
            by_cases e2 : x.f1.toList = ([42] : List UInt8)
            · rw [if_pos e2]; exact key (.inl e0) (.inr e2)
            · rw [if_neg e2, if_neg (fun h : hit c s x => h.2.2.2.1.elim e1 e2)]; simp only [if_true]
        · rw [if_neg e0]
          by_cases e3 : x.f0.toList = ([42] : List UInt8)
          · rw [if_pos e3]
            by_cases e1 : x.f1.toList = s.toList
            · rw [if_pos e1]; exact key (.inr e3) (.inl e1)
            · rw [if_neg e1]
              by_cases e2 : x.f1.toList = ([42] : List UInt8)
              · rw [if_pos e2]; exact key (.inr e3) (.inr e2)
              · rw [if_neg e2, if_neg (fun h : hit c s x => h.2.2.2.1.elim e1 e2)]; simp only [if_true]
          · rw [if_neg e3, if_neg (fun h : hit c s x => h.2.2.1.elim e0 e3)]; simp only [if_true]
theorem find_f (xs : List Sx) (c s : ByteArray) (hn : xs.length ≤ 1099511627776) (k : Nat) (hk : 3 * xs.length < k) : secret_Find.f k xs c s = fin xs (fld c s xs 0 (-1, 0)) :=
  find_l0 xs c s hn xs k 0 (-1, 0) rfl (by omega) hk
def pok (c s : ByteArray) (xs : List Sx) (p : Int × Int) : Prop := p.1 = -1 ∨ (0 ≤ p.1 ∧ 0 ≤ p.2 ∧ p.2 < (xs.length : Int) ∧ hit c s (rd_T25 xs p.2) ∧ rk c s (rd_T25 xs p.2) = p.1)
theorem rk_nonneg (c s : ByteArray) (x : Sx) : 0 ≤ rk c s x := by unfold rk; split <;> split <;> omega
theorem fld_pok (c s : ByteArray) (xs : List Sx) : ∀ (r : List Sx) (i : Nat) (p : Int × Int), xs.drop i = r → pok c s xs p → pok c s xs (fld c s r i p)
  | [], _, p, _, h => h
  | x :: r, i, p, hd, h => by
    obtain ⟨hx, hl, hd2⟩ := rd_drop xs i x r hd
    refine fld_pok c s xs r (i + 1) (stp c s p (i : Int) x) hd2 ?_
    unfold stp
    by_cases hh : hit c s x
    · rw [if_pos hh]
      by_cases g : rk c s x > p.1
      · rw [if_pos g]
        right
        refine ⟨rk_nonneg c s x, by simp, by simp; exact hl, ?_, ?_⟩
        · show hit c s (rd_T25 xs (i : Int)); rw [hx]; exact hh
        · show rk c s (rd_T25 xs (i : Int)) = _; rw [hx]
      · rw [if_neg g]; exact h
    · rw [if_neg hh]; exact h
theorem fld_append (c s : ByteArray) : ∀ (l E : List Sx) (i : Int) (p : Int × Int), fld c s (l ++ E) i p = fld c s E (i + l.length) (fld c s l i p)
  | [], E, i, p => by simp [fld]
  | x :: l, E, i, p => by
    show fld c s (l ++ E) (i + 1) (stp c s p i x) = fld c s E (i + ((x :: l).length : Int)) (fld c s l (i + 1) (stp c s p i x))
    rw [fld_append c s l E (i + 1) _]
    congr 1
    simp; omega
theorem fld_still (c s : ByteArray) (p : Int × Int) : ∀ (E : List Sx) (i : Int), (∀ y ∈ E, hit c s y → rk c s y ≤ p.1) → fld c s E i p = p
  | [], _, _ => rfl
  | y :: E, i, h => by
    show fld c s E (i + 1) (stp c s p i y) = p
    have hs : stp c s p i y = p := by
      unfold stp
      by_cases hh : hit c s y
      · rw [if_pos hh, if_neg (by have := h y (by simp) hh; omega)]
      · rw [if_neg hh]
    rw [hs]
    exact fld_still c s p E (i + 1) (fun z hz => h z (by simp [hz]))
def keep (c s : ByteArray) (ok : Bool) (a0 a1 : ByteArray) (y : Sx) : Bool := (ok && decide (y.f0.toList = a0.toList) && decide (y.f1.toList = a1.toList)) || (!decide (y.f0.toList = c.toList) && !decide (y.f0.toList = ([42] : List UInt8))) || (!decide (y.f1.toList = s.toList) && !decide (y.f1.toList = ([42] : List UInt8)))
def tail (m : Nat) (c s : ByteArray) (ok : Bool) (a0 a1 a2 : ByteArray) (a3 : List Int) (xs : List Sx) : Option Bool :=
  (secret_Find.f m xs c s).bind fun bt198 => (if (ok != bt198.2.2.2.2) = true then (tetherlaw06_SecretBest.j1 m c s ok true a0 a1 a2 a3) else ((tetherref06_One.f m a0 a1 a2 a3 bt198.1 bt198.2.1 bt198.2.2.1 bt198.2.2.2.1).bind fun t206 => (tetherlaw06_SecretBest.j1 m c s ok (!t206) a0 a1 a2 a3)))
theorem sb_l0 (c s : ByteArray) (ok : Bool) (a0 a1 a2 : ByteArray) (a3 : List Int) (l1 : List Sx) (m : Nat) (hn : l1.length ≤ 1048576) : ∀ (r : List Sx) (i : Nat) (all : List Sx), l1.drop i = r → i ≤ l1.length → all.length + r.length ≤ 2097152 →
    tetherlaw06_SecretBest.l0 (m + r.length + 1) c s ok all l1 (l1.length : Int) (i : Int) a0 a1 a2 a3 = tail m c s ok a0 a1 a2 a3 (all ++ r.filter (keep c s ok a0 a1))
  | [], i, all, hd, hi, hb => by
    have hl : l1.length ≤ i := by
      have := congrArg List.length hd
      rw [List.length_drop] at this; simp at this; omega
    simp only [tetherlaw06_SecretBest.l0, List.length_nil, Nat.add_zero]
    rw [if_neg (by omega)]
    rw [List.filter_nil, List.append_nil]
    rfl
  | x :: r, i, all, hd, hi, hb => by
    obtain ⟨hx, hl, hd2⟩ := rd_drop l1 i x r hd
    simp only [List.length_cons] at hb
    have hw : wrap64 ((i : Int) + 1) = ((i + 1 : Nat) : Int) := by rw [wrap_small (by omega) (by omega)]; rfl
    have ih0 := sb_l0 c s ok a0 a1 a2 a3 l1 m hn r (i + 1) all hd2 (by omega) (by omega)
    have ih1 := sb_l0 c s ok a0 a1 a2 a3 l1 m hn r (i + 1) (all ++ [x]) hd2 (by omega) (by simp; omega)
    rw [List.append_assoc] at ih1
    have hlen : all.length < 1954687338268 := by omega
    have hxx : (⟨x.f0, x.f1, x.f2, x.f3⟩ : Sx) = x := rfl
    rw [show m + (x :: r).length + 1 = (m + r.length + 1) + 1 by simp; omega]
    generalize m + r.length + 1 = F at ih0 ih1 ⊢
    rw [tetherlaw06_SecretBest.l0]
    rw [if_pos (by omega), if_pos (by omega), if_pos (by omega), hx, hw, hxx]
    simp only [if_pos hlen, ih0, ih1]
    rw [List.filter_cons]
    rcases Classical.propComplete (x.f0.toList = a0.toList) with e1 | e1 <;> rcases Classical.propComplete (x.f1.toList = a1.toList) with e2 | e2 <;> rcases Classical.propComplete (x.f0.toList = c.toList) with e3 | e3 <;> rcases Classical.propComplete (x.f0.toList = ([42] : List UInt8)) with e4 | e4 <;> rcases Classical.propComplete (x.f1.toList = s.toList) with e5 | e5 <;> rcases Classical.propComplete (x.f1.toList = ([42] : List UInt8)) with e6 | e6 <;> cases ok <;> simp only [keep, e1, e2, e3, e4, e5, e6, if_true, if_false, decide_true, decide_false, Bool.not_true, Bool.not_false, Bool.and_true, Bool.and_false, Bool.true_and, Bool.false_and, Bool.or_true, Bool.or_false, Bool.false_eq_true, List.cons_append, List.nil_append, List.singleton_append, ite_self]
theorem one_l0 (a0 a1 a2 : ByteArray) (l : List Int) (hn : l.length ≤ 1099511627776) : ∀ (d k i : Nat), i + d = l.length → d < k →
    tetherref06_One.l0 k (l.length : Int) (i : Int) a0 a1 a2 l a0 a1 a2 l = some true
  | 0, k, i, hd, hk => by
    obtain ⟨k, rfl⟩ : ∃ m, k = m + 1 := ⟨k - 1, by omega⟩
    simp only [tetherref06_One.l0]
    rw [if_neg (by omega)]
  | d + 1, k, i, hd, hk => by
    obtain ⟨k, rfl⟩ : ∃ m, k = m + 1 := ⟨k - 1, by omega⟩
    have hw : wrap64 ((i : Int) + 1) = ((i + 1 : Nat) : Int) := by rw [wrap_small (by omega) (by omega)]; rfl
    have ih := one_l0 a0 a1 a2 l hn d k (i + 1) (by omega) (by omega)
    rw [tetherref06_One.l0]
    rw [if_pos (by omega), if_pos (by omega), if_pos (by omega), if_pos (by omega), if_pos rfl, hw]
    exact ih
theorem one_same (a0 a1 a2 : ByteArray) (l : List Int) (hn : l.length ≤ 1099511627776) (k : Nat) (hk : l.length + 1 < k) : tetherref06_One.f k a0 a1 a2 l a0 a1 a2 l = some true := by
  obtain ⟨k, rfl⟩ : ∃ m, k = m + 1 := ⟨k - 1, by omega⟩
  unfold tetherref06_One.f
  rw [if_pos rfl, if_pos rfl, if_pos rfl, tetherref06_One.j0]
  rw [if_neg (by simp)]
  exact one_l0 a0 a1 a2 l hn l.length k 0 (by omega) (by omega)
theorem fin_same (c s : ByteArray) (xs ys : List Sx) (p : Int × Int) (h : pok c s xs p) : fin (xs ++ ys) p = fin xs p := by
  unfold fin
  rcases h with h | ⟨h1, h2, h3, _⟩
  · rw [if_pos (show p.1 < 0 by omega), if_pos (show p.1 < 0 by omega)]
  · have hl : p.2 < ((xs ++ ys).length : Int) := by simp; omega
    rw [if_neg (show ¬ p.1 < 0 by omega), if_neg (show ¬ p.1 < 0 by omega), if_pos h2, if_pos h2, if_pos hl, if_pos h3]
    have e : rd_T25 (xs ++ ys) p.2 = rd_T25 xs p.2 := by
      unfold rd_T25
      rw [List.getD_eq_getElem?_getD, List.getD_eq_getElem?_getD, List.getElem?_append_left (by omega)]
    rw [e]
theorem best (l0 l1 : List Sx) (c s : ByteArray) (h0 : l0.length ≤ 1048576) (h1 : l1.length ≤ 1048576) (hf : ∀ x ∈ l0, x.f3.length ≤ 1048576) :
    ∃ k, tetherlaw06_SecretBest.f k l0 l1 c s = some true := by
  obtain ⟨m, hm⟩ : ∃ m : Nat, m = 7000000 := ⟨_, rfl⟩
  refine ⟨m + l1.length + 1, ?_⟩
  have hfind := find_f l0 c s (by omega) (m + l1.length + 1) (by omega)
  have hp := fld_pok c s l0 l0 0 (-1, 0) rfl (.inl rfl)
  generalize hq : fld c s l0 0 (-1, 0) = p at hfind hp
  unfold tetherlaw06_SecretBest.f
  rw [hfind]
  -- what comes behind
  have hrest : ∀ (ok : Bool) (a0 a1 a2 : ByteArray) (a3 : List Int), fin l0 p = some (a0, a1, a2, a3, ok) → (∀ y, keep c s ok a0 a1 y = true → hit c s y → rk c s y ≤ p.1) → a3.length ≤ 1048576 →
      tetherlaw06_SecretBest.j1 m c s ok false a0 a1 a2 a3 = some true →
      tetherlaw06_SecretBest.l0 (m + l1.length + 1) c s ok (([] : List Sx) ++ l0) l1 (l1.length : Int) 0 a0 a1 a2 a3 = some true := by
    intro ok a0 a1 a2 a3 hfin hkeep ha3 hj
    have hl := sb_l0 c s ok a0 a1 a2 a3 l1 m h1 l1 0 l0 rfl (by omega) (by omega)
    rw [List.nil_append]
    refine hl.trans ?_
    unfold tail
    have hlf := List.length_filter_le (keep c s ok a0 a1) l1
    have hf2 := find_f (l0 ++ l1.filter (keep c s ok a0 a1)) c s (by simp; omega) m (by simp; omega)
    rw [fld_append, hq, fld_still c s p _ _ (fun y hy => hkeep y (List.mem_filter.1 hy).2), fin_same c s l0 _ p hp, hfin] at hf2
    rw [hf2]
    simp only [Option.bind_some]
    rw [if_neg (by simp), one_same a0 a1 a2 a3 (by omega) m (by omega)]
    simp only [Option.bind_some, Bool.not_true]
    exact hj
  have haw : tetherlaw06_awake.f (m - 1) = some true := by
    have := awake_true (m - 201)
    rwa [show 200 + (m - 201) = m - 1 by omega] at this
  have hb : ([] : List Sx).length + l0.length < 1954687338268 := by simp; omega
  rcases hp with hp | ⟨p1, p2, p3, p4, p5⟩
  · have hfin : fin l0 p = some ((⟨#[]⟩ : ByteArray), (⟨#[]⟩ : ByteArray), (⟨#[]⟩ : ByteArray), ([] : List Int), false) := by
      unfold fin; rw [if_pos (by omega)]
    rw [hfin]
    simp only [Option.bind_some]
    rw [if_pos hb]
    refine hrest false _ _ _ _ hfin ?_ (by simp) ?_
    · intro y hk hy
      exfalso
      unfold keep at hk
      obtain ⟨_, _, y1, y2, _⟩ := hy
      rcases y1 with y1 | y1 <;> rcases y2 with y2 | y2 <;> simp [y1, y2] at hk
    · obtain ⟨n, hn⟩ : ∃ n, m = n + 1 := ⟨m - 1, by omega⟩
      rw [hn] at haw ⊢
      rw [Nat.add_sub_cancel] at haw
      rw [tetherlaw06_SecretBest.j1]
      rw [if_neg (by simp), if_neg (by simp), haw]; rfl
  · have hmem : rd_T25 l0 p.2 ∈ l0 := by
      unfold rd_T25
      rw [List.getD_eq_getElem?_getD, List.getElem?_eq_getElem (by omega)]
      exact List.getElem_mem _
    have hx3 := hf _ hmem
    generalize hx : rd_T25 l0 p.2 = x at p4 p5 hx3
    have hfin : fin l0 p = some (x.f0, x.f1, x.f2, x.f3, true) := by
      unfold fin
      rw [if_neg (by omega), if_pos p2, if_pos p3, hx]
      unfold secret_own.f
      rw [if_pos (by omega)]; rfl
    rw [hfin]
    simp only [Option.bind_some]
    rw [if_pos hb]
    obtain ⟨_, _, x1, x2, x4⟩ := p4
    refine hrest true _ _ _ _ hfin ?_ hx3 ?_
    · intro y hk hy
      rw [← p5]
      unfold keep at hk
      obtain ⟨_, _, y1, y2, _⟩ := hy
      have hxy : y.f0.toList = x.f0.toList ∧ y.f1.toList = x.f1.toList := by
        rcases y1 with y1 | y1 <;> rcases y2 with y2 | y2 <;> simp [y1, y2] at hk ⊢ <;> exact hk
      unfold rk
      rw [hxy.1, hxy.2]
      exact Int.le_refl _
    · obtain ⟨n, hn⟩ : ∃ n, m = n + 1 := ⟨m - 1, by omega⟩
      rw [hn] at haw ⊢
      rw [Nat.add_sub_cancel] at haw
      rw [tetherlaw06_SecretBest.j1]
      rw [if_neg (by simp), if_pos rfl]
      unfold secret_Right.f
      simp only [Option.bind_some, x4, if_true, haw]
      rcases x1 with x1 | x1 <;> rcases x2 with x2 | x2 <;> simp [x1, x2]
end Go.Proofs.YtnjnipllflfmeaaDoor.Best
