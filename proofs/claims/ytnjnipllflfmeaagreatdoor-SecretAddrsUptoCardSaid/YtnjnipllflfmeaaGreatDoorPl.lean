import Derived.Test.YtnjnipllflfmeaaGreatDoorA12
import Derived.Test.YtnjnipllflfmeaaGreatDoorA2
namespace Go.Proofs.YtnjnipllflfmeaaGreatDoor.Pl
open Go.Proofs.YtnjnipllflfmeaaGreatDoor.A
open Go.RowKit Go.Proofs.YtnjnipllflfmeaaGreatDoorW.PrintWords Go.Proofs.YtnjnipllflfmeaaGreatDoorW.PrintLast Go.Proofs.YtnjnipllflfmeaaGreatDoorW.PrintMore
set_option linter.unusedVariables false
set_option linter.unusedSimpArgs false
theorem wrap_s {i : Int} (h0 : 0 ≤ i) (h : i ≤ 1099511627776) : wrap64 (i + 1) = i + 1 := by unfold wrap64; omega
theorem bytesOf_len (s : ByteArray) : (bytesOf s).length = s.size := by simp [bytesOf]
theorem bt_drop_b (s : ByteArray) (i : Nat) (h : i < s.size) : (bytesOf s).drop i = bt s (i : Int) :: (bytesOf s).drop (i + 1) := by
  rw [List.drop_eq_getElem_cons (by rw [bytesOf_len]; exact h)]
  congr 1
  simp [bytesOf, bt, h]
  rfl
theorem name_l0 (s : ByteArray) (hn : s.size ≤ 1099511627776) : ∀ (d k i : Nat), i + d = s.size → d < k →
    tetherref06_Name.l0 k s (s.size : Int) (i : Int) = some (((bytesOf s).drop i).all nameC)
  | 0, k, i, hd, hk => by
    obtain ⟨k, rfl⟩ : ∃ m, k = m + 1 := ⟨k - 1, by omega⟩
    rw [tetherref06_Name.l0, if_neg (by omega), List.drop_of_length_le (by rw [bytesOf_len]; omega)]
    rfl
  | d + 1, k, i, hd, hk => by
    obtain ⟨k, rfl⟩ : ∃ m, k = m + 1 := ⟨k - 1, by omega⟩
    have hw : wrap64 ((i : Int) + 1) = ((i + 1 : Nat) : Int) := by rw [wrap_s (by omega) (by omega)]; rfl
    have ih := name_l0 s hn d k (i + 1) (by omega) (by omega)
    rw [tetherref06_Name.l0, if_pos (by omega), if_pos (by omega), if_pos (by omega), hw, ih, bt_drop_b s i (by omega), List.all_cons]
    unfold nameC
    by_cases h1 : bt s (i : Int) < 32
    · rw [if_pos h1, decide_eq_false (by omega)]; simp
    · rw [if_neg h1, decide_eq_true (by omega : (32 : Int) ≤ bt s (i : Int))]
      by_cases h2 : bt s (i : Int) > 126
      · rw [if_pos h2, decide_eq_false (by omega)]; simp
      · rw [if_neg h2, decide_eq_true (by omega : bt s (i : Int) ≤ 126)]
        by_cases h3 : bt s (i : Int) = 34
        · rw [if_pos h3, h3]; simp
        · rw [if_neg h3]
          by_cases h4 : bt s (i : Int) = 92
          · rw [if_pos h4, h4]; simp
          · rw [if_neg h4, bne_iff_ne.2 h3, bne_iff_ne.2 h4]; simp
theorem toList_nil_size {s : ByteArray} : s.toList = ([] : List UInt8) ↔ s.size = 0 := by
  rw [Lib.toList_data, Lib.size_eq]
  exact List.length_eq_zero_iff.symm
theorem name_f (s : ByteArray) (hn : s.size ≤ 1099511627776) (k : Nat) (hk : s.size + 1 < k) : tetherref06_Name.f k s = some (nameB s) := by
  obtain ⟨k, rfl⟩ : ∃ m, k = m + 1 := ⟨k - 1, by omega⟩
  unfold tetherref06_Name.f nameB
  by_cases h0 : s.toList = ([] : List UInt8)
  · rw [if_pos h0, tetherref06_Name.j0, if_pos rfl, decide_eq_false (by have := toList_nil_size.1 h0; omega)]; simp
  · have h1 : 1 ≤ s.size := by
      rcases Nat.eq_zero_or_pos s.size with h | h
      · exact absurd (toList_nil_size.2 h) h0
      · exact h
    rw [if_neg h0, tetherref06_Name.j0, decide_eq_true h1]
    by_cases h2 : (s.size : Int) > 64
    · rw [decide_eq_true h2, if_pos rfl, decide_eq_false (by omega)]; simp
    · rw [decide_eq_false h2, if_neg (by simp), decide_eq_true (by omega : s.size ≤ 64)]
      refine (name_l0 s hn s.size k 0 (by omega) (by omega)).trans ?_
      simp
/-! Right -/
theorem right_l2 (c : Int) (l : List Int) (A B C : ByteArray) (n m : Nat) (hn : n ≤ 1099511627776) (hl : l.length = n) (hm : m ≤ n) (next : Option Int) :
    ∀ (d k i : Nat), i + d = m → d < k → (∀ k', k - d ≤ k' + 1 → tetherref06_Right.l1 k' l (n : Int) (wrap64 ((m : Int) + 1)) A B C l = next) →
    tetherref06_Right.l2 k c l (n : Int) (m : Int) (l.take m) ((l.take m).length : Int) (i : Int) A B C l = (if ((l.take m).drop i).contains c then some 6 else next)
  | 0, k, i, hd, hk, hnx => by
    obtain ⟨k, rfl⟩ : ∃ m, k = m + 1 := ⟨k - 1, by omega⟩
    have hlen : (l.take m).length = m := by rw [List.length_take]; omega
    rw [tetherref06_Right.l2, if_neg (by omega), List.drop_of_length_le (by omega)]
    simp only [List.contains_nil, Bool.false_eq_true, if_false]
    exact hnx k (by omega)
  | d + 1, k, i, hd, hk, hnx => by
    obtain ⟨k, rfl⟩ : ∃ m, k = m + 1 := ⟨k - 1, by omega⟩
    have hlen : (l.take m).length = m := by rw [List.length_take]; omega
    have hw : wrap64 ((i : Int) + 1) = ((i + 1 : Nat) : Int) := by rw [wrap_s (by omega) (by omega)]; rfl
    have ih := right_l2 c l A B C n m hn hl hm next d k (i + 1) (by omega) (by omega) (fun k' hk' => hnx k' (by omega))
    rw [tetherref06_Right.l2, if_pos (by omega), if_pos (by omega), if_pos (by omega), hw, ih]
    have hdr : (l.take m).drop i = rd (l.take m) (i : Int) :: (l.take m).drop (i + 1) := by
      rw [List.drop_eq_getElem_cons (by omega)]
      congr 1
      unfold rd
      rw [Int.toNat_natCast, List.getD_eq_getElem?_getD, List.getElem?_eq_getElem (by omega)]; rfl
    rw [hdr, List.contains_cons]
    by_cases h : c = rd (l.take m) (i : Int)
    · rw [if_pos h, ← h]; simp
    · rw [if_neg h, beq_eq_false_iff_ne.2 h, Bool.false_or]
/-- Is one from the m-th on met ahead of itself? -/
def metFrom (l : List Int) : Nat → Nat → Bool
  | 0, _ => false
  | d + 1, m => (l.take m).contains (l.getD m 0) || metFrom l d (m + 1)
theorem right_l1 (l : List Int) (A B C : ByteArray) (hn : l.length ≤ 1000) (M : Nat) (hM : l.length + 4 ≤ M) : ∀ (d k m : Nat), m + d = l.length → d * M + 1 < k →
    tetherref06_Right.l1 k l (l.length : Int) (m : Int) A B C l = some (if metFrom l d m then 6 else 0)
  | 0, k, m, hd, hk => by
    obtain ⟨k, rfl⟩ : ∃ m, k = m + 1 := ⟨k - 1, by omega⟩
    rw [tetherref06_Right.l1, if_neg (by omega)]
    rfl
  | d + 1, k, m, hd, hk => by
    obtain ⟨k, rfl⟩ : ∃ m, k = m + 1 := ⟨k - 1, by omega⟩
    have hw : wrap64 ((m : Int) + 1) = ((m + 1 : Nat) : Int) := by rw [wrap_s (by omega) (by omega)]; rfl
    have hs : (d + 1) * M = d * M + M := Nat.succ_mul d M
    generalize hq : d * M = q at hs
    rw [hs] at hk
    have ih := fun k (hk : q + 1 < k) => right_l1 l A B C hn M hM d k (m + 1) (by omega) (by rw [hq]; exact hk)
    rw [tetherref06_Right.l1, if_pos (by omega), if_pos (by omega), if_pos (by omega), if_pos (by omega), Int.toNat_natCast]
    refine (right_l2 (rd l (m : Int)) l A B C l.length m (by omega) rfl (by omega) (some (if metFrom l d (m + 1) then 6 else 0)) m k 0 (by omega) (by omega) (fun k' hk' => by rw [hw]; exact ih k' (by omega))).trans ?_
    rw [List.drop_zero, metFrom]
    have hr : rd l (m : Int) = l.getD m 0 := by unfold rd; rw [Int.toNat_natCast]
    rw [hr]
    cases (l.take m).contains (l.getD m 0) <;> simp
theorem right_l0 (l : List Int) (A B C : ByteArray) (hn : l.length ≤ 1000) : ∀ (d k i : Nat), i + d = l.length → 1100000 + d < k →
    tetherref06_Right.l0 k l (l.length : Int) (i : Int) A B C l = some (if (l.drop i).any badA then 150 else if metFrom l l.length 0 then 6 else 0)
  | 0, k, i, hd, hk => by
    obtain ⟨k, rfl⟩ : ∃ m, k = m + 1 := ⟨k - 1, by omega⟩
    rw [tetherref06_Right.l0, if_neg (by omega), List.drop_of_length_le (by omega)]
    have hq : l.length * 1010 ≤ 1010000 := by omega
    have := right_l1 l A B C hn 1010 (by omega) l.length k 0 (by omega) (by omega)
    simp only [List.any_nil, Bool.false_eq_true, if_false]
    exact this
  | d + 1, k, i, hd, hk => by
    obtain ⟨k, rfl⟩ : ∃ m, k = m + 1 := ⟨k - 1, by omega⟩
    have hw : wrap64 ((i : Int) + 1) = ((i + 1 : Nat) : Int) := by rw [wrap_s (by omega) (by omega)]; rfl
    have ih := right_l0 l A B C hn d k (i + 1) (by omega) (by omega)
    rw [tetherref06_Right.l0, if_pos (by omega), if_pos (by omega), if_pos (by omega), hw, ih]
    have hdr : l.drop i = rd l (i : Int) :: l.drop (i + 1) := by
      rw [List.drop_eq_getElem_cons (by omega)]
      congr 1
      unfold rd
      rw [Int.toNat_natCast, List.getD_eq_getElem?_getD, List.getElem?_eq_getElem (by omega)]; rfl
    rw [hdr, List.any_cons]
    unfold badA
    by_cases h1 : rd l (i : Int) < 1
    · rw [if_pos h1, decide_eq_true h1]; simp
    · rw [if_neg h1, decide_eq_false h1]
      by_cases h2 : rd l (i : Int) > 4294967295
      · rw [if_pos h2, decide_eq_true h2]; simp
      · rw [if_neg h2, decide_eq_false h2]; simp
theorem met_twice (l : List Int) : ∀ d m, (twiceK l m || metFrom l d m) = twiceK l (m + d)
  | 0, m => by simp [metFrom]
  | d + 1, m => by
    rw [metFrom, ← Bool.or_assoc, show m + (d + 1) = (m + 1) + d by omega, ← met_twice l d (m + 1)]
    rfl
theorem right_f (A B C : ByteArray) (l : List Int) (hA : A.size ≤ 1048576) (hB : B.size ≤ 1048576) (hC : C.size ≤ 1048576) (k : Nat) (hk : 1200000 < k) :
    tetherref06_Right.f k A B C l = some (rightE A B C l) := by
  obtain ⟨k, rfl⟩ : ∃ m, k = m + 2 := ⟨k - 2, by omega⟩
  unfold tetherref06_Right.f rightE
  rw [name_f A (by omega) (k + 2) (by omega), name_f B (by omega) (k + 2) (by omega)]
  simp only [Option.bind_some]
  cases hNA : nameB A with
  | false => simp [tetherref06_Right.j0]
  | true =>
    cases hNB : nameB B with
    | false => simp [tetherref06_Right.j0]
    | true =>
      simp only [if_true, Bool.not_true, Bool.or_false, Bool.false_eq_true, if_false]
      rw [tetherref06_Right.j0, if_neg (by simp)]
      have hj1 : tetherref06_Right.j1 (k + 1) false A B C l = some (if 16 < l.length then 7 else if l.any badA then 150 else if twiceK l l.length then 6 else 0) := by
        rw [tetherref06_Right.j1, if_neg (by simp)]
        by_cases h16 : 16 < l.length
        · rw [if_pos (by omega), if_pos h16]
        · rw [if_neg (by omega), if_neg h16]
          have h := right_l0 l A B C (by omega) l.length k 0 (by omega) (by omega)
          have ht := met_twice l l.length 0
          rw [Nat.zero_add] at ht
          rw [← ht]
          simp only [twiceK, Bool.false_or]
          exact h
      by_cases hc : C.toList = ([] : List UInt8)
      · rw [if_pos hc, if_neg (by simp [hc]), hj1]
      · rw [if_neg hc, name_f C (by omega) (k + 1) (by omega)]
        simp only [Option.bind_some]
        cases hNC : nameB C with
        | true => rw [Bool.not_true, hj1]; simp
        | false => rw [Bool.not_false, tetherref06_Right.j1, if_pos rfl]; simp [hc]
end Go.Proofs.YtnjnipllflfmeaaGreatDoor.Pl
