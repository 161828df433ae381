import Derived.Test.YtnjnipllflfmeaaDoorRem
import Derived.Test.YtnjnipllflfmeaaDoorR9
import Derived.Test.YtnjnipllflfmeaaDoorR10
namespace Go.Proofs.YtnjnipllflfmeaaDoor.Rem
open Go.Proofs.YtnjnipllflfmeaaDoor.R
open Go.RowKit Go.Proofs.YtnjnipllflfmeaaDoorW.PrintWords Go.Proofs.YtnjnipllflfmeaaDoorW.PrintLast Go.Proofs.YtnjnipllflfmeaaDoorW.PrintMore
set_option linter.unusedVariables false
set_option linter.unusedSimpArgs false
def LS : List ByteArray := [(⟨#[]⟩ : ByteArray), (⟨#[10]⟩ : ByteArray), (⟨#[35, 32, 97, 32, 34, 114, 101, 109, 97, 114, 107, 10]⟩ : ByteArray), (⟨#[32, 9, 13, 10]⟩ : ByteArray)]
def ES : List ByteArray := [(⟨#[]⟩ : ByteArray), (⟨#[32]⟩ : ByteArray), (⟨#[9, 13]⟩ : ByteArray), (⟨#[32, 35, 32, 120]⟩ : ByteArray)]
theorem toI_len (l : List UInt8) : (toI l).length = l.length := by simp [toI]
theorem toI_app (a b : List UInt8) : toI (a ++ b) = toI a ++ toI b := by simp [toI]
theorem LS_at (q : Nat) (h : q < 4) : bytesOf (rdOf ByteArray.empty LS (q : Int)) = toI (linesK q) ∧ (rdOf ByteArray.empty LS (q : Int)).size = (linesK q).length := by
  match q, h with
  | 0, _ => exact ⟨rfl, rfl⟩
  | 1, _ => exact ⟨rfl, rfl⟩
  | 2, _ => exact ⟨rfl, rfl⟩
  | 3, _ => exact ⟨rfl, rfl⟩
theorem ES_at (q : Nat) (h : q < 4) : bytesOf (rdOf ByteArray.empty ES (q : Int)) = toI (endsK q) ∧ (rdOf ByteArray.empty ES (q : Int)).size = (endsK q).length := by
  match q, h with
  | 0, _ => exact ⟨rfl, rfl⟩
  | 1, _ => exact ⟨rfl, rfl⟩
  | 2, _ => exact ⟨rfl, rfl⟩
  | 3, _ => exact ⟨rfl, rfl⟩
theorem linesK_len : ∀ q, (linesK q).length ≤ 12
  | 0 => by decide
  | 1 => by decide
  | 2 => by decide
  | _ + 3 => show (4 : Nat) ≤ 12 by decide
def kk (w : List Int) (n : Nat) : Nat := if n < w.length then (Int.tmod (wrap64 ((Int.tmod (rd w n) 4) + 4)) 4).toNat else 0
theorem kk_val (w : List Int) (n : Nat) (h : n < w.length) : Int.tmod (wrap64 ((Int.tmod (rd w n) 4) + 4)) 4 = (kk w n : Int) ∧ kk w n < 4 := by
  unfold kk
  rw [if_pos h]
  generalize rd w n = x
  have h1 := Int.tmod_lt_of_pos x (show (0 : Int) < 4 by decide)
  have h2 : -4 < Int.tmod x 4 := by
    rcases Int.le_total 0 x with h0 | h0
    · have := Int.tmod_nonneg 4 h0; omega
    · have := Int.tmod_lt_of_pos (-x) (show (0 : Int) < 4 by decide)
      rw [Int.neg_tmod] at this
      omega
  generalize Int.tmod x 4 = y at h1 h2
  rw [show wrap64 (y + 4) = y + 4 by unfold wrap64; omega]
  have h3 := Int.tmod_nonneg 4 (show 0 ≤ y + 4 by omega)
  have h4 := Int.tmod_lt_of_pos (y + 4) (show (0 : Int) < 4 by decide)
  omega
theorem kk_lt (w : List Int) (n : Nat) : kk w n < 4 := by
  by_cases h : n < w.length
  · exact (kk_val w n h).2
  · unfold kk; rw [if_neg h]; decide
section
variable (s : ByteArray) (w : List Int) (xs : List S25)
abbrev L0 (k : Nat) (b : List Int) (n sz i : Int) := tetherlaw06_SecretRemarks.l0 k s w xs LS ES b n sz i
abbrev J1 (k : Nat) (b : List Int) (n sz i q : Int) := tetherlaw06_SecretRemarks.j1 k s w xs LS ES b n sz i q
abbrev J2 (k : Nat) (b : List Int) (n sz i q : Int) (z : Bool) := tetherlaw06_SecretRemarks.j2 k s w xs LS ES b n sz i q z
abbrev J3 (k : Nat) (b : List Int) (n sz i q : Int) := tetherlaw06_SecretRemarks.j3 k s w xs LS ES b n sz i q
abbrev J4 (k : Nat) (b : List Int) (n sz i q : Int) (z : Bool) := tetherlaw06_SecretRemarks.j4 k s w xs LS ES b n sz i q z
def End (k : Nat) (b : List Int) : Option Bool := if (b.length : Int) > 65536 then ((tetherlaw06_awake.f).bind fun t162 => (some t162)) else ((secret_Parse.f (strOfNums b)).bind fun bt163 => (if bt163.2.1 = 0 then ((tetherref06_Same.f k xs bt163.1).bind fun t168 => (if t168 = true then ((tetherlaw06_awake.f).bind fun t169 => (some t169)) else (some false))) else (some false)))
theorem l0_in (k n i : Nat) (b : List Int) (sz : Int) (hi : i ≤ s.size) : L0 s w xs (k + 1) b n sz i = J1 s w xs k b n sz i (kk w n) := by
  show tetherlaw06_SecretRemarks.l0 _ _ _ _ _ _ _ _ _ _ = _
  rw [tetherlaw06_SecretRemarks.l0, if_pos (by omega)]
  by_cases h : n < w.length
  · rw [if_pos (by omega), if_pos (by omega), (kk_val w n h).1]
  · rw [if_neg (by omega)]
    unfold kk
    rw [if_neg h]; rfl
theorem l0_out (k : Nat) (b : List Int) (n sz : Int) : L0 s w xs (k + 1) b n sz ((s.size + 1 : Nat) : Int) = End xs k b := by
  show tetherlaw06_SecretRemarks.l0 _ _ _ _ _ _ _ _ _ _ = _
  rw [tetherlaw06_SecretRemarks.l0, if_neg (by omega)]
  rfl
theorem j1_in (k i : Nat) (b : List Int) (n sz q : Int) (st : Bool) (hi : i < s.size) (hz : s.size ≤ 1048576) (hst : (i = 0 ∧ st = true) ∨ (0 < i ∧ st = (bt s ((i - 1 : Nat) : Int) == 10))) : J1 s w xs (k + 1) b n sz i q = J2 s w xs k b n sz i q st := by
  show tetherlaw06_SecretRemarks.j1 _ _ _ _ _ _ _ _ _ _ _ = _
  rw [tetherlaw06_SecretRemarks.j1, if_pos (by omega)]
  rcases hst with ⟨h0, rfl⟩ | ⟨h0, rfl⟩
  · rw [if_pos (by omega)]
  · have e : wrap64 ((i : Int) - 1) = ((i - 1 : Nat) : Int) := by unfold wrap64; omega
    rw [if_neg (by omega), e, if_pos (by omega), if_pos (by omega)]
theorem j1_end (k : Nat) (b : List Int) (n sz q : Int) : J1 s w xs (k + 1) b n sz s.size q = J2 s w xs k b n sz s.size q false := by
  show tetherlaw06_SecretRemarks.j1 _ _ _ _ _ _ _ _ _ _ _ = _
  rw [tetherlaw06_SecretRemarks.j1, if_neg (by omega)]
theorem j2_in (k n q : Nat) (i : Int) (b : List UInt8) (sz : Nat) (st : Bool) (hq : q < 4) (hb : b.length ≤ 100000000) (hn : n ≤ 1048576) :
    J2 s w xs (k + 1) (toI b) n sz i q st = J3 s w xs k (toI (b ++ (if st = true then linesK q else []))) ((if st = true then n + 1 else n : Nat) : Int) ((if st = true then 0 else sz : Nat) : Int) i q := by
  show tetherlaw06_SecretRemarks.j2 _ _ _ _ _ _ _ _ _ _ _ _ = _
  rw [tetherlaw06_SecretRemarks.j2]
  obtain ⟨e1, e2⟩ := LS_at q hq
  have e3 := linesK_len q
  cases st
  · simp
  · rw [if_pos rfl, if_pos (by omega), if_pos (by show (q : Int) < 4; omega), e2, toI_len, if_pos (by omega), e1, ← toI_app]
    have : wrap64 ((n : Int) + 1) = ((n + 1 : Nat) : Int) := by unfold wrap64; omega
    rw [this]
    simp
theorem j3_in (k i : Nat) (b : List Int) (n sz q : Int) (hi : i < s.size) : J3 s w xs (k + 1) b n sz i q = J4 s w xs k b n sz i q (bt s i == 10) := by
  show tetherlaw06_SecretRemarks.j3 _ _ _ _ _ _ _ _ _ _ _ = _
  rw [tetherlaw06_SecretRemarks.j3, if_neg (by omega), if_pos (by omega), if_pos (by omega)]
theorem j3_end (k : Nat) (b : List Int) (n sz q : Int) : J3 s w xs (k + 1) b n sz s.size q = J4 s w xs k b n sz s.size q true := by
  show tetherlaw06_SecretRemarks.j3 _ _ _ _ _ _ _ _ _ _ _ = _
  rw [tetherlaw06_SecretRemarks.j3, if_pos rfl]
theorem j4_in (k i q sz : Nat) (c : UInt8) (b : List UInt8) (n : Int) (hq : q < 4) (hi : i < s.size) (hz : s.size ≤ 1048576) (hb : b.length ≤ 100000000) (hsz : sz ≤ 1048576) (hc : bt s i = (c.toNat : Int)) :
    J4 s w xs (k + 1) (toI b) n sz i q (bt s i == 10) = L0 s w xs k (toI (b ++ ((if c = 10 then endsAt q sz else []) ++ [c]))) n ((sz + 1 : Nat) : Int) ((i + 1 : Nat) : Int) := by
  revert hc
  have e3 := (endsK_endy q).len
  have w1 : wrap64 ((sz : Int) + 8) = ((sz + 8 : Nat) : Int) := by unfold wrap64; omega
  have w2 : wrap64 ((sz : Int) + 1) = ((sz + 1 : Nat) : Int) := by unfold wrap64; omega
  have w3 : wrap64 ((i : Int) + 1) = ((i + 1 : Nat) : Int) := by unfold wrap64; omega
  have pi : (i : Int) < (s.size : Int) := Int.ofNat_lt.2 hi
  have pi0 : (0 : Int) ≤ (i : Int) := Int.natCast_nonneg i
  have pq0 : (0 : Int) ≤ (q : Int) := Int.natCast_nonneg q
  have pq : (q : Int) < (ES.length : Int) := by show (q : Int) < 4; omega
  have pb : (toI b).length < 140737488355328 := by rw [toI_len]; omega
  have pb2 : (toI b).length + (endsK q).length < 140737488355328 := by rw [toI_len]; omega
  have pb3 : (toI (b ++ endsK q)).length < 140737488355328 := by rw [toI_len, List.length_append]; omega
  obtain ⟨e1, e2⟩ := ES_at q hq
  intro hc
  show tetherlaw06_SecretRemarks.j4 _ _ _ _ _ _ _ _ _ _ _ _ = _
  rw [tetherlaw06_SecretRemarks.j4]
  have hs : ∀ l : List UInt8, toI l ++ [(c.toNat : Int)] = toI (l ++ [c]) := fun l => (toI_snoc l c).symm
  by_cases h8 : sz + 8 < 1024
  · have p8 : ((sz + 8 : Nat) : Int) < 1024 := by omega
    by_cases h10 : c = 10
    · have hb10 : (bt s i == 10) = true := by rw [hc, h10]; rfl
      rw [if_pos h10, hb10, if_pos rfl, w1]
      unfold endsAt
      rw [if_pos h8, if_pos p8, if_pos pq0, if_pos pq, e2, if_pos pb2, e1, ← toI_app, Option.bind_some, if_pos pi, if_pos pi0, if_pos pb3, hc, hs, w2, w3, List.append_assoc]
    · have hb10 : (bt s i == 10) = false := by
        rw [hc, beq_eq_false_iff_ne]
        intro h
        apply h10
        apply UInt8.toNat_inj.1
        exact Int.ofNat.inj h
      rw [if_neg h10, hb10, if_neg (by decide), if_pos pi, if_pos pi0, if_pos pb, hc, hs, w2, w3, List.nil_append]
  · have p8 : ¬ ((sz + 8 : Nat) : Int) < 1024 := by omega
    by_cases h10 : c = 10
    · have hb10 : (bt s i == 10) = true := by rw [hc, h10]; rfl
      rw [if_pos h10, hb10, if_pos rfl, w1]
      unfold endsAt
      rw [if_neg h8, if_neg p8, if_pos pi, if_pos pi0, if_pos pb, hc, hs, w2, w3, List.nil_append]
    · have hb10 : (bt s i == 10) = false := by
        rw [hc, beq_eq_false_iff_ne]
        intro h
        apply h10
        apply UInt8.toNat_inj.1
        exact Int.ofNat.inj h
      rw [if_neg h10, hb10, if_neg (by decide), if_pos pi, if_pos pi0, if_pos pb, hc, hs, w2, w3, List.nil_append]
theorem j4_end (k q sz : Nat) (b : List UInt8) (n : Int) (hq : q < 4) (hz : s.size ≤ 1048576) (hb : b.length ≤ 100000000) (hsz : sz ≤ 1048576) :
    J4 s w xs (k + 1) (toI b) n sz s.size q true = L0 s w xs k (toI (b ++ endsAt q sz)) n sz ((s.size + 1 : Nat) : Int) := by
  show tetherlaw06_SecretRemarks.j4 _ _ _ _ _ _ _ _ _ _ _ _ = _
  rw [tetherlaw06_SecretRemarks.j4]
  have e3 := (endsK_endy q).len
  have w1 : wrap64 ((sz : Int) + 8) = ((sz + 8 : Nat) : Int) := by unfold wrap64; omega
  have w3 : wrap64 ((s.size : Int) + 1) = ((s.size + 1 : Nat) : Int) := by unfold wrap64; omega
  have pi : ¬ (s.size : Int) < (s.size : Int) := by omega
  have pq0 : (0 : Int) ≤ (q : Int) := by omega
  have pq : (q : Int) < (ES.length : Int) := by show (q : Int) < 4; omega
  have pb2 : (toI b).length + (endsK q).length < 140737488355328 := by rw [toI_len]; omega
  obtain ⟨e1, e2⟩ := ES_at q hq
  rw [if_pos rfl, w1]
  unfold endsAt
  by_cases h8 : sz + 8 < 1024
  · have p8 : ((sz + 8 : Nat) : Int) < 1024 := by omega
    rw [if_pos h8, if_pos p8, if_pos pq0, if_pos pq, e2, if_pos pb2, e1, ← toI_app, Option.bind_some, if_neg pi, w3]
  · have p8 : ¬ ((sz + 8 : Nat) : Int) < 1024 := by omega
    rw [if_neg h8, if_neg p8, if_neg pi, w3, List.append_nil]
theorem loop (hz : s.size ≤ 65536) (F : Nat) : ∀ (m i n sz K : Nat) (st : Bool) (b : List UInt8), i + m = s.size → 5 * m + 6 + F ≤ K → n ≤ i → sz ≤ i → b.length ≤ 17 * i → (m ≠ 0 → (i = 0 ∧ st = true) ∨ (0 < i ∧ st = (bt s ((i - 1 : Nat) : Int) == 10))) →
    ∃ K', F ≤ K' ∧ L0 s w xs K (toI b) n sz i = End xs K' (toI (b ++ G (kk w) st n sz (s.data.toList.drop i))) := by
  intro m
  induction m with
  | zero =>
    intro i n sz K st b hi hK hn hs hb _
    obtain ⟨K, rfl⟩ : ∃ q, K = q + 1 + 1 + 1 + 1 + 1 + 1 := ⟨K - 6, by omega⟩
    obtain rfl : i = s.size := by omega
    refine ⟨K, by omega, ?_⟩
    rw [l0_in s w xs _ _ _ _ _ (Nat.le_refl _), j1_end, j2_in s w xs _ _ _ _ _ _ _ (kk_lt w n) (by omega) (by omega)]
    simp only [Bool.false_eq_true, if_false, List.append_nil]
    rw [j3_end, j4_end s w xs _ _ _ _ _ (kk_lt w n) (by omega) (by omega) (by omega), l0_out]
    rw [List.drop_of_length_le (by rw [data_length]; exact Nat.le_refl _)]
    rfl
  | succ m ih =>
    intro i n sz K st b hi hK hn hs hb hst
    obtain ⟨K, rfl⟩ : ∃ q, K = q + 1 + 1 + 1 + 1 + 1 := ⟨K - 5, by omega⟩
    obtain ⟨c, hd, hc⟩ := bt_drop s i (by omega)
    have hst := hst (by omega)
    have hll := linesK_len (kk w n)
    have hel := (endsK_endy (kk w n)).len
    have hlen : (if st = true then linesK (kk w n) else []).length ≤ 12 := by
      cases st
      · exact Nat.zero_le _
      · exact hll
    rw [l0_in s w xs _ _ _ _ _ (by omega), j1_in s w xs _ _ _ _ _ _ st (by omega) (by omega) hst, j2_in s w xs _ _ _ _ _ _ _ (kk_lt w n) (by omega) (by omega), j3_in s w xs _ _ _ _ _ _ (by omega)]
    rw [j4_in s w xs K i (kk w n) (if st = true then 0 else sz) c _ _ (kk_lt w n) (by omega) (by omega) (by rw [List.length_append]; omega) (by split <;> omega) hc]
    have hel2 : (if c = 10 then endsAt (kk w n) (if st = true then 0 else sz) else []).length ≤ 4 := by
      by_cases h : c = 10
      · rw [if_pos h]; unfold endsAt
        by_cases h8 : (if st = true then 0 else sz) + 8 < 1024
        · rw [if_pos h8]; exact hel
        · rw [if_neg h8]; exact Nat.zero_le _
      · rw [if_neg h]; exact Nat.zero_le _
    have hcb : (c == 10) = (bt s ((i + 1 - 1 : Nat) : Int) == 10) := by
      rw [show i + 1 - 1 = i by omega, hc]
      by_cases h : c = 10
      · subst h; rfl
      · have : ¬ c.toNat = 10 := fun hh => h (UInt8.toNat_inj.1 hh)
        rw [beq_eq_false_iff_ne.2 h, Eq.comm, beq_eq_false_iff_ne]
        omega
    obtain ⟨K', hF, h⟩ := ih (i + 1) (if st = true then n + 1 else n) ((if st = true then 0 else sz) + 1) K (c == 10) (b ++ (if st = true then linesK (kk w n) else []) ++ ((if c = 10 then endsAt (kk w n) (if st = true then 0 else sz) else []) ++ [c])) (by omega) (by omega) (by split <;> omega) (by split <;> omega)
      (by simp only [List.length_append, List.length_cons, List.length_nil]; omega) (fun _ => .inr ⟨by omega, hcb⟩)
    refine ⟨K', hF, ?_⟩
    rw [h, hd, G]
    simp only [List.append_assoc, List.cons_append, List.nil_append]
end
end Go.Proofs.YtnjnipllflfmeaaDoor.Rem
