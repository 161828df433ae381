import Derived.Test.YtnjnipllflfmeaaDoorRemW
namespace Go.Proofs.YtnjnipllflfmeaaDoor.Rem
open Go.Proofs.YtnjnipllflfmeaaDoor.R
open Go.RowKit Go.Proofs.YtnjnipllflfmeaaDoorW.PrintWords Go.Proofs.YtnjnipllflfmeaaDoorW.PrintLast Go.Proofs.YtnjnipllflfmeaaDoorW.PrintMore
set_option linter.unusedVariables false
set_option linter.unusedSimpArgs false
theorem one_l (A B C : ByteArray) (l : List Int) (hl : l.length ≤ 1048576) : ∀ (m k : Nat) (i : Nat), i + m = l.length → m < k → tetherref06_One.l0 k (l.length : Int) (i : Int) A B C l A B C l = some true := by
  intro m
  induction m with
  | zero =>
    intro k i h hk
    obtain ⟨k, rfl⟩ : ∃ q, k = q + 1 := ⟨k - 1, by omega⟩
    unfold tetherref06_One.l0
    rw [if_neg (by omega)]
  | succ m ih =>
    intro k i h hk
    obtain ⟨k, rfl⟩ : ∃ q, k = q + 1 := ⟨k - 1, by omega⟩
    unfold tetherref06_One.l0
    rw [if_pos (by omega), if_pos (by omega), if_pos (by omega), if_pos (by omega), if_pos rfl]
    have e : wrap64 ((i : Int) + 1) = ((i + 1 : Nat) : Int) := by unfold wrap64; omega
    rw [e]
    exact ih k (i + 1) (by omega) (by omega)
theorem one_same (A B C : ByteArray) (l : List Int) (hl : l.length ≤ 1048576) (k : Nat) (hk : l.length + 2 ≤ k) : tetherref06_One.f k A B C l A B C l = some true := by
  obtain ⟨k, rfl⟩ : ∃ q, k = q + 1 := ⟨k - 1, by omega⟩
  unfold tetherref06_One.f
  rw [if_pos rfl, if_pos rfl, if_pos rfl]
  rw [tetherref06_One.j0]
  rw [if_neg (by simp)]
  exact one_l A B C l hl l.length k 0 (by omega) (by omega)
theorem same_l (xs : List S25) (hx : xs.length ≤ 1048576) (hf : ∀ x ∈ xs, x.f3.length ≤ 16) : ∀ (m k i : Nat), i + m = xs.length → m + 20 ≤ k → tetherref06_Same.l0 k xs xs (xs.length : Int) (i : Int) = some true := by
  intro m
  induction m with
  | zero =>
    intro k i h hk
    obtain ⟨k, rfl⟩ : ∃ q, k = q + 1 := ⟨k - 1, by omega⟩
    unfold tetherref06_Same.l0
    rw [if_neg (by omega)]
  | succ m ih =>
    intro k i h hk
    obtain ⟨k, rfl⟩ : ∃ q, k = q + 1 := ⟨k - 1, by omega⟩
    unfold tetherref06_Same.l0
    have hlt : i < xs.length := by omega
    have hr : rd_T25 xs (i : Int) ∈ xs := by
      unfold rd_T25
      rw [Int.toNat_natCast, List.getD_eq_getElem?_getD, List.getElem?_eq_getElem hlt]
      exact List.getElem_mem _
    have h3 := hf _ hr
    have e : wrap64 ((i : Int) + 1) = ((i + 1 : Nat) : Int) := by unfold wrap64; omega
    rw [if_pos (by omega), if_pos (by omega), if_pos (by omega), if_pos (by omega), one_same _ _ _ _ (by omega) k (by omega), Option.bind_some, if_pos rfl, e]
    exact ih k (i + 1) (by omega) (by omega)
theorem same (xs : List S25) (hx : xs.length ≤ 1048576) (hf : ∀ x ∈ xs, x.f3.length ≤ 16) (k : Nat) (hk : xs.length + 20 ≤ k) : tetherref06_Same.f k xs xs = some true := by
  unfold tetherref06_Same.f
  rw [if_pos rfl]
  exact same_l xs hx hf xs.length k 0 (by omega) hk
theorem right_few {c s p : ByteArray} {l : List Int} (h : rightE c s p l = 0) : l.length ≤ 16 := by
  unfold rightE at h
  split at h
  · cases h
  split at h
  · cases h
  split at h
  · cases h
  · omega
theorem line_few {s : ByteArray} {x : Sec} (h : (lineE s).2 = some x) : (toS x).f3.length ≤ 16 := by
  unfold lineE at h
  split at h
  · cases h
  split at h
  · cases h
  unfold lineW at h
  split at h
  · cases h
  · cases h
  · cases h
  · split at h
    · rename_i hw
      cases h
      unfold whyW at hw
      split at hw
      · rename_i hb
        exact absurd hw hb.1
      · exact right_few hw
    · cases h
theorem sec_few {l : List UInt8} {x : S25} (h : x ∈ secL l) : x.f3.length ≤ 16 := by
  unfold secL at h
  split at h
  · rename_i y hy
    rw [List.mem_singleton] at h
    subst h
    exact line_few hy
  · cases h
theorem parse_ok {t : ByteArray} {out : List S25} {a : Int} (h : parseE t = (out, 0, a)) : t.size ≤ 65536 ∧ out.length ≤ 64 ∧ ∀ x ∈ out, x.f3.length ≤ 16 := by
  unfold parseE at h
  split at h
  · cases h
  unfold readE at h
  rcases readG_spec (linesB t) 0 [] with ⟨h1, h2⟩ | ⟨j, y, hy, h2, _⟩
  · rw [h2] at h
    dsimp only at h
    split at h
    · cases h
    · rename_i hz hn
      cases h
      refine ⟨by omega, by omega, fun x hx => ?_⟩
      rw [List.nil_append] at hx
      obtain ⟨l, _, hl⟩ := List.mem_flatMap.1 hx
      exact sec_few hl
  · rw [h2] at h
    simp only [Prod.mk.injEq] at h
    exact absurd h.2.1 hy
theorem parse_bad {t : ByteArray} (h : ¬ (parseE t).2.1 = 0) : (parseE t).1 = [] := by
  revert h
  unfold parseE
  split
  · intro _; rfl
  split
  · intro _; rfl
  · split
    · intro _; rfl
    · intro h; exact absurd rfl h
theorem law (s : ByteArray) (w : List Int) : ∃ k, tetherlaw06_SecretRemarks.f k s w = some true := by
  have hw : tetherlaw06_awake.f = some true := rfl
  have hP : ∀ t, secret_Parse.f t = some (parseE t) := fun t => rfl
  by_cases h : (parseE s).2.1 = 0
  · obtain ⟨out, e, a, hp⟩ : ∃ out e a, parseE s = (out, e, a) := ⟨_, _, _, rfl⟩
    rw [hp] at h
    dsimp only at h
    subst h
    obtain ⟨hz, hn, hf⟩ := parse_ok hp
    obtain ⟨K', hF, hl⟩ := loop s w out hz 200 s.size 0 0 0 (5 * s.size + 6 + 200) true [] (by omega) (by omega) (by omega) (by omega) (by simp) (fun _ => .inl ⟨rfl, rfl⟩)
    refine ⟨5 * s.size + 6 + 200, ?_⟩
    unfold tetherlaw06_SecretRemarks.f
    rw [hP, Option.bind_some, hp]
    rw [if_pos rfl]
    refine hl.trans ?_
    rw [List.drop_zero, List.nil_append]
    unfold End
    split
    · rw [hw]; rfl
    · rename_i hlen
      rw [strOf_toI, hP, Option.bind_some]
      have hg : parseE (mkB (G (kk w) true 0 0 s.data.toList)) = (out, 0, 0) := by
        refine parse_as s _ out a hp ?_ ?_
        · rw [toI_len] at hlen
          rw [mkB_size]; omega
        · rw [mkB_list]
          exact (G_as (kk w) s.data.toList).2 0 0
      rw [hg]
      rw [if_pos rfl, same out (by omega) hf K' (by omega), Option.bind_some, if_pos rfl, hw]
      rfl
  · refine ⟨0, ?_⟩
    unfold tetherlaw06_SecretRemarks.f
    rw [hP, Option.bind_some, if_neg h, parse_bad h, if_pos (show (((([] : List S25).length : Nat) : Int) = 0) from rfl), hw]
    rfl
end Go.Proofs.YtnjnipllflfmeaaDoor.Rem
