import Derived.Test.YtnjnipllflfmeaaGreatDoorPlA
import Derived.Test.YtnjnipllflfmeaaGreatDoorPl
import Derived.Test.YtnjnipllflfmeaaGreatDoorA9
import Derived.Test.YtnjnipllflfmeaaGreatDoorA10
import Derived.Test.YtnjnipllflfmeaaGreatDoorA13
import Derived.Test.YtnjnipllflfmeaaGreatDoorA14
namespace Go.Proofs.YtnjnipllflfmeaaGreatDoor.Pl3
open Go.Proofs.YtnjnipllflfmeaaGreatDoor.A Go.Proofs.YtnjnipllflfmeaaGreatDoor.Pl Go.Proofs.YtnjnipllflfmeaaGreatDoor.Pl2
open Go.RowKit Go.Proofs.YtnjnipllflfmeaaGreatDoorW.PrintWords Go.Proofs.YtnjnipllflfmeaaGreatDoorW.PrintLast Go.Proofs.YtnjnipllflfmeaaGreatDoorW.PrintMore
set_option linter.unusedVariables false
set_option linter.unusedSimpArgs false
/-! Octets. -/
theorem and255 (x : Int) (h0 : 0 ≤ x) (h : x < 4294967296) : Go.bits .and .i64 x 255 = x % 256 := by
  obtain ⟨n, rfl⟩ := Int.eq_ofNat_of_zero_le h0
  show IntKind.i64.wrap ((BitVec.ofInt IntKind.i64.bits (n : Int) &&& BitVec.ofInt IntKind.i64.bits 255).toNat : Int) = _
  have e : (BitVec.ofInt IntKind.i64.bits (n : Int) &&& BitVec.ofInt IntKind.i64.bits 255).toNat = n % 256 := by
    rw [BitVec.toNat_and]
    have e1 : (BitVec.ofInt IntKind.i64.bits (n : Int)).toNat = n := by
      show (BitVec.ofInt 64 (n : Int)).toNat = n
      rw [BitVec.ofInt_natCast, BitVec.toNat_ofNat, Nat.mod_eq_of_lt (by omega)]
    have e2 : (BitVec.ofInt IntKind.i64.bits 255).toNat = 255 := by decide
    rw [e1, e2]
    exact Nat.and_two_pow_sub_one_eq_mod n 8
  rw [e, IntKind.wrap_i64]
  omega
theorem oct (a : Int) (h0 : 0 ≤ a) (h : a ≤ 4294967295) :
    Go.bits .and .i64 (shr .i64 a 24) 255 = a / 16777216 % 256 ∧ Go.bits .and .i64 (shr .i64 a 16) 255 = a / 65536 % 256 ∧ Go.bits .and .i64 (shr .i64 a 8) 255 = a / 256 % 256 ∧ Go.bits .and .i64 (shr .i64 a 0) 255 = a % 256 := by
  have s24 : shr .i64 a 24 = a / 16777216 := rfl
  have s16 : shr .i64 a 16 = a / 65536 := rfl
  have s8 : shr .i64 a 8 = a / 256 := rfl
  have s0 : shr .i64 a 0 = a := by show a / 1 = a; omega
  rw [s24, s16, s8, s0]
  exact ⟨and255 _ (by omega) (by omega), and255 _ (by omega) (by omega), and255 _ (by omega) (by omega), and255 _ (by omega) (by omega)⟩
def o3 (a : Int) : List UInt8 := Lib.itoa (a / 16777216 % 256)
def o2 (a : Int) : List UInt8 := Lib.itoa (a / 65536 % 256)
def o1 (a : Int) : List UInt8 := Lib.itoa (a / 256 % 256)
def o0 (a : Int) : List UInt8 := Lib.itoa (a % 256)
theorem itoa_len {v : Int} (h0 : 0 ≤ v) (h1 : v ≤ 255) : (Lib.itoa v).length ≤ 3 := by
  have := (itoa_all h0 h1).1
  simp only [good, Bool.and_eq_true, decide_eq_true_eq] at this
  exact this.1.1.1.2
def txt (a : Int) : ByteArray := ⟨(o3 a ++ 46 :: (o2 a ++ 46 :: (o1 a ++ 46 :: o0 a))).toArray⟩
theorem fmt (v : Int) (h0 : 0 ≤ v) (h1 : v ≤ 255) : strconv_FormatInt.f v 10 = some ⟨(Lib.itoa v).toArray⟩ := if_pos ⟨rfl, by omega, by omega⟩
theorem addr_text (a : Int) (h0 : 0 ≤ a) (h : a ≤ 4294967295) (k : Nat) (hk : 8 ≤ k) : secret_AddrText.f k a = some (txt a, 0) := by
  obtain ⟨k, rfl⟩ : ∃ m, k = m + 1 + 1 + 1 + 1 + 1 + 1 + 1 + 1 := ⟨k - 8, by omega⟩
  obtain ⟨e3, e2, e1, e0⟩ := oct a h0 h
  have l3 := itoa_len (v := a / 16777216 % 256) (by omega) (by omega)
  have l2 := itoa_len (v := a / 65536 % 256) (by omega) (by omega)
  have l1 := itoa_len (v := a / 256 % 256) (by omega) (by omega)
  have l0 := itoa_len (v := a % 256) (by omega) (by omega)
  have w1 : wrap64 (24 - 8) = 16 := by unfold wrap64; decide
  have w2 : wrap64 (16 - 8) = 8 := by unfold wrap64; decide
  have w3 : wrap64 (8 - 8) = 0 := by unfold wrap64; decide
  have w4 : wrap64 (0 - 8) = -8 := by unfold wrap64; decide
  unfold secret_AddrText.f
  rw [if_neg (by omega), decide_eq_false (by omega)]
  rw [secret_AddrText.j0]
  rw [if_neg (by decide)]
  unfold secret_AddrText.l0
  rw [if_pos (by decide), if_pos (by decide), e3, fmt _ (by omega) (by omega), Option.bind_some, if_pos (by simp), w1]
  unfold secret_AddrText.l0
  rw [if_pos (by decide), if_pos (by decide), e2, fmt _ (by omega) (by omega), Option.bind_some, if_pos (by simp), w2]
  unfold secret_AddrText.l0
  rw [if_pos (by decide), if_pos (by decide), e1, fmt _ (by omega) (by omega), Option.bind_some, if_pos (by simp), w3]
  unfold secret_AddrText.l0
  rw [if_pos (by decide), if_pos (by decide), e0, fmt _ (by omega) (by omega), Option.bind_some, if_pos (by simp), w4]
  unfold secret_AddrText.l0
  rw [if_neg (by decide)]
  have hj : Lib.join (List.map (fun x : ByteArray => x.data.toList) ((((([] : List ByteArray) ++ [⟨(Lib.itoa (a / 16777216 % 256)).toArray⟩]) ++ [⟨(Lib.itoa (a / 65536 % 256)).toArray⟩]) ++ [⟨(Lib.itoa (a / 256 % 256)).toArray⟩]) ++ [⟨(Lib.itoa (a % 256)).toArray⟩])) ((⟨#[46]⟩ : ByteArray).data.toList) = o3 a ++ 46 :: (o2 a ++ 46 :: (o1 a ++ 46 :: o0 a)) := by
    simp [Lib.join, List.intercalate, List.intersperse, o3, o2, o1, o0]
  unfold strings_Join.f
  rw [hj, if_pos ⟨by simp, by simp only [List.length_append, List.length_cons, o3, o2, o1, o0]; omega⟩]
  rfl
theorem show_text (a : Int) (h0 : 0 ≤ a) (h : a ≤ 4294967295) (k : Nat) (hk : 8 ≤ k) : tetherref06_AddrText.f k a = some (txt a, 0) := by
  obtain ⟨k, rfl⟩ : ∃ m, k = m + 1 + 1 + 1 + 1 + 1 + 1 + 1 + 1 := ⟨k - 8, by omega⟩
  obtain ⟨e3, e2, e1, e0⟩ := oct a h0 h
  have l3 := itoa_len (v := a / 16777216 % 256) (by omega) (by omega)
  have l2 := itoa_len (v := a / 65536 % 256) (by omega) (by omega)
  have l1 := itoa_len (v := a / 256 % 256) (by omega) (by omega)
  have l0 := itoa_len (v := a % 256) (by omega) (by omega)
  have x0 : (IntKind.u64.wrap (wrap64 (24 - (wrap64 (8 * 0))))) = 24 := by unfold wrap64; decide
  have x1 : (IntKind.u64.wrap (wrap64 (24 - (wrap64 (8 * 1))))) = 16 := by unfold wrap64; decide
  have x2 : (IntKind.u64.wrap (wrap64 (24 - (wrap64 (8 * 2))))) = 8 := by unfold wrap64; decide
  have x3 : (IntKind.u64.wrap (wrap64 (24 - (wrap64 (8 * 3))))) = 0 := by unfold wrap64; decide
  have w0 : wrap64 (0 + 1) = 1 := by unfold wrap64; decide
  have w1 : wrap64 (1 + 1) = 2 := by unfold wrap64; decide
  have w2 : wrap64 (2 + 1) = 3 := by unfold wrap64; decide
  have w3 : wrap64 (3 + 1) = 4 := by unfold wrap64; decide
  have sz : ∀ l : List UInt8, (⟨l.toArray⟩ : ByteArray).size = l.length := fun l => by simp [ByteArray.size]
  have ap : ∀ l m : List UInt8, (⟨l.toArray⟩ : ByteArray) ++ ⟨m.toArray⟩ = ⟨(l ++ m).toArray⟩ := fun l m => by
    apply ByteArray.ext; simp [ByteArray.append]
  have sp : (⟨#[46]⟩ : ByteArray) = ⟨[46].toArray⟩ := rfl
  have s0 : (⟨#[]⟩ : ByteArray) = ⟨([] : List UInt8).toArray⟩ := rfl
  unfold tetherref06_AddrText.f
  rw [if_neg (by omega), if_neg (by omega)]
  unfold tetherref06_Show.f
  unfold tetherref06_Show.l0
  rw [if_pos (by decide), if_neg (by decide), x0, if_pos (by decide), e3, fmt _ (by omega) (by omega), Option.bind_some, s0, sz, sz, if_pos (by simp only [List.length_nil]; omega), ap, w0]
  unfold tetherref06_Show.l0
  rw [if_pos (by decide), if_pos (by decide), sp, sz, if_pos (by simp only [List.length_append, List.length_nil]; omega), x1, if_pos (by decide), e2, fmt _ (by omega) (by omega), Option.bind_some, ap, sz, sz, if_pos (by simp only [List.length_append, List.length_nil, List.length_cons]; omega), ap, w1]
  unfold tetherref06_Show.l0
  rw [if_pos (by decide), if_pos (by decide), sp, sz, if_pos (by simp only [List.length_append, List.length_nil, List.length_cons]; omega), x2, if_pos (by decide), e1, fmt _ (by omega) (by omega), Option.bind_some, ap, sz, sz, if_pos (by simp only [List.length_append, List.length_nil, List.length_cons]; omega), ap, w2]
  unfold tetherref06_Show.l0
  rw [if_pos (by decide), if_pos (by decide), sp, sz, if_pos (by simp only [List.length_append, List.length_nil, List.length_cons]; omega), x3, if_pos (by decide), e0, fmt _ (by omega) (by omega), Option.bind_some, ap, sz, sz, if_pos (by simp only [List.length_append, List.length_nil, List.length_cons]; omega), ap, w3]
  unfold tetherref06_Show.l0
  rw [if_neg (by decide)]
  have : ((((([] : List UInt8) ++ Lib.itoa (a / 16777216 % 256)) ++ [46] ++ Lib.itoa (a / 65536 % 256)) ++ [46] ++ Lib.itoa (a / 256 % 256)) ++ [46] ++ Lib.itoa (a % 256)) = o3 a ++ 46 :: (o2 a ++ 46 :: (o1 a ++ 46 :: o0 a)) := by
    simp [o3, o2, o1, o0]
  rw [this]
  rfl
theorem text_back (a : Int) (h0 : 0 ≤ a) (h : a ≤ 4294967295) : addrE (txt a) = (a, 0) := by
  have g3 := itoa_all (v := a / 16777216 % 256) (by omega) (by omega)
  have g2 := itoa_all (v := a / 65536 % 256) (by omega) (by omega)
  have g1 := itoa_all (v := a / 256 % 256) (by omega) (by omega)
  have g0 := itoa_all (v := a % 256) (by omega) (by omega)
  have n46 : ∀ q : List UInt8, good q = true → (46 : UInt8) ∉ q := fun q hq => not46 (by
    simp only [good, Bool.and_eq_true] at hq
    exact hq.1.1.2)
  rw [addrE_told]
  rw [show (txt a).data.toList = o3 a ++ 46 :: (o2 a ++ 46 :: (o1 a ++ 46 :: o0 a)) by simp [txt]]
  rw [pieces_hit 46 _ (o3 a) (n46 _ g3.1), pieces_hit 46 _ (o2 a) (n46 _ g2.1), pieces_hit 46 _ (o1 a) (n46 _ g1.1), pieces_none 46 (o0 a) (n46 _ g0.1)]
  rw [told_cons, if_pos (show good (o3 a) = true from g3.1), told_cons, if_pos (show good (o2 a) = true from g2.1), told_cons, if_pos (show good (o1 a) = true from g1.1), told_cons, if_pos (show good (o0 a) = true from g0.1), told_nil]
  have v3 : val (o3 a) = a / 16777216 % 256 := g3.2.1
  have v2 : val (o2 a) = a / 65536 % 256 := g2.2.1
  have v1 : val (o1 a) = a / 256 % 256 := g1.2.1
  have v0 : val (o0 a) = a % 256 := g0.2.1
  rw [v3, v2, v1, v0]
  congr 1
  omega
/-! One secret against itself. -/
theorem one_l (A B C : ByteArray) (l : List Int) (hl : l.length ≤ 1099511627776) : ∀ (m k : Nat) (i : Nat), i + m = l.length → m < k → tetherref06_One.l0 k (l.length : Int) (i : Int) A B C l A B C l = some true := by
  intro m
  induction m with
  | zero =>
    intro k i h hk
    obtain ⟨k, rfl⟩ : ∃ q, k = q + 1 := ⟨k - 1, by omega⟩
    unfold tetherref06_One.l0
    rw [if_neg (by omega)]
  | succ m ih =>
    intro k i h hk
    obtain ⟨k, rfl⟩ : ∃ q, k = q + 1 := ⟨k - 1, by omega⟩
    unfold tetherref06_One.l0
    rw [if_pos (by omega), if_pos (by omega), if_pos (by omega), if_pos (by omega), if_pos rfl]
    have e : wrap64 ((i : Int) + 1) = ((i + 1 : Nat) : Int) := by unfold wrap64; omega
    rw [e]
    exact ih k (i + 1) (by omega) (by omega)
theorem one_same (A B C : ByteArray) (l : List Int) (hl : l.length ≤ 1099511627776) (k : Nat) (hk : l.length + 2 ≤ k) : tetherref06_One.f k A B C l A B C l = some true := by
  obtain ⟨k, rfl⟩ : ∃ q, k = q + 1 := ⟨k - 1, by omega⟩
  unfold tetherref06_One.f
  rw [if_pos rfl, if_pos rfl, if_pos rfl]
  rw [tetherref06_One.j0]
  rw [if_neg (by simp)]
  exact one_l A B C l hl l.length k 0 (by omega) (by omega)
theorem law (A B C : ByteArray) (l : List Int) (s : ByteArray) (a : Int) (hA : A.size ≤ 1048576) (hB : B.size ≤ 1048576) (hC : C.size ≤ 1048576) (hl : l.length ≤ 1048576) (hs : s.size ≤ 1048576) (k : Nat) (hk : 1999999 ≤ k) :
    tetherlaw06_SecretAddrs.f (k + 1) A B C l s a = some true := by
  have hcp : tetherlaw06_Copied.f [(⟨A, B, C, l⟩ : S32)] = some [⟨A, B, C, l⟩] := by
    unfold tetherlaw06_Copied.f
    rw [if_pos ⟨by simp, by simp; exact hl⟩]
  have h1 : secret_Addr.f s = some (addrE s) := if_pos (by omega)
  have h2 := ref_addr s (by omega) (k + 1) (by omega)
  have hr := right_f A B C l hA hB hC (k + 1) (by omega)
  have ho := one_same A B C l (by omega) (k + 1) (by omega)
  have hw : tetherlaw06_awake.f = some true := rfl
  have hrd : rd_T32 [(⟨A, B, C, l⟩ : S32)] 0 = ⟨A, B, C, l⟩ := rfl
  have hR : secret_Right.f A B C l = some (rightE A B C l) := rfl
  obtain ⟨T, e, hT1, hT2, hT3⟩ : ∃ (T : ByteArray) (e : Int), secret_AddrText.f (k + 1) a = some (T, e) ∧ tetherref06_AddrText.f (k + 1) a = some (T, e) ∧ (e = 0 → secret_Addr.f T = some (a, 0)) := by
    by_cases h0 : a < 0
    · refine ⟨⟨#[]⟩, 150, ?_, ?_, fun h => absurd h (by decide)⟩
      · unfold secret_AddrText.f
        rw [if_pos h0]
        rw [secret_AddrText.j0]
        rw [if_pos rfl]
      · unfold tetherref06_AddrText.f
        rw [if_pos h0]
    by_cases h4 : a > 4294967295
    · refine ⟨⟨#[]⟩, 150, ?_, ?_, fun h => absurd h (by decide)⟩
      · unfold secret_AddrText.f
        rw [if_neg h0, decide_eq_true h4]
        rw [secret_AddrText.j0]
        rw [if_pos rfl]
      · unfold tetherref06_AddrText.f
        rw [if_neg h0, if_pos h4]
    · refine ⟨txt a, 0, addr_text a (by omega) (by omega) _ (by omega), show_text a (by omega) (by omega) _ (by omega), fun _ => ?_⟩
      have l3 := itoa_len (v := a / 16777216 % 256) (by omega) (by omega)
      have l2 := itoa_len (v := a / 65536 % 256) (by omega) (by omega)
      have l1 := itoa_len (v := a / 256 % 256) (by omega) (by omega)
      have l0 := itoa_len (v := a % 256) (by omega) (by omega)
      have hz : (txt a).size < 4294967281 := by
        have : (txt a).size = (o3 a ++ 46 :: (o2 a ++ 46 :: (o1 a ++ 46 :: o0 a))).length := by simp [txt, ByteArray.size]
        rw [this]
        simp only [List.length_append, List.length_cons, o3, o2, o1, o0]
        omega
      rw [show secret_Addr.f (txt a) = some (addrE (txt a)) from if_pos hz, text_back a (by omega) (by omega)]
  unfold tetherlaw06_SecretAddrs.f
  rw [hcp, Option.bind_some, h1, Option.bind_some, h2, Option.bind_some, hT1, Option.bind_some, hT2, Option.bind_some]
  rw [if_pos (by simp), hrd, hR, Option.bind_some, hr, Option.bind_some, if_pos rfl, if_pos rfl, if_pos rfl, if_pos rfl, if_pos rfl, ho, Option.bind_some]
  rw [tetherlaw06_SecretAddrs.j0]
  rw [if_neg (by decide)]
  by_cases he : e = 0
  · rw [if_pos he, hT3 he, Option.bind_some, if_pos rfl, if_pos rfl, hw]; rfl
  · rw [if_neg he, hw]; rfl
end Go.Proofs.YtnjnipllflfmeaaGreatDoor.Pl3
