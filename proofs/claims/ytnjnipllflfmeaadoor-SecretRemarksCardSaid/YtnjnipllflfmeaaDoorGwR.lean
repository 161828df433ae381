import Derived.Test.YtnjnipllflfmeaaDoorG
import Derived.Test.YtnjnipllflfmeaaDoorCards
import Derived.Test.YtnjnipllflfmeaaDoorTie
import Derived.WalkKit
import Derived.ProofKit
import Derived.OpenShut
import Derived.Deep.DeepHandedRow
import Derived.Lib.LaidTab
import Derived.Stop.LaidErr
import Derived.LaidHandle
import Derived.LaidSub
/-! From a row's list of laid variables to what the walks ask; and a world that meets the list. -/
namespace Go.Proofs.YtnjnipllflfmeaaDoor.Gw
open Go.RowKit
set_option linter.unusedVariables false
theorem tNum : Tryd.prog.types.size = 182 := by kernel_rfl
theorem oneError : ((List.range 182).filter fun t => Tryd.prog.rowNamed t [101, 114, 114, 111, 114]) = [44] := by kernel_rfl
theorem star : "*" ++ "errors.errorString" = "*errors.errorString" := by decide
theorem rowErr (u : TypeId) (h : Tryd.prog.typeName? 3 u = some "*errors.errorString") : u = 144 :=
  typeName_ptr_named (nm := "errors.errorString") (by rw [star]; kernel_rfl) (by kernel_rfl) (by decide) u (by rw [star]; exact h)
theorem gw {W : World} (hL : laidMetH Tryd.prog Rows.secretRemarksRow.laid W) (hsh : W.ShapedOpen Tryd.prog) : GW W where
  pow := by
    have h := laidMetH.filter (fun x => x.1 == "internal/strconv.uint64pow10") hL
    rw [show (Rows.secretRemarksRow.laid.filter fun x => x.1 == "internal/strconv.uint64pow10") = [("internal/strconv.uint64pow10", Rows.laid_internal_strconv_uint64pow10)] by kernel_rfl] at h
    have h' : laidMet Tryd.prog [("internal/strconv.uint64pow10", Lib.tabData .u64 Lib.pow10Tab)] W := h
    exact Lib.tabIs_of_head (rest := []) (g := 7) (t := 148) (by kernel_rfl) (by kernel_rfl) Tryd.underlying148 Tryd.underlying130 (by kernel_rfl) (by kernel_rfl) h'
  syn := by
    have h := laidMetH.filter (fun x => x.1 == "strconv.ErrSyntax") hL
    rw [show (Rows.secretRemarksRow.laid.filter fun x => x.1 == "strconv.ErrSyntax") = [("strconv.ErrSyntax", Rows.laid_strconv_ErrSyntax)] by kernel_rfl] at h
    have hg : Tryd.prog.globalNamed "strconv.ErrSyntax" = some 5 := by kernel_rfl
    obtain ⟨a0, s0, hv0, -, -, -⟩ := laid_sentinel (r := []) (ti := 44) (ts := 9) (show laidMet Tryd.prog [("strconv.ErrSyntax", Rows.laid_strconv_ErrSyntax)] W from h) hg (by kernel_rfl) Tryd.underlying44 rowErr Tryd.underlying144 Tryd.underlying146 rfl rfl Tryd.underlying9 (by kernel_rfl) (by kernel_rfl)
    exact ⟨_, _, by have h0 := World.var?_cell hg hv0 0; simpa using h0⟩
  ran := by
    have h := laidMetH.filter (fun x => x.1 == "strconv.ErrRange") hL
    rw [show (Rows.secretRemarksRow.laid.filter fun x => x.1 == "strconv.ErrRange") = [("strconv.ErrRange", Rows.laid_strconv_ErrRange)] by kernel_rfl] at h
    have hg : Tryd.prog.globalNamed "strconv.ErrRange" = some 6 := by kernel_rfl
    obtain ⟨a0, s0, hv0, -, -, -⟩ := laid_sentinel (r := []) (ti := 44) (ts := 9) (show laidMet Tryd.prog [("strconv.ErrRange", Rows.laid_strconv_ErrRange)] W from h) hg (by kernel_rfl) Tryd.underlying44 rowErr Tryd.underlying144 Tryd.underlying146 rfl rfl Tryd.underlying9 (by kernel_rfl) (by kernel_rfl)
    exact ⟨_, _, by have h0 := World.var?_cell hg hv0 0; simpa using h0⟩
  err := by
    have h := laidMetH.filter (fun x => x.1 == "tether/secret.errLine") hL
    rw [show (Rows.secretRemarksRow.laid.filter fun x => x.1 == "tether/secret.errLine") = [("tether/secret.errLine", Rows.laid_tether_secret_errLine)] by kernel_rfl] at h
    have hg : Tryd.prog.globalNamed "tether/secret.errLine" = some 0 := by kernel_rfl
    obtain ⟨a0, s0, hv0, -, -, -⟩ := laid_sentinel (r := []) (ti := 44) (ts := 9) (show laidMet Tryd.prog [("tether/secret.errLine", Rows.laid_tether_secret_errLine)] W from h) hg (by kernel_rfl) Tryd.underlying44 rowErr Tryd.underlying144 Tryd.underlying146 rfl rfl Tryd.underlying9 (by kernel_rfl) (by kernel_rfl)
    exact ⟨a0, by have h0 := World.var?_cell hg hv0 0; simpa using h0, trivial⟩
  typ := by
    have h := laidMetH.filter (fun x => x.1 == "errors.errorType") hL
    rw [show (Rows.secretRemarksRow.laid.filter fun x => x.1 == "errors.errorType") = [("errors.errorType", Rows.laid_errors_errorType)] by kernel_rfl] at h
    have h' : laidMet Tryd.prog [] W ∧ handlesMet Tryd.prog [("errors.errorType", Rows.laid_errors_errorType)] W := h
    obtain ⟨name, u, ty, e1, e2, e3, e4, e5⟩ := h'.2 _ (List.mem_singleton.2 rfl)
    have en : name = [101, 114, 114, 111, 114] := (Option.some.inj e1).symm
    subst en
    obtain rfl := Option.some.inj ((show (Tryd.prog.cutTypes.find? (·.1 == "internal/reflectlite.rtype")).map (·.2) = some 77 by kernel_rfl).symm.trans e2)
    have hm : ty ∈ (List.range 182).filter fun t => Tryd.prog.rowNamed t [101, 114, 114, 111, 114] := List.mem_filter.2 ⟨List.mem_range.2 (by rw [← tNum]; exact e3), e4⟩
    rw [oneError] at hm
    obtain rfl := List.mem_singleton.1 hm
    have hh : typeHandle Tryd.prog 44 = .pointer (some ⟨Tryd.prog.globals.size, 44, none⟩) := by kernel_rfl
    rw [hh] at e5
    have h0 := World.var?_cell (show Tryd.prog.globalNamed "errors.errorType" = some 1 by kernel_rfl) e5 0
    simpa using h0
  max := Tryd.laysM219.s1_3 W hsh

/-! ### A start that is there -/
def flat1 : DataW Unit → List Value
  | .lit (.int k n) => [.int k n]
  | .agg l => l.flatMap fun d => match d with | .lit (.int k n) => [.int k n] | _ => []
  | _ => []
def flat2 : DataW Unit → List Value
  | .agg l => l.flatMap flat1
  | d => flat1 d
def textOf : DataW Unit → List UInt8
  | .iface _ (.ptr (.agg [.lit (.string t)])) => t
  | _ => []
noncomputable def laidWorld (os : Os) : World :=
  let N := (World.settled Tryd.prog os).heap.size
  let w0 := World.holding Tryd.prog os ⟨#[.cells #[.string ⟨(textOf Rows.laid_tether_secret_errLine).toArray⟩] 146, .cells #[.string ⟨(textOf Rows.laid_strconv_ErrSyntax).toArray⟩] 146, .cells #[.string ⟨(textOf Rows.laid_strconv_ErrRange).toArray⟩] 146], #[], []⟩
  let put (h : Array Obj) (g : Nat) (cs : Array Value) : Array Obj := h.modify g fun
    | .cells _ t frozen => .cells cs t frozen
    | o => o
  let h0 := put (put (put w0.heap 0 #[.iface 144 (.pointer (some ⟨N, 0, none⟩))]) 5 #[.iface 144 (.pointer (some ⟨N + 1, 0, none⟩))]) 6 #[.iface 144 (.pointer (some ⟨N + 2, 0, none⟩))]
  let h1 := put h0 1 #[.iface 77 (.agg #[.pointer (some ⟨10, 44, none⟩)])]
  let h2 := put (put h1 3 (flat1 Rows.laid_unicode_utf8_first).toArray) 4 (flat2 Rows.laid_unicode_utf8_acceptRanges).toArray
  let h3 := put h2 7 (flat1 Rows.laid_internal_strconv_uint64pow10).toArray
  let h4 := put (put h3 8 (flat1 Rows.laid_math_bits_deBruijn32tab).toArray) 9 (flat1 Rows.laid_math_bits_deBruijn64tab).toArray
  { w0 with heap := h4 }
set_option maxRecDepth 1000000 in
theorem laid_met (os : Os) (args : Array Value) : laidMetH Tryd.prog Rows.secretRemarksRow.laid ((laidWorld os).forCall (fun _ _ => 0) ⟨#[], args, []⟩).memory :=
  laidMetH_of_parts (laidMet_of_run' 10 (by kernel_rfl) (by kernel_rfl)) (by kernel_rfl)
end Go.Proofs.YtnjnipllflfmeaaDoor.Gw
