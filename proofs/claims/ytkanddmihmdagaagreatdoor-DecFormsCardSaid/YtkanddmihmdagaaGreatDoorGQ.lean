/- Texts of one layer, joined: Lm, Kn. -/
import Derived.Test.YtkanddmihmdagaaGreatDoorCards
import Derived.Test.YtkanddmihmdagaaGreatDoorTie
import Derived.Test.YtkanddmihmdagaaGreatDoorGA
import Derived.Test.YtkanddmihmdagaaGreatDoorGF
import Derived.WalkKit
import Derived.ProofKit
import Derived.OpenShut
import Derived.Carry
import Derived.Deep.DeepHandedRow
import Derived.Lib.LaidTab
import Derived.Stop.LaidErr
import Derived.Deep.DeepWitnessRowRef
set_option linter.unusedVariables false
set_option linter.unusedSimpArgs false
set_option linter.unusedSectionVars false
/- Layer 2: what every row of the seat needs: a world that holds the listed variables. -/
namespace Go.Proofs.YtkanddmihmdagaaGreatDoor.Row
open Go.ChangeShapes Go.WideShapes Go.ChangeAt Go.RowKit

theorem own : ownKnob Tryz.prog.godebug = none := by kernel_rfl
theorem laidOut : laidOutB Tryz.prog = true := by kernel_rfl
theorem gTab : Tryz.prog.globalNamed "internal/strconv.uint64pow10" = some 7 := by kernel_rfl
mutual
def flatD : DataW Unit → List Value
  | .lit (.int k n) => [.int k n]
  | .agg ps => flatDs ps
  | _ => []
def flatDs : List (DataW Unit) → List Value
  | [] => []
  | d :: r => flatD d ++ flatDs r
end
def putRow (cs : Array Value) : Obj → Obj
  | .cells _ t frozen => .cells cs t frozen
  | o => o
noncomputable def low : Nat := (World.holding Tryz.prog default ⟨#[], #[], []⟩).heap.size
abbrev rangeS : ByteArray := ⟨#[118, 97, 108, 117, 101, 32, 111, 117, 116, 32, 111, 102, 32, 114, 97, 110, 103, 101]⟩
abbrev syntaxS : ByteArray := ⟨#[105, 110, 118, 97, 108, 105, 100, 32, 115, 121, 110, 116, 97, 120]⟩
/-- A WORLD FOR THE WITNESS: the settled one, the listed variables holding what the program's text lays. -/
noncomputable def laidWorld (os : Os) : World :=
  let w0 := World.holding Tryz.prog os ⟨#[.cells #[.string rangeS] 188, .cells #[.string syntaxS] 188], #[], []⟩
  { w0 with heap := ((((((w0.heap.modify 2 (putRow (flatD Rows.laid_unicode_utf8_first).toArray)).modify 3 (putRow (flatD Rows.laid_unicode_utf8_acceptRanges).toArray)).modify 8 (putRow (flatD Rows.laid_math_bits_deBruijn32tab).toArray)).modify 9 (putRow (flatD Rows.laid_math_bits_deBruijn64tab).toArray)).modify 7 (putRow (flatD Rows.laid_internal_strconv_uint64pow10).toArray)).modify 5 (putRow #[.iface 186 (.pointer (some ⟨low, 0, none⟩))])).modify 4 (putRow #[.iface 186 (.pointer (some ⟨low + 1, 0, none⟩))]) }
end Go.Proofs.YtkanddmihmdagaaGreatDoor.Row

/- Layer 6: what every row of the seat needs: the table of powers of ten, out of what a row lists (the world: Lm). -/
set_option linter.unusedSimpArgs false
set_option linter.unusedVariables false
namespace Go.Proofs.YtkanddmihmdagaaGreatDoor.Row
open Go.ChangeShapes Go.WideShapes Go.ChangeAt Go.RowKit

theorem tab_e : (Rows.laid_internal_strconv_uint64pow10 : DataW Unit) = Lib.tabData .u64 Lib.pow10Tab := by kernel_rfl
theorem pow_of {W : World} {l : List (String × DataW Unit)} (h : laidMet Tryz.prog (("internal/strconv.uint64pow10", Rows.laid_internal_strconv_uint64pow10) :: l) W) : Bu.Pow W := by
  rw [tab_e] at h
  exact Lib.tabIs_of_head (n := 20) (e := 88) gTab (by kernel_rfl) Tryz.underlying182 Tryz.underlying88 (by kernel_rfl) (by kernel_rfl) h
theorem bnd64 {z : Int} (h : (Lit.int .u64 z).wf = true) : 0 ≤ z ∧ z < 18446744073709551616 := by
  simp only [Lit.wf, Bool.and_eq_true, decide_eq_true_eq] at h
  have m1 : IntKind.u64.min = 0 := rfl
  have m2 : IntKind.u64.max = 18446744073709551615 := rfl
  rw [m1, m2] at h
  omega
theorem bnd32 {z : Int} (h : (Lit.int .u32 z).wf = true) : 0 ≤ z ∧ z < 4294967296 := by
  simp only [Lit.wf, Bool.and_eq_true, decide_eq_true_eq] at h
  have m1 : IntKind.u32.min = 0 := rfl
  have m2 : IntKind.u32.max = 4294967295 := rfl
  rw [m1, m2] at h
  omega
end Go.Proofs.YtkanddmihmdagaaGreatDoor.Row
