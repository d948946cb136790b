/-
  What the printed functions stand on, gathered.
-/
import Derived.Test.YtnkbbmfhdabbkaaDoorProg
import Derived.Below
import Derived.Deep.Draws
import Derived.Deep.AppendLies
import Derived.Maps.AppendAt
import Derived.OwnWalk
import Derived.Laws.BytesArg
import Derived.Laws.MakeOwn
import Derived.Laws.OwnMore
import Derived.Deep.OwnRows
import Derived.Tactics
import Derived.Lib.ConvBytes
import Derived.Laws.Slices
import Derived.WalkKit
import Derived.KernelRfl
import Derived.RowKit3
import Derived.Deep.LoopGhost
import Derived.Deep.QuietTactic
import Derived.BigQuiet
import Derived.WideLaws
import Derived.Deep.DeepCutAuto
import Derived.Deep.CutBlock
import Derived.Deep.RegionHeld3
import Derived.Laws.Rows
import Derived.Lib.AppendStr
import Derived.ArgAppend
import Derived.Laws.IdiomCopy
import Derived.OrdersHeld
import Derived.Laws.BitsLemmas
import Derived.RowKit
import Derived.Test.YtnkbbmfhdabbkaaDoorWWords
import Derived.Test.YtnkbbmfhdabbkaaDoorWLast
import Derived.Test.YtnkbbmfhdabbkaaDoorWTab
import Derived.Test.YtnkbbmfhdabbkaaDoorWFour
import Derived.Test.YtnkbbmfhdabbkaaDoorWQPut
import Derived.Test.YtnkbbmfhdabbkaaDoorWApart
import Derived.Test.YtnkbbmfhdabbkaaDoorWArr
import Derived.Test.YtnkbbmfhdabbkaaDoorWZeros
import Derived.Test.YtnkbbmfhdabbkaaDoorWFoot
import Derived.Test.YtnkbbmfhdabbkaaDoorWKept
import Derived.Test.YtnkbbmfhdabbkaaDoorWShare
import Derived.Test.YtnkbbmfhdabbkaaDoorWN
import Derived.Test.YtnkbbmfhdabbkaaDoorWFootNe
import Derived.Test.YtnkbbmfhdabbkaaDoorWAt
import Derived.Test.YtnkbbmfhdabbkaaDoorWEqStruct
import Derived.Test.YtnkbbmfhdabbkaaDoorWRepsOne
import Derived.Test.YtnkbbmfhdabbkaaDoorWInv
import Derived.Test.YtnkbbmfhdabbkaaDoorWInvWords
import Derived.Test.YtnkbbmfhdabbkaaDoorWGuard
import Derived.Test.YtnkbbmfhdabbkaaDoorWNEv
import Derived.Test.YtnkbbmfhdabbkaaDoorWMore
namespace Go.Proofs.YtnkbbmfhdabbkaaDoor.PA
open Go.RowKit Go.Proofs.YtnkbbmfhdabbkaaDoorW.PrintWords Go.Proofs.YtnkbbmfhdabbkaaDoorW.PrintLast Go.Proofs.YtnkbbmfhdabbkaaDoorW.PrintMore
attribute [local go_sem] max2_int min2_int max_two min_two max_three min_three max_four min_four   -- for this text's walks alone
set_option linter.unusedVariables false
set_option linter.unusedSimpArgs false



def errW : Option Int → Value
  | none => .nilIface
  | some c => .iface 0 (.int .i64 c)
theorem errW_none : errW none = .nilIface := rfl
theorem errW_some (c : Int) : errW (some c) = .iface 0 (.int .i64 c) := rfl

theorem info3 : (Tryd.prog.info? 3).map (fun i => (i.zero, i.size, i.bytes)) = some (some (.int .i64 0), 1, 8) := by kernel_rfl
theorem info5 : (Tryd.prog.info? 5).map (fun i => (i.zero, i.size, i.bytes)) = some (some (.int .u8 0), 1, 1) := by kernel_rfl
-- the values' own types

theorem eqA25 (d : Nat) (w : World) (x0 y0 : Int) (x1 y1 : Int) :
    (Op.equalIn (d + 2) 25 (.agg #[.int .u32 x0, .int .u16 x1]) (.agg #[.int .u32 y0, .int .u16 y1])).run Tryd.prog w = .ok (x0 == y0 && (x1 == y1)) w := by
  refine eqA_of Tryd.underlying25 (by kernel_rfl) ?_
  refine eqf_cons (by rfl) (by go_simp; rfl) (by go_simp; rfl) (by go_simp) ?_
  exact eqf_last (by rfl) (by go_simp; rfl) (by go_simp; rfl) (by go_simp)
end Go.Proofs.YtnkbbmfhdabbkaaDoor.PA
