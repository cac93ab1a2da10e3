/- A part of a proof. -/
-- Laid by a program of this session over the kit's print
import Derived.Test.YteapdhfeddgjbaaDoorProg
import Derived.Below
import Derived.Deep.Draws
import Derived.Deep.AppendLies
import Derived.Maps.AppendAt
import Derived.OwnWalk
import Derived.Laws.BytesArg
import Derived.Laws.MakeOwn
import Derived.Laws.OwnMore
import Derived.Deep.OwnRows
import Derived.Tactics
import Derived.Lib.ConvBytes
import Derived.Laws.Slices
import Derived.WalkKit
import Derived.KernelRfl
import Derived.RowKit3
import Derived.Deep.LoopGhost
import Derived.Deep.QuietTactic
import Derived.BigQuiet
import Derived.WideLaws
import Derived.Deep.DeepCutAuto
import Derived.Deep.CutBlock
import Derived.Deep.RegionHeld3
import Derived.Laws.Rows
import Derived.Lib.AppendStr
import Derived.ArgAppend
import Derived.Laws.IdiomCopy
import Derived.OrdersHeld
import Derived.Laws.BitsLemmas
import Derived.RowKit
import Derived.Maps.OwnSet
import Derived.Maps.OwnOps
import Derived.Test.YteapdhfeddgjbaaDoorSWWords
import Derived.Test.YteapdhfeddgjbaaDoorSWLast
import Derived.Test.YteapdhfeddgjbaaDoorSWTab
import Derived.Test.YteapdhfeddgjbaaDoorSWFour
import Derived.Test.YteapdhfeddgjbaaDoorSWQPut
import Derived.Test.YteapdhfeddgjbaaDoorSWApart
import Derived.Test.YteapdhfeddgjbaaDoorSWArr
import Derived.Test.YteapdhfeddgjbaaDoorSWZeros
import Derived.Test.YteapdhfeddgjbaaDoorSWFoot
import Derived.Test.YteapdhfeddgjbaaDoorSWKept
import Derived.Test.YteapdhfeddgjbaaDoorSWShare
import Derived.Test.YteapdhfeddgjbaaDoorSWN
import Derived.Test.YteapdhfeddgjbaaDoorSWFootNe
import Derived.Test.YteapdhfeddgjbaaDoorSWAt
import Derived.Test.YteapdhfeddgjbaaDoorSWEqStruct
import Derived.Test.YteapdhfeddgjbaaDoorSWRepsOne
import Derived.Test.YteapdhfeddgjbaaDoorSWInv
import Derived.Test.YteapdhfeddgjbaaDoorSWInvWords
import Derived.Test.YteapdhfeddgjbaaDoorSWGuard
import Derived.Test.YteapdhfeddgjbaaDoorSWNEv
import Derived.Test.YteapdhfeddgjbaaDoorSWMore
namespace Go.Proofs.YteapdhfeddgjbaaDoor.PDb
open Go.RowKit Go.Proofs.YteapdhfeddgjbaaDoorW.PrintWords Go.Proofs.YteapdhfeddgjbaaDoorW.PrintLast Go.Proofs.YteapdhfeddgjbaaDoorW.PrintMore
attribute [local go_sem] max2_int min2_int max_two min_two max_three min_three max_four min_four   -- for this text's walks alone
set_option linter.unusedVariables false
set_option linter.unusedSimpArgs false



def errW : Option Int → Value
  | none => .nilIface
  | some c => .iface 0 (.int .i64 c)
theorem errW_none : errW none = .nilIface := rfl
theorem errW_some (c : Int) : errW (some c) = .iface 0 (.int .i64 c) := rfl

theorem info144 : (Tryd.prog.info? 144).map (fun i => (i.zero, i.size, i.bytes)) = some (some (.int .u32 0), 1, 4) := by kernel_rfl
-- the values' own types

end Go.Proofs.YteapdhfeddgjbaaDoor.PDb
