-- Written by a program of this session (wip/tools/myprint.py) out of the translation.
import Derived.Test.YthmedgennlcigaaDoorProg
import Derived.Below
import Derived.Deep.Draws
import Derived.Deep.AppendLies
import Derived.Maps.AppendAt
import Derived.OwnWalk
import Derived.Laws.BytesArg
import Derived.Laws.MakeOwn
import Derived.Laws.OwnMore
import Derived.Deep.OwnRows
import Derived.Tactics
import Derived.Lib.ConvBytes
import Derived.Laws.Slices
import Derived.WalkKit
import Derived.KernelRfl
import Derived.RowKit3
import Derived.Deep.LoopGhost
import Derived.Deep.QuietTactic
import Derived.BigQuiet
import Derived.WideLaws
import Derived.Deep.DeepCutAuto
import Derived.Deep.CutBlock
import Derived.Deep.RegionHeld3
import Derived.Laws.Rows
import Derived.Lib.AppendStr
import Derived.ArgAppend
import Derived.Laws.IdiomCopy
import Derived.OrdersHeld
import Derived.Laws.BitsLemmas
import Derived.RowKit
import Derived.Test.YthmedgennlcigaaDoorGiven
import Derived.Test.YthmedgennlcigaaDoorWWords
import Derived.Test.YthmedgennlcigaaDoorWLast
import Derived.Test.YthmedgennlcigaaDoorWTab
import Derived.Test.YthmedgennlcigaaDoorWFour
import Derived.Test.YthmedgennlcigaaDoorWQPut
import Derived.Test.YthmedgennlcigaaDoorWApart
import Derived.Test.YthmedgennlcigaaDoorWArr
import Derived.Test.YthmedgennlcigaaDoorWZeros
import Derived.Test.YthmedgennlcigaaDoorWFoot
import Derived.Test.YthmedgennlcigaaDoorWKept
import Derived.Test.YthmedgennlcigaaDoorWShare
import Derived.Test.YthmedgennlcigaaDoorWN
import Derived.Test.YthmedgennlcigaaDoorWFootNe
import Derived.Test.YthmedgennlcigaaDoorWAt
import Derived.Test.YthmedgennlcigaaDoorWEqStruct
import Derived.Test.YthmedgennlcigaaDoorWRepsOne
import Derived.Test.YthmedgennlcigaaDoorWInv
import Derived.Test.YthmedgennlcigaaDoorWInvWords
import Derived.Test.YthmedgennlcigaaDoorWGuard
import Derived.Test.YthmedgennlcigaaDoorWNEv
import Derived.Test.YthmedgennlcigaaDoorWMore
namespace Go.Proofs.YthmedgennlcigaaDoor.P
open Go.Proofs.YthmedgennlcigaaDoor.Given
open Go.RowKit Go.Proofs.YthmedgennlcigaaDoorW.PrintWords Go.Proofs.YthmedgennlcigaaDoorW.PrintLast Go.Proofs.YthmedgennlcigaaDoorW.PrintMore
attribute [local go_sem] max2_int min2_int max_two min_two max_three min_three max_four min_four u64_signed   -- for this text's walks alone
set_option linter.unusedVariables false
set_option linter.unusedSimpArgs false



def errW : Option Int → Value
  | none => .nilIface
  | some c => .iface 0 (.int .i64 c)
theorem errW_none : errW none = .nilIface := rfl
theorem errW_some (c : Int) : errW (some c) = .iface 0 (.int .i64 c) := rfl

-- the values' own types

end Go.Proofs.YthmedgennlcigaaDoor.P
