-- written by a program of this session: the kit's print, with outer functions of the session's own (wip/ext)
import Derived.Test.YtadbebmcognplaaDoorProg
import Derived.Below
import Derived.Deep.Draws
import Derived.Deep.AppendLies
import Derived.Maps.AppendAt
import Derived.OwnWalk
import Derived.Laws.BytesArg
import Derived.Laws.MakeOwn
import Derived.Laws.OwnMore
import Derived.Deep.OwnRows
import Derived.Tactics
import Derived.Lib.ConvBytes
import Derived.Laws.Slices
import Derived.WalkKit
import Derived.KernelRfl
import Derived.RowKit3
import Derived.Deep.LoopGhost
import Derived.Deep.QuietTactic
import Derived.BigQuiet
import Derived.WideLaws
import Derived.Deep.DeepCutAuto
import Derived.Deep.CutBlock
import Derived.Deep.RegionHeld3
import Derived.Laws.Rows
import Derived.Lib.AppendStr
import Derived.ArgAppend
import Derived.Laws.IdiomCopy
import Derived.OrdersHeld
import Derived.Laws.BitsLemmas
import Derived.RowKit
import Derived.Laws.Externs
import Derived.Lib.Strings
import Derived.Lib.Slices
import Derived.Lib.Walk
import Derived.Lib.Bytealg
import Derived.Lib.SliceRun
import Derived.Test.YtadbebmcognplaaDoorRep
import Derived.Test.YtadbebmcognplaaDoorLays
import Derived.Test.YtadbebmcognplaaDoorWWords
import Derived.Test.YtadbebmcognplaaDoorWLast
import Derived.Test.YtadbebmcognplaaDoorWTab
import Derived.Test.YtadbebmcognplaaDoorWFour
import Derived.Test.YtadbebmcognplaaDoorWQPut
import Derived.Test.YtadbebmcognplaaDoorWApart
import Derived.Test.YtadbebmcognplaaDoorWArr
import Derived.Test.YtadbebmcognplaaDoorWZeros
import Derived.Test.YtadbebmcognplaaDoorWFoot
import Derived.Test.YtadbebmcognplaaDoorWKept
import Derived.Test.YtadbebmcognplaaDoorWShare
import Derived.Test.YtadbebmcognplaaDoorWN
import Derived.Test.YtadbebmcognplaaDoorWFootNe
import Derived.Test.YtadbebmcognplaaDoorWAt
import Derived.Test.YtadbebmcognplaaDoorWEqStruct
import Derived.Test.YtadbebmcognplaaDoorWRepsOne
import Derived.Test.YtadbebmcognplaaDoorWInv
import Derived.Test.YtadbebmcognplaaDoorWInvWords
import Derived.Test.YtadbebmcognplaaDoorWGuard
import Derived.Test.YtadbebmcognplaaDoorWNEv
import Derived.Test.YtadbebmcognplaaDoorWMore
namespace Go.Proofs.YtadbebmcognplaaDoor.PFnExactMostHoles
open Go.RowKit Go.Proofs.YtadbebmcognplaaDoorW.PrintWords Go.Proofs.YtadbebmcognplaaDoorW.PrintLast Go.Proofs.YtadbebmcognplaaDoorW.PrintMore
attribute [local go_sem] max2_int min2_int max_two min_two max_three min_three max_four min_four   -- for this text's walks alone
set_option linter.unusedVariables false
set_option linter.unusedSimpArgs false



def errW : Option Int → Value
  | none => .nilIface
  | some c => .iface 0 (.int .i64 c)
theorem errW_none : errW none = .nilIface := rfl
theorem errW_some (c : Int) : errW (some c) = .iface 0 (.int .i64 c) := rfl

theorem info5 : (Tryd.prog.info? 5).map (fun i => (i.zero, i.size, i.bytes)) = some (some (.int .u8 0), 1, 1) := by kernel_rfl
theorem info9 : (Tryd.prog.info? 9).map (fun i => (i.zero, i.size, i.bytes)) = some (some (.string ⟨#[]⟩), 1, 16) := by kernel_rfl
-- the values' own types

end Go.Proofs.YtadbebmcognplaaDoor.PFnExactMostHoles
