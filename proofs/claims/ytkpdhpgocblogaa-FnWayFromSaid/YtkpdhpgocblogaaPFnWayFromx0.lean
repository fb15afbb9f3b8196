-- PRINTED BY print.sh 35421559b90ae4d0a3588c463048766b98c2df88dd9212a6774a882060cdf62d: not written by this session
import Derived.Test.YtkpdhpgocblogaaProg
import Derived.Below
import Derived.Deep.Draws
import Derived.Deep.AppendLies
import Derived.Maps.AppendAt
import Derived.OwnWalk
import Derived.Laws.BytesArg
import Derived.Laws.MakeOwn
import Derived.Laws.OwnMore
import Derived.Deep.OwnRows
import Derived.Tactics
import Derived.Lib.ConvBytes
import Derived.Laws.Slices
import Derived.WalkKit
import Derived.KernelRfl
import Derived.RowKit3
import Derived.Deep.LoopGhost
import Derived.Deep.QuietTactic
import Derived.BigQuiet
import Derived.WideLaws
import Derived.Deep.DeepCutAuto
import Derived.Deep.CutBlock
import Derived.Deep.RegionHeld3
import Derived.Laws.Rows
import Derived.Lib.AppendStr
import Derived.ArgAppend
import Derived.Laws.IdiomCopy
import Derived.OrdersHeld
import Derived.Laws.BitsLemmas
import Derived.RowKit
import Derived.Test.YtkpdhpgocblogaaWWords
import Derived.Test.YtkpdhpgocblogaaWLast
import Derived.Test.YtkpdhpgocblogaaWTab
import Derived.Test.YtkpdhpgocblogaaWFour
import Derived.Test.YtkpdhpgocblogaaWQPut
import Derived.Test.YtkpdhpgocblogaaWApart
import Derived.Test.YtkpdhpgocblogaaWArr
import Derived.Test.YtkpdhpgocblogaaWZeros
import Derived.Test.YtkpdhpgocblogaaWFoot
import Derived.Test.YtkpdhpgocblogaaWKept
import Derived.Test.YtkpdhpgocblogaaWShare
import Derived.Test.YtkpdhpgocblogaaWN
import Derived.Test.YtkpdhpgocblogaaWFootNe
import Derived.Test.YtkpdhpgocblogaaWAt
import Derived.Test.YtkpdhpgocblogaaWEqStruct
import Derived.Test.YtkpdhpgocblogaaWRepsOne
import Derived.Test.YtkpdhpgocblogaaWInv
import Derived.Test.YtkpdhpgocblogaaWInvWords
import Derived.Test.YtkpdhpgocblogaaWGuard
import Derived.Test.YtkpdhpgocblogaaWNEv
import Derived.Test.YtkpdhpgocblogaaWMore
namespace Go.Proofs.Ytkpdhpgocblogaa.PFnWayFrom
open Go.RowKit Go.Proofs.YtkpdhpgocblogaaW.PrintWords Go.Proofs.YtkpdhpgocblogaaW.PrintLast Go.Proofs.YtkpdhpgocblogaaW.PrintMore
attribute [local go_sem] max2_int min2_int max_two min_two max_three min_three max_four min_four   -- for this text's walks alone
set_option linter.unusedVariables false
set_option linter.unusedSimpArgs false



def errW : Option Int → Value
  | none => .nilIface
  | some c => .iface 0 (.int .i64 c)
theorem errW_none : errW none = .nilIface := rfl
theorem errW_some (c : Int) : errW (some c) = .iface 0 (.int .i64 c) := rfl

theorem info3 : (Try.prog.info? 3).map (fun i => (i.zero, i.size, i.bytes)) = some (some (.int .i64 0), 1, 8) := by kernel_rfl
theorem info5 : (Try.prog.info? 5).map (fun i => (i.zero, i.size, i.bytes)) = some (some (.int .u8 0), 1, 1) := by kernel_rfl
-- the values' own types

end Go.Proofs.Ytkpdhpgocblogaa.PFnWayFrom
