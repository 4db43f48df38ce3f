/- Contracts of functions of the program and of the reference, each a Lean function and the proof that Go comes to its answer. Written by wip/pp/pp.py out of the kit's print, for this claim; nothing of it is trusted: Lean checks it. -/
import Derived.Test.YtbkibnjpolnajaaProg
import Derived.Below
import Derived.Deep.Draws
import Derived.Deep.AppendLies
import Derived.Maps.AppendAt
import Derived.OwnWalk
import Derived.Laws.BytesArg
import Derived.Laws.MakeOwn
import Derived.Laws.OwnMore
import Derived.Deep.OwnRows
import Derived.Tactics
import Derived.Lib.ConvBytes
import Derived.Laws.Slices
import Derived.WalkKit
import Derived.KernelRfl
import Derived.RowKit3
import Derived.Deep.LoopGhost
import Derived.Deep.QuietTactic
import Derived.BigQuiet
import Derived.WideLaws
import Derived.Deep.DeepCutAuto
import Derived.Deep.CutBlock
import Derived.Deep.RegionHeld3
import Derived.Laws.Rows
import Derived.Lib.AppendStr
import Derived.ArgAppend
import Derived.Laws.IdiomCopy
import Derived.OrdersHeld
import Derived.Laws.BitsLemmas
import Derived.RowKit
import Derived.Test.YtbkibnjpolnajaaWWords
import Derived.Test.YtbkibnjpolnajaaWLast
import Derived.Test.YtbkibnjpolnajaaWTab
import Derived.Test.YtbkibnjpolnajaaWFour
import Derived.Test.YtbkibnjpolnajaaWQPut
import Derived.Test.YtbkibnjpolnajaaWApart
import Derived.Test.YtbkibnjpolnajaaWArr
import Derived.Test.YtbkibnjpolnajaaWZeros
import Derived.Test.YtbkibnjpolnajaaWFoot
import Derived.Test.YtbkibnjpolnajaaWKept
import Derived.Test.YtbkibnjpolnajaaWShare
import Derived.Test.YtbkibnjpolnajaaWN
import Derived.Test.YtbkibnjpolnajaaWFootNe
import Derived.Test.YtbkibnjpolnajaaWAt
import Derived.Test.YtbkibnjpolnajaaWEqStruct
import Derived.Test.YtbkibnjpolnajaaWRepsOne
import Derived.Test.YtbkibnjpolnajaaWInv
import Derived.Test.YtbkibnjpolnajaaWInvWords
import Derived.Test.YtbkibnjpolnajaaWGuard
import Derived.Test.YtbkibnjpolnajaaWNEv
import Derived.Test.YtbkibnjpolnajaaWMore
namespace Go.Proofs.Ytbkibnjpolnajaa.KTu
open Go.RowKit Go.Proofs.YtbkibnjpolnajaaW.PrintWords Go.Proofs.YtbkibnjpolnajaaW.PrintLast Go.Proofs.YtbkibnjpolnajaaW.PrintMore
attribute [local go_sem] max2_int min2_int max_two min_two max_three min_three max_four min_four   -- for this text's walks alone
set_option linter.unusedVariables false
set_option linter.unusedSimpArgs false



def errW : Option Int → Value
  | none => .nilIface
  | some c => .iface 0 (.int .i64 c)
theorem errW_none : errW none = .nilIface := rfl
theorem errW_some (c : Int) : errW (some c) = .iface 0 (.int .i64 c) := rfl

theorem info3 : (Try.prog.info? 3).map (fun i => (i.zero, i.size, i.bytes)) = some (some (.int .i64 0), 1, 8) := by kernel_rfl
theorem info5 : (Try.prog.info? 5).map (fun i => (i.zero, i.size, i.bytes)) = some (some (.int .u8 0), 1, 1) := by kernel_rfl
-- the values' own types

end Go.Proofs.Ytbkibnjpolnajaa.KTu
