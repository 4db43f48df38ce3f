/- Contracts of functions of the program and of the reference, each a Lean function and the proof that Go comes to its answer. Written by wip/pp/pp.py out of the kit's print, for this claim; nothing of it is trusted: Lean checks it. -/
import Derived.Lib.AppendIntMem
import Derived.Lib.ItoaNum
import Derived.Test.YtbkibnjpolnajaaDoorProg
import Derived.Below
import Derived.Deep.Draws
import Derived.Deep.AppendLies
import Derived.Maps.AppendAt
import Derived.OwnWalk
import Derived.Laws.BytesArg
import Derived.Laws.MakeOwn
import Derived.Laws.OwnMore
import Derived.Deep.OwnRows
import Derived.Tactics
import Derived.Lib.ConvBytes
import Derived.Laws.Slices
import Derived.WalkKit
import Derived.KernelRfl
import Derived.RowKit3
import Derived.Deep.LoopGhost
import Derived.Deep.QuietTactic
import Derived.BigQuiet
import Derived.WideLaws
import Derived.Deep.DeepCutAuto
import Derived.Deep.CutBlock
import Derived.Deep.RegionHeld3
import Derived.Laws.Rows
import Derived.Lib.AppendStr
import Derived.ArgAppend
import Derived.Laws.IdiomCopy
import Derived.OrdersHeld
import Derived.Laws.BitsLemmas
import Derived.RowKit
import Derived.Test.YtbkibnjpolnajaaDoorWWords
import Derived.Test.YtbkibnjpolnajaaDoorWLast
import Derived.Test.YtbkibnjpolnajaaDoorWTab
import Derived.Test.YtbkibnjpolnajaaDoorWFour
import Derived.Test.YtbkibnjpolnajaaDoorWQPut
import Derived.Test.YtbkibnjpolnajaaDoorWApart
import Derived.Test.YtbkibnjpolnajaaDoorWArr
import Derived.Test.YtbkibnjpolnajaaDoorWZeros
import Derived.Test.YtbkibnjpolnajaaDoorWFoot
import Derived.Test.YtbkibnjpolnajaaDoorWKept
import Derived.Test.YtbkibnjpolnajaaDoorWShare
import Derived.Test.YtbkibnjpolnajaaDoorWN
import Derived.Test.YtbkibnjpolnajaaDoorWFootNe
import Derived.Test.YtbkibnjpolnajaaDoorWAt
import Derived.Test.YtbkibnjpolnajaaDoorWEqStruct
import Derived.Test.YtbkibnjpolnajaaDoorWRepsOne
import Derived.Test.YtbkibnjpolnajaaDoorWInv
import Derived.Test.YtbkibnjpolnajaaDoorWInvWords
import Derived.Test.YtbkibnjpolnajaaDoorWGuard
import Derived.Test.YtbkibnjpolnajaaDoorWNEv
import Derived.Test.YtbkibnjpolnajaaDoorWMore
namespace Go.Proofs.YtbkibnjpolnajaaDoor.KNu
open Go.RowKit Go.Proofs.YtbkibnjpolnajaaDoorW.PrintWords Go.Proofs.YtbkibnjpolnajaaDoorW.PrintLast Go.Proofs.YtbkibnjpolnajaaDoorW.PrintMore
attribute [local go_sem] max2_int min2_int max_two min_two max_three min_three max_four min_four   -- for this text's walks alone
set_option linter.unusedVariables false
set_option linter.unusedSimpArgs false



def errW : Option Int → Value
  | none => .nilIface
  | some c => .iface 73 (.int .i64 c)
theorem errW_none : errW none = .nilIface := rfl
theorem errW_some (c : Int) : errW (some c) = .iface 73 (.int .i64 c) := rfl

theorem info3 : (Tryd.prog.info? 3).map (fun i => (i.zero, i.size, i.bytes)) = some (some (.int .i64 0), 1, 8) := by kernel_rfl
theorem info5 : (Tryd.prog.info? 5).map (fun i => (i.zero, i.size, i.bytes)) = some (some (.int .u8 0), 1, 1) := by kernel_rfl
-- the values' own types

/-- The library's table of powers of ten lies there, and the variables of its two errors hold errors: now, and whatever is made from now on. -/
def Held (w : World) (n : String) : Prop := ∃ tp p, ∀ w', Below w.heap.size w w' → w'.var? Tryd.prog n = some #[.iface tp p]
def TB (w : World) : Prop := Lib.TabBelow Tryd.prog w.heap.size w "internal/strconv.uint64pow10" .u64 Lib.pow10Tab ∧ Held w "strconv.ErrSyntax" ∧ Held w "strconv.ErrRange"
theorem held_at {w W : World} {n : String} (h : Held w n) (hb : Below w.heap.size w W) : Held W n := by
  obtain ⟨tp, p, h⟩ := h
  exact ⟨tp, p, fun w' hb' => h w' (below_step hb hb')⟩
theorem tab_at {w W : World} (h : TB w) (hb : Below w.heap.size w W) : TB W := ⟨fun w' hb' => h.1 w' (below_step hb hb'), held_at h.2.1 hb, held_at h.2.2 hb⟩
theorem setCell_drewN (W : World) (n : Nat) (p : Addr) (u : Value) : (W.drewN n).setCell p u = (W.setCell p u).drewN n := rfl
class fk_strconv_Itoa where
  f : Nat → Int → Option ByteArray
  mono : ∀ a0 k, LeO (f k a0) (f (k + 1) a0)
  calls : ∀ (k : Nat) (a0 : Int) (r : ByteArray) (w : World) (hTAB : TB w) (h : f k a0 = some r), Calls Tryd.prog 26 #[.int .i64 a0] w fun e w' => e = .returned (.string r) ∧ Below w.heap.size w w'
class fk_impl_ReadDecimal where
  f : ∀ (k : Nat) (a0 : ByteArray), Option (Int × Bool)
  mono : ∀ a0 k, LeO (f k a0) (f (k + 1) a0)
  calls : ∀ (k : Nat) (a0 : ByteArray) (r1 : Int) (r2 : Bool) (w : World) (hTAB : TB w) (h : f k a0 = some (r1, r2)), Calls Tryd.prog 15 #[.string a0] w fun e w' => e = .returned (.tuple #[.int .i64 r1, .bool r2]) ∧ Below w.heap.size w w'
class fk_impl_Hex where
  f : ∀ (k : Nat) (a0 : ByteArray), Option (ByteArray × Bool)
  mono : ∀ a0 k, LeO (f k a0) (f (k + 1) a0)
  calls : ∀ (k : Nat) (a0 : ByteArray) (r1 : ByteArray) (r2 : Bool) (w : World) (h : f k a0 = some (r1, r2)), Calls Tryd.prog 23 #[.string a0] w fun e w' => e = .returned (.tuple #[.string r1, .bool r2]) ∧ Below w.heap.size w w'
class fk_impl_Unhex where
  f : ∀ (k : Nat) (a0 : ByteArray), Option (ByteArray × Bool)
  mono : ∀ a0 k, LeO (f k a0) (f (k + 1) a0)
  calls : ∀ (k : Nat) (a0 : ByteArray) (r1 : ByteArray) (r2 : Bool) (w : World) (h : f k a0 = some (r1, r2)), Calls Tryd.prog 24 #[.string a0] w fun e w' => e = .returned (.tuple #[.string r1, .bool r2]) ∧ Below w.heap.size w w'
end Go.Proofs.YtbkibnjpolnajaaDoor.KNu
