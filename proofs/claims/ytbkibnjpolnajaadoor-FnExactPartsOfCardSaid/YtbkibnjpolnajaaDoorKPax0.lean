/- Contracts of functions of the program and of the reference, each a Lean function and the proof that Go comes to its answer. Written by wip/pp/pp.py out of the kit's print, for this claim; nothing of it is trusted: Lean checks it. -/
import Derived.Lib.AppendIntMem
import Derived.Lib.ItoaNum
import Derived.Lib.Space
import Derived.Test.YtbkibnjpolnajaaDoorProg
import Derived.Below
import Derived.Deep.Draws
import Derived.Deep.AppendLies
import Derived.Maps.AppendAt
import Derived.OwnWalk
import Derived.Laws.BytesArg
import Derived.Laws.MakeOwn
import Derived.Laws.OwnMore
import Derived.Deep.OwnRows
import Derived.Tactics
import Derived.Lib.ConvBytes
import Derived.Laws.Slices
import Derived.WalkKit
import Derived.KernelRfl
import Derived.RowKit3
import Derived.Deep.LoopGhost
import Derived.Deep.QuietTactic
import Derived.BigQuiet
import Derived.WideLaws
import Derived.Deep.DeepCutAuto
import Derived.Deep.CutBlock
import Derived.Deep.RegionHeld3
import Derived.Laws.Rows
import Derived.Lib.AppendStr
import Derived.ArgAppend
import Derived.Laws.IdiomCopy
import Derived.OrdersHeld
import Derived.Laws.BitsLemmas
import Derived.RowKit
import Derived.Test.YtbkibnjpolnajaaDoorWWords
import Derived.Test.YtbkibnjpolnajaaDoorWLast
import Derived.Test.YtbkibnjpolnajaaDoorWTab
import Derived.Test.YtbkibnjpolnajaaDoorWFour
import Derived.Test.YtbkibnjpolnajaaDoorWQPut
import Derived.Test.YtbkibnjpolnajaaDoorWApart
import Derived.Test.YtbkibnjpolnajaaDoorWArr
import Derived.Test.YtbkibnjpolnajaaDoorWZeros
import Derived.Test.YtbkibnjpolnajaaDoorWFoot
import Derived.Test.YtbkibnjpolnajaaDoorWKept
import Derived.Test.YtbkibnjpolnajaaDoorWShare
import Derived.Test.YtbkibnjpolnajaaDoorWN
import Derived.Test.YtbkibnjpolnajaaDoorWFootNe
import Derived.Test.YtbkibnjpolnajaaDoorWAt
import Derived.Test.YtbkibnjpolnajaaDoorWEqStruct
import Derived.Test.YtbkibnjpolnajaaDoorWRepsOne
import Derived.Test.YtbkibnjpolnajaaDoorWInv
import Derived.Test.YtbkibnjpolnajaaDoorWInvWords
import Derived.Test.YtbkibnjpolnajaaDoorWGuard
import Derived.Test.YtbkibnjpolnajaaDoorWNEv
import Derived.Test.YtbkibnjpolnajaaDoorWMore
namespace Go.Proofs.YtbkibnjpolnajaaDoor.KPa
open Go.RowKit Go.Proofs.YtbkibnjpolnajaaDoorW.PrintWords Go.Proofs.YtbkibnjpolnajaaDoorW.PrintLast Go.Proofs.YtbkibnjpolnajaaDoorW.PrintMore
attribute [local go_sem] max2_int min2_int max_two min_two max_three min_three max_four min_four   -- for this text's walks alone
set_option linter.unusedVariables false
set_option linter.unusedSimpArgs false



def errW : Option Int → Value
  | none => .nilIface
  | some c => .iface 0 (.int .i64 c)
theorem errW_none : errW none = .nilIface := rfl
theorem errW_some (c : Int) : errW (some c) = .iface 0 (.int .i64 c) := rfl

theorem info5 : (Tryd.prog.info? 5).map (fun i => (i.zero, i.size, i.bytes)) = some (some (.int .u8 0), 1, 1) := by kernel_rfl
theorem info9 : (Tryd.prog.info? 9).map (fun i => (i.zero, i.size, i.bytes)) = some (some (.string ⟨#[]⟩), 1, 16) := by kernel_rfl
-- the values' own types
def rd_L1 (xs : List (List ByteArray)) (i : Int) : (List ByteArray) := xs.getD i.toNat ([] : List ByteArray)
theorem at_L1 {w : World} {A : Option Addr} {n : Nat} {xs : List (List ByteArray)} (h : Kd.C (Kd.slice 9 Kd.string) w A n xs) (i : Int) (h0 : 0 ≤ i) (h1 : i < n) : ∃ ad A0 c0, A = some ad ∧ w.cell? (ad.add i.toNat) = some (.slice A0 (rd_L1 xs i).length c0) ∧ (rd_L1 xs i).length ≤ c0 ∧ Kd.string.C w A0 (rd_L1 xs i).length (rd_L1 xs i) := by
  obtain ⟨ad, c, e, _, hK, hc0⟩ := Kd.C_get h ([] : List ByteArray) i h0 h1
  have hc : ∀ j u, c[j]? = some u → w.cell? (ad.add (i.toNat * 1 + j)) = some u := hc0
  obtain ⟨A0, c0, rfl, l0, g0⟩ := hK
  exact ⟨ad, A0, c0, e, by have hq := hc 0 _ rfl; rwa [Nat.mul_one, Nat.add_zero] at hq, l0, g0⟩

theorem tab_at {P : Program} {w W : World} {n : String} {k : IntKind} {zs : List Int} (h : Lib.TabBelow P w.heap.size w n k zs) (hb : Below w.heap.size w W) : Lib.TabBelow P W.heap.size W n k zs := fun w' hb' => h w' (below_step hb hb')
theorem setCell_drewN (W : World) (n : Nat) (p : Addr) (u : Value) : (W.drewN n).setCell p u = (W.setCell p u).drewN n := rfl
class fk_strings_Fields where
  f : Nat → ByteArray → Option (List ByteArray)
  mono : ∀ a0 k, LeO (f k a0) (f (k + 1) a0)
  calls : ∀ (k : Nat) (a0 : ByteArray) (r : List ByteArray) (w : World) (hTAB : Lib.TabBelow Tryd.prog w.heap.size w "strings.asciiSpace" .u8 Lib.asciiSpaceTab) (h : f k a0 = some r), Calls Tryd.prog 28 #[.string a0] w fun e w' => ∃ v0_ : Value, e = .returned v0_ ∧ Kd.R Kd.string 9 w' w.heap.size (fun _ => True) v0_ r ∧ Below w.heap.size w w'
end Go.Proofs.YtbkibnjpolnajaaDoor.KPa
