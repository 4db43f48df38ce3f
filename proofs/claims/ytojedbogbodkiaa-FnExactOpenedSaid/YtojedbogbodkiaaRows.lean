/-
  NARROWER THAN 'FOR EVERY INPUT', by the rows' own cells (each row's printed sentence says how): FnExactSizeOf: loops · FnExactSameTerm: loops · FnExactTermOk: loops · FnExactVarsOf: loops · FnExactWalked: loops · FnExactClauseTerm: loops · FnExactCompareTerm: loops · FnExactFilled: loops · FnExactShifted: loops · FnExactOpened: loops.
  DERIVED. THE GIVEN ROWS OF THIS SEAT. 12 by the template 'for every input the law returns true; each argument reads behind the call as it read before'; 0 by the template 'total and deterministic' (their statements: YtojedbogbodkiaaTotals.lean).
  GIVEN WITH THE SEED: the statements are not yours to turn. If you find one false, say at which input.
  Laid BY PROGRAM, IN A SANDBOX (cutbox-rows.mjs): the forced cells as the released guide's own fill.sh prints them over the translation bf589326269b5b6c… (all of the seat's roots in one cut). By AI agents, Wed Nov 11 2026. No macro, syntax, notation, axiom, sorry.
-/
import Derived.Test.YtojedbogbodkiaaChecked
import GoSem.Claim
import GoSem.ClaimJoined
import GoSem.ClaimMapViews
import Derived.JoinedTies
import Derived.KernelRfl
namespace Go.Proofs.Ytojedbogbodkiaa
/- THE CELL 'sum', in the pinned program and in every row, IS THE sha256 OF THE DUMP (.gsa) THAT YtojedbogbodkiaaProg.lean LOADS. Nothing in Lean hashes anything: it is a label: what it is worth is what the hold of that sum in a sandbox is worth. -/
noncomputable def Try.pinned : Pinned := { name := "ytojedbogbodkiaa", sum := "bf589326269b5b6c9b00378fbff69b5f504ddd178f7cb39d877955bc843eaacb", checked := Try.checked }
namespace Rows
def none {H : Type} : Left H := { results := [], args := [] }

/-- 'laws.FnExactSizeOf': WHATEVER THE INPUT: true; the input reads as it did. -/
def fnExactSizeOfSpec : ChangeSpec := { name := "fnExactSizeOf", fn := fun _ => fun
  | [d] => { results := [.lit (.bool true)], args := [d] }
  | _ => none }
def fnExactSizeOfRow : OpenClaim := { program := "ytojedbogbodkiaa", sum := "bf589326269b5b6c9b00378fbff69b5f504ddd178f7cb39d877955bc843eaacb", func := "loop.example/g00469/laws.FnExactSizeOf", spec := "fnExactSizeOf", recurses := true, loops := true, apart := false }
def FnExactSizeOfSaid : Prop := fnExactSizeOfRow.holds Try.pinned (OpenSpec.ofChange fnExactSizeOfSpec)

/-- ITS FALSE NEIGHBOUR: 'it returns false'. Refute it at one input. -/
def fnExactSizeOfWrong : ChangeSpec := { name := "fnExactSizeOf", fn := fun _ => fun
  | [d] => { results := [.lit (.bool false)], args := [d] }
  | _ => none }
def FnExactSizeOfWrongFalsely : Prop := fnExactSizeOfRow.holds Try.pinned (OpenSpec.ofChange fnExactSizeOfWrong)

/-- 'laws.FnExactSameTerm': WHATEVER THE INPUT: true; the input reads as it did. -/
def fnExactSameTermSpec : ChangeSpec := { name := "fnExactSameTerm", fn := fun _ => fun
  | [d1, d2] => { results := [.lit (.bool true)], args := [d1, d2] }
  | _ => none }
def fnExactSameTermRow : OpenClaim := { program := "ytojedbogbodkiaa", sum := "bf589326269b5b6c9b00378fbff69b5f504ddd178f7cb39d877955bc843eaacb", func := "loop.example/g00469/laws.FnExactSameTerm", spec := "fnExactSameTerm", unfollowed := true, recurses := true, loops := true, apart := false }
def FnExactSameTermSaid : Prop := fnExactSameTermRow.holds Try.pinned (OpenSpec.ofChange fnExactSameTermSpec)

/-- ITS FALSE NEIGHBOUR: 'it returns false'. Refute it at one input. -/
def fnExactSameTermWrong : ChangeSpec := { name := "fnExactSameTerm", fn := fun _ => fun
  | [d1, d2] => { results := [.lit (.bool false)], args := [d1, d2] }
  | _ => none }
def FnExactSameTermWrongFalsely : Prop := fnExactSameTermRow.holds Try.pinned (OpenSpec.ofChange fnExactSameTermWrong)

/-- 'laws.FnExactBindsNew': WHATEVER THE INPUT: true; the input reads as it did. -/
def fnExactBindsNewSpec : ChangeSpec := { name := "fnExactBindsNew", fn := fun _ => fun
  | [d] => { results := [.lit (.bool true)], args := [d] }
  | _ => none }
def fnExactBindsNewRow : OpenClaim := { program := "ytojedbogbodkiaa", sum := "bf589326269b5b6c9b00378fbff69b5f504ddd178f7cb39d877955bc843eaacb", func := "loop.example/g00469/laws.FnExactBindsNew", spec := "fnExactBindsNew", recurses := true, apart := false }
def FnExactBindsNewSaid : Prop := fnExactBindsNewRow.holds Try.pinned (OpenSpec.ofChange fnExactBindsNewSpec)

/-- ITS FALSE NEIGHBOUR: 'it returns false'. Refute it at one input. -/
def fnExactBindsNewWrong : ChangeSpec := { name := "fnExactBindsNew", fn := fun _ => fun
  | [d] => { results := [.lit (.bool false)], args := [d] }
  | _ => none }
def FnExactBindsNewWrongFalsely : Prop := fnExactBindsNewRow.holds Try.pinned (OpenSpec.ofChange fnExactBindsNewWrong)

/-- 'laws.FnExactErrorTerm': WHATEVER THE INPUT: true; the input reads as it did. -/
def fnExactErrorTermSpec : ChangeSpec := { name := "fnExactErrorTerm", fn := fun _ => fun
  | [d1, d2] => { results := [.lit (.bool true)], args := [d1, d2] }
  | _ => none }
def fnExactErrorTermRow : OpenClaim := { program := "ytojedbogbodkiaa", sum := "bf589326269b5b6c9b00378fbff69b5f504ddd178f7cb39d877955bc843eaacb", func := "loop.example/g00469/laws.FnExactErrorTerm", spec := "fnExactErrorTerm", recurses := true, apart := false }
def FnExactErrorTermSaid : Prop := fnExactErrorTermRow.holds Try.pinned (OpenSpec.ofChange fnExactErrorTermSpec)

/-- ITS FALSE NEIGHBOUR: 'it returns false'. Refute it at one input. -/
def fnExactErrorTermWrong : ChangeSpec := { name := "fnExactErrorTerm", fn := fun _ => fun
  | [d1, d2] => { results := [.lit (.bool false)], args := [d1, d2] }
  | _ => none }
def FnExactErrorTermWrongFalsely : Prop := fnExactErrorTermRow.holds Try.pinned (OpenSpec.ofChange fnExactErrorTermWrong)

/-- 'laws.FnExactTermOk': WHATEVER THE INPUT: true; the input reads as it did. -/
def fnExactTermOkSpec : ChangeSpec := { name := "fnExactTermOk", fn := fun _ => fun
  | [d] => { results := [.lit (.bool true)], args := [d] }
  | _ => none }
def fnExactTermOkRow : OpenClaim := { program := "ytojedbogbodkiaa", sum := "bf589326269b5b6c9b00378fbff69b5f504ddd178f7cb39d877955bc843eaacb", func := "loop.example/g00469/laws.FnExactTermOk", spec := "fnExactTermOk", recurses := true, loops := true, apart := false }
def FnExactTermOkSaid : Prop := fnExactTermOkRow.holds Try.pinned (OpenSpec.ofChange fnExactTermOkSpec)

/-- ITS FALSE NEIGHBOUR: 'it returns false'. Refute it at one input. -/
def fnExactTermOkWrong : ChangeSpec := { name := "fnExactTermOk", fn := fun _ => fun
  | [d] => { results := [.lit (.bool false)], args := [d] }
  | _ => none }
def FnExactTermOkWrongFalsely : Prop := fnExactTermOkRow.holds Try.pinned (OpenSpec.ofChange fnExactTermOkWrong)

/-- 'laws.FnExactVarsOf': WHATEVER THE INPUT: true; the input reads as it did. -/
def fnExactVarsOfSpec : ChangeSpec := { name := "fnExactVarsOf", fn := fun _ => fun
  | [d] => { results := [.lit (.bool true)], args := [d] }
  | _ => none }
def fnExactVarsOfRow : OpenClaim := { program := "ytojedbogbodkiaa", sum := "bf589326269b5b6c9b00378fbff69b5f504ddd178f7cb39d877955bc843eaacb", func := "loop.example/g00469/laws.FnExactVarsOf", spec := "fnExactVarsOf", recurses := true, loops := true, apart := false }
def FnExactVarsOfSaid : Prop := fnExactVarsOfRow.holds Try.pinned (OpenSpec.ofChange fnExactVarsOfSpec)

/-- ITS FALSE NEIGHBOUR: 'it returns false'. Refute it at one input. -/
def fnExactVarsOfWrong : ChangeSpec := { name := "fnExactVarsOf", fn := fun _ => fun
  | [d] => { results := [.lit (.bool false)], args := [d] }
  | _ => none }
def FnExactVarsOfWrongFalsely : Prop := fnExactVarsOfRow.holds Try.pinned (OpenSpec.ofChange fnExactVarsOfWrong)

/-- 'laws.FnExactWalked': WHATEVER THE INPUT: true; the input reads as it did. -/
def fnExactWalkedSpec : ChangeSpec := { name := "fnExactWalked", fn := fun _ => fun
  | [d1, d2] => { results := [.lit (.bool true)], args := [d1, d2] }
  | _ => none }
def fnExactWalkedRow : OpenClaim := { program := "ytojedbogbodkiaa", sum := "bf589326269b5b6c9b00378fbff69b5f504ddd178f7cb39d877955bc843eaacb", func := "loop.example/g00469/laws.FnExactWalked", spec := "fnExactWalked", unfollowed := true, recurses := true, loops := true, apart := false }
def FnExactWalkedSaid : Prop := fnExactWalkedRow.holds Try.pinned (OpenSpec.ofChange fnExactWalkedSpec)

/-- ITS FALSE NEIGHBOUR: 'it returns false'. Refute it at one input. -/
def fnExactWalkedWrong : ChangeSpec := { name := "fnExactWalked", fn := fun _ => fun
  | [d1, d2] => { results := [.lit (.bool false)], args := [d1, d2] }
  | _ => none }
def FnExactWalkedWrongFalsely : Prop := fnExactWalkedRow.holds Try.pinned (OpenSpec.ofChange fnExactWalkedWrong)

/-- 'laws.FnExactClauseTerm': WHATEVER THE INPUT: true; the input reads as it did. -/
def fnExactClauseTermSpec : ChangeSpec := { name := "fnExactClauseTerm", fn := fun _ => fun
  | [d] => { results := [.lit (.bool true)], args := [d] }
  | _ => none }
def fnExactClauseTermRow : OpenClaim := { program := "ytojedbogbodkiaa", sum := "bf589326269b5b6c9b00378fbff69b5f504ddd178f7cb39d877955bc843eaacb", func := "loop.example/g00469/laws.FnExactClauseTerm", spec := "fnExactClauseTerm", unfollowed := true, recurses := true, loops := true, apart := false }
def FnExactClauseTermSaid : Prop := fnExactClauseTermRow.holds Try.pinned (OpenSpec.ofChange fnExactClauseTermSpec)

/-- ITS FALSE NEIGHBOUR: 'it returns false'. Refute it at one input. -/
def fnExactClauseTermWrong : ChangeSpec := { name := "fnExactClauseTerm", fn := fun _ => fun
  | [d] => { results := [.lit (.bool false)], args := [d] }
  | _ => none }
def FnExactClauseTermWrongFalsely : Prop := fnExactClauseTermRow.holds Try.pinned (OpenSpec.ofChange fnExactClauseTermWrong)

/-- 'laws.FnExactCompareTerm': WHATEVER THE INPUT: true; the input reads as it did. -/
def fnExactCompareTermSpec : ChangeSpec := { name := "fnExactCompareTerm", fn := fun _ => fun
  | [d1, d2] => { results := [.lit (.bool true)], args := [d1, d2] }
  | _ => none }
def fnExactCompareTermRow : OpenClaim := { program := "ytojedbogbodkiaa", sum := "bf589326269b5b6c9b00378fbff69b5f504ddd178f7cb39d877955bc843eaacb", func := "loop.example/g00469/laws.FnExactCompareTerm", spec := "fnExactCompareTerm", unfollowed := true, recurses := true, loops := true, apart := false }
def FnExactCompareTermSaid : Prop := fnExactCompareTermRow.holds Try.pinned (OpenSpec.ofChange fnExactCompareTermSpec)

/-- ITS FALSE NEIGHBOUR: 'it returns false'. Refute it at one input. -/
def fnExactCompareTermWrong : ChangeSpec := { name := "fnExactCompareTerm", fn := fun _ => fun
  | [d1, d2] => { results := [.lit (.bool false)], args := [d1, d2] }
  | _ => none }
def FnExactCompareTermWrongFalsely : Prop := fnExactCompareTermRow.holds Try.pinned (OpenSpec.ofChange fnExactCompareTermWrong)

/-- 'laws.FnExactFilled': WHATEVER THE INPUT: true; the input reads as it did. -/
def fnExactFilledSpec : ChangeSpec := { name := "fnExactFilled", fn := fun _ => fun
  | [d1, d2] => { results := [.lit (.bool true)], args := [d1, d2] }
  | _ => none }
def fnExactFilledRow : OpenClaim := { program := "ytojedbogbodkiaa", sum := "bf589326269b5b6c9b00378fbff69b5f504ddd178f7cb39d877955bc843eaacb", func := "loop.example/g00469/laws.FnExactFilled", spec := "fnExactFilled", recurses := true, loops := true, apart := false }
def FnExactFilledSaid : Prop := fnExactFilledRow.holds Try.pinned (OpenSpec.ofChange fnExactFilledSpec)

/-- ITS FALSE NEIGHBOUR: 'it returns false'. Refute it at one input. -/
def fnExactFilledWrong : ChangeSpec := { name := "fnExactFilled", fn := fun _ => fun
  | [d1, d2] => { results := [.lit (.bool false)], args := [d1, d2] }
  | _ => none }
def FnExactFilledWrongFalsely : Prop := fnExactFilledRow.holds Try.pinned (OpenSpec.ofChange fnExactFilledWrong)

/-- 'laws.FnExactShifted': WHATEVER THE INPUT: true; the input reads as it did. -/
def fnExactShiftedSpec : ChangeSpec := { name := "fnExactShifted", fn := fun _ => fun
  | [d1, d2] => { results := [.lit (.bool true)], args := [d1, d2] }
  | _ => none }
def fnExactShiftedRow : OpenClaim := { program := "ytojedbogbodkiaa", sum := "bf589326269b5b6c9b00378fbff69b5f504ddd178f7cb39d877955bc843eaacb", func := "loop.example/g00469/laws.FnExactShifted", spec := "fnExactShifted", unfollowed := true, recurses := true, loops := true, apart := false }
def FnExactShiftedSaid : Prop := fnExactShiftedRow.holds Try.pinned (OpenSpec.ofChange fnExactShiftedSpec)

/-- ITS FALSE NEIGHBOUR: 'it returns false'. Refute it at one input. -/
def fnExactShiftedWrong : ChangeSpec := { name := "fnExactShifted", fn := fun _ => fun
  | [d1, d2] => { results := [.lit (.bool false)], args := [d1, d2] }
  | _ => none }
def FnExactShiftedWrongFalsely : Prop := fnExactShiftedRow.holds Try.pinned (OpenSpec.ofChange fnExactShiftedWrong)

/-- 'laws.FnExactOpened': WHATEVER THE INPUT: true; the input reads as it did. -/
def fnExactOpenedSpec : ChangeSpec := { name := "fnExactOpened", fn := fun _ => fun
  | [d1, d2] => { results := [.lit (.bool true)], args := [d1, d2] }
  | _ => none }
def fnExactOpenedRow : OpenClaim := { program := "ytojedbogbodkiaa", sum := "bf589326269b5b6c9b00378fbff69b5f504ddd178f7cb39d877955bc843eaacb", func := "loop.example/g00469/laws.FnExactOpened", spec := "fnExactOpened", unfollowed := true, recurses := true, loops := true, apart := false }
def FnExactOpenedSaid : Prop := fnExactOpenedRow.holds Try.pinned (OpenSpec.ofChange fnExactOpenedSpec)

/-- ITS FALSE NEIGHBOUR: 'it returns false'. Refute it at one input. -/
def fnExactOpenedWrong : ChangeSpec := { name := "fnExactOpened", fn := fun _ => fun
  | [d1, d2] => { results := [.lit (.bool false)], args := [d1, d2] }
  | _ => none }
def FnExactOpenedWrongFalsely : Prop := fnExactOpenedRow.holds Try.pinned (OpenSpec.ofChange fnExactOpenedWrong)

/- THE SECOND FORM. 'bulk': how many values and letters a reading holds, each counted each time it is reached (what is shared counts as often as it is met; a slice's spare places count too). A statement '..UptoSaid' is the law's where the arguments, and the package variables that the reading takes, are together of bulk at most 1048576: NARROWER than '..Said'. Prove '..Said' where nothing that the law and all that it calls make is longer than what came in: it says more and counts as full. Else prove '..UptoSaid'. A law counts once. -/
mutual
def uptoBulk {H : Type} : DataW H → Nat
  | .lit (.string bytes) => bytes.length + 1
  | .lit _ => 1
  | .nil => 1
  | .ptr d => uptoBulk d + 1
  | .slice elems spare => uptoBulkAll elems + uptoBulkAll spare + 1
  | .agg parts => uptoBulkAll parts + 1
  | .iface _ d => uptoBulk d + 1
  | .map entries => uptoBulkEntries entries + 1
  | .held _ => 1
def uptoBulkAll {H : Type} : List (DataW H) → Nat
  | [] => 0
  | d :: r => uptoBulk d + uptoBulkAll r
def uptoBulkEntries {H : Type} : List (Lit × DataW H) → Nat
  | [] => 0
  | x :: r => uptoBulkEntry x + uptoBulkEntries r
def uptoBulkEntry {H : Type} : Lit × DataW H → Nat
  | (.string bytes, d) => bytes.length + uptoBulk d + 1
  | (_, d) => uptoBulk d + 1
 end
def uptoSmall : (H : Type) → List (DataW H) → Bool := fun _ ds => decide (uptoBulkAll ds ≤ 1048576)
def OpenSpec.upto (s : _root_.Go.ChangeSpec) : _root_.Go.OpenSpec := { _root_.Go.OpenSpec.ofChange s with cond := some uptoSmall }

/-- 'laws.FnExactSizeOf', WHERE WHAT IT READS IS OF BULK AT MOST 1048576: true; the input reads as it did. -/
def fnExactSizeOfUptoRow : OpenClaim := { program := "ytojedbogbodkiaa", sum := "bf589326269b5b6c9b00378fbff69b5f504ddd178f7cb39d877955bc843eaacb", func := "loop.example/g00469/laws.FnExactSizeOf", spec := "fnExactSizeOf", recurses := true, loops := true, apart := false, narrowed := true }
def FnExactSizeOfUptoSaid : Prop := fnExactSizeOfUptoRow.holds Try.pinned (OpenSpec.upto fnExactSizeOfSpec)

/-- 'laws.FnExactSameTerm', WHERE WHAT IT READS IS OF BULK AT MOST 1048576: true; the input reads as it did. -/
def fnExactSameTermUptoRow : OpenClaim := { program := "ytojedbogbodkiaa", sum := "bf589326269b5b6c9b00378fbff69b5f504ddd178f7cb39d877955bc843eaacb", func := "loop.example/g00469/laws.FnExactSameTerm", spec := "fnExactSameTerm", unfollowed := true, recurses := true, loops := true, apart := false, narrowed := true }
def FnExactSameTermUptoSaid : Prop := fnExactSameTermUptoRow.holds Try.pinned (OpenSpec.upto fnExactSameTermSpec)

/-- 'laws.FnExactBindsNew', WHERE WHAT IT READS IS OF BULK AT MOST 1048576: true; the input reads as it did. -/
def fnExactBindsNewUptoRow : OpenClaim := { program := "ytojedbogbodkiaa", sum := "bf589326269b5b6c9b00378fbff69b5f504ddd178f7cb39d877955bc843eaacb", func := "loop.example/g00469/laws.FnExactBindsNew", spec := "fnExactBindsNew", recurses := true, apart := false, narrowed := true }
def FnExactBindsNewUptoSaid : Prop := fnExactBindsNewUptoRow.holds Try.pinned (OpenSpec.upto fnExactBindsNewSpec)

/-- 'laws.FnExactErrorTerm', WHERE WHAT IT READS IS OF BULK AT MOST 1048576: true; the input reads as it did. -/
def fnExactErrorTermUptoRow : OpenClaim := { program := "ytojedbogbodkiaa", sum := "bf589326269b5b6c9b00378fbff69b5f504ddd178f7cb39d877955bc843eaacb", func := "loop.example/g00469/laws.FnExactErrorTerm", spec := "fnExactErrorTerm", recurses := true, apart := false, narrowed := true }
def FnExactErrorTermUptoSaid : Prop := fnExactErrorTermUptoRow.holds Try.pinned (OpenSpec.upto fnExactErrorTermSpec)

/-- 'laws.FnExactTermOk', WHERE WHAT IT READS IS OF BULK AT MOST 1048576: true; the input reads as it did. -/
def fnExactTermOkUptoRow : OpenClaim := { program := "ytojedbogbodkiaa", sum := "bf589326269b5b6c9b00378fbff69b5f504ddd178f7cb39d877955bc843eaacb", func := "loop.example/g00469/laws.FnExactTermOk", spec := "fnExactTermOk", recurses := true, loops := true, apart := false, narrowed := true }
def FnExactTermOkUptoSaid : Prop := fnExactTermOkUptoRow.holds Try.pinned (OpenSpec.upto fnExactTermOkSpec)

/-- 'laws.FnExactVarsOf', WHERE WHAT IT READS IS OF BULK AT MOST 1048576: true; the input reads as it did. -/
def fnExactVarsOfUptoRow : OpenClaim := { program := "ytojedbogbodkiaa", sum := "bf589326269b5b6c9b00378fbff69b5f504ddd178f7cb39d877955bc843eaacb", func := "loop.example/g00469/laws.FnExactVarsOf", spec := "fnExactVarsOf", recurses := true, loops := true, apart := false, narrowed := true }
def FnExactVarsOfUptoSaid : Prop := fnExactVarsOfUptoRow.holds Try.pinned (OpenSpec.upto fnExactVarsOfSpec)

/-- 'laws.FnExactWalked', WHERE WHAT IT READS IS OF BULK AT MOST 1048576: true; the input reads as it did. -/
def fnExactWalkedUptoRow : OpenClaim := { program := "ytojedbogbodkiaa", sum := "bf589326269b5b6c9b00378fbff69b5f504ddd178f7cb39d877955bc843eaacb", func := "loop.example/g00469/laws.FnExactWalked", spec := "fnExactWalked", unfollowed := true, recurses := true, loops := true, apart := false, narrowed := true }
def FnExactWalkedUptoSaid : Prop := fnExactWalkedUptoRow.holds Try.pinned (OpenSpec.upto fnExactWalkedSpec)

/-- 'laws.FnExactClauseTerm', WHERE WHAT IT READS IS OF BULK AT MOST 1048576: true; the input reads as it did. -/
def fnExactClauseTermUptoRow : OpenClaim := { program := "ytojedbogbodkiaa", sum := "bf589326269b5b6c9b00378fbff69b5f504ddd178f7cb39d877955bc843eaacb", func := "loop.example/g00469/laws.FnExactClauseTerm", spec := "fnExactClauseTerm", unfollowed := true, recurses := true, loops := true, apart := false, narrowed := true }
def FnExactClauseTermUptoSaid : Prop := fnExactClauseTermUptoRow.holds Try.pinned (OpenSpec.upto fnExactClauseTermSpec)

/-- 'laws.FnExactCompareTerm', WHERE WHAT IT READS IS OF BULK AT MOST 1048576: true; the input reads as it did. -/
def fnExactCompareTermUptoRow : OpenClaim := { program := "ytojedbogbodkiaa", sum := "bf589326269b5b6c9b00378fbff69b5f504ddd178f7cb39d877955bc843eaacb", func := "loop.example/g00469/laws.FnExactCompareTerm", spec := "fnExactCompareTerm", unfollowed := true, recurses := true, loops := true, apart := false, narrowed := true }
def FnExactCompareTermUptoSaid : Prop := fnExactCompareTermUptoRow.holds Try.pinned (OpenSpec.upto fnExactCompareTermSpec)

/-- 'laws.FnExactFilled', WHERE WHAT IT READS IS OF BULK AT MOST 1048576: true; the input reads as it did. -/
def fnExactFilledUptoRow : OpenClaim := { program := "ytojedbogbodkiaa", sum := "bf589326269b5b6c9b00378fbff69b5f504ddd178f7cb39d877955bc843eaacb", func := "loop.example/g00469/laws.FnExactFilled", spec := "fnExactFilled", recurses := true, loops := true, apart := false, narrowed := true }
def FnExactFilledUptoSaid : Prop := fnExactFilledUptoRow.holds Try.pinned (OpenSpec.upto fnExactFilledSpec)

/-- 'laws.FnExactShifted', WHERE WHAT IT READS IS OF BULK AT MOST 1048576: true; the input reads as it did. -/
def fnExactShiftedUptoRow : OpenClaim := { program := "ytojedbogbodkiaa", sum := "bf589326269b5b6c9b00378fbff69b5f504ddd178f7cb39d877955bc843eaacb", func := "loop.example/g00469/laws.FnExactShifted", spec := "fnExactShifted", unfollowed := true, recurses := true, loops := true, apart := false, narrowed := true }
def FnExactShiftedUptoSaid : Prop := fnExactShiftedUptoRow.holds Try.pinned (OpenSpec.upto fnExactShiftedSpec)

/-- 'laws.FnExactOpened', WHERE WHAT IT READS IS OF BULK AT MOST 1048576: true; the input reads as it did. -/
def fnExactOpenedUptoRow : OpenClaim := { program := "ytojedbogbodkiaa", sum := "bf589326269b5b6c9b00378fbff69b5f504ddd178f7cb39d877955bc843eaacb", func := "loop.example/g00469/laws.FnExactOpened", spec := "fnExactOpened", unfollowed := true, recurses := true, loops := true, apart := false, narrowed := true }
def FnExactOpenedUptoSaid : Prop := fnExactOpenedUptoRow.holds Try.pinned (OpenSpec.upto fnExactOpenedSpec)

end Rows
end Go.Proofs.Ytojedbogbodkiaa
