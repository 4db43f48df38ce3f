/-
  No cell of these rows narrows 'for every input' (looked for: loops, veiled, ifaces, maps, wideKeys, modest, calm, conditions, laid).
  DERIVED. THE GIVEN ROWS OF THIS SEAT. 10 by the template 'for every input the law returns true; each argument reads behind the call as it read before'; 0 by the template 'total and deterministic' (their statements: YtbkibnjpolnajaaTotals.lean).
  GIVEN WITH THE SEED: the statements are not yours to turn. If you find one false, say at which input.
  Laid BY PROGRAM, IN A SANDBOX (cutbox-rows.mjs): the forced cells as the released guide's own fill.sh prints them over the translation 87b49bf6668a5e59… (all of the seat's roots in one cut). By AI agents, Wed Nov 11 2026. No macro, syntax, notation, axiom, sorry.
-/
import Derived.Test.YtbkibnjpolnajaaChecked
import GoSem.Claim
import GoSem.ClaimJoined
import GoSem.ClaimMapViews
import Derived.JoinedTies
import Derived.KernelRfl
namespace Go.Proofs.Ytbkibnjpolnajaa
/- THE CELL 'sum', in the pinned program and in every row, IS THE sha256 OF THE DUMP (.gsa) THAT YtbkibnjpolnajaaProg.lean LOADS. Nothing in Lean hashes anything: it is a label: what it is worth is what the hold of that sum in a sandbox is worth. -/
noncomputable def Try.pinned : Pinned := { name := "ytbkibnjpolnajaa", sum := "87b49bf6668a5e59d552299db1f08021dc2e19f2818b2ddfbed9eba02aed61b0", checked := Try.checked }
namespace Rows
def none {H : Type} : Left H := { results := [], args := [] }

/-- 'laws.FnExactSymbolByte': WHATEVER THE INPUT: true; the input reads as it did. -/
def fnExactSymbolByteSpec : ChangeSpec := { name := "fnExactSymbolByte", fn := fun _ => fun
  | [d] => { results := [.lit (.bool true)], args := [d] }
  | _ => none }
def fnExactSymbolByteRow : OpenClaim := { program := "ytbkibnjpolnajaa", sum := "87b49bf6668a5e59d552299db1f08021dc2e19f2818b2ddfbed9eba02aed61b0", func := "loop.example/g00469/laws.FnExactSymbolByte", spec := "fnExactSymbolByte", inPlace := ["internal/bytealg.IndexByteString"], apart := false }
def FnExactSymbolByteSaid : Prop := fnExactSymbolByteRow.holds Try.pinned (OpenSpec.ofChange fnExactSymbolByteSpec)

/-- ITS FALSE NEIGHBOUR: 'it returns false'. Refute it at one input. -/
def fnExactSymbolByteWrong : ChangeSpec := { name := "fnExactSymbolByte", fn := fun _ => fun
  | [d] => { results := [.lit (.bool false)], args := [d] }
  | _ => none }
def FnExactSymbolByteWrongFalsely : Prop := fnExactSymbolByteRow.holds Try.pinned (OpenSpec.ofChange fnExactSymbolByteWrong)

/-- 'laws.FnExactHex': WHATEVER THE INPUT: true; the input reads as it did. -/
def fnExactHexSpec : ChangeSpec := { name := "fnExactHex", fn := fun _ => fun
  | [d] => { results := [.lit (.bool true)], args := [d] }
  | _ => none }
def fnExactHexRow : OpenClaim := { program := "ytbkibnjpolnajaa", sum := "87b49bf6668a5e59d552299db1f08021dc2e19f2818b2ddfbed9eba02aed61b0", func := "loop.example/g00469/laws.FnExactHex", spec := "fnExactHex", apart := false }
def FnExactHexSaid : Prop := fnExactHexRow.holds Try.pinned (OpenSpec.ofChange fnExactHexSpec)

/-- ITS FALSE NEIGHBOUR: 'it returns false'. Refute it at one input. -/
def fnExactHexWrong : ChangeSpec := { name := "fnExactHex", fn := fun _ => fun
  | [d] => { results := [.lit (.bool false)], args := [d] }
  | _ => none }
def FnExactHexWrongFalsely : Prop := fnExactHexRow.holds Try.pinned (OpenSpec.ofChange fnExactHexWrong)

/-- 'laws.FnExactUnhex': WHATEVER THE INPUT: true; the input reads as it did. -/
def fnExactUnhexSpec : ChangeSpec := { name := "fnExactUnhex", fn := fun _ => fun
  | [d] => { results := [.lit (.bool true)], args := [d] }
  | _ => none }
def fnExactUnhexRow : OpenClaim := { program := "ytbkibnjpolnajaa", sum := "87b49bf6668a5e59d552299db1f08021dc2e19f2818b2ddfbed9eba02aed61b0", func := "loop.example/g00469/laws.FnExactUnhex", spec := "fnExactUnhex", inPlace := ["internal/bytealg.IndexByteString"], apart := false }
def FnExactUnhexSaid : Prop := fnExactUnhexRow.holds Try.pinned (OpenSpec.ofChange fnExactUnhexSpec)

/-- ITS FALSE NEIGHBOUR: 'it returns false'. Refute it at one input. -/
def fnExactUnhexWrong : ChangeSpec := { name := "fnExactUnhex", fn := fun _ => fun
  | [d] => { results := [.lit (.bool false)], args := [d] }
  | _ => none }
def FnExactUnhexWrongFalsely : Prop := fnExactUnhexRow.holds Try.pinned (OpenSpec.ofChange fnExactUnhexWrong)

/-- 'laws.FnExactUnsealed': WHATEVER THE INPUT: true; the input reads as it did. -/
def fnExactUnsealedSpec : ChangeSpec := { name := "fnExactUnsealed", fn := fun _ => fun
  | [d] => { results := [.lit (.bool true)], args := [d] }
  | _ => none }
def fnExactUnsealedRow : OpenClaim := { program := "ytbkibnjpolnajaa", sum := "87b49bf6668a5e59d552299db1f08021dc2e19f2818b2ddfbed9eba02aed61b0", func := "loop.example/g00469/laws.FnExactUnsealed", spec := "fnExactUnsealed", apart := false }
def FnExactUnsealedSaid : Prop := fnExactUnsealedRow.holds Try.pinned (OpenSpec.ofChange fnExactUnsealedSpec)

/-- ITS FALSE NEIGHBOUR: 'it returns false'. Refute it at one input. -/
def fnExactUnsealedWrong : ChangeSpec := { name := "fnExactUnsealed", fn := fun _ => fun
  | [d] => { results := [.lit (.bool false)], args := [d] }
  | _ => none }
def FnExactUnsealedWrongFalsely : Prop := fnExactUnsealedRow.holds Try.pinned (OpenSpec.ofChange fnExactUnsealedWrong)

/-- 'laws.FnExactReadVar': WHATEVER THE INPUT: true; the input reads as it did. -/
def fnExactReadVarSpec : ChangeSpec := { name := "fnExactReadVar", fn := fun _ => fun
  | [d1, d2] => { results := [.lit (.bool true)], args := [d1, d2] }
  | _ => none }
def fnExactReadVarRow : OpenClaim := { program := "ytbkibnjpolnajaa", sum := "87b49bf6668a5e59d552299db1f08021dc2e19f2818b2ddfbed9eba02aed61b0", func := "loop.example/g00469/laws.FnExactReadVar", spec := "fnExactReadVar", apart := false }
def FnExactReadVarSaid : Prop := fnExactReadVarRow.holds Try.pinned (OpenSpec.ofChange fnExactReadVarSpec)

/-- ITS FALSE NEIGHBOUR: 'it returns false'. Refute it at one input. -/
def fnExactReadVarWrong : ChangeSpec := { name := "fnExactReadVar", fn := fun _ => fun
  | [d1, d2] => { results := [.lit (.bool false)], args := [d1, d2] }
  | _ => none }
def FnExactReadVarWrongFalsely : Prop := fnExactReadVarRow.holds Try.pinned (OpenSpec.ofChange fnExactReadVarWrong)

/-- 'laws.FnExactReadShort': WHATEVER THE INPUT: true; the input reads as it did. -/
def fnExactReadShortSpec : ChangeSpec := { name := "fnExactReadShort", fn := fun _ => fun
  | [d1, d2] => { results := [.lit (.bool true)], args := [d1, d2] }
  | _ => none }
def fnExactReadShortRow : OpenClaim := { program := "ytbkibnjpolnajaa", sum := "87b49bf6668a5e59d552299db1f08021dc2e19f2818b2ddfbed9eba02aed61b0", func := "loop.example/g00469/laws.FnExactReadShort", spec := "fnExactReadShort", apart := false }
def FnExactReadShortSaid : Prop := fnExactReadShortRow.holds Try.pinned (OpenSpec.ofChange fnExactReadShortSpec)

/-- ITS FALSE NEIGHBOUR: 'it returns false'. Refute it at one input. -/
def fnExactReadShortWrong : ChangeSpec := { name := "fnExactReadShort", fn := fun _ => fun
  | [d1, d2] => { results := [.lit (.bool false)], args := [d1, d2] }
  | _ => none }
def FnExactReadShortWrongFalsely : Prop := fnExactReadShortRow.holds Try.pinned (OpenSpec.ofChange fnExactReadShortWrong)

/-- 'laws.FnTurned': WHATEVER THE INPUT: true; the input reads as it did. -/
def fnTurnedSpec : ChangeSpec := { name := "fnTurned", fn := fun _ => fun
  | [d] => { results := [.lit (.bool true)], args := [d] }
  | _ => none }
def fnTurnedRow : OpenClaim := { program := "ytbkibnjpolnajaa", sum := "87b49bf6668a5e59d552299db1f08021dc2e19f2818b2ddfbed9eba02aed61b0", func := "loop.example/g00469/laws.FnTurned", spec := "fnTurned", apart := false }
def FnTurnedSaid : Prop := fnTurnedRow.holds Try.pinned (OpenSpec.ofChange fnTurnedSpec)

/-- ITS FALSE NEIGHBOUR: 'it returns false'. Refute it at one input. -/
def fnTurnedWrong : ChangeSpec := { name := "fnTurned", fn := fun _ => fun
  | [d] => { results := [.lit (.bool false)], args := [d] }
  | _ => none }
def FnTurnedWrongFalsely : Prop := fnTurnedRow.holds Try.pinned (OpenSpec.ofChange fnTurnedWrong)

/-- 'laws.FnExactSignsOf': WHATEVER THE INPUT: true; the input reads as it did. -/
def fnExactSignsOfSpec : ChangeSpec := { name := "fnExactSignsOf", fn := fun _ => fun
  | [d] => { results := [.lit (.bool true)], args := [d] }
  | _ => none }
def fnExactSignsOfRow : OpenClaim := { program := "ytbkibnjpolnajaa", sum := "87b49bf6668a5e59d552299db1f08021dc2e19f2818b2ddfbed9eba02aed61b0", func := "loop.example/g00469/laws.FnExactSignsOf", spec := "fnExactSignsOf", inPlace := ["internal/bytealg.IndexByteString"], unfollowed := true, recurses := true, apart := false }
def FnExactSignsOfSaid : Prop := fnExactSignsOfRow.holds Try.pinned (OpenSpec.ofChange fnExactSignsOfSpec)

/-- ITS FALSE NEIGHBOUR: 'it returns false'. Refute it at one input. -/
def fnExactSignsOfWrong : ChangeSpec := { name := "fnExactSignsOf", fn := fun _ => fun
  | [d] => { results := [.lit (.bool false)], args := [d] }
  | _ => none }
def FnExactSignsOfWrongFalsely : Prop := fnExactSignsOfRow.holds Try.pinned (OpenSpec.ofChange fnExactSignsOfWrong)

/-- 'laws.FnExactAtomText': WHATEVER THE INPUT: true; the input reads as it did. -/
def fnExactAtomTextSpec : ChangeSpec := { name := "fnExactAtomText", fn := fun _ => fun
  | [d] => { results := [.lit (.bool true)], args := [d] }
  | _ => none }
def fnExactAtomTextRow : OpenClaim := { program := "ytbkibnjpolnajaa", sum := "87b49bf6668a5e59d552299db1f08021dc2e19f2818b2ddfbed9eba02aed61b0", func := "loop.example/g00469/laws.FnExactAtomText", spec := "fnExactAtomText", inPlace := ["internal/bytealg.IndexByteString"], unfollowed := true, recurses := true, apart := false }
def FnExactAtomTextSaid : Prop := fnExactAtomTextRow.holds Try.pinned (OpenSpec.ofChange fnExactAtomTextSpec)

/-- ITS FALSE NEIGHBOUR: 'it returns false'. Refute it at one input. -/
def fnExactAtomTextWrong : ChangeSpec := { name := "fnExactAtomText", fn := fun _ => fun
  | [d] => { results := [.lit (.bool false)], args := [d] }
  | _ => none }
def FnExactAtomTextWrongFalsely : Prop := fnExactAtomTextRow.holds Try.pinned (OpenSpec.ofChange fnExactAtomTextWrong)

/-- 'laws.FnSigns': WHATEVER THE INPUT: true; the input reads as it did. -/
def fnSignsSpec : ChangeSpec := { name := "fnSigns", fn := fun _ => fun
  | [d] => { results := [.lit (.bool true)], args := [d] }
  | _ => none }
def fnSignsRow : OpenClaim := { program := "ytbkibnjpolnajaa", sum := "87b49bf6668a5e59d552299db1f08021dc2e19f2818b2ddfbed9eba02aed61b0", func := "loop.example/g00469/laws.FnSigns", spec := "fnSigns", inPlace := ["internal/bytealg.IndexByteString"], unfollowed := true, recurses := true, apart := false }
def FnSignsSaid : Prop := fnSignsRow.holds Try.pinned (OpenSpec.ofChange fnSignsSpec)

/-- ITS FALSE NEIGHBOUR: 'it returns false'. Refute it at one input. -/
def fnSignsWrong : ChangeSpec := { name := "fnSigns", fn := fun _ => fun
  | [d] => { results := [.lit (.bool false)], args := [d] }
  | _ => none }
def FnSignsWrongFalsely : Prop := fnSignsRow.holds Try.pinned (OpenSpec.ofChange fnSignsWrong)

/- THE SECOND FORM. 'bulk': how many values and letters a reading holds, each counted each time it is reached (what is shared counts as often as it is met; a slice's spare places count too). A statement '..UptoSaid' is the law's where the arguments, and the package variables that the reading takes, are together of bulk at most 1048576: NARROWER than '..Said'. Prove '..Said' where nothing that the law and all that it calls make is longer than what came in: it says more and counts as full. Else prove '..UptoSaid'. A law counts once. -/
mutual
def uptoBulk {H : Type} : DataW H → Nat
  | .lit (.string bytes) => bytes.length + 1
  | .lit _ => 1
  | .nil => 1
  | .ptr d => uptoBulk d + 1
  | .slice elems spare => uptoBulkAll elems + uptoBulkAll spare + 1
  | .agg parts => uptoBulkAll parts + 1
  | .iface _ d => uptoBulk d + 1
  | .map entries => uptoBulkEntries entries + 1
  | .held _ => 1
def uptoBulkAll {H : Type} : List (DataW H) → Nat
  | [] => 0
  | d :: r => uptoBulk d + uptoBulkAll r
def uptoBulkEntries {H : Type} : List (Lit × DataW H) → Nat
  | [] => 0
  | x :: r => uptoBulkEntry x + uptoBulkEntries r
def uptoBulkEntry {H : Type} : Lit × DataW H → Nat
  | (.string bytes, d) => bytes.length + uptoBulk d + 1
  | (_, d) => uptoBulk d + 1
 end
def uptoSmall : (H : Type) → List (DataW H) → Bool := fun _ ds => decide (uptoBulkAll ds ≤ 1048576)
def OpenSpec.upto (s : _root_.Go.ChangeSpec) : _root_.Go.OpenSpec := { _root_.Go.OpenSpec.ofChange s with cond := some uptoSmall }

/-- 'laws.FnExactSymbolByte', WHERE WHAT IT READS IS OF BULK AT MOST 1048576: true; the input reads as it did. -/
def fnExactSymbolByteUptoRow : OpenClaim := { program := "ytbkibnjpolnajaa", sum := "87b49bf6668a5e59d552299db1f08021dc2e19f2818b2ddfbed9eba02aed61b0", func := "loop.example/g00469/laws.FnExactSymbolByte", spec := "fnExactSymbolByte", inPlace := ["internal/bytealg.IndexByteString"], apart := false, narrowed := true }
def FnExactSymbolByteUptoSaid : Prop := fnExactSymbolByteUptoRow.holds Try.pinned (OpenSpec.upto fnExactSymbolByteSpec)

/-- 'laws.FnExactHex', WHERE WHAT IT READS IS OF BULK AT MOST 1048576: true; the input reads as it did. -/
def fnExactHexUptoRow : OpenClaim := { program := "ytbkibnjpolnajaa", sum := "87b49bf6668a5e59d552299db1f08021dc2e19f2818b2ddfbed9eba02aed61b0", func := "loop.example/g00469/laws.FnExactHex", spec := "fnExactHex", apart := false, narrowed := true }
def FnExactHexUptoSaid : Prop := fnExactHexUptoRow.holds Try.pinned (OpenSpec.upto fnExactHexSpec)

/-- 'laws.FnExactUnhex', WHERE WHAT IT READS IS OF BULK AT MOST 1048576: true; the input reads as it did. -/
def fnExactUnhexUptoRow : OpenClaim := { program := "ytbkibnjpolnajaa", sum := "87b49bf6668a5e59d552299db1f08021dc2e19f2818b2ddfbed9eba02aed61b0", func := "loop.example/g00469/laws.FnExactUnhex", spec := "fnExactUnhex", inPlace := ["internal/bytealg.IndexByteString"], apart := false, narrowed := true }
def FnExactUnhexUptoSaid : Prop := fnExactUnhexUptoRow.holds Try.pinned (OpenSpec.upto fnExactUnhexSpec)

/-- 'laws.FnExactUnsealed', WHERE WHAT IT READS IS OF BULK AT MOST 1048576: true; the input reads as it did. -/
def fnExactUnsealedUptoRow : OpenClaim := { program := "ytbkibnjpolnajaa", sum := "87b49bf6668a5e59d552299db1f08021dc2e19f2818b2ddfbed9eba02aed61b0", func := "loop.example/g00469/laws.FnExactUnsealed", spec := "fnExactUnsealed", apart := false, narrowed := true }
def FnExactUnsealedUptoSaid : Prop := fnExactUnsealedUptoRow.holds Try.pinned (OpenSpec.upto fnExactUnsealedSpec)

/-- 'laws.FnExactReadVar', WHERE WHAT IT READS IS OF BULK AT MOST 1048576: true; the input reads as it did. -/
def fnExactReadVarUptoRow : OpenClaim := { program := "ytbkibnjpolnajaa", sum := "87b49bf6668a5e59d552299db1f08021dc2e19f2818b2ddfbed9eba02aed61b0", func := "loop.example/g00469/laws.FnExactReadVar", spec := "fnExactReadVar", apart := false, narrowed := true }
def FnExactReadVarUptoSaid : Prop := fnExactReadVarUptoRow.holds Try.pinned (OpenSpec.upto fnExactReadVarSpec)

/-- 'laws.FnExactReadShort', WHERE WHAT IT READS IS OF BULK AT MOST 1048576: true; the input reads as it did. -/
def fnExactReadShortUptoRow : OpenClaim := { program := "ytbkibnjpolnajaa", sum := "87b49bf6668a5e59d552299db1f08021dc2e19f2818b2ddfbed9eba02aed61b0", func := "loop.example/g00469/laws.FnExactReadShort", spec := "fnExactReadShort", apart := false, narrowed := true }
def FnExactReadShortUptoSaid : Prop := fnExactReadShortUptoRow.holds Try.pinned (OpenSpec.upto fnExactReadShortSpec)

/-- 'laws.FnTurned', WHERE WHAT IT READS IS OF BULK AT MOST 1048576: true; the input reads as it did. -/
def fnTurnedUptoRow : OpenClaim := { program := "ytbkibnjpolnajaa", sum := "87b49bf6668a5e59d552299db1f08021dc2e19f2818b2ddfbed9eba02aed61b0", func := "loop.example/g00469/laws.FnTurned", spec := "fnTurned", apart := false, narrowed := true }
def FnTurnedUptoSaid : Prop := fnTurnedUptoRow.holds Try.pinned (OpenSpec.upto fnTurnedSpec)

/-- 'laws.FnExactSignsOf', WHERE WHAT IT READS IS OF BULK AT MOST 1048576: true; the input reads as it did. -/
def fnExactSignsOfUptoRow : OpenClaim := { program := "ytbkibnjpolnajaa", sum := "87b49bf6668a5e59d552299db1f08021dc2e19f2818b2ddfbed9eba02aed61b0", func := "loop.example/g00469/laws.FnExactSignsOf", spec := "fnExactSignsOf", inPlace := ["internal/bytealg.IndexByteString"], unfollowed := true, recurses := true, apart := false, narrowed := true }
def FnExactSignsOfUptoSaid : Prop := fnExactSignsOfUptoRow.holds Try.pinned (OpenSpec.upto fnExactSignsOfSpec)

/-- 'laws.FnExactAtomText', WHERE WHAT IT READS IS OF BULK AT MOST 1048576: true; the input reads as it did. -/
def fnExactAtomTextUptoRow : OpenClaim := { program := "ytbkibnjpolnajaa", sum := "87b49bf6668a5e59d552299db1f08021dc2e19f2818b2ddfbed9eba02aed61b0", func := "loop.example/g00469/laws.FnExactAtomText", spec := "fnExactAtomText", inPlace := ["internal/bytealg.IndexByteString"], unfollowed := true, recurses := true, apart := false, narrowed := true }
def FnExactAtomTextUptoSaid : Prop := fnExactAtomTextUptoRow.holds Try.pinned (OpenSpec.upto fnExactAtomTextSpec)

/-- 'laws.FnSigns', WHERE WHAT IT READS IS OF BULK AT MOST 1048576: true; the input reads as it did. -/
def fnSignsUptoRow : OpenClaim := { program := "ytbkibnjpolnajaa", sum := "87b49bf6668a5e59d552299db1f08021dc2e19f2818b2ddfbed9eba02aed61b0", func := "loop.example/g00469/laws.FnSigns", spec := "fnSigns", inPlace := ["internal/bytealg.IndexByteString"], unfollowed := true, recurses := true, apart := false, narrowed := true }
def FnSignsUptoSaid : Prop := fnSignsUptoRow.holds Try.pinned (OpenSpec.upto fnSignsSpec)

end Rows
end Go.Proofs.Ytbkibnjpolnajaa
