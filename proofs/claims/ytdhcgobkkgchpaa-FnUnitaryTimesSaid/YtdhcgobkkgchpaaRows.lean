/-
  No cell of these rows narrows 'for every input' (looked for: loops, veiled, ifaces, maps, wideKeys, modest, calm, conditions, laid).
  DERIVED. THE GIVEN ROWS OF THIS SEAT. 13 by the template 'for every input the law returns true; each argument reads behind the call as it read before'; 0 by the template 'total and deterministic' (their statements: YtdhcgobkkgchpaaTotals.lean).
  GIVEN WITH THE SEED: the statements are not yours to turn. If you find one false, say at which input.
  Laid BY PROGRAM, IN A SANDBOX (cutbox-rows.mjs): the forced cells as the released guide's own fill.sh prints them over the translation 04edcf1e60f445e5… (all of the seat's roots in one cut). By AI agents, Wed Nov 11 2026. No macro, syntax, notation, axiom, sorry.
-/
import Derived.Test.YtdhcgobkkgchpaaChecked
import GoSem.Claim
import GoSem.ClaimJoined
import GoSem.ClaimMapViews
import Derived.JoinedTies
import Derived.KernelRfl
namespace Go.Proofs.Ytdhcgobkkgchpaa
/- THE CELL 'sum', in the pinned program and in every row, IS THE sha256 OF THE DUMP (.gsa) THAT YtdhcgobkkgchpaaProg.lean LOADS. Nothing in Lean hashes anything: it is a label: what it is worth is what the hold of that sum in a sandbox is worth. -/
noncomputable def Try.pinned : Pinned := { name := "ytdhcgobkkgchpaa", sum := "04edcf1e60f445e56a3c070e8b310885c4945311cd0a5a4a9e4388aeca48f18a", checked := Try.checked }
namespace Rows
def none {H : Type} : Left H := { results := [], args := [] }

/-- 'laws.FnRoundedSums': WHATEVER THE INPUT: true; the input reads as it did. -/
def fnRoundedSumsSpec : ChangeSpec := { name := "fnRoundedSums", fn := fun _ => fun
  | [d] => { results := [.lit (.bool true)], args := [d] }
  | _ => none }
def fnRoundedSumsRow : OpenClaim := { program := "ytdhcgobkkgchpaa", sum := "04edcf1e60f445e56a3c070e8b310885c4945311cd0a5a4a9e4388aeca48f18a", func := "loop.example/divisorrows/laws.FnRoundedSums", spec := "fnRoundedSums", unfollowed := true, recurses := true, apart := false }
def FnRoundedSumsSaid : Prop := fnRoundedSumsRow.holds Try.pinned (OpenSpec.ofChange fnRoundedSumsSpec)

/-- ITS FALSE NEIGHBOUR: 'it returns false'. Refute it at one input. -/
def fnRoundedSumsWrong : ChangeSpec := { name := "fnRoundedSums", fn := fun _ => fun
  | [d] => { results := [.lit (.bool false)], args := [d] }
  | _ => none }
def FnRoundedSumsWrongFalsely : Prop := fnRoundedSumsRow.holds Try.pinned (OpenSpec.ofChange fnRoundedSumsWrong)

/-- 'laws.FnFromRounded': WHATEVER THE INPUT: true; the input reads as it did. -/
def fnFromRoundedSpec : ChangeSpec := { name := "fnFromRounded", fn := fun _ => fun
  | [d] => { results := [.lit (.bool true)], args := [d] }
  | _ => none }
def fnFromRoundedRow : OpenClaim := { program := "ytdhcgobkkgchpaa", sum := "04edcf1e60f445e56a3c070e8b310885c4945311cd0a5a4a9e4388aeca48f18a", func := "loop.example/divisorrows/laws.FnFromRounded", spec := "fnFromRounded", unfollowed := true, recurses := true, apart := false }
def FnFromRoundedSaid : Prop := fnFromRoundedRow.holds Try.pinned (OpenSpec.ofChange fnFromRoundedSpec)

/-- ITS FALSE NEIGHBOUR: 'it returns false'. Refute it at one input. -/
def fnFromRoundedWrong : ChangeSpec := { name := "fnFromRounded", fn := fun _ => fun
  | [d] => { results := [.lit (.bool false)], args := [d] }
  | _ => none }
def FnFromRoundedWrongFalsely : Prop := fnFromRoundedRow.holds Try.pinned (OpenSpec.ofChange fnFromRoundedWrong)

/-- 'laws.FnUnitaryTimes': WHATEVER THE INPUT: true; the input reads as it did. -/
def fnUnitaryTimesSpec : ChangeSpec := { name := "fnUnitaryTimes", fn := fun _ => fun
  | [d1, d2] => { results := [.lit (.bool true)], args := [d1, d2] }
  | _ => none }
def fnUnitaryTimesRow : OpenClaim := { program := "ytdhcgobkkgchpaa", sum := "04edcf1e60f445e56a3c070e8b310885c4945311cd0a5a4a9e4388aeca48f18a", func := "loop.example/divisorrows/laws.FnUnitaryTimes", spec := "fnUnitaryTimes", unfollowed := true, recurses := true, apart := false }
def FnUnitaryTimesSaid : Prop := fnUnitaryTimesRow.holds Try.pinned (OpenSpec.ofChange fnUnitaryTimesSpec)

/-- ITS FALSE NEIGHBOUR: 'it returns false'. Refute it at one input. -/
def fnUnitaryTimesWrong : ChangeSpec := { name := "fnUnitaryTimes", fn := fun _ => fun
  | [d1, d2] => { results := [.lit (.bool false)], args := [d1, d2] }
  | _ => none }
def FnUnitaryTimesWrongFalsely : Prop := fnUnitaryTimesRow.holds Try.pinned (OpenSpec.ofChange fnUnitaryTimesWrong)

/-- 'laws.FnExactUnitaryTimes': WHATEVER THE INPUT: true; the input reads as it did. -/
def fnExactUnitaryTimesSpec : ChangeSpec := { name := "fnExactUnitaryTimes", fn := fun _ => fun
  | [d1, d2] => { results := [.lit (.bool true)], args := [d1, d2] }
  | _ => none }
def fnExactUnitaryTimesRow : OpenClaim := { program := "ytdhcgobkkgchpaa", sum := "04edcf1e60f445e56a3c070e8b310885c4945311cd0a5a4a9e4388aeca48f18a", func := "loop.example/divisorrows/laws.FnExactUnitaryTimes", spec := "fnExactUnitaryTimes", unfollowed := true, recurses := true, apart := false }
def FnExactUnitaryTimesSaid : Prop := fnExactUnitaryTimesRow.holds Try.pinned (OpenSpec.ofChange fnExactUnitaryTimesSpec)

/-- ITS FALSE NEIGHBOUR: 'it returns false'. Refute it at one input. -/
def fnExactUnitaryTimesWrong : ChangeSpec := { name := "fnExactUnitaryTimes", fn := fun _ => fun
  | [d1, d2] => { results := [.lit (.bool false)], args := [d1, d2] }
  | _ => none }
def FnExactUnitaryTimesWrongFalsely : Prop := fnExactUnitaryTimesRow.holds Try.pinned (OpenSpec.ofChange fnExactUnitaryTimesWrong)

/-- 'laws.FnExactFromMultiples': WHATEVER THE INPUT: true; the input reads as it did. -/
def fnExactFromMultiplesSpec : ChangeSpec := { name := "fnExactFromMultiples", fn := fun _ => fun
  | [d] => { results := [.lit (.bool true)], args := [d] }
  | _ => none }
def fnExactFromMultiplesRow : OpenClaim := { program := "ytdhcgobkkgchpaa", sum := "04edcf1e60f445e56a3c070e8b310885c4945311cd0a5a4a9e4388aeca48f18a", func := "loop.example/divisorrows/laws.FnExactFromMultiples", spec := "fnExactFromMultiples", unfollowed := true, recurses := true, apart := false }
def FnExactFromMultiplesSaid : Prop := fnExactFromMultiplesRow.holds Try.pinned (OpenSpec.ofChange fnExactFromMultiplesSpec)

/-- ITS FALSE NEIGHBOUR: 'it returns false'. Refute it at one input. -/
def fnExactFromMultiplesWrong : ChangeSpec := { name := "fnExactFromMultiples", fn := fun _ => fun
  | [d] => { results := [.lit (.bool false)], args := [d] }
  | _ => none }
def FnExactFromMultiplesWrongFalsely : Prop := fnExactFromMultiplesRow.holds Try.pinned (OpenSpec.ofChange fnExactFromMultiplesWrong)

/-- 'laws.FnExactFromRounded': WHATEVER THE INPUT: true; the input reads as it did. -/
def fnExactFromRoundedSpec : ChangeSpec := { name := "fnExactFromRounded", fn := fun _ => fun
  | [d] => { results := [.lit (.bool true)], args := [d] }
  | _ => none }
def fnExactFromRoundedRow : OpenClaim := { program := "ytdhcgobkkgchpaa", sum := "04edcf1e60f445e56a3c070e8b310885c4945311cd0a5a4a9e4388aeca48f18a", func := "loop.example/divisorrows/laws.FnExactFromRounded", spec := "fnExactFromRounded", unfollowed := true, recurses := true, apart := false }
def FnExactFromRoundedSaid : Prop := fnExactFromRoundedRow.holds Try.pinned (OpenSpec.ofChange fnExactFromRoundedSpec)

/-- ITS FALSE NEIGHBOUR: 'it returns false'. Refute it at one input. -/
def fnExactFromRoundedWrong : ChangeSpec := { name := "fnExactFromRounded", fn := fun _ => fun
  | [d] => { results := [.lit (.bool false)], args := [d] }
  | _ => none }
def FnExactFromRoundedWrongFalsely : Prop := fnExactFromRoundedRow.holds Try.pinned (OpenSpec.ofChange fnExactFromRoundedWrong)

/-- 'laws.FnUnitarySign': WHATEVER THE INPUT: true; the input reads as it did. -/
def fnUnitarySignSpec : ChangeSpec := { name := "fnUnitarySign", fn := fun _ => fun
  | [d] => { results := [.lit (.bool true)], args := [d] }
  | _ => none }
def fnUnitarySignRow : OpenClaim := { program := "ytdhcgobkkgchpaa", sum := "04edcf1e60f445e56a3c070e8b310885c4945311cd0a5a4a9e4388aeca48f18a", func := "loop.example/divisorrows/laws.FnUnitarySign", spec := "fnUnitarySign", unfollowed := true, recurses := true, apart := false }
def FnUnitarySignSaid : Prop := fnUnitarySignRow.holds Try.pinned (OpenSpec.ofChange fnUnitarySignSpec)

/-- ITS FALSE NEIGHBOUR: 'it returns false'. Refute it at one input. -/
def fnUnitarySignWrong : ChangeSpec := { name := "fnUnitarySign", fn := fun _ => fun
  | [d] => { results := [.lit (.bool false)], args := [d] }
  | _ => none }
def FnUnitarySignWrongFalsely : Prop := fnUnitarySignRow.holds Try.pinned (OpenSpec.ofChange fnUnitarySignWrong)

/-- 'laws.FnOverMultiples': WHATEVER THE INPUT: true; the input reads as it did. -/
def fnOverMultiplesSpec : ChangeSpec := { name := "fnOverMultiples", fn := fun _ => fun
  | [d] => { results := [.lit (.bool true)], args := [d] }
  | _ => none }
def fnOverMultiplesRow : OpenClaim := { program := "ytdhcgobkkgchpaa", sum := "04edcf1e60f445e56a3c070e8b310885c4945311cd0a5a4a9e4388aeca48f18a", func := "loop.example/divisorrows/laws.FnOverMultiples", spec := "fnOverMultiples", unfollowed := true, recurses := true, apart := false }
def FnOverMultiplesSaid : Prop := fnOverMultiplesRow.holds Try.pinned (OpenSpec.ofChange fnOverMultiplesSpec)

/-- ITS FALSE NEIGHBOUR: 'it returns false'. Refute it at one input. -/
def fnOverMultiplesWrong : ChangeSpec := { name := "fnOverMultiples", fn := fun _ => fun
  | [d] => { results := [.lit (.bool false)], args := [d] }
  | _ => none }
def FnOverMultiplesWrongFalsely : Prop := fnOverMultiplesRow.holds Try.pinned (OpenSpec.ofChange fnOverMultiplesWrong)

/-- 'laws.FnFromMultiples': WHATEVER THE INPUT: true; the input reads as it did. -/
def fnFromMultiplesSpec : ChangeSpec := { name := "fnFromMultiples", fn := fun _ => fun
  | [d] => { results := [.lit (.bool true)], args := [d] }
  | _ => none }
def fnFromMultiplesRow : OpenClaim := { program := "ytdhcgobkkgchpaa", sum := "04edcf1e60f445e56a3c070e8b310885c4945311cd0a5a4a9e4388aeca48f18a", func := "loop.example/divisorrows/laws.FnFromMultiples", spec := "fnFromMultiples", unfollowed := true, recurses := true, apart := false }
def FnFromMultiplesSaid : Prop := fnFromMultiplesRow.holds Try.pinned (OpenSpec.ofChange fnFromMultiplesSpec)

/-- ITS FALSE NEIGHBOUR: 'it returns false'. Refute it at one input. -/
def fnFromMultiplesWrong : ChangeSpec := { name := "fnFromMultiples", fn := fun _ => fun
  | [d] => { results := [.lit (.bool false)], args := [d] }
  | _ => none }
def FnFromMultiplesWrongFalsely : Prop := fnFromMultiplesRow.holds Try.pinned (OpenSpec.ofChange fnFromMultiplesWrong)

/-- 'laws.FnExactFromSums': WHATEVER THE INPUT: true; the input reads as it did. -/
def fnExactFromSumsSpec : ChangeSpec := { name := "fnExactFromSums", fn := fun _ => fun
  | [d] => { results := [.lit (.bool true)], args := [d] }
  | _ => none }
def fnExactFromSumsRow : OpenClaim := { program := "ytdhcgobkkgchpaa", sum := "04edcf1e60f445e56a3c070e8b310885c4945311cd0a5a4a9e4388aeca48f18a", func := "loop.example/divisorrows/laws.FnExactFromSums", spec := "fnExactFromSums", unfollowed := true, recurses := true, apart := false }
def FnExactFromSumsSaid : Prop := fnExactFromSumsRow.holds Try.pinned (OpenSpec.ofChange fnExactFromSumsSpec)

/-- ITS FALSE NEIGHBOUR: 'it returns false'. Refute it at one input. -/
def fnExactFromSumsWrong : ChangeSpec := { name := "fnExactFromSums", fn := fun _ => fun
  | [d] => { results := [.lit (.bool false)], args := [d] }
  | _ => none }
def FnExactFromSumsWrongFalsely : Prop := fnExactFromSumsRow.holds Try.pinned (OpenSpec.ofChange fnExactFromSumsWrong)

/-- 'laws.FnExactSumsOf': WHATEVER THE INPUT: true; the input reads as it did. -/
def fnExactSumsOfSpec : ChangeSpec := { name := "fnExactSumsOf", fn := fun _ => fun
  | [d] => { results := [.lit (.bool true)], args := [d] }
  | _ => none }
def fnExactSumsOfRow : OpenClaim := { program := "ytdhcgobkkgchpaa", sum := "04edcf1e60f445e56a3c070e8b310885c4945311cd0a5a4a9e4388aeca48f18a", func := "loop.example/divisorrows/laws.FnExactSumsOf", spec := "fnExactSumsOf", unfollowed := true, recurses := true, apart := false }
def FnExactSumsOfSaid : Prop := fnExactSumsOfRow.holds Try.pinned (OpenSpec.ofChange fnExactSumsOfSpec)

/-- ITS FALSE NEIGHBOUR: 'it returns false'. Refute it at one input. -/
def fnExactSumsOfWrong : ChangeSpec := { name := "fnExactSumsOf", fn := fun _ => fun
  | [d] => { results := [.lit (.bool false)], args := [d] }
  | _ => none }
def FnExactSumsOfWrongFalsely : Prop := fnExactSumsOfRow.holds Try.pinned (OpenSpec.ofChange fnExactSumsOfWrong)

/-- 'laws.FnFromSums': WHATEVER THE INPUT: true; the input reads as it did. -/
def fnFromSumsSpec : ChangeSpec := { name := "fnFromSums", fn := fun _ => fun
  | [d] => { results := [.lit (.bool true)], args := [d] }
  | _ => none }
def fnFromSumsRow : OpenClaim := { program := "ytdhcgobkkgchpaa", sum := "04edcf1e60f445e56a3c070e8b310885c4945311cd0a5a4a9e4388aeca48f18a", func := "loop.example/divisorrows/laws.FnFromSums", spec := "fnFromSums", unfollowed := true, recurses := true, apart := false }
def FnFromSumsSaid : Prop := fnFromSumsRow.holds Try.pinned (OpenSpec.ofChange fnFromSumsSpec)

/-- ITS FALSE NEIGHBOUR: 'it returns false'. Refute it at one input. -/
def fnFromSumsWrong : ChangeSpec := { name := "fnFromSums", fn := fun _ => fun
  | [d] => { results := [.lit (.bool false)], args := [d] }
  | _ => none }
def FnFromSumsWrongFalsely : Prop := fnFromSumsRow.holds Try.pinned (OpenSpec.ofChange fnFromSumsWrong)

/-- 'laws.FnSumsOf': WHATEVER THE INPUT: true; the input reads as it did. -/
def fnSumsOfSpec : ChangeSpec := { name := "fnSumsOf", fn := fun _ => fun
  | [d] => { results := [.lit (.bool true)], args := [d] }
  | _ => none }
def fnSumsOfRow : OpenClaim := { program := "ytdhcgobkkgchpaa", sum := "04edcf1e60f445e56a3c070e8b310885c4945311cd0a5a4a9e4388aeca48f18a", func := "loop.example/divisorrows/laws.FnSumsOf", spec := "fnSumsOf", unfollowed := true, recurses := true, apart := false }
def FnSumsOfSaid : Prop := fnSumsOfRow.holds Try.pinned (OpenSpec.ofChange fnSumsOfSpec)

/-- ITS FALSE NEIGHBOUR: 'it returns false'. Refute it at one input. -/
def fnSumsOfWrong : ChangeSpec := { name := "fnSumsOf", fn := fun _ => fun
  | [d] => { results := [.lit (.bool false)], args := [d] }
  | _ => none }
def FnSumsOfWrongFalsely : Prop := fnSumsOfRow.holds Try.pinned (OpenSpec.ofChange fnSumsOfWrong)

/- THE SECOND FORM. 'bulk': how many values and letters a reading holds, each counted each time it is reached (what is shared counts as often as it is met; a slice's spare places count too). A statement '..UptoSaid' is the law's where the arguments, and the package variables that the reading takes, are together of bulk at most 1048576: NARROWER than '..Said'. Prove '..Said' where nothing that the law and all that it calls make is longer than what came in: it says more and counts as full. Else prove '..UptoSaid'. A law counts once. -/
mutual
def uptoBulk {H : Type} : DataW H → Nat
  | .lit (.string bytes) => bytes.length + 1
  | .lit _ => 1
  | .nil => 1
  | .ptr d => uptoBulk d + 1
  | .slice elems spare => uptoBulkAll elems + uptoBulkAll spare + 1
  | .agg parts => uptoBulkAll parts + 1
  | .iface _ d => uptoBulk d + 1
  | .map entries => uptoBulkEntries entries + 1
  | .held _ => 1
def uptoBulkAll {H : Type} : List (DataW H) → Nat
  | [] => 0
  | d :: r => uptoBulk d + uptoBulkAll r
def uptoBulkEntries {H : Type} : List (Lit × DataW H) → Nat
  | [] => 0
  | x :: r => uptoBulkEntry x + uptoBulkEntries r
def uptoBulkEntry {H : Type} : Lit × DataW H → Nat
  | (.string bytes, d) => bytes.length + uptoBulk d + 1
  | (_, d) => uptoBulk d + 1
 end
def uptoSmall : (H : Type) → List (DataW H) → Bool := fun _ ds => decide (uptoBulkAll ds ≤ 1048576)
def OpenSpec.upto (s : _root_.Go.ChangeSpec) : _root_.Go.OpenSpec := { _root_.Go.OpenSpec.ofChange s with cond := some uptoSmall }

/-- 'laws.FnRoundedSums', WHERE WHAT IT READS IS OF BULK AT MOST 1048576: true; the input reads as it did. -/
def fnRoundedSumsUptoRow : OpenClaim := { program := "ytdhcgobkkgchpaa", sum := "04edcf1e60f445e56a3c070e8b310885c4945311cd0a5a4a9e4388aeca48f18a", func := "loop.example/divisorrows/laws.FnRoundedSums", spec := "fnRoundedSums", unfollowed := true, recurses := true, apart := false, narrowed := true }
def FnRoundedSumsUptoSaid : Prop := fnRoundedSumsUptoRow.holds Try.pinned (OpenSpec.upto fnRoundedSumsSpec)

/-- 'laws.FnFromRounded', WHERE WHAT IT READS IS OF BULK AT MOST 1048576: true; the input reads as it did. -/
def fnFromRoundedUptoRow : OpenClaim := { program := "ytdhcgobkkgchpaa", sum := "04edcf1e60f445e56a3c070e8b310885c4945311cd0a5a4a9e4388aeca48f18a", func := "loop.example/divisorrows/laws.FnFromRounded", spec := "fnFromRounded", unfollowed := true, recurses := true, apart := false, narrowed := true }
def FnFromRoundedUptoSaid : Prop := fnFromRoundedUptoRow.holds Try.pinned (OpenSpec.upto fnFromRoundedSpec)

/-- 'laws.FnUnitaryTimes', WHERE WHAT IT READS IS OF BULK AT MOST 1048576: true; the input reads as it did. -/
def fnUnitaryTimesUptoRow : OpenClaim := { program := "ytdhcgobkkgchpaa", sum := "04edcf1e60f445e56a3c070e8b310885c4945311cd0a5a4a9e4388aeca48f18a", func := "loop.example/divisorrows/laws.FnUnitaryTimes", spec := "fnUnitaryTimes", unfollowed := true, recurses := true, apart := false, narrowed := true }
def FnUnitaryTimesUptoSaid : Prop := fnUnitaryTimesUptoRow.holds Try.pinned (OpenSpec.upto fnUnitaryTimesSpec)

/-- 'laws.FnExactUnitaryTimes', WHERE WHAT IT READS IS OF BULK AT MOST 1048576: true; the input reads as it did. -/
def fnExactUnitaryTimesUptoRow : OpenClaim := { program := "ytdhcgobkkgchpaa", sum := "04edcf1e60f445e56a3c070e8b310885c4945311cd0a5a4a9e4388aeca48f18a", func := "loop.example/divisorrows/laws.FnExactUnitaryTimes", spec := "fnExactUnitaryTimes", unfollowed := true, recurses := true, apart := false, narrowed := true }
def FnExactUnitaryTimesUptoSaid : Prop := fnExactUnitaryTimesUptoRow.holds Try.pinned (OpenSpec.upto fnExactUnitaryTimesSpec)

/-- 'laws.FnExactFromMultiples', WHERE WHAT IT READS IS OF BULK AT MOST 1048576: true; the input reads as it did. -/
def fnExactFromMultiplesUptoRow : OpenClaim := { program := "ytdhcgobkkgchpaa", sum := "04edcf1e60f445e56a3c070e8b310885c4945311cd0a5a4a9e4388aeca48f18a", func := "loop.example/divisorrows/laws.FnExactFromMultiples", spec := "fnExactFromMultiples", unfollowed := true, recurses := true, apart := false, narrowed := true }
def FnExactFromMultiplesUptoSaid : Prop := fnExactFromMultiplesUptoRow.holds Try.pinned (OpenSpec.upto fnExactFromMultiplesSpec)

/-- 'laws.FnExactFromRounded', WHERE WHAT IT READS IS OF BULK AT MOST 1048576: true; the input reads as it did. -/
def fnExactFromRoundedUptoRow : OpenClaim := { program := "ytdhcgobkkgchpaa", sum := "04edcf1e60f445e56a3c070e8b310885c4945311cd0a5a4a9e4388aeca48f18a", func := "loop.example/divisorrows/laws.FnExactFromRounded", spec := "fnExactFromRounded", unfollowed := true, recurses := true, apart := false, narrowed := true }
def FnExactFromRoundedUptoSaid : Prop := fnExactFromRoundedUptoRow.holds Try.pinned (OpenSpec.upto fnExactFromRoundedSpec)

/-- 'laws.FnUnitarySign', WHERE WHAT IT READS IS OF BULK AT MOST 1048576: true; the input reads as it did. -/
def fnUnitarySignUptoRow : OpenClaim := { program := "ytdhcgobkkgchpaa", sum := "04edcf1e60f445e56a3c070e8b310885c4945311cd0a5a4a9e4388aeca48f18a", func := "loop.example/divisorrows/laws.FnUnitarySign", spec := "fnUnitarySign", unfollowed := true, recurses := true, apart := false, narrowed := true }
def FnUnitarySignUptoSaid : Prop := fnUnitarySignUptoRow.holds Try.pinned (OpenSpec.upto fnUnitarySignSpec)

/-- 'laws.FnOverMultiples', WHERE WHAT IT READS IS OF BULK AT MOST 1048576: true; the input reads as it did. -/
def fnOverMultiplesUptoRow : OpenClaim := { program := "ytdhcgobkkgchpaa", sum := "04edcf1e60f445e56a3c070e8b310885c4945311cd0a5a4a9e4388aeca48f18a", func := "loop.example/divisorrows/laws.FnOverMultiples", spec := "fnOverMultiples", unfollowed := true, recurses := true, apart := false, narrowed := true }
def FnOverMultiplesUptoSaid : Prop := fnOverMultiplesUptoRow.holds Try.pinned (OpenSpec.upto fnOverMultiplesSpec)

/-- 'laws.FnFromMultiples', WHERE WHAT IT READS IS OF BULK AT MOST 1048576: true; the input reads as it did. -/
def fnFromMultiplesUptoRow : OpenClaim := { program := "ytdhcgobkkgchpaa", sum := "04edcf1e60f445e56a3c070e8b310885c4945311cd0a5a4a9e4388aeca48f18a", func := "loop.example/divisorrows/laws.FnFromMultiples", spec := "fnFromMultiples", unfollowed := true, recurses := true, apart := false, narrowed := true }
def FnFromMultiplesUptoSaid : Prop := fnFromMultiplesUptoRow.holds Try.pinned (OpenSpec.upto fnFromMultiplesSpec)

/-- 'laws.FnExactFromSums', WHERE WHAT IT READS IS OF BULK AT MOST 1048576: true; the input reads as it did. -/
def fnExactFromSumsUptoRow : OpenClaim := { program := "ytdhcgobkkgchpaa", sum := "04edcf1e60f445e56a3c070e8b310885c4945311cd0a5a4a9e4388aeca48f18a", func := "loop.example/divisorrows/laws.FnExactFromSums", spec := "fnExactFromSums", unfollowed := true, recurses := true, apart := false, narrowed := true }
def FnExactFromSumsUptoSaid : Prop := fnExactFromSumsUptoRow.holds Try.pinned (OpenSpec.upto fnExactFromSumsSpec)

/-- 'laws.FnExactSumsOf', WHERE WHAT IT READS IS OF BULK AT MOST 1048576: true; the input reads as it did. -/
def fnExactSumsOfUptoRow : OpenClaim := { program := "ytdhcgobkkgchpaa", sum := "04edcf1e60f445e56a3c070e8b310885c4945311cd0a5a4a9e4388aeca48f18a", func := "loop.example/divisorrows/laws.FnExactSumsOf", spec := "fnExactSumsOf", unfollowed := true, recurses := true, apart := false, narrowed := true }
def FnExactSumsOfUptoSaid : Prop := fnExactSumsOfUptoRow.holds Try.pinned (OpenSpec.upto fnExactSumsOfSpec)

/-- 'laws.FnFromSums', WHERE WHAT IT READS IS OF BULK AT MOST 1048576: true; the input reads as it did. -/
def fnFromSumsUptoRow : OpenClaim := { program := "ytdhcgobkkgchpaa", sum := "04edcf1e60f445e56a3c070e8b310885c4945311cd0a5a4a9e4388aeca48f18a", func := "loop.example/divisorrows/laws.FnFromSums", spec := "fnFromSums", unfollowed := true, recurses := true, apart := false, narrowed := true }
def FnFromSumsUptoSaid : Prop := fnFromSumsUptoRow.holds Try.pinned (OpenSpec.upto fnFromSumsSpec)

/-- 'laws.FnSumsOf', WHERE WHAT IT READS IS OF BULK AT MOST 1048576: true; the input reads as it did. -/
def fnSumsOfUptoRow : OpenClaim := { program := "ytdhcgobkkgchpaa", sum := "04edcf1e60f445e56a3c070e8b310885c4945311cd0a5a4a9e4388aeca48f18a", func := "loop.example/divisorrows/laws.FnSumsOf", spec := "fnSumsOf", unfollowed := true, recurses := true, apart := false, narrowed := true }
def FnSumsOfUptoSaid : Prop := fnSumsOfUptoRow.holds Try.pinned (OpenSpec.upto fnSumsOfSpec)

end Rows
end Go.Proofs.Ytdhcgobkkgchpaa
