/-
  No cell of these rows narrows 'for every input' (looked for: loops, veiled, ifaces, maps, wideKeys, modest, calm, conditions, laid).
  DERIVED. THE GIVEN ROWS OF THIS SEAT. 12 by the template 'for every input the law returns true; each argument reads behind the call as it read before'; 0 by the template 'total and deterministic' (their statements: YtomfiimpnabfoaaTotals.lean).
  GIVEN WITH THE SEED: the statements are not yours to turn. If you find one false, say at which input.
  Laid BY PROGRAM, IN A SANDBOX (cutbox-rows.mjs): the forced cells as the released guide's own fill.sh prints them over the translation 75dfd3f8e89fa22a… (all of the seat's roots in one cut). By AI agents, Wed Nov 11 2026. No macro, syntax, notation, axiom, sorry.
-/
import Derived.Test.YtomfiimpnabfoaaChecked
import GoSem.Claim
import GoSem.ClaimJoined
import GoSem.ClaimMapViews
import Derived.JoinedTies
import Derived.KernelRfl
namespace Go.Proofs.Ytomfiimpnabfoaa
/- THE CELL 'sum', in the pinned program and in every row, IS THE sha256 OF THE DUMP (.gsa) THAT YtomfiimpnabfoaaProg.lean LOADS. Nothing in Lean hashes anything: it is a label: what it is worth is what the hold of that sum in a sandbox is worth. -/
noncomputable def Try.pinned : Pinned := { name := "ytomfiimpnabfoaa", sum := "75dfd3f8e89fa22ab9ca86001f13cc02d293f3a0f7bf4cccabc54de3d8583c16", checked := Try.checked }
namespace Rows
def none {H : Type} : Left H := { results := [], args := [] }

/-- 'laws.FnExactAllSum': WHATEVER THE INPUT: true; the input reads as it did. -/
def fnExactAllSumSpec : ChangeSpec := { name := "fnExactAllSum", fn := fun _ => fun
  | [d] => { results := [.lit (.bool true)], args := [d] }
  | _ => none }
def fnExactAllSumRow : OpenClaim := { program := "ytomfiimpnabfoaa", sum := "75dfd3f8e89fa22ab9ca86001f13cc02d293f3a0f7bf4cccabc54de3d8583c16", func := "loop.example/divisorrows/laws.FnExactAllSum", spec := "fnExactAllSum", apart := false }
def FnExactAllSumSaid : Prop := fnExactAllSumRow.holds Try.pinned (OpenSpec.ofChange fnExactAllSumSpec)

/-- ITS FALSE NEIGHBOUR: 'it returns false'. Refute it at one input. -/
def fnExactAllSumWrong : ChangeSpec := { name := "fnExactAllSum", fn := fun _ => fun
  | [d] => { results := [.lit (.bool false)], args := [d] }
  | _ => none }
def FnExactAllSumWrongFalsely : Prop := fnExactAllSumRow.holds Try.pinned (OpenSpec.ofChange fnExactAllSumWrong)

/-- 'laws.FnExactUnitaryPerfect': WHATEVER THE INPUT: true; the input reads as it did. -/
def fnExactUnitaryPerfectSpec : ChangeSpec := { name := "fnExactUnitaryPerfect", fn := fun _ => fun
  | [d] => { results := [.lit (.bool true)], args := [d] }
  | _ => none }
def fnExactUnitaryPerfectRow : OpenClaim := { program := "ytomfiimpnabfoaa", sum := "75dfd3f8e89fa22ab9ca86001f13cc02d293f3a0f7bf4cccabc54de3d8583c16", func := "loop.example/divisorrows/laws.FnExactUnitaryPerfect", spec := "fnExactUnitaryPerfect", apart := false }
def FnExactUnitaryPerfectSaid : Prop := fnExactUnitaryPerfectRow.holds Try.pinned (OpenSpec.ofChange fnExactUnitaryPerfectSpec)

/-- ITS FALSE NEIGHBOUR: 'it returns false'. Refute it at one input. -/
def fnExactUnitaryPerfectWrong : ChangeSpec := { name := "fnExactUnitaryPerfect", fn := fun _ => fun
  | [d] => { results := [.lit (.bool false)], args := [d] }
  | _ => none }
def FnExactUnitaryPerfectWrongFalsely : Prop := fnExactUnitaryPerfectRow.holds Try.pinned (OpenSpec.ofChange fnExactUnitaryPerfectWrong)

/-- 'laws.FnExactApartUpTo': WHATEVER THE INPUT: true; the input reads as it did. -/
def fnExactApartUpToSpec : ChangeSpec := { name := "fnExactApartUpTo", fn := fun _ => fun
  | [d] => { results := [.lit (.bool true)], args := [d] }
  | _ => none }
def fnExactApartUpToRow : OpenClaim := { program := "ytomfiimpnabfoaa", sum := "75dfd3f8e89fa22ab9ca86001f13cc02d293f3a0f7bf4cccabc54de3d8583c16", func := "loop.example/divisorrows/laws.FnExactApartUpTo", spec := "fnExactApartUpTo", apart := false }
def FnExactApartUpToSaid : Prop := fnExactApartUpToRow.holds Try.pinned (OpenSpec.ofChange fnExactApartUpToSpec)

/-- ITS FALSE NEIGHBOUR: 'it returns false'. Refute it at one input. -/
def fnExactApartUpToWrong : ChangeSpec := { name := "fnExactApartUpTo", fn := fun _ => fun
  | [d] => { results := [.lit (.bool false)], args := [d] }
  | _ => none }
def FnExactApartUpToWrongFalsely : Prop := fnExactApartUpToRow.holds Try.pinned (OpenSpec.ofChange fnExactApartUpToWrong)

/-- 'laws.FnUnitaryOk': WHATEVER THE INPUT: true; the input reads as it did. -/
def fnUnitaryOkSpec : ChangeSpec := { name := "fnUnitaryOk", fn := fun _ => fun
  | [d] => { results := [.lit (.bool true)], args := [d] }
  | _ => none }
def fnUnitaryOkRow : OpenClaim := { program := "ytomfiimpnabfoaa", sum := "75dfd3f8e89fa22ab9ca86001f13cc02d293f3a0f7bf4cccabc54de3d8583c16", func := "loop.example/divisorrows/laws.FnUnitaryOk", spec := "fnUnitaryOk", apart := false }
def FnUnitaryOkSaid : Prop := fnUnitaryOkRow.holds Try.pinned (OpenSpec.ofChange fnUnitaryOkSpec)

/-- ITS FALSE NEIGHBOUR: 'it returns false'. Refute it at one input. -/
def fnUnitaryOkWrong : ChangeSpec := { name := "fnUnitaryOk", fn := fun _ => fun
  | [d] => { results := [.lit (.bool false)], args := [d] }
  | _ => none }
def FnUnitaryOkWrongFalsely : Prop := fnUnitaryOkRow.holds Try.pinned (OpenSpec.ofChange fnUnitaryOkWrong)

/-- 'laws.FnExactKindOf': WHATEVER THE INPUT: true; the input reads as it did. -/
def fnExactKindOfSpec : ChangeSpec := { name := "fnExactKindOf", fn := fun _ => fun
  | [d] => { results := [.lit (.bool true)], args := [d] }
  | _ => none }
def fnExactKindOfRow : OpenClaim := { program := "ytomfiimpnabfoaa", sum := "75dfd3f8e89fa22ab9ca86001f13cc02d293f3a0f7bf4cccabc54de3d8583c16", func := "loop.example/divisorrows/laws.FnExactKindOf", spec := "fnExactKindOf", apart := false }
def FnExactKindOfSaid : Prop := fnExactKindOfRow.holds Try.pinned (OpenSpec.ofChange fnExactKindOfSpec)

/-- ITS FALSE NEIGHBOUR: 'it returns false'. Refute it at one input. -/
def fnExactKindOfWrong : ChangeSpec := { name := "fnExactKindOf", fn := fun _ => fun
  | [d] => { results := [.lit (.bool false)], args := [d] }
  | _ => none }
def FnExactKindOfWrongFalsely : Prop := fnExactKindOfRow.holds Try.pinned (OpenSpec.ofChange fnExactKindOfWrong)

/-- 'laws.FnExactWorstOrder': WHATEVER THE INPUT: true; the input reads as it did. -/
def fnExactWorstOrderSpec : ChangeSpec := { name := "fnExactWorstOrder", fn := fun _ => fun
  | [d] => { results := [.lit (.bool true)], args := [d] }
  | _ => none }
def fnExactWorstOrderRow : OpenClaim := { program := "ytomfiimpnabfoaa", sum := "75dfd3f8e89fa22ab9ca86001f13cc02d293f3a0f7bf4cccabc54de3d8583c16", func := "loop.example/divisorrows/laws.FnExactWorstOrder", spec := "fnExactWorstOrder", apart := false }
def FnExactWorstOrderSaid : Prop := fnExactWorstOrderRow.holds Try.pinned (OpenSpec.ofChange fnExactWorstOrderSpec)

/-- ITS FALSE NEIGHBOUR: 'it returns false'. Refute it at one input. -/
def fnExactWorstOrderWrong : ChangeSpec := { name := "fnExactWorstOrder", fn := fun _ => fun
  | [d] => { results := [.lit (.bool false)], args := [d] }
  | _ => none }
def FnExactWorstOrderWrongFalsely : Prop := fnExactWorstOrderRow.holds Try.pinned (OpenSpec.ofChange fnExactWorstOrderWrong)

/-- 'laws.FnExactUnitaryOf': WHATEVER THE INPUT: true; the input reads as it did. -/
def fnExactUnitaryOfSpec : ChangeSpec := { name := "fnExactUnitaryOf", fn := fun _ => fun
  | [d] => { results := [.lit (.bool true)], args := [d] }
  | _ => none }
def fnExactUnitaryOfRow : OpenClaim := { program := "ytomfiimpnabfoaa", sum := "75dfd3f8e89fa22ab9ca86001f13cc02d293f3a0f7bf4cccabc54de3d8583c16", func := "loop.example/divisorrows/laws.FnExactUnitaryOf", spec := "fnExactUnitaryOf", apart := false }
def FnExactUnitaryOfSaid : Prop := fnExactUnitaryOfRow.holds Try.pinned (OpenSpec.ofChange fnExactUnitaryOfSpec)

/-- ITS FALSE NEIGHBOUR: 'it returns false'. Refute it at one input. -/
def fnExactUnitaryOfWrong : ChangeSpec := { name := "fnExactUnitaryOf", fn := fun _ => fun
  | [d] => { results := [.lit (.bool false)], args := [d] }
  | _ => none }
def FnExactUnitaryOfWrongFalsely : Prop := fnExactUnitaryOfRow.holds Try.pinned (OpenSpec.ofChange fnExactUnitaryOfWrong)

/-- 'laws.FnUnitaryPerfect': WHATEVER THE INPUT: true; the input reads as it did. -/
def fnUnitaryPerfectSpec : ChangeSpec := { name := "fnUnitaryPerfect", fn := fun _ => fun
  | [d] => { results := [.lit (.bool true)], args := [d] }
  | _ => none }
def fnUnitaryPerfectRow : OpenClaim := { program := "ytomfiimpnabfoaa", sum := "75dfd3f8e89fa22ab9ca86001f13cc02d293f3a0f7bf4cccabc54de3d8583c16", func := "loop.example/divisorrows/laws.FnUnitaryPerfect", spec := "fnUnitaryPerfect", apart := false }
def FnUnitaryPerfectSaid : Prop := fnUnitaryPerfectRow.holds Try.pinned (OpenSpec.ofChange fnUnitaryPerfectSpec)

/-- ITS FALSE NEIGHBOUR: 'it returns false'. Refute it at one input. -/
def fnUnitaryPerfectWrong : ChangeSpec := { name := "fnUnitaryPerfect", fn := fun _ => fun
  | [d] => { results := [.lit (.bool false)], args := [d] }
  | _ => none }
def FnUnitaryPerfectWrongFalsely : Prop := fnUnitaryPerfectRow.holds Try.pinned (OpenSpec.ofChange fnUnitaryPerfectWrong)

/-- 'laws.FnExactWayFrom': WHATEVER THE INPUT: true; the input reads as it did. -/
def fnExactWayFromSpec : ChangeSpec := { name := "fnExactWayFrom", fn := fun _ => fun
  | [d] => { results := [.lit (.bool true)], args := [d] }
  | _ => none }
def fnExactWayFromRow : OpenClaim := { program := "ytomfiimpnabfoaa", sum := "75dfd3f8e89fa22ab9ca86001f13cc02d293f3a0f7bf4cccabc54de3d8583c16", func := "loop.example/divisorrows/laws.FnExactWayFrom", spec := "fnExactWayFrom", apart := false }
def FnExactWayFromSaid : Prop := fnExactWayFromRow.holds Try.pinned (OpenSpec.ofChange fnExactWayFromSpec)

/-- ITS FALSE NEIGHBOUR: 'it returns false'. Refute it at one input. -/
def fnExactWayFromWrong : ChangeSpec := { name := "fnExactWayFrom", fn := fun _ => fun
  | [d] => { results := [.lit (.bool false)], args := [d] }
  | _ => none }
def FnExactWayFromWrongFalsely : Prop := fnExactWayFromRow.holds Try.pinned (OpenSpec.ofChange fnExactWayFromWrong)

/-- 'laws.FnExactPerfectUpTo': WHATEVER THE INPUT: true; the input reads as it did. -/
def fnExactPerfectUpToSpec : ChangeSpec := { name := "fnExactPerfectUpTo", fn := fun _ => fun
  | [d] => { results := [.lit (.bool true)], args := [d] }
  | _ => none }
def fnExactPerfectUpToRow : OpenClaim := { program := "ytomfiimpnabfoaa", sum := "75dfd3f8e89fa22ab9ca86001f13cc02d293f3a0f7bf4cccabc54de3d8583c16", func := "loop.example/divisorrows/laws.FnExactPerfectUpTo", spec := "fnExactPerfectUpTo", apart := false }
def FnExactPerfectUpToSaid : Prop := fnExactPerfectUpToRow.holds Try.pinned (OpenSpec.ofChange fnExactPerfectUpToSpec)

/-- ITS FALSE NEIGHBOUR: 'it returns false'. Refute it at one input. -/
def fnExactPerfectUpToWrong : ChangeSpec := { name := "fnExactPerfectUpTo", fn := fun _ => fun
  | [d] => { results := [.lit (.bool false)], args := [d] }
  | _ => none }
def FnExactPerfectUpToWrongFalsely : Prop := fnExactPerfectUpToRow.holds Try.pinned (OpenSpec.ofChange fnExactPerfectUpToWrong)

/-- 'laws.FnExactByApart': WHATEVER THE INPUT: true; the input reads as it did. -/
def fnExactByApartSpec : ChangeSpec := { name := "fnExactByApart", fn := fun _ => fun
  | [d1, d2] => { results := [.lit (.bool true)], args := [d1, d2] }
  | _ => none }
def fnExactByApartRow : OpenClaim := { program := "ytomfiimpnabfoaa", sum := "75dfd3f8e89fa22ab9ca86001f13cc02d293f3a0f7bf4cccabc54de3d8583c16", func := "loop.example/divisorrows/laws.FnExactByApart", spec := "fnExactByApart", apart := false }
def FnExactByApartSaid : Prop := fnExactByApartRow.holds Try.pinned (OpenSpec.ofChange fnExactByApartSpec)

/-- ITS FALSE NEIGHBOUR: 'it returns false'. Refute it at one input. -/
def fnExactByApartWrong : ChangeSpec := { name := "fnExactByApart", fn := fun _ => fun
  | [d1, d2] => { results := [.lit (.bool false)], args := [d1, d2] }
  | _ => none }
def FnExactByApartWrongFalsely : Prop := fnExactByApartRow.holds Try.pinned (OpenSpec.ofChange fnExactByApartWrong)

/-- 'laws.FnPowerModulo': WHATEVER THE INPUT: true; the input reads as it did. -/
def fnPowerModuloSpec : ChangeSpec := { name := "fnPowerModulo", fn := fun _ => fun
  | [d] => { results := [.lit (.bool true)], args := [d] }
  | _ => none }
def fnPowerModuloRow : OpenClaim := { program := "ytomfiimpnabfoaa", sum := "75dfd3f8e89fa22ab9ca86001f13cc02d293f3a0f7bf4cccabc54de3d8583c16", func := "loop.example/divisorrows/laws.FnPowerModulo", spec := "fnPowerModulo", apart := false }
def FnPowerModuloSaid : Prop := fnPowerModuloRow.holds Try.pinned (OpenSpec.ofChange fnPowerModuloSpec)

/-- ITS FALSE NEIGHBOUR: 'it returns false'. Refute it at one input. -/
def fnPowerModuloWrong : ChangeSpec := { name := "fnPowerModulo", fn := fun _ => fun
  | [d] => { results := [.lit (.bool false)], args := [d] }
  | _ => none }
def FnPowerModuloWrongFalsely : Prop := fnPowerModuloRow.holds Try.pinned (OpenSpec.ofChange fnPowerModuloWrong)

/- THE SECOND FORM. 'bulk': how many values and letters a reading holds, each counted each time it is reached (what is shared counts as often as it is met; a slice's spare places count too). A statement '..UptoSaid' is the law's where the arguments, and the package variables that the reading takes, are together of bulk at most 1048576: NARROWER than '..Said'. Prove '..Said' where nothing that the law and all that it calls make is longer than what came in: it says more and counts as full. Else prove '..UptoSaid'. A law counts once. -/
mutual
def uptoBulk {H : Type} : DataW H → Nat
  | .lit (.string bytes) => bytes.length + 1
  | .lit _ => 1
  | .nil => 1
  | .ptr d => uptoBulk d + 1
  | .slice elems spare => uptoBulkAll elems + uptoBulkAll spare + 1
  | .agg parts => uptoBulkAll parts + 1
  | .iface _ d => uptoBulk d + 1
  | .map entries => uptoBulkEntries entries + 1
  | .held _ => 1
def uptoBulkAll {H : Type} : List (DataW H) → Nat
  | [] => 0
  | d :: r => uptoBulk d + uptoBulkAll r
def uptoBulkEntries {H : Type} : List (Lit × DataW H) → Nat
  | [] => 0
  | x :: r => uptoBulkEntry x + uptoBulkEntries r
def uptoBulkEntry {H : Type} : Lit × DataW H → Nat
  | (.string bytes, d) => bytes.length + uptoBulk d + 1
  | (_, d) => uptoBulk d + 1
 end
def uptoSmall : (H : Type) → List (DataW H) → Bool := fun _ ds => decide (uptoBulkAll ds ≤ 1048576)
def OpenSpec.upto (s : _root_.Go.ChangeSpec) : _root_.Go.OpenSpec := { _root_.Go.OpenSpec.ofChange s with cond := some uptoSmall }

/-- 'laws.FnExactAllSum', WHERE WHAT IT READS IS OF BULK AT MOST 1048576: true; the input reads as it did. -/
def fnExactAllSumUptoRow : OpenClaim := { program := "ytomfiimpnabfoaa", sum := "75dfd3f8e89fa22ab9ca86001f13cc02d293f3a0f7bf4cccabc54de3d8583c16", func := "loop.example/divisorrows/laws.FnExactAllSum", spec := "fnExactAllSum", apart := false, narrowed := true }
def FnExactAllSumUptoSaid : Prop := fnExactAllSumUptoRow.holds Try.pinned (OpenSpec.upto fnExactAllSumSpec)

/-- 'laws.FnExactUnitaryPerfect', WHERE WHAT IT READS IS OF BULK AT MOST 1048576: true; the input reads as it did. -/
def fnExactUnitaryPerfectUptoRow : OpenClaim := { program := "ytomfiimpnabfoaa", sum := "75dfd3f8e89fa22ab9ca86001f13cc02d293f3a0f7bf4cccabc54de3d8583c16", func := "loop.example/divisorrows/laws.FnExactUnitaryPerfect", spec := "fnExactUnitaryPerfect", apart := false, narrowed := true }
def FnExactUnitaryPerfectUptoSaid : Prop := fnExactUnitaryPerfectUptoRow.holds Try.pinned (OpenSpec.upto fnExactUnitaryPerfectSpec)

/-- 'laws.FnExactApartUpTo', WHERE WHAT IT READS IS OF BULK AT MOST 1048576: true; the input reads as it did. -/
def fnExactApartUpToUptoRow : OpenClaim := { program := "ytomfiimpnabfoaa", sum := "75dfd3f8e89fa22ab9ca86001f13cc02d293f3a0f7bf4cccabc54de3d8583c16", func := "loop.example/divisorrows/laws.FnExactApartUpTo", spec := "fnExactApartUpTo", apart := false, narrowed := true }
def FnExactApartUpToUptoSaid : Prop := fnExactApartUpToUptoRow.holds Try.pinned (OpenSpec.upto fnExactApartUpToSpec)

/-- 'laws.FnUnitaryOk', WHERE WHAT IT READS IS OF BULK AT MOST 1048576: true; the input reads as it did. -/
def fnUnitaryOkUptoRow : OpenClaim := { program := "ytomfiimpnabfoaa", sum := "75dfd3f8e89fa22ab9ca86001f13cc02d293f3a0f7bf4cccabc54de3d8583c16", func := "loop.example/divisorrows/laws.FnUnitaryOk", spec := "fnUnitaryOk", apart := false, narrowed := true }
def FnUnitaryOkUptoSaid : Prop := fnUnitaryOkUptoRow.holds Try.pinned (OpenSpec.upto fnUnitaryOkSpec)

/-- 'laws.FnExactKindOf', WHERE WHAT IT READS IS OF BULK AT MOST 1048576: true; the input reads as it did. -/
def fnExactKindOfUptoRow : OpenClaim := { program := "ytomfiimpnabfoaa", sum := "75dfd3f8e89fa22ab9ca86001f13cc02d293f3a0f7bf4cccabc54de3d8583c16", func := "loop.example/divisorrows/laws.FnExactKindOf", spec := "fnExactKindOf", apart := false, narrowed := true }
def FnExactKindOfUptoSaid : Prop := fnExactKindOfUptoRow.holds Try.pinned (OpenSpec.upto fnExactKindOfSpec)

/-- 'laws.FnExactWorstOrder', WHERE WHAT IT READS IS OF BULK AT MOST 1048576: true; the input reads as it did. -/
def fnExactWorstOrderUptoRow : OpenClaim := { program := "ytomfiimpnabfoaa", sum := "75dfd3f8e89fa22ab9ca86001f13cc02d293f3a0f7bf4cccabc54de3d8583c16", func := "loop.example/divisorrows/laws.FnExactWorstOrder", spec := "fnExactWorstOrder", apart := false, narrowed := true }
def FnExactWorstOrderUptoSaid : Prop := fnExactWorstOrderUptoRow.holds Try.pinned (OpenSpec.upto fnExactWorstOrderSpec)

/-- 'laws.FnExactUnitaryOf', WHERE WHAT IT READS IS OF BULK AT MOST 1048576: true; the input reads as it did. -/
def fnExactUnitaryOfUptoRow : OpenClaim := { program := "ytomfiimpnabfoaa", sum := "75dfd3f8e89fa22ab9ca86001f13cc02d293f3a0f7bf4cccabc54de3d8583c16", func := "loop.example/divisorrows/laws.FnExactUnitaryOf", spec := "fnExactUnitaryOf", apart := false, narrowed := true }
def FnExactUnitaryOfUptoSaid : Prop := fnExactUnitaryOfUptoRow.holds Try.pinned (OpenSpec.upto fnExactUnitaryOfSpec)

/-- 'laws.FnUnitaryPerfect', WHERE WHAT IT READS IS OF BULK AT MOST 1048576: true; the input reads as it did. -/
def fnUnitaryPerfectUptoRow : OpenClaim := { program := "ytomfiimpnabfoaa", sum := "75dfd3f8e89fa22ab9ca86001f13cc02d293f3a0f7bf4cccabc54de3d8583c16", func := "loop.example/divisorrows/laws.FnUnitaryPerfect", spec := "fnUnitaryPerfect", apart := false, narrowed := true }
def FnUnitaryPerfectUptoSaid : Prop := fnUnitaryPerfectUptoRow.holds Try.pinned (OpenSpec.upto fnUnitaryPerfectSpec)

/-- 'laws.FnExactWayFrom', WHERE WHAT IT READS IS OF BULK AT MOST 1048576: true; the input reads as it did. -/
def fnExactWayFromUptoRow : OpenClaim := { program := "ytomfiimpnabfoaa", sum := "75dfd3f8e89fa22ab9ca86001f13cc02d293f3a0f7bf4cccabc54de3d8583c16", func := "loop.example/divisorrows/laws.FnExactWayFrom", spec := "fnExactWayFrom", apart := false, narrowed := true }
def FnExactWayFromUptoSaid : Prop := fnExactWayFromUptoRow.holds Try.pinned (OpenSpec.upto fnExactWayFromSpec)

/-- 'laws.FnExactPerfectUpTo', WHERE WHAT IT READS IS OF BULK AT MOST 1048576: true; the input reads as it did. -/
def fnExactPerfectUpToUptoRow : OpenClaim := { program := "ytomfiimpnabfoaa", sum := "75dfd3f8e89fa22ab9ca86001f13cc02d293f3a0f7bf4cccabc54de3d8583c16", func := "loop.example/divisorrows/laws.FnExactPerfectUpTo", spec := "fnExactPerfectUpTo", apart := false, narrowed := true }
def FnExactPerfectUpToUptoSaid : Prop := fnExactPerfectUpToUptoRow.holds Try.pinned (OpenSpec.upto fnExactPerfectUpToSpec)

/-- 'laws.FnExactByApart', WHERE WHAT IT READS IS OF BULK AT MOST 1048576: true; the input reads as it did. -/
def fnExactByApartUptoRow : OpenClaim := { program := "ytomfiimpnabfoaa", sum := "75dfd3f8e89fa22ab9ca86001f13cc02d293f3a0f7bf4cccabc54de3d8583c16", func := "loop.example/divisorrows/laws.FnExactByApart", spec := "fnExactByApart", apart := false, narrowed := true }
def FnExactByApartUptoSaid : Prop := fnExactByApartUptoRow.holds Try.pinned (OpenSpec.upto fnExactByApartSpec)

/-- 'laws.FnPowerModulo', WHERE WHAT IT READS IS OF BULK AT MOST 1048576: true; the input reads as it did. -/
def fnPowerModuloUptoRow : OpenClaim := { program := "ytomfiimpnabfoaa", sum := "75dfd3f8e89fa22ab9ca86001f13cc02d293f3a0f7bf4cccabc54de3d8583c16", func := "loop.example/divisorrows/laws.FnPowerModulo", spec := "fnPowerModulo", apart := false, narrowed := true }
def FnPowerModuloUptoSaid : Prop := fnPowerModuloUptoRow.holds Try.pinned (OpenSpec.upto fnPowerModuloSpec)

end Rows
end Go.Proofs.Ytomfiimpnabfoaa
