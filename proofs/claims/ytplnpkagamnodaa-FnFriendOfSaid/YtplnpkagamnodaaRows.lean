/-
  No cell of these rows narrows 'for every input' (looked for: loops, veiled, ifaces, maps, wideKeys, modest, calm, conditions, laid).
  DERIVED. THE GIVEN ROWS OF THIS SEAT. 12 by the template 'for every input the law returns true; each argument reads behind the call as it read before'; 0 by the template 'total and deterministic' (their statements: YtplnpkagamnodaaTotals.lean).
  GIVEN WITH THE SEED: the statements are not yours to turn. If you find one false, say at which input.
  Laid BY PROGRAM, IN A SANDBOX (cutbox-rows.mjs): the forced cells as the released guide's own fill.sh prints them over the translation 130fe708d92e350e… (all of the seat's roots in one cut). By AI agents, Wed Nov 11 2026. No macro, syntax, notation, axiom, sorry.
-/
import Derived.Test.YtplnpkagamnodaaChecked
import GoSem.Claim
import GoSem.ClaimJoined
import GoSem.ClaimMapViews
import Derived.JoinedTies
import Derived.KernelRfl
namespace Go.Proofs.Ytplnpkagamnodaa
/- THE CELL 'sum', in the pinned program and in every row, IS THE sha256 OF THE DUMP (.gsa) THAT YtplnpkagamnodaaProg.lean LOADS. Nothing in Lean hashes anything: it is a label: what it is worth is what the hold of that sum in a sandbox is worth. -/
noncomputable def Try.pinned : Pinned := { name := "ytplnpkagamnodaa", sum := "130fe708d92e350e68506f2e50ae269471daa31a74df81533ee63cbbadae746d", checked := Try.checked }
namespace Rows
def none {H : Type} : Left H := { results := [], args := [] }

/-- 'laws.FnSharedSum': WHATEVER THE INPUT: true; the input reads as it did. -/
def fnSharedSumSpec : ChangeSpec := { name := "fnSharedSum", fn := fun _ => fun
  | [d] => { results := [.lit (.bool true)], args := [d] }
  | _ => none }
def fnSharedSumRow : OpenClaim := { program := "ytplnpkagamnodaa", sum := "130fe708d92e350e68506f2e50ae269471daa31a74df81533ee63cbbadae746d", func := "loop.example/divisorrows/laws.FnSharedSum", spec := "fnSharedSum", apart := false }
def FnSharedSumSaid : Prop := fnSharedSumRow.holds Try.pinned (OpenSpec.ofChange fnSharedSumSpec)

/-- ITS FALSE NEIGHBOUR: 'it returns false'. Refute it at one input. -/
def fnSharedSumWrong : ChangeSpec := { name := "fnSharedSum", fn := fun _ => fun
  | [d] => { results := [.lit (.bool false)], args := [d] }
  | _ => none }
def FnSharedSumWrongFalsely : Prop := fnSharedSumRow.holds Try.pinned (OpenSpec.ofChange fnSharedSumWrong)

/-- 'laws.FnProperSum': WHATEVER THE INPUT: true; the input reads as it did. -/
def fnProperSumSpec : ChangeSpec := { name := "fnProperSum", fn := fun _ => fun
  | [d] => { results := [.lit (.bool true)], args := [d] }
  | _ => none }
def fnProperSumRow : OpenClaim := { program := "ytplnpkagamnodaa", sum := "130fe708d92e350e68506f2e50ae269471daa31a74df81533ee63cbbadae746d", func := "loop.example/divisorrows/laws.FnProperSum", spec := "fnProperSum", apart := false }
def FnProperSumSaid : Prop := fnProperSumRow.holds Try.pinned (OpenSpec.ofChange fnProperSumSpec)

/-- ITS FALSE NEIGHBOUR: 'it returns false'. Refute it at one input. -/
def fnProperSumWrong : ChangeSpec := { name := "fnProperSum", fn := fun _ => fun
  | [d] => { results := [.lit (.bool false)], args := [d] }
  | _ => none }
def FnProperSumWrongFalsely : Prop := fnProperSumRow.holds Try.pinned (OpenSpec.ofChange fnProperSumWrong)

/-- 'laws.FnEuclidOf': WHATEVER THE INPUT: true; the input reads as it did. -/
def fnEuclidOfSpec : ChangeSpec := { name := "fnEuclidOf", fn := fun _ => fun
  | [d] => { results := [.lit (.bool true)], args := [d] }
  | _ => none }
def fnEuclidOfRow : OpenClaim := { program := "ytplnpkagamnodaa", sum := "130fe708d92e350e68506f2e50ae269471daa31a74df81533ee63cbbadae746d", func := "loop.example/divisorrows/laws.FnEuclidOf", spec := "fnEuclidOf", apart := false }
def FnEuclidOfSaid : Prop := fnEuclidOfRow.holds Try.pinned (OpenSpec.ofChange fnEuclidOfSpec)

/-- ITS FALSE NEIGHBOUR: 'it returns false'. Refute it at one input. -/
def fnEuclidOfWrong : ChangeSpec := { name := "fnEuclidOf", fn := fun _ => fun
  | [d] => { results := [.lit (.bool false)], args := [d] }
  | _ => none }
def FnEuclidOfWrongFalsely : Prop := fnEuclidOfRow.holds Try.pinned (OpenSpec.ofChange fnEuclidOfWrong)

/-- 'laws.FnHowManyApart': WHATEVER THE INPUT: true; the input reads as it did. -/
def fnHowManyApartSpec : ChangeSpec := { name := "fnHowManyApart", fn := fun _ => fun
  | [d] => { results := [.lit (.bool true)], args := [d] }
  | _ => none }
def fnHowManyApartRow : OpenClaim := { program := "ytplnpkagamnodaa", sum := "130fe708d92e350e68506f2e50ae269471daa31a74df81533ee63cbbadae746d", func := "loop.example/divisorrows/laws.FnHowManyApart", spec := "fnHowManyApart", apart := false }
def FnHowManyApartSaid : Prop := fnHowManyApartRow.holds Try.pinned (OpenSpec.ofChange fnHowManyApartSpec)

/-- ITS FALSE NEIGHBOUR: 'it returns false'. Refute it at one input. -/
def fnHowManyApartWrong : ChangeSpec := { name := "fnHowManyApart", fn := fun _ => fun
  | [d] => { results := [.lit (.bool false)], args := [d] }
  | _ => none }
def FnHowManyApartWrongFalsely : Prop := fnHowManyApartRow.holds Try.pinned (OpenSpec.ofChange fnHowManyApartWrong)

/-- 'laws.FnAllSum': WHATEVER THE INPUT: true; the input reads as it did. -/
def fnAllSumSpec : ChangeSpec := { name := "fnAllSum", fn := fun _ => fun
  | [d] => { results := [.lit (.bool true)], args := [d] }
  | _ => none }
def fnAllSumRow : OpenClaim := { program := "ytplnpkagamnodaa", sum := "130fe708d92e350e68506f2e50ae269471daa31a74df81533ee63cbbadae746d", func := "loop.example/divisorrows/laws.FnAllSum", spec := "fnAllSum", apart := false }
def FnAllSumSaid : Prop := fnAllSumRow.holds Try.pinned (OpenSpec.ofChange fnAllSumSpec)

/-- ITS FALSE NEIGHBOUR: 'it returns false'. Refute it at one input. -/
def fnAllSumWrong : ChangeSpec := { name := "fnAllSum", fn := fun _ => fun
  | [d] => { results := [.lit (.bool false)], args := [d] }
  | _ => none }
def FnAllSumWrongFalsely : Prop := fnAllSumRow.holds Try.pinned (OpenSpec.ofChange fnAllSumWrong)

/-- 'laws.FnSharingJust': WHATEVER THE INPUT: true; the input reads as it did. -/
def fnSharingJustSpec : ChangeSpec := { name := "fnSharingJust", fn := fun _ => fun
  | [d] => { results := [.lit (.bool true)], args := [d] }
  | _ => none }
def fnSharingJustRow : OpenClaim := { program := "ytplnpkagamnodaa", sum := "130fe708d92e350e68506f2e50ae269471daa31a74df81533ee63cbbadae746d", func := "loop.example/divisorrows/laws.FnSharingJust", spec := "fnSharingJust", apart := false }
def FnSharingJustSaid : Prop := fnSharingJustRow.holds Try.pinned (OpenSpec.ofChange fnSharingJustSpec)

/-- ITS FALSE NEIGHBOUR: 'it returns false'. Refute it at one input. -/
def fnSharingJustWrong : ChangeSpec := { name := "fnSharingJust", fn := fun _ => fun
  | [d] => { results := [.lit (.bool false)], args := [d] }
  | _ => none }
def FnSharingJustWrongFalsely : Prop := fnSharingJustRow.holds Try.pinned (OpenSpec.ofChange fnSharingJustWrong)

/-- 'laws.FnApartUpTo': WHATEVER THE INPUT: true; the input reads as it did. -/
def fnApartUpToSpec : ChangeSpec := { name := "fnApartUpTo", fn := fun _ => fun
  | [d] => { results := [.lit (.bool true)], args := [d] }
  | _ => none }
def fnApartUpToRow : OpenClaim := { program := "ytplnpkagamnodaa", sum := "130fe708d92e350e68506f2e50ae269471daa31a74df81533ee63cbbadae746d", func := "loop.example/divisorrows/laws.FnApartUpTo", spec := "fnApartUpTo", apart := false }
def FnApartUpToSaid : Prop := fnApartUpToRow.holds Try.pinned (OpenSpec.ofChange fnApartUpToSpec)

/-- ITS FALSE NEIGHBOUR: 'it returns false'. Refute it at one input. -/
def fnApartUpToWrong : ChangeSpec := { name := "fnApartUpTo", fn := fun _ => fun
  | [d] => { results := [.lit (.bool false)], args := [d] }
  | _ => none }
def FnApartUpToWrongFalsely : Prop := fnApartUpToRow.holds Try.pinned (OpenSpec.ofChange fnApartUpToWrong)

/-- 'laws.FnOrderOf': WHATEVER THE INPUT: true; the input reads as it did. -/
def fnOrderOfSpec : ChangeSpec := { name := "fnOrderOf", fn := fun _ => fun
  | [d] => { results := [.lit (.bool true)], args := [d] }
  | _ => none }
def fnOrderOfRow : OpenClaim := { program := "ytplnpkagamnodaa", sum := "130fe708d92e350e68506f2e50ae269471daa31a74df81533ee63cbbadae746d", func := "loop.example/divisorrows/laws.FnOrderOf", spec := "fnOrderOf", apart := false }
def FnOrderOfSaid : Prop := fnOrderOfRow.holds Try.pinned (OpenSpec.ofChange fnOrderOfSpec)

/-- ITS FALSE NEIGHBOUR: 'it returns false'. Refute it at one input. -/
def fnOrderOfWrong : ChangeSpec := { name := "fnOrderOf", fn := fun _ => fun
  | [d] => { results := [.lit (.bool false)], args := [d] }
  | _ => none }
def FnOrderOfWrongFalsely : Prop := fnOrderOfRow.holds Try.pinned (OpenSpec.ofChange fnOrderOfWrong)

/-- 'laws.FnKindOf': WHATEVER THE INPUT: true; the input reads as it did. -/
def fnKindOfSpec : ChangeSpec := { name := "fnKindOf", fn := fun _ => fun
  | [d] => { results := [.lit (.bool true)], args := [d] }
  | _ => none }
def fnKindOfRow : OpenClaim := { program := "ytplnpkagamnodaa", sum := "130fe708d92e350e68506f2e50ae269471daa31a74df81533ee63cbbadae746d", func := "loop.example/divisorrows/laws.FnKindOf", spec := "fnKindOf", apart := false }
def FnKindOfSaid : Prop := fnKindOfRow.holds Try.pinned (OpenSpec.ofChange fnKindOfSpec)

/-- ITS FALSE NEIGHBOUR: 'it returns false'. Refute it at one input. -/
def fnKindOfWrong : ChangeSpec := { name := "fnKindOf", fn := fun _ => fun
  | [d] => { results := [.lit (.bool false)], args := [d] }
  | _ => none }
def FnKindOfWrongFalsely : Prop := fnKindOfRow.holds Try.pinned (OpenSpec.ofChange fnKindOfWrong)

/-- 'laws.FnEvenOk': WHATEVER THE INPUT: true; the input reads as it did. -/
def fnEvenOkSpec : ChangeSpec := { name := "fnEvenOk", fn := fun _ => fun
  | [d] => { results := [.lit (.bool true)], args := [d] }
  | _ => none }
def fnEvenOkRow : OpenClaim := { program := "ytplnpkagamnodaa", sum := "130fe708d92e350e68506f2e50ae269471daa31a74df81533ee63cbbadae746d", func := "loop.example/divisorrows/laws.FnEvenOk", spec := "fnEvenOk", apart := false }
def FnEvenOkSaid : Prop := fnEvenOkRow.holds Try.pinned (OpenSpec.ofChange fnEvenOkSpec)

/-- ITS FALSE NEIGHBOUR: 'it returns false'. Refute it at one input. -/
def fnEvenOkWrong : ChangeSpec := { name := "fnEvenOk", fn := fun _ => fun
  | [d] => { results := [.lit (.bool false)], args := [d] }
  | _ => none }
def FnEvenOkWrongFalsely : Prop := fnEvenOkRow.holds Try.pinned (OpenSpec.ofChange fnEvenOkWrong)

/-- 'laws.FnFriendOf': WHATEVER THE INPUT: true; the input reads as it did. -/
def fnFriendOfSpec : ChangeSpec := { name := "fnFriendOf", fn := fun _ => fun
  | [d] => { results := [.lit (.bool true)], args := [d] }
  | _ => none }
def fnFriendOfRow : OpenClaim := { program := "ytplnpkagamnodaa", sum := "130fe708d92e350e68506f2e50ae269471daa31a74df81533ee63cbbadae746d", func := "loop.example/divisorrows/laws.FnFriendOf", spec := "fnFriendOf", apart := false }
def FnFriendOfSaid : Prop := fnFriendOfRow.holds Try.pinned (OpenSpec.ofChange fnFriendOfSpec)

/-- ITS FALSE NEIGHBOUR: 'it returns false'. Refute it at one input. -/
def fnFriendOfWrong : ChangeSpec := { name := "fnFriendOf", fn := fun _ => fun
  | [d] => { results := [.lit (.bool false)], args := [d] }
  | _ => none }
def FnFriendOfWrongFalsely : Prop := fnFriendOfRow.holds Try.pinned (OpenSpec.ofChange fnFriendOfWrong)

/-- 'laws.FnUnitaryOf': WHATEVER THE INPUT: true; the input reads as it did. -/
def fnUnitaryOfSpec : ChangeSpec := { name := "fnUnitaryOf", fn := fun _ => fun
  | [d] => { results := [.lit (.bool true)], args := [d] }
  | _ => none }
def fnUnitaryOfRow : OpenClaim := { program := "ytplnpkagamnodaa", sum := "130fe708d92e350e68506f2e50ae269471daa31a74df81533ee63cbbadae746d", func := "loop.example/divisorrows/laws.FnUnitaryOf", spec := "fnUnitaryOf", apart := false }
def FnUnitaryOfSaid : Prop := fnUnitaryOfRow.holds Try.pinned (OpenSpec.ofChange fnUnitaryOfSpec)

/-- ITS FALSE NEIGHBOUR: 'it returns false'. Refute it at one input. -/
def fnUnitaryOfWrong : ChangeSpec := { name := "fnUnitaryOf", fn := fun _ => fun
  | [d] => { results := [.lit (.bool false)], args := [d] }
  | _ => none }
def FnUnitaryOfWrongFalsely : Prop := fnUnitaryOfRow.holds Try.pinned (OpenSpec.ofChange fnUnitaryOfWrong)

/- THE SECOND FORM. 'bulk': how many values and letters a reading holds, each counted each time it is reached (what is shared counts as often as it is met; a slice's spare places count too). A statement '..UptoSaid' is the law's where the arguments, and the package variables that the reading takes, are together of bulk at most 1048576: NARROWER than '..Said'. Prove '..Said' where nothing that the law and all that it calls make is longer than what came in: it says more and counts as full. Else prove '..UptoSaid'. A law counts once. -/
mutual
def uptoBulk {H : Type} : DataW H → Nat
  | .lit (.string bytes) => bytes.length + 1
  | .lit _ => 1
  | .nil => 1
  | .ptr d => uptoBulk d + 1
  | .slice elems spare => uptoBulkAll elems + uptoBulkAll spare + 1
  | .agg parts => uptoBulkAll parts + 1
  | .iface _ d => uptoBulk d + 1
  | .map entries => uptoBulkEntries entries + 1
  | .held _ => 1
def uptoBulkAll {H : Type} : List (DataW H) → Nat
  | [] => 0
  | d :: r => uptoBulk d + uptoBulkAll r
def uptoBulkEntries {H : Type} : List (Lit × DataW H) → Nat
  | [] => 0
  | x :: r => uptoBulkEntry x + uptoBulkEntries r
def uptoBulkEntry {H : Type} : Lit × DataW H → Nat
  | (.string bytes, d) => bytes.length + uptoBulk d + 1
  | (_, d) => uptoBulk d + 1
 end
def uptoSmall : (H : Type) → List (DataW H) → Bool := fun _ ds => decide (uptoBulkAll ds ≤ 1048576)
def OpenSpec.upto (s : _root_.Go.ChangeSpec) : _root_.Go.OpenSpec := { _root_.Go.OpenSpec.ofChange s with cond := some uptoSmall }

/-- 'laws.FnSharedSum', WHERE WHAT IT READS IS OF BULK AT MOST 1048576: true; the input reads as it did. -/
def fnSharedSumUptoRow : OpenClaim := { program := "ytplnpkagamnodaa", sum := "130fe708d92e350e68506f2e50ae269471daa31a74df81533ee63cbbadae746d", func := "loop.example/divisorrows/laws.FnSharedSum", spec := "fnSharedSum", apart := false, narrowed := true }
def FnSharedSumUptoSaid : Prop := fnSharedSumUptoRow.holds Try.pinned (OpenSpec.upto fnSharedSumSpec)

/-- 'laws.FnProperSum', WHERE WHAT IT READS IS OF BULK AT MOST 1048576: true; the input reads as it did. -/
def fnProperSumUptoRow : OpenClaim := { program := "ytplnpkagamnodaa", sum := "130fe708d92e350e68506f2e50ae269471daa31a74df81533ee63cbbadae746d", func := "loop.example/divisorrows/laws.FnProperSum", spec := "fnProperSum", apart := false, narrowed := true }
def FnProperSumUptoSaid : Prop := fnProperSumUptoRow.holds Try.pinned (OpenSpec.upto fnProperSumSpec)

/-- 'laws.FnEuclidOf', WHERE WHAT IT READS IS OF BULK AT MOST 1048576: true; the input reads as it did. -/
def fnEuclidOfUptoRow : OpenClaim := { program := "ytplnpkagamnodaa", sum := "130fe708d92e350e68506f2e50ae269471daa31a74df81533ee63cbbadae746d", func := "loop.example/divisorrows/laws.FnEuclidOf", spec := "fnEuclidOf", apart := false, narrowed := true }
def FnEuclidOfUptoSaid : Prop := fnEuclidOfUptoRow.holds Try.pinned (OpenSpec.upto fnEuclidOfSpec)

/-- 'laws.FnHowManyApart', WHERE WHAT IT READS IS OF BULK AT MOST 1048576: true; the input reads as it did. -/
def fnHowManyApartUptoRow : OpenClaim := { program := "ytplnpkagamnodaa", sum := "130fe708d92e350e68506f2e50ae269471daa31a74df81533ee63cbbadae746d", func := "loop.example/divisorrows/laws.FnHowManyApart", spec := "fnHowManyApart", apart := false, narrowed := true }
def FnHowManyApartUptoSaid : Prop := fnHowManyApartUptoRow.holds Try.pinned (OpenSpec.upto fnHowManyApartSpec)

/-- 'laws.FnAllSum', WHERE WHAT IT READS IS OF BULK AT MOST 1048576: true; the input reads as it did. -/
def fnAllSumUptoRow : OpenClaim := { program := "ytplnpkagamnodaa", sum := "130fe708d92e350e68506f2e50ae269471daa31a74df81533ee63cbbadae746d", func := "loop.example/divisorrows/laws.FnAllSum", spec := "fnAllSum", apart := false, narrowed := true }
def FnAllSumUptoSaid : Prop := fnAllSumUptoRow.holds Try.pinned (OpenSpec.upto fnAllSumSpec)

/-- 'laws.FnSharingJust', WHERE WHAT IT READS IS OF BULK AT MOST 1048576: true; the input reads as it did. -/
def fnSharingJustUptoRow : OpenClaim := { program := "ytplnpkagamnodaa", sum := "130fe708d92e350e68506f2e50ae269471daa31a74df81533ee63cbbadae746d", func := "loop.example/divisorrows/laws.FnSharingJust", spec := "fnSharingJust", apart := false, narrowed := true }
def FnSharingJustUptoSaid : Prop := fnSharingJustUptoRow.holds Try.pinned (OpenSpec.upto fnSharingJustSpec)

/-- 'laws.FnApartUpTo', WHERE WHAT IT READS IS OF BULK AT MOST 1048576: true; the input reads as it did. -/
def fnApartUpToUptoRow : OpenClaim := { program := "ytplnpkagamnodaa", sum := "130fe708d92e350e68506f2e50ae269471daa31a74df81533ee63cbbadae746d", func := "loop.example/divisorrows/laws.FnApartUpTo", spec := "fnApartUpTo", apart := false, narrowed := true }
def FnApartUpToUptoSaid : Prop := fnApartUpToUptoRow.holds Try.pinned (OpenSpec.upto fnApartUpToSpec)

/-- 'laws.FnOrderOf', WHERE WHAT IT READS IS OF BULK AT MOST 1048576: true; the input reads as it did. -/
def fnOrderOfUptoRow : OpenClaim := { program := "ytplnpkagamnodaa", sum := "130fe708d92e350e68506f2e50ae269471daa31a74df81533ee63cbbadae746d", func := "loop.example/divisorrows/laws.FnOrderOf", spec := "fnOrderOf", apart := false, narrowed := true }
def FnOrderOfUptoSaid : Prop := fnOrderOfUptoRow.holds Try.pinned (OpenSpec.upto fnOrderOfSpec)

/-- 'laws.FnKindOf', WHERE WHAT IT READS IS OF BULK AT MOST 1048576: true; the input reads as it did. -/
def fnKindOfUptoRow : OpenClaim := { program := "ytplnpkagamnodaa", sum := "130fe708d92e350e68506f2e50ae269471daa31a74df81533ee63cbbadae746d", func := "loop.example/divisorrows/laws.FnKindOf", spec := "fnKindOf", apart := false, narrowed := true }
def FnKindOfUptoSaid : Prop := fnKindOfUptoRow.holds Try.pinned (OpenSpec.upto fnKindOfSpec)

/-- 'laws.FnEvenOk', WHERE WHAT IT READS IS OF BULK AT MOST 1048576: true; the input reads as it did. -/
def fnEvenOkUptoRow : OpenClaim := { program := "ytplnpkagamnodaa", sum := "130fe708d92e350e68506f2e50ae269471daa31a74df81533ee63cbbadae746d", func := "loop.example/divisorrows/laws.FnEvenOk", spec := "fnEvenOk", apart := false, narrowed := true }
def FnEvenOkUptoSaid : Prop := fnEvenOkUptoRow.holds Try.pinned (OpenSpec.upto fnEvenOkSpec)

/-- 'laws.FnFriendOf', WHERE WHAT IT READS IS OF BULK AT MOST 1048576: true; the input reads as it did. -/
def fnFriendOfUptoRow : OpenClaim := { program := "ytplnpkagamnodaa", sum := "130fe708d92e350e68506f2e50ae269471daa31a74df81533ee63cbbadae746d", func := "loop.example/divisorrows/laws.FnFriendOf", spec := "fnFriendOf", apart := false, narrowed := true }
def FnFriendOfUptoSaid : Prop := fnFriendOfUptoRow.holds Try.pinned (OpenSpec.upto fnFriendOfSpec)

/-- 'laws.FnUnitaryOf', WHERE WHAT IT READS IS OF BULK AT MOST 1048576: true; the input reads as it did. -/
def fnUnitaryOfUptoRow : OpenClaim := { program := "ytplnpkagamnodaa", sum := "130fe708d92e350e68506f2e50ae269471daa31a74df81533ee63cbbadae746d", func := "loop.example/divisorrows/laws.FnUnitaryOf", spec := "fnUnitaryOf", apart := false, narrowed := true }
def FnUnitaryOfUptoSaid : Prop := fnUnitaryOfUptoRow.holds Try.pinned (OpenSpec.upto fnUnitaryOfSpec)

end Rows
end Go.Proofs.Ytplnpkagamnodaa
