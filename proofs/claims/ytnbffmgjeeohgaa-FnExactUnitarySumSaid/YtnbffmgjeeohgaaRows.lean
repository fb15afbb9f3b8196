/-
  No cell of these rows narrows 'for every input' (looked for: loops, veiled, ifaces, maps, wideKeys, modest, calm, conditions, laid).
  DERIVED. THE GIVEN ROWS OF THIS SEAT. 12 by the template 'for every input the law returns true; each argument reads behind the call as it read before'; 0 by the template 'total and deterministic' (their statements: YtnbffmgjeeohgaaTotals.lean).
  GIVEN WITH THE SEED: the statements are not yours to turn. If you find one false, say at which input.
  Laid BY PROGRAM, IN A SANDBOX (cutbox-rows.mjs): the forced cells as the released guide's own fill.sh prints them over the translation bd2e91de89a6a531… (all of the seat's roots in one cut). By AI agents, Wed Nov 11 2026. No macro, syntax, notation, axiom, sorry.
-/
import Derived.Test.YtnbffmgjeeohgaaChecked
import GoSem.Claim
import GoSem.ClaimJoined
import GoSem.ClaimMapViews
import Derived.JoinedTies
import Derived.KernelRfl
namespace Go.Proofs.Ytnbffmgjeeohgaa
/- THE CELL 'sum', in the pinned program and in every row, IS THE sha256 OF THE DUMP (.gsa) THAT YtnbffmgjeeohgaaProg.lean LOADS. Nothing in Lean hashes anything: it is a label: what it is worth is what the hold of that sum in a sandbox is worth. -/
noncomputable def Try.pinned : Pinned := { name := "ytnbffmgjeeohgaa", sum := "bd2e91de89a6a5313a187593d2f675eb8aee0acbd90d9004256b71985247fd24", checked := Try.checked }
namespace Rows
def none {H : Type} : Left H := { results := [], args := [] }

/-- 'laws.FnExactPowerModulo': WHATEVER THE INPUT: true; the input reads as it did. -/
def fnExactPowerModuloSpec : ChangeSpec := { name := "fnExactPowerModulo", fn := fun _ => fun
  | [d1, d2, d3] => { results := [.lit (.bool true)], args := [d1, d2, d3] }
  | _ => none }
def fnExactPowerModuloRow : OpenClaim := { program := "ytnbffmgjeeohgaa", sum := "bd2e91de89a6a5313a187593d2f675eb8aee0acbd90d9004256b71985247fd24", func := "loop.example/divisorrows/laws.FnExactPowerModulo", spec := "fnExactPowerModulo", apart := false }
def FnExactPowerModuloSaid : Prop := fnExactPowerModuloRow.holds Try.pinned (OpenSpec.ofChange fnExactPowerModuloSpec)

/-- ITS FALSE NEIGHBOUR: 'it returns false'. Refute it at one input. -/
def fnExactPowerModuloWrong : ChangeSpec := { name := "fnExactPowerModulo", fn := fun _ => fun
  | [d1, d2, d3] => { results := [.lit (.bool false)], args := [d1, d2, d3] }
  | _ => none }
def FnExactPowerModuloWrongFalsely : Prop := fnExactPowerModuloRow.holds Try.pinned (OpenSpec.ofChange fnExactPowerModuloWrong)

/-- 'laws.FnExactUnitaryOk': WHATEVER THE INPUT: true; the input reads as it did. -/
def fnExactUnitaryOkSpec : ChangeSpec := { name := "fnExactUnitaryOk", fn := fun _ => fun
  | [d1, d2] => { results := [.lit (.bool true)], args := [d1, d2] }
  | _ => none }
def fnExactUnitaryOkRow : OpenClaim := { program := "ytnbffmgjeeohgaa", sum := "bd2e91de89a6a5313a187593d2f675eb8aee0acbd90d9004256b71985247fd24", func := "loop.example/divisorrows/laws.FnExactUnitaryOk", spec := "fnExactUnitaryOk", apart := false }
def FnExactUnitaryOkSaid : Prop := fnExactUnitaryOkRow.holds Try.pinned (OpenSpec.ofChange fnExactUnitaryOkSpec)

/-- ITS FALSE NEIGHBOUR: 'it returns false'. Refute it at one input. -/
def fnExactUnitaryOkWrong : ChangeSpec := { name := "fnExactUnitaryOk", fn := fun _ => fun
  | [d1, d2] => { results := [.lit (.bool false)], args := [d1, d2] }
  | _ => none }
def FnExactUnitaryOkWrongFalsely : Prop := fnExactUnitaryOkRow.holds Try.pinned (OpenSpec.ofChange fnExactUnitaryOkWrong)

/-- 'laws.FnExactSharedSum': WHATEVER THE INPUT: true; the input reads as it did. -/
def fnExactSharedSumSpec : ChangeSpec := { name := "fnExactSharedSum", fn := fun _ => fun
  | [d] => { results := [.lit (.bool true)], args := [d] }
  | _ => none }
def fnExactSharedSumRow : OpenClaim := { program := "ytnbffmgjeeohgaa", sum := "bd2e91de89a6a5313a187593d2f675eb8aee0acbd90d9004256b71985247fd24", func := "loop.example/divisorrows/laws.FnExactSharedSum", spec := "fnExactSharedSum", apart := false }
def FnExactSharedSumSaid : Prop := fnExactSharedSumRow.holds Try.pinned (OpenSpec.ofChange fnExactSharedSumSpec)

/-- ITS FALSE NEIGHBOUR: 'it returns false'. Refute it at one input. -/
def fnExactSharedSumWrong : ChangeSpec := { name := "fnExactSharedSum", fn := fun _ => fun
  | [d] => { results := [.lit (.bool false)], args := [d] }
  | _ => none }
def FnExactSharedSumWrongFalsely : Prop := fnExactSharedSumRow.holds Try.pinned (OpenSpec.ofChange fnExactSharedSumWrong)

/-- 'laws.FnExactEuclidOf': WHATEVER THE INPUT: true; the input reads as it did. -/
def fnExactEuclidOfSpec : ChangeSpec := { name := "fnExactEuclidOf", fn := fun _ => fun
  | [d] => { results := [.lit (.bool true)], args := [d] }
  | _ => none }
def fnExactEuclidOfRow : OpenClaim := { program := "ytnbffmgjeeohgaa", sum := "bd2e91de89a6a5313a187593d2f675eb8aee0acbd90d9004256b71985247fd24", func := "loop.example/divisorrows/laws.FnExactEuclidOf", spec := "fnExactEuclidOf", apart := false }
def FnExactEuclidOfSaid : Prop := fnExactEuclidOfRow.holds Try.pinned (OpenSpec.ofChange fnExactEuclidOfSpec)

/-- ITS FALSE NEIGHBOUR: 'it returns false'. Refute it at one input. -/
def fnExactEuclidOfWrong : ChangeSpec := { name := "fnExactEuclidOf", fn := fun _ => fun
  | [d] => { results := [.lit (.bool false)], args := [d] }
  | _ => none }
def FnExactEuclidOfWrongFalsely : Prop := fnExactEuclidOfRow.holds Try.pinned (OpenSpec.ofChange fnExactEuclidOfWrong)

/-- 'laws.FnExactProperSum': WHATEVER THE INPUT: true; the input reads as it did. -/
def fnExactProperSumSpec : ChangeSpec := { name := "fnExactProperSum", fn := fun _ => fun
  | [d] => { results := [.lit (.bool true)], args := [d] }
  | _ => none }
def fnExactProperSumRow : OpenClaim := { program := "ytnbffmgjeeohgaa", sum := "bd2e91de89a6a5313a187593d2f675eb8aee0acbd90d9004256b71985247fd24", func := "loop.example/divisorrows/laws.FnExactProperSum", spec := "fnExactProperSum", apart := false }
def FnExactProperSumSaid : Prop := fnExactProperSumRow.holds Try.pinned (OpenSpec.ofChange fnExactProperSumSpec)

/-- ITS FALSE NEIGHBOUR: 'it returns false'. Refute it at one input. -/
def fnExactProperSumWrong : ChangeSpec := { name := "fnExactProperSum", fn := fun _ => fun
  | [d] => { results := [.lit (.bool false)], args := [d] }
  | _ => none }
def FnExactProperSumWrongFalsely : Prop := fnExactProperSumRow.holds Try.pinned (OpenSpec.ofChange fnExactProperSumWrong)

/-- 'laws.FnExactUnitarySign': WHATEVER THE INPUT: true; the input reads as it did. -/
def fnExactUnitarySignSpec : ChangeSpec := { name := "fnExactUnitarySign", fn := fun _ => fun
  | [d] => { results := [.lit (.bool true)], args := [d] }
  | _ => none }
def fnExactUnitarySignRow : OpenClaim := { program := "ytnbffmgjeeohgaa", sum := "bd2e91de89a6a5313a187593d2f675eb8aee0acbd90d9004256b71985247fd24", func := "loop.example/divisorrows/laws.FnExactUnitarySign", spec := "fnExactUnitarySign", apart := false }
def FnExactUnitarySignSaid : Prop := fnExactUnitarySignRow.holds Try.pinned (OpenSpec.ofChange fnExactUnitarySignSpec)

/-- ITS FALSE NEIGHBOUR: 'it returns false'. Refute it at one input. -/
def fnExactUnitarySignWrong : ChangeSpec := { name := "fnExactUnitarySign", fn := fun _ => fun
  | [d] => { results := [.lit (.bool false)], args := [d] }
  | _ => none }
def FnExactUnitarySignWrongFalsely : Prop := fnExactUnitarySignRow.holds Try.pinned (OpenSpec.ofChange fnExactUnitarySignWrong)

/-- 'laws.FnExactSharingJust': WHATEVER THE INPUT: true; the input reads as it did. -/
def fnExactSharingJustSpec : ChangeSpec := { name := "fnExactSharingJust", fn := fun _ => fun
  | [d1, d2] => { results := [.lit (.bool true)], args := [d1, d2] }
  | _ => none }
def fnExactSharingJustRow : OpenClaim := { program := "ytnbffmgjeeohgaa", sum := "bd2e91de89a6a5313a187593d2f675eb8aee0acbd90d9004256b71985247fd24", func := "loop.example/divisorrows/laws.FnExactSharingJust", spec := "fnExactSharingJust", apart := false }
def FnExactSharingJustSaid : Prop := fnExactSharingJustRow.holds Try.pinned (OpenSpec.ofChange fnExactSharingJustSpec)

/-- ITS FALSE NEIGHBOUR: 'it returns false'. Refute it at one input. -/
def fnExactSharingJustWrong : ChangeSpec := { name := "fnExactSharingJust", fn := fun _ => fun
  | [d1, d2] => { results := [.lit (.bool false)], args := [d1, d2] }
  | _ => none }
def FnExactSharingJustWrongFalsely : Prop := fnExactSharingJustRow.holds Try.pinned (OpenSpec.ofChange fnExactSharingJustWrong)

/-- 'laws.FnExactOrderOf': WHATEVER THE INPUT: true; the input reads as it did. -/
def fnExactOrderOfSpec : ChangeSpec := { name := "fnExactOrderOf", fn := fun _ => fun
  | [d1, d2] => { results := [.lit (.bool true)], args := [d1, d2] }
  | _ => none }
def fnExactOrderOfRow : OpenClaim := { program := "ytnbffmgjeeohgaa", sum := "bd2e91de89a6a5313a187593d2f675eb8aee0acbd90d9004256b71985247fd24", func := "loop.example/divisorrows/laws.FnExactOrderOf", spec := "fnExactOrderOf", apart := false }
def FnExactOrderOfSaid : Prop := fnExactOrderOfRow.holds Try.pinned (OpenSpec.ofChange fnExactOrderOfSpec)

/-- ITS FALSE NEIGHBOUR: 'it returns false'. Refute it at one input. -/
def fnExactOrderOfWrong : ChangeSpec := { name := "fnExactOrderOf", fn := fun _ => fun
  | [d1, d2] => { results := [.lit (.bool false)], args := [d1, d2] }
  | _ => none }
def FnExactOrderOfWrongFalsely : Prop := fnExactOrderOfRow.holds Try.pinned (OpenSpec.ofChange fnExactOrderOfWrong)

/-- 'laws.FnExactHowManyApart': WHATEVER THE INPUT: true; the input reads as it did. -/
def fnExactHowManyApartSpec : ChangeSpec := { name := "fnExactHowManyApart", fn := fun _ => fun
  | [d] => { results := [.lit (.bool true)], args := [d] }
  | _ => none }
def fnExactHowManyApartRow : OpenClaim := { program := "ytnbffmgjeeohgaa", sum := "bd2e91de89a6a5313a187593d2f675eb8aee0acbd90d9004256b71985247fd24", func := "loop.example/divisorrows/laws.FnExactHowManyApart", spec := "fnExactHowManyApart", apart := false }
def FnExactHowManyApartSaid : Prop := fnExactHowManyApartRow.holds Try.pinned (OpenSpec.ofChange fnExactHowManyApartSpec)

/-- ITS FALSE NEIGHBOUR: 'it returns false'. Refute it at one input. -/
def fnExactHowManyApartWrong : ChangeSpec := { name := "fnExactHowManyApart", fn := fun _ => fun
  | [d] => { results := [.lit (.bool false)], args := [d] }
  | _ => none }
def FnExactHowManyApartWrongFalsely : Prop := fnExactHowManyApartRow.holds Try.pinned (OpenSpec.ofChange fnExactHowManyApartWrong)

/-- 'laws.FnExactFriendOf': WHATEVER THE INPUT: true; the input reads as it did. -/
def fnExactFriendOfSpec : ChangeSpec := { name := "fnExactFriendOf", fn := fun _ => fun
  | [d] => { results := [.lit (.bool true)], args := [d] }
  | _ => none }
def fnExactFriendOfRow : OpenClaim := { program := "ytnbffmgjeeohgaa", sum := "bd2e91de89a6a5313a187593d2f675eb8aee0acbd90d9004256b71985247fd24", func := "loop.example/divisorrows/laws.FnExactFriendOf", spec := "fnExactFriendOf", apart := false }
def FnExactFriendOfSaid : Prop := fnExactFriendOfRow.holds Try.pinned (OpenSpec.ofChange fnExactFriendOfSpec)

/-- ITS FALSE NEIGHBOUR: 'it returns false'. Refute it at one input. -/
def fnExactFriendOfWrong : ChangeSpec := { name := "fnExactFriendOf", fn := fun _ => fun
  | [d] => { results := [.lit (.bool false)], args := [d] }
  | _ => none }
def FnExactFriendOfWrongFalsely : Prop := fnExactFriendOfRow.holds Try.pinned (OpenSpec.ofChange fnExactFriendOfWrong)

/-- 'laws.FnExactUnitarySum': WHATEVER THE INPUT: true; the input reads as it did. -/
def fnExactUnitarySumSpec : ChangeSpec := { name := "fnExactUnitarySum", fn := fun _ => fun
  | [d] => { results := [.lit (.bool true)], args := [d] }
  | _ => none }
def fnExactUnitarySumRow : OpenClaim := { program := "ytnbffmgjeeohgaa", sum := "bd2e91de89a6a5313a187593d2f675eb8aee0acbd90d9004256b71985247fd24", func := "loop.example/divisorrows/laws.FnExactUnitarySum", spec := "fnExactUnitarySum", apart := false }
def FnExactUnitarySumSaid : Prop := fnExactUnitarySumRow.holds Try.pinned (OpenSpec.ofChange fnExactUnitarySumSpec)

/-- ITS FALSE NEIGHBOUR: 'it returns false'. Refute it at one input. -/
def fnExactUnitarySumWrong : ChangeSpec := { name := "fnExactUnitarySum", fn := fun _ => fun
  | [d] => { results := [.lit (.bool false)], args := [d] }
  | _ => none }
def FnExactUnitarySumWrongFalsely : Prop := fnExactUnitarySumRow.holds Try.pinned (OpenSpec.ofChange fnExactUnitarySumWrong)

/-- 'laws.FnExactEvenOk': WHATEVER THE INPUT: true; the input reads as it did. -/
def fnExactEvenOkSpec : ChangeSpec := { name := "fnExactEvenOk", fn := fun _ => fun
  | [d] => { results := [.lit (.bool true)], args := [d] }
  | _ => none }
def fnExactEvenOkRow : OpenClaim := { program := "ytnbffmgjeeohgaa", sum := "bd2e91de89a6a5313a187593d2f675eb8aee0acbd90d9004256b71985247fd24", func := "loop.example/divisorrows/laws.FnExactEvenOk", spec := "fnExactEvenOk", apart := false }
def FnExactEvenOkSaid : Prop := fnExactEvenOkRow.holds Try.pinned (OpenSpec.ofChange fnExactEvenOkSpec)

/-- ITS FALSE NEIGHBOUR: 'it returns false'. Refute it at one input. -/
def fnExactEvenOkWrong : ChangeSpec := { name := "fnExactEvenOk", fn := fun _ => fun
  | [d] => { results := [.lit (.bool false)], args := [d] }
  | _ => none }
def FnExactEvenOkWrongFalsely : Prop := fnExactEvenOkRow.holds Try.pinned (OpenSpec.ofChange fnExactEvenOkWrong)

/- THE SECOND FORM. 'bulk': how many values and letters a reading holds, each counted each time it is reached (what is shared counts as often as it is met; a slice's spare places count too). A statement '..UptoSaid' is the law's where the arguments, and the package variables that the reading takes, are together of bulk at most 1048576: NARROWER than '..Said'. Prove '..Said' where nothing that the law and all that it calls make is longer than what came in: it says more and counts as full. Else prove '..UptoSaid'. A law counts once. -/
mutual
def uptoBulk {H : Type} : DataW H → Nat
  | .lit (.string bytes) => bytes.length + 1
  | .lit _ => 1
  | .nil => 1
  | .ptr d => uptoBulk d + 1
  | .slice elems spare => uptoBulkAll elems + uptoBulkAll spare + 1
  | .agg parts => uptoBulkAll parts + 1
  | .iface _ d => uptoBulk d + 1
  | .map entries => uptoBulkEntries entries + 1
  | .held _ => 1
def uptoBulkAll {H : Type} : List (DataW H) → Nat
  | [] => 0
  | d :: r => uptoBulk d + uptoBulkAll r
def uptoBulkEntries {H : Type} : List (Lit × DataW H) → Nat
  | [] => 0
  | x :: r => uptoBulkEntry x + uptoBulkEntries r
def uptoBulkEntry {H : Type} : Lit × DataW H → Nat
  | (.string bytes, d) => bytes.length + uptoBulk d + 1
  | (_, d) => uptoBulk d + 1
 end
def uptoSmall : (H : Type) → List (DataW H) → Bool := fun _ ds => decide (uptoBulkAll ds ≤ 1048576)
def OpenSpec.upto (s : _root_.Go.ChangeSpec) : _root_.Go.OpenSpec := { _root_.Go.OpenSpec.ofChange s with cond := some uptoSmall }

/-- 'laws.FnExactPowerModulo', WHERE WHAT IT READS IS OF BULK AT MOST 1048576: true; the input reads as it did. -/
def fnExactPowerModuloUptoRow : OpenClaim := { program := "ytnbffmgjeeohgaa", sum := "bd2e91de89a6a5313a187593d2f675eb8aee0acbd90d9004256b71985247fd24", func := "loop.example/divisorrows/laws.FnExactPowerModulo", spec := "fnExactPowerModulo", apart := false, narrowed := true }
def FnExactPowerModuloUptoSaid : Prop := fnExactPowerModuloUptoRow.holds Try.pinned (OpenSpec.upto fnExactPowerModuloSpec)

/-- 'laws.FnExactUnitaryOk', WHERE WHAT IT READS IS OF BULK AT MOST 1048576: true; the input reads as it did. -/
def fnExactUnitaryOkUptoRow : OpenClaim := { program := "ytnbffmgjeeohgaa", sum := "bd2e91de89a6a5313a187593d2f675eb8aee0acbd90d9004256b71985247fd24", func := "loop.example/divisorrows/laws.FnExactUnitaryOk", spec := "fnExactUnitaryOk", apart := false, narrowed := true }
def FnExactUnitaryOkUptoSaid : Prop := fnExactUnitaryOkUptoRow.holds Try.pinned (OpenSpec.upto fnExactUnitaryOkSpec)

/-- 'laws.FnExactSharedSum', WHERE WHAT IT READS IS OF BULK AT MOST 1048576: true; the input reads as it did. -/
def fnExactSharedSumUptoRow : OpenClaim := { program := "ytnbffmgjeeohgaa", sum := "bd2e91de89a6a5313a187593d2f675eb8aee0acbd90d9004256b71985247fd24", func := "loop.example/divisorrows/laws.FnExactSharedSum", spec := "fnExactSharedSum", apart := false, narrowed := true }
def FnExactSharedSumUptoSaid : Prop := fnExactSharedSumUptoRow.holds Try.pinned (OpenSpec.upto fnExactSharedSumSpec)

/-- 'laws.FnExactEuclidOf', WHERE WHAT IT READS IS OF BULK AT MOST 1048576: true; the input reads as it did. -/
def fnExactEuclidOfUptoRow : OpenClaim := { program := "ytnbffmgjeeohgaa", sum := "bd2e91de89a6a5313a187593d2f675eb8aee0acbd90d9004256b71985247fd24", func := "loop.example/divisorrows/laws.FnExactEuclidOf", spec := "fnExactEuclidOf", apart := false, narrowed := true }
def FnExactEuclidOfUptoSaid : Prop := fnExactEuclidOfUptoRow.holds Try.pinned (OpenSpec.upto fnExactEuclidOfSpec)

/-- 'laws.FnExactProperSum', WHERE WHAT IT READS IS OF BULK AT MOST 1048576: true; the input reads as it did. -/
def fnExactProperSumUptoRow : OpenClaim := { program := "ytnbffmgjeeohgaa", sum := "bd2e91de89a6a5313a187593d2f675eb8aee0acbd90d9004256b71985247fd24", func := "loop.example/divisorrows/laws.FnExactProperSum", spec := "fnExactProperSum", apart := false, narrowed := true }
def FnExactProperSumUptoSaid : Prop := fnExactProperSumUptoRow.holds Try.pinned (OpenSpec.upto fnExactProperSumSpec)

/-- 'laws.FnExactUnitarySign', WHERE WHAT IT READS IS OF BULK AT MOST 1048576: true; the input reads as it did. -/
def fnExactUnitarySignUptoRow : OpenClaim := { program := "ytnbffmgjeeohgaa", sum := "bd2e91de89a6a5313a187593d2f675eb8aee0acbd90d9004256b71985247fd24", func := "loop.example/divisorrows/laws.FnExactUnitarySign", spec := "fnExactUnitarySign", apart := false, narrowed := true }
def FnExactUnitarySignUptoSaid : Prop := fnExactUnitarySignUptoRow.holds Try.pinned (OpenSpec.upto fnExactUnitarySignSpec)

/-- 'laws.FnExactSharingJust', WHERE WHAT IT READS IS OF BULK AT MOST 1048576: true; the input reads as it did. -/
def fnExactSharingJustUptoRow : OpenClaim := { program := "ytnbffmgjeeohgaa", sum := "bd2e91de89a6a5313a187593d2f675eb8aee0acbd90d9004256b71985247fd24", func := "loop.example/divisorrows/laws.FnExactSharingJust", spec := "fnExactSharingJust", apart := false, narrowed := true }
def FnExactSharingJustUptoSaid : Prop := fnExactSharingJustUptoRow.holds Try.pinned (OpenSpec.upto fnExactSharingJustSpec)

/-- 'laws.FnExactOrderOf', WHERE WHAT IT READS IS OF BULK AT MOST 1048576: true; the input reads as it did. -/
def fnExactOrderOfUptoRow : OpenClaim := { program := "ytnbffmgjeeohgaa", sum := "bd2e91de89a6a5313a187593d2f675eb8aee0acbd90d9004256b71985247fd24", func := "loop.example/divisorrows/laws.FnExactOrderOf", spec := "fnExactOrderOf", apart := false, narrowed := true }
def FnExactOrderOfUptoSaid : Prop := fnExactOrderOfUptoRow.holds Try.pinned (OpenSpec.upto fnExactOrderOfSpec)

/-- 'laws.FnExactHowManyApart', WHERE WHAT IT READS IS OF BULK AT MOST 1048576: true; the input reads as it did. -/
def fnExactHowManyApartUptoRow : OpenClaim := { program := "ytnbffmgjeeohgaa", sum := "bd2e91de89a6a5313a187593d2f675eb8aee0acbd90d9004256b71985247fd24", func := "loop.example/divisorrows/laws.FnExactHowManyApart", spec := "fnExactHowManyApart", apart := false, narrowed := true }
def FnExactHowManyApartUptoSaid : Prop := fnExactHowManyApartUptoRow.holds Try.pinned (OpenSpec.upto fnExactHowManyApartSpec)

/-- 'laws.FnExactFriendOf', WHERE WHAT IT READS IS OF BULK AT MOST 1048576: true; the input reads as it did. -/
def fnExactFriendOfUptoRow : OpenClaim := { program := "ytnbffmgjeeohgaa", sum := "bd2e91de89a6a5313a187593d2f675eb8aee0acbd90d9004256b71985247fd24", func := "loop.example/divisorrows/laws.FnExactFriendOf", spec := "fnExactFriendOf", apart := false, narrowed := true }
def FnExactFriendOfUptoSaid : Prop := fnExactFriendOfUptoRow.holds Try.pinned (OpenSpec.upto fnExactFriendOfSpec)

/-- 'laws.FnExactUnitarySum', WHERE WHAT IT READS IS OF BULK AT MOST 1048576: true; the input reads as it did. -/
def fnExactUnitarySumUptoRow : OpenClaim := { program := "ytnbffmgjeeohgaa", sum := "bd2e91de89a6a5313a187593d2f675eb8aee0acbd90d9004256b71985247fd24", func := "loop.example/divisorrows/laws.FnExactUnitarySum", spec := "fnExactUnitarySum", apart := false, narrowed := true }
def FnExactUnitarySumUptoSaid : Prop := fnExactUnitarySumUptoRow.holds Try.pinned (OpenSpec.upto fnExactUnitarySumSpec)

/-- 'laws.FnExactEvenOk', WHERE WHAT IT READS IS OF BULK AT MOST 1048576: true; the input reads as it did. -/
def fnExactEvenOkUptoRow : OpenClaim := { program := "ytnbffmgjeeohgaa", sum := "bd2e91de89a6a5313a187593d2f675eb8aee0acbd90d9004256b71985247fd24", func := "loop.example/divisorrows/laws.FnExactEvenOk", spec := "fnExactEvenOk", apart := false, narrowed := true }
def FnExactEvenOkUptoSaid : Prop := fnExactEvenOkUptoRow.holds Try.pinned (OpenSpec.upto fnExactEvenOkSpec)

end Rows
end Go.Proofs.Ytnbffmgjeeohgaa
