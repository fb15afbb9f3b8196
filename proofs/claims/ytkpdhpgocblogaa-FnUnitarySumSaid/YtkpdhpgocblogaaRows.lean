/-
  No cell of these rows narrows 'for every input' (looked for: loops, veiled, ifaces, maps, wideKeys, modest, calm, conditions, laid).
  DERIVED. THE GIVEN ROWS OF THIS SEAT. 4 by the template 'for every input the law returns true; each argument reads behind the call as it read before'; 0 by the template 'total and deterministic' (their statements: YtkpdhpgocblogaaTotals.lean).
  GIVEN WITH THE SEED: the statements are not yours to turn. If you find one false, say at which input.
  Laid BY PROGRAM, IN A SANDBOX (cutbox-rows.mjs): the forced cells as the released guide's own fill.sh prints them over the translation 280e0b2340ed67e2… (all of the seat's roots in one cut). By AI agents, Wed Nov 11 2026. No macro, syntax, notation, axiom, sorry.
-/
import Derived.Test.YtkpdhpgocblogaaChecked
import GoSem.Claim
import GoSem.ClaimJoined
import GoSem.ClaimMapViews
import Derived.JoinedTies
import Derived.KernelRfl
namespace Go.Proofs.Ytkpdhpgocblogaa
/- THE CELL 'sum', in the pinned program and in every row, IS THE sha256 OF THE DUMP (.gsa) THAT YtkpdhpgocblogaaProg.lean LOADS. Nothing in Lean hashes anything: it is a label: what it is worth is what the hold of that sum in a sandbox is worth. -/
noncomputable def Try.pinned : Pinned := { name := "ytkpdhpgocblogaa", sum := "280e0b2340ed67e2009165289663aec14be20c2c3dfe180de6b4368ac8fecae8", checked := Try.checked }
namespace Rows
def none {H : Type} : Left H := { results := [], args := [] }

/-- 'laws.FnWorstOrder': WHATEVER THE INPUT: true; the input reads as it did. -/
def fnWorstOrderSpec : ChangeSpec := { name := "fnWorstOrder", fn := fun _ => fun
  | [d] => { results := [.lit (.bool true)], args := [d] }
  | _ => none }
def fnWorstOrderRow : OpenClaim := { program := "ytkpdhpgocblogaa", sum := "280e0b2340ed67e2009165289663aec14be20c2c3dfe180de6b4368ac8fecae8", func := "loop.example/divisorrows/laws.FnWorstOrder", spec := "fnWorstOrder", apart := false }
def FnWorstOrderSaid : Prop := fnWorstOrderRow.holds Try.pinned (OpenSpec.ofChange fnWorstOrderSpec)

/-- ITS FALSE NEIGHBOUR: 'it returns false'. Refute it at one input. -/
def fnWorstOrderWrong : ChangeSpec := { name := "fnWorstOrder", fn := fun _ => fun
  | [d] => { results := [.lit (.bool false)], args := [d] }
  | _ => none }
def FnWorstOrderWrongFalsely : Prop := fnWorstOrderRow.holds Try.pinned (OpenSpec.ofChange fnWorstOrderWrong)

/-- 'laws.FnPerfectUpTo': WHATEVER THE INPUT: true; the input reads as it did. -/
def fnPerfectUpToSpec : ChangeSpec := { name := "fnPerfectUpTo", fn := fun _ => fun
  | [d] => { results := [.lit (.bool true)], args := [d] }
  | _ => none }
def fnPerfectUpToRow : OpenClaim := { program := "ytkpdhpgocblogaa", sum := "280e0b2340ed67e2009165289663aec14be20c2c3dfe180de6b4368ac8fecae8", func := "loop.example/divisorrows/laws.FnPerfectUpTo", spec := "fnPerfectUpTo", apart := false }
def FnPerfectUpToSaid : Prop := fnPerfectUpToRow.holds Try.pinned (OpenSpec.ofChange fnPerfectUpToSpec)

/-- ITS FALSE NEIGHBOUR: 'it returns false'. Refute it at one input. -/
def fnPerfectUpToWrong : ChangeSpec := { name := "fnPerfectUpTo", fn := fun _ => fun
  | [d] => { results := [.lit (.bool false)], args := [d] }
  | _ => none }
def FnPerfectUpToWrongFalsely : Prop := fnPerfectUpToRow.holds Try.pinned (OpenSpec.ofChange fnPerfectUpToWrong)

/-- 'laws.FnUnitarySum': WHATEVER THE INPUT: true; the input reads as it did. -/
def fnUnitarySumSpec : ChangeSpec := { name := "fnUnitarySum", fn := fun _ => fun
  | [d] => { results := [.lit (.bool true)], args := [d] }
  | _ => none }
def fnUnitarySumRow : OpenClaim := { program := "ytkpdhpgocblogaa", sum := "280e0b2340ed67e2009165289663aec14be20c2c3dfe180de6b4368ac8fecae8", func := "loop.example/divisorrows/laws.FnUnitarySum", spec := "fnUnitarySum", apart := false }
def FnUnitarySumSaid : Prop := fnUnitarySumRow.holds Try.pinned (OpenSpec.ofChange fnUnitarySumSpec)

/-- ITS FALSE NEIGHBOUR: 'it returns false'. Refute it at one input. -/
def fnUnitarySumWrong : ChangeSpec := { name := "fnUnitarySum", fn := fun _ => fun
  | [d] => { results := [.lit (.bool false)], args := [d] }
  | _ => none }
def FnUnitarySumWrongFalsely : Prop := fnUnitarySumRow.holds Try.pinned (OpenSpec.ofChange fnUnitarySumWrong)

/-- 'laws.FnWayFrom': WHATEVER THE INPUT: true; the input reads as it did. -/
def fnWayFromSpec : ChangeSpec := { name := "fnWayFrom", fn := fun _ => fun
  | [d] => { results := [.lit (.bool true)], args := [d] }
  | _ => none }
def fnWayFromRow : OpenClaim := { program := "ytkpdhpgocblogaa", sum := "280e0b2340ed67e2009165289663aec14be20c2c3dfe180de6b4368ac8fecae8", func := "loop.example/divisorrows/laws.FnWayFrom", spec := "fnWayFrom", apart := false }
def FnWayFromSaid : Prop := fnWayFromRow.holds Try.pinned (OpenSpec.ofChange fnWayFromSpec)

/-- ITS FALSE NEIGHBOUR: 'it returns false'. Refute it at one input. -/
def fnWayFromWrong : ChangeSpec := { name := "fnWayFrom", fn := fun _ => fun
  | [d] => { results := [.lit (.bool false)], args := [d] }
  | _ => none }
def FnWayFromWrongFalsely : Prop := fnWayFromRow.holds Try.pinned (OpenSpec.ofChange fnWayFromWrong)

/- THE SECOND FORM. 'bulk': how many values and letters a reading holds, each counted each time it is reached (what is shared counts as often as it is met; a slice's spare places count too). A statement '..UptoSaid' is the law's where the arguments, and the package variables that the reading takes, are together of bulk at most 1048576: NARROWER than '..Said'. Prove '..Said' where nothing that the law and all that it calls make is longer than what came in: it says more and counts as full. Else prove '..UptoSaid'. A law counts once. -/
mutual
def uptoBulk {H : Type} : DataW H → Nat
  | .lit (.string bytes) => bytes.length + 1
  | .lit _ => 1
  | .nil => 1
  | .ptr d => uptoBulk d + 1
  | .slice elems spare => uptoBulkAll elems + uptoBulkAll spare + 1
  | .agg parts => uptoBulkAll parts + 1
  | .iface _ d => uptoBulk d + 1
  | .map entries => uptoBulkEntries entries + 1
  | .held _ => 1
def uptoBulkAll {H : Type} : List (DataW H) → Nat
  | [] => 0
  | d :: r => uptoBulk d + uptoBulkAll r
def uptoBulkEntries {H : Type} : List (Lit × DataW H) → Nat
  | [] => 0
  | x :: r => uptoBulkEntry x + uptoBulkEntries r
def uptoBulkEntry {H : Type} : Lit × DataW H → Nat
  | (.string bytes, d) => bytes.length + uptoBulk d + 1
  | (_, d) => uptoBulk d + 1
 end
def uptoSmall : (H : Type) → List (DataW H) → Bool := fun _ ds => decide (uptoBulkAll ds ≤ 1048576)
def OpenSpec.upto (s : _root_.Go.ChangeSpec) : _root_.Go.OpenSpec := { _root_.Go.OpenSpec.ofChange s with cond := some uptoSmall }

/-- 'laws.FnWorstOrder', WHERE WHAT IT READS IS OF BULK AT MOST 1048576: true; the input reads as it did. -/
def fnWorstOrderUptoRow : OpenClaim := { program := "ytkpdhpgocblogaa", sum := "280e0b2340ed67e2009165289663aec14be20c2c3dfe180de6b4368ac8fecae8", func := "loop.example/divisorrows/laws.FnWorstOrder", spec := "fnWorstOrder", apart := false, narrowed := true }
def FnWorstOrderUptoSaid : Prop := fnWorstOrderUptoRow.holds Try.pinned (OpenSpec.upto fnWorstOrderSpec)

/-- 'laws.FnPerfectUpTo', WHERE WHAT IT READS IS OF BULK AT MOST 1048576: true; the input reads as it did. -/
def fnPerfectUpToUptoRow : OpenClaim := { program := "ytkpdhpgocblogaa", sum := "280e0b2340ed67e2009165289663aec14be20c2c3dfe180de6b4368ac8fecae8", func := "loop.example/divisorrows/laws.FnPerfectUpTo", spec := "fnPerfectUpTo", apart := false, narrowed := true }
def FnPerfectUpToUptoSaid : Prop := fnPerfectUpToUptoRow.holds Try.pinned (OpenSpec.upto fnPerfectUpToSpec)

/-- 'laws.FnUnitarySum', WHERE WHAT IT READS IS OF BULK AT MOST 1048576: true; the input reads as it did. -/
def fnUnitarySumUptoRow : OpenClaim := { program := "ytkpdhpgocblogaa", sum := "280e0b2340ed67e2009165289663aec14be20c2c3dfe180de6b4368ac8fecae8", func := "loop.example/divisorrows/laws.FnUnitarySum", spec := "fnUnitarySum", apart := false, narrowed := true }
def FnUnitarySumUptoSaid : Prop := fnUnitarySumUptoRow.holds Try.pinned (OpenSpec.upto fnUnitarySumSpec)

/-- 'laws.FnWayFrom', WHERE WHAT IT READS IS OF BULK AT MOST 1048576: true; the input reads as it did. -/
def fnWayFromUptoRow : OpenClaim := { program := "ytkpdhpgocblogaa", sum := "280e0b2340ed67e2009165289663aec14be20c2c3dfe180de6b4368ac8fecae8", func := "loop.example/divisorrows/laws.FnWayFrom", spec := "fnWayFrom", apart := false, narrowed := true }
def FnWayFromUptoSaid : Prop := fnWayFromUptoRow.holds Try.pinned (OpenSpec.upto fnWayFromSpec)

end Rows
end Go.Proofs.Ytkpdhpgocblogaa
