/-
  No cell of these rows narrows 'for every input' (looked for: loops, veiled, ifaces, maps, wideKeys, modest, calm, conditions, laid).
  DERIVED. THE GIVEN ROWS OF THIS SEAT. 3 by the template 'for every input the law returns true; each argument reads behind the call as it read before'; 0 by the template 'total and deterministic' (their statements: YthaffmnoffjblaaTotals.lean).
  GIVEN WITH THE SEED: the statements are not yours to turn. If you find one false, say at which input.
  Laid BY PROGRAM, IN A SANDBOX (cutbox-rows.mjs): the forced cells as the released guide's own fill.sh prints them over the translation e2bd18f9dabd1999… (all of the seat's roots in one cut). By AI agents, Wed Nov 11 2026. No macro, syntax, notation, axiom, sorry.
-/
import Derived.Test.YthaffmnoffjblaaChecked
import GoSem.Claim
import GoSem.ClaimJoined
import GoSem.ClaimMapViews
import Derived.JoinedTies
import Derived.KernelRfl
namespace Go.Proofs.Ythaffmnoffjblaa
/- THE CELL 'sum', in the pinned program and in every row, IS THE sha256 OF THE DUMP (.gsa) THAT YthaffmnoffjblaaProg.lean LOADS. Nothing in Lean hashes anything: it is a label: what it is worth is what the hold of that sum in a sandbox is worth. -/
noncomputable def Try.pinned : Pinned := { name := "ythaffmnoffjblaa", sum := "e2bd18f9dabd1999bf39ffd6711e31cf8f1f97e7f07f0713e949cb0d360c1ab0", checked := Try.checked }
namespace Rows
def none {H : Type} : Left H := { results := [], args := [] }

/-- 'phosphorlaw23.PadUpper': WHATEVER THE INPUT: true; the input reads as it did. -/
def padUpperSpec : ChangeSpec := { name := "padUpper", fn := fun _ => fun
  | [d1, d2, d3] => { results := [.lit (.bool true)], args := [d1, d2, d3] }
  | _ => none }
def padUpperRow : OpenClaim := { program := "ythaffmnoffjblaa", sum := "e2bd18f9dabd1999bf39ffd6711e31cf8f1f97e7f07f0713e949cb0d360c1ab0", func := "phosphor/phosphorlaw23.PadUpper", spec := "padUpper", apart := false }
def PadUpperSaid : Prop := padUpperRow.holds Try.pinned (OpenSpec.ofChange padUpperSpec)

/-- ITS FALSE NEIGHBOUR: 'it returns false'. Refute it at one input. -/
def padUpperWrong : ChangeSpec := { name := "padUpper", fn := fun _ => fun
  | [d1, d2, d3] => { results := [.lit (.bool false)], args := [d1, d2, d3] }
  | _ => none }
def PadUpperWrongFalsely : Prop := padUpperRow.holds Try.pinned (OpenSpec.ofChange padUpperWrong)

/-- 'phosphorlaw23.PadTurns': WHATEVER THE INPUT: true; the input reads as it did. -/
def padTurnsSpec : ChangeSpec := { name := "padTurns", fn := fun _ => fun
  | [d1, d2, d3] => { results := [.lit (.bool true)], args := [d1, d2, d3] }
  | _ => none }
def padTurnsRow : OpenClaim := { program := "ythaffmnoffjblaa", sum := "e2bd18f9dabd1999bf39ffd6711e31cf8f1f97e7f07f0713e949cb0d360c1ab0", func := "phosphor/phosphorlaw23.PadTurns", spec := "padTurns", apart := false }
def PadTurnsSaid : Prop := padTurnsRow.holds Try.pinned (OpenSpec.ofChange padTurnsSpec)

/-- ITS FALSE NEIGHBOUR: 'it returns false'. Refute it at one input. -/
def padTurnsWrong : ChangeSpec := { name := "padTurns", fn := fun _ => fun
  | [d1, d2, d3] => { results := [.lit (.bool false)], args := [d1, d2, d3] }
  | _ => none }
def PadTurnsWrongFalsely : Prop := padTurnsRow.holds Try.pinned (OpenSpec.ofChange padTurnsWrong)

/-- 'phosphorlaw23.PadSix': WHATEVER THE INPUT: true; the input reads as it did. -/
def padSixSpec : ChangeSpec := { name := "padSix", fn := fun _ => fun
  | [d1, d2] => { results := [.lit (.bool true)], args := [d1, d2] }
  | _ => none }
def padSixRow : OpenClaim := { program := "ythaffmnoffjblaa", sum := "e2bd18f9dabd1999bf39ffd6711e31cf8f1f97e7f07f0713e949cb0d360c1ab0", func := "phosphor/phosphorlaw23.PadSix", spec := "padSix", apart := false }
def PadSixSaid : Prop := padSixRow.holds Try.pinned (OpenSpec.ofChange padSixSpec)

/-- ITS FALSE NEIGHBOUR: 'it returns false'. Refute it at one input. -/
def padSixWrong : ChangeSpec := { name := "padSix", fn := fun _ => fun
  | [d1, d2] => { results := [.lit (.bool false)], args := [d1, d2] }
  | _ => none }
def PadSixWrongFalsely : Prop := padSixRow.holds Try.pinned (OpenSpec.ofChange padSixWrong)

/- THE SECOND FORM. 'bulk': how many values and letters a reading holds, each counted each time it is reached (what is shared counts as often as it is met; a slice's spare places count too). A statement '..UptoSaid' is the law's where the arguments, and the package variables that the reading takes, are together of bulk at most 1048576: NARROWER than '..Said'. Prove '..Said' where nothing that the law and all that it calls make is longer than what came in: it says more and counts as full. Else prove '..UptoSaid'. A law counts once. -/
mutual
def uptoBulk {H : Type} : DataW H → Nat
  | .lit (.string bytes) => bytes.length + 1
  | .lit _ => 1
  | .nil => 1
  | .ptr d => uptoBulk d + 1
  | .slice elems spare => uptoBulkAll elems + uptoBulkAll spare + 1
  | .agg parts => uptoBulkAll parts + 1
  | .iface _ d => uptoBulk d + 1
  | .map entries => uptoBulkEntries entries + 1
  | .held _ => 1
def uptoBulkAll {H : Type} : List (DataW H) → Nat
  | [] => 0
  | d :: r => uptoBulk d + uptoBulkAll r
def uptoBulkEntries {H : Type} : List (Lit × DataW H) → Nat
  | [] => 0
  | x :: r => uptoBulkEntry x + uptoBulkEntries r
def uptoBulkEntry {H : Type} : Lit × DataW H → Nat
  | (.string bytes, d) => bytes.length + uptoBulk d + 1
  | (_, d) => uptoBulk d + 1
 end
def uptoSmall : (H : Type) → List (DataW H) → Bool := fun _ ds => decide (uptoBulkAll ds ≤ 1048576)
def OpenSpec.upto (s : _root_.Go.ChangeSpec) : _root_.Go.OpenSpec := { _root_.Go.OpenSpec.ofChange s with cond := some uptoSmall }

/-- 'phosphorlaw23.PadUpper', WHERE WHAT IT READS IS OF BULK AT MOST 1048576: true; the input reads as it did. -/
def padUpperUptoRow : OpenClaim := { program := "ythaffmnoffjblaa", sum := "e2bd18f9dabd1999bf39ffd6711e31cf8f1f97e7f07f0713e949cb0d360c1ab0", func := "phosphor/phosphorlaw23.PadUpper", spec := "padUpper", apart := false, narrowed := true }
def PadUpperUptoSaid : Prop := padUpperUptoRow.holds Try.pinned (OpenSpec.upto padUpperSpec)

/-- 'phosphorlaw23.PadTurns', WHERE WHAT IT READS IS OF BULK AT MOST 1048576: true; the input reads as it did. -/
def padTurnsUptoRow : OpenClaim := { program := "ythaffmnoffjblaa", sum := "e2bd18f9dabd1999bf39ffd6711e31cf8f1f97e7f07f0713e949cb0d360c1ab0", func := "phosphor/phosphorlaw23.PadTurns", spec := "padTurns", apart := false, narrowed := true }
def PadTurnsUptoSaid : Prop := padTurnsUptoRow.holds Try.pinned (OpenSpec.upto padTurnsSpec)

/-- 'phosphorlaw23.PadSix', WHERE WHAT IT READS IS OF BULK AT MOST 1048576: true; the input reads as it did. -/
def padSixUptoRow : OpenClaim := { program := "ythaffmnoffjblaa", sum := "e2bd18f9dabd1999bf39ffd6711e31cf8f1f97e7f07f0713e949cb0d360c1ab0", func := "phosphor/phosphorlaw23.PadSix", spec := "padSix", apart := false, narrowed := true }
def PadSixUptoSaid : Prop := padSixUptoRow.holds Try.pinned (OpenSpec.upto padSixSpec)

end Rows
end Go.Proofs.Ythaffmnoffjblaa
