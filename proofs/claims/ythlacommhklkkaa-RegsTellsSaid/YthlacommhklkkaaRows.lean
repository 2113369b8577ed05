/-
  No cell of these rows narrows 'for every input' (looked for: loops, veiled, ifaces, maps, wideKeys, modest, calm, conditions, laid).
  DERIVED. THE GIVEN ROWS OF THIS SEAT. 5 by the template 'for every input the law returns true; each argument reads behind the call as it read before'; 0 by the template 'total and deterministic' (their statements: YthlacommhklkkaaTotals.lean).
  GIVEN WITH THE SEED: the statements are not yours to turn. If you find one false, say at which input.
  Laid BY PROGRAM, IN A SANDBOX (cutbox-rows.mjs): the forced cells as the released guide's own fill.sh prints them over the translation 174ab606f553ead0… (all of the seat's roots in one cut). By AI agents, Wed Nov 11 2026. No macro, syntax, notation, axiom, sorry.
-/
import Derived.Test.YthlacommhklkkaaChecked
import GoSem.Claim
import GoSem.ClaimJoined
import GoSem.ClaimMapViews
import Derived.JoinedTies
import Derived.KernelRfl
namespace Go.Proofs.Ythlacommhklkkaa
/- THE CELL 'sum', in the pinned program and in every row, IS THE sha256 OF THE DUMP (.gsa) THAT YthlacommhklkkaaProg.lean LOADS. Nothing in Lean hashes anything: it is a label: what it is worth is what the hold of that sum in a sandbox is worth. -/
noncomputable def Try.pinned : Pinned := { name := "ythlacommhklkkaa", sum := "174ab606f553ead07e0ed9e7b076164b1f2e47f84e200bfd84039627508ca38a", checked := Try.checked }
namespace Rows
def none {H : Type} : Left H := { results := [], args := [] }

/-- 'phosphorlaw15.RegsMaps': WHATEVER THE INPUT: true; the input reads as it did. -/
def regsMapsSpec : ChangeSpec := { name := "regsMaps", fn := fun _ => fun
  | [d] => { results := [.lit (.bool true)], args := [d] }
  | _ => none }
def regsMapsRow : OpenClaim := { program := "ythlacommhklkkaa", sum := "174ab606f553ead07e0ed9e7b076164b1f2e47f84e200bfd84039627508ca38a", func := "phosphor/phosphorlaw15.RegsMaps", spec := "regsMaps", apart := false }
def RegsMapsSaid : Prop := regsMapsRow.holds Try.pinned (OpenSpec.ofChange regsMapsSpec)

/-- ITS FALSE NEIGHBOUR: 'it returns false'. Refute it at one input. -/
def regsMapsWrong : ChangeSpec := { name := "regsMaps", fn := fun _ => fun
  | [d] => { results := [.lit (.bool false)], args := [d] }
  | _ => none }
def RegsMapsWrongFalsely : Prop := regsMapsRow.holds Try.pinned (OpenSpec.ofChange regsMapsWrong)

/-- 'phosphorlaw15.RegsOther': WHATEVER THE INPUT: true; the input reads as it did. -/
def regsOtherSpec : ChangeSpec := { name := "regsOther", fn := fun _ => fun
  | [d1, d2, d3] => { results := [.lit (.bool true)], args := [d1, d2, d3] }
  | _ => none }
def regsOtherRow : OpenClaim := { program := "ythlacommhklkkaa", sum := "174ab606f553ead07e0ed9e7b076164b1f2e47f84e200bfd84039627508ca38a", func := "phosphor/phosphorlaw15.RegsOther", spec := "regsOther", apart := false }
def RegsOtherSaid : Prop := regsOtherRow.holds Try.pinned (OpenSpec.ofChange regsOtherSpec)

/-- ITS FALSE NEIGHBOUR: 'it returns false'. Refute it at one input. -/
def regsOtherWrong : ChangeSpec := { name := "regsOther", fn := fun _ => fun
  | [d1, d2, d3] => { results := [.lit (.bool false)], args := [d1, d2, d3] }
  | _ => none }
def RegsOtherWrongFalsely : Prop := regsOtherRow.holds Try.pinned (OpenSpec.ofChange regsOtherWrong)

/-- 'phosphorlaw15.RegsBack': WHATEVER THE INPUT: true; the input reads as it did. -/
def regsBackSpec : ChangeSpec := { name := "regsBack", fn := fun _ => fun
  | [d1, d2] => { results := [.lit (.bool true)], args := [d1, d2] }
  | _ => none }
def regsBackRow : OpenClaim := { program := "ythlacommhklkkaa", sum := "174ab606f553ead07e0ed9e7b076164b1f2e47f84e200bfd84039627508ca38a", func := "phosphor/phosphorlaw15.RegsBack", spec := "regsBack", apart := false }
def RegsBackSaid : Prop := regsBackRow.holds Try.pinned (OpenSpec.ofChange regsBackSpec)

/-- ITS FALSE NEIGHBOUR: 'it returns false'. Refute it at one input. -/
def regsBackWrong : ChangeSpec := { name := "regsBack", fn := fun _ => fun
  | [d1, d2] => { results := [.lit (.bool false)], args := [d1, d2] }
  | _ => none }
def RegsBackWrongFalsely : Prop := regsBackRow.holds Try.pinned (OpenSpec.ofChange regsBackWrong)

/-- 'phosphorlaw15.RegsStays': WHATEVER THE INPUT: true; the input reads as it did. -/
def regsStaysSpec : ChangeSpec := { name := "regsStays", fn := fun _ => fun
  | [d] => { results := [.lit (.bool true)], args := [d] }
  | _ => none }
def regsStaysRow : OpenClaim := { program := "ythlacommhklkkaa", sum := "174ab606f553ead07e0ed9e7b076164b1f2e47f84e200bfd84039627508ca38a", func := "phosphor/phosphorlaw15.RegsStays", spec := "regsStays", apart := false }
def RegsStaysSaid : Prop := regsStaysRow.holds Try.pinned (OpenSpec.ofChange regsStaysSpec)

/-- ITS FALSE NEIGHBOUR: 'it returns false'. Refute it at one input. -/
def regsStaysWrong : ChangeSpec := { name := "regsStays", fn := fun _ => fun
  | [d] => { results := [.lit (.bool false)], args := [d] }
  | _ => none }
def RegsStaysWrongFalsely : Prop := regsStaysRow.holds Try.pinned (OpenSpec.ofChange regsStaysWrong)

/-- 'phosphorlaw15.RegsTells': WHATEVER THE INPUT: true; the input reads as it did. -/
def regsTellsSpec : ChangeSpec := { name := "regsTells", fn := fun _ => fun
  | [d1, d2] => { results := [.lit (.bool true)], args := [d1, d2] }
  | _ => none }
def regsTellsRow : OpenClaim := { program := "ythlacommhklkkaa", sum := "174ab606f553ead07e0ed9e7b076164b1f2e47f84e200bfd84039627508ca38a", func := "phosphor/phosphorlaw15.RegsTells", spec := "regsTells", apart := false }
def RegsTellsSaid : Prop := regsTellsRow.holds Try.pinned (OpenSpec.ofChange regsTellsSpec)

/-- ITS FALSE NEIGHBOUR: 'it returns false'. Refute it at one input. -/
def regsTellsWrong : ChangeSpec := { name := "regsTells", fn := fun _ => fun
  | [d1, d2] => { results := [.lit (.bool false)], args := [d1, d2] }
  | _ => none }
def RegsTellsWrongFalsely : Prop := regsTellsRow.holds Try.pinned (OpenSpec.ofChange regsTellsWrong)

/- THE SECOND FORM. 'bulk': how many values and letters a reading holds, each counted each time it is reached (what is shared counts as often as it is met; a slice's spare places count too). A statement '..UptoSaid' is the law's where the arguments, and the package variables that the reading takes, are together of bulk at most 1048576: NARROWER than '..Said'. Prove '..Said' where nothing that the law and all that it calls make is longer than what came in: it says more and counts as full. Else prove '..UptoSaid'. A law counts once. -/
mutual
def uptoBulk {H : Type} : DataW H → Nat
  | .lit (.string bytes) => bytes.length + 1
  | .lit _ => 1
  | .nil => 1
  | .ptr d => uptoBulk d + 1
  | .slice elems spare => uptoBulkAll elems + uptoBulkAll spare + 1
  | .agg parts => uptoBulkAll parts + 1
  | .iface _ d => uptoBulk d + 1
  | .map entries => uptoBulkEntries entries + 1
  | .held _ => 1
def uptoBulkAll {H : Type} : List (DataW H) → Nat
  | [] => 0
  | d :: r => uptoBulk d + uptoBulkAll r
def uptoBulkEntries {H : Type} : List (Lit × DataW H) → Nat
  | [] => 0
  | x :: r => uptoBulkEntry x + uptoBulkEntries r
def uptoBulkEntry {H : Type} : Lit × DataW H → Nat
  | (.string bytes, d) => bytes.length + uptoBulk d + 1
  | (_, d) => uptoBulk d + 1
 end
def uptoSmall : (H : Type) → List (DataW H) → Bool := fun _ ds => decide (uptoBulkAll ds ≤ 1048576)
def OpenSpec.upto (s : _root_.Go.ChangeSpec) : _root_.Go.OpenSpec := { _root_.Go.OpenSpec.ofChange s with cond := some uptoSmall }

/-- 'phosphorlaw15.RegsMaps', WHERE WHAT IT READS IS OF BULK AT MOST 1048576: true; the input reads as it did. -/
def regsMapsUptoRow : OpenClaim := { program := "ythlacommhklkkaa", sum := "174ab606f553ead07e0ed9e7b076164b1f2e47f84e200bfd84039627508ca38a", func := "phosphor/phosphorlaw15.RegsMaps", spec := "regsMaps", apart := false, narrowed := true }
def RegsMapsUptoSaid : Prop := regsMapsUptoRow.holds Try.pinned (OpenSpec.upto regsMapsSpec)

/-- 'phosphorlaw15.RegsOther', WHERE WHAT IT READS IS OF BULK AT MOST 1048576: true; the input reads as it did. -/
def regsOtherUptoRow : OpenClaim := { program := "ythlacommhklkkaa", sum := "174ab606f553ead07e0ed9e7b076164b1f2e47f84e200bfd84039627508ca38a", func := "phosphor/phosphorlaw15.RegsOther", spec := "regsOther", apart := false, narrowed := true }
def RegsOtherUptoSaid : Prop := regsOtherUptoRow.holds Try.pinned (OpenSpec.upto regsOtherSpec)

/-- 'phosphorlaw15.RegsBack', WHERE WHAT IT READS IS OF BULK AT MOST 1048576: true; the input reads as it did. -/
def regsBackUptoRow : OpenClaim := { program := "ythlacommhklkkaa", sum := "174ab606f553ead07e0ed9e7b076164b1f2e47f84e200bfd84039627508ca38a", func := "phosphor/phosphorlaw15.RegsBack", spec := "regsBack", apart := false, narrowed := true }
def RegsBackUptoSaid : Prop := regsBackUptoRow.holds Try.pinned (OpenSpec.upto regsBackSpec)

/-- 'phosphorlaw15.RegsStays', WHERE WHAT IT READS IS OF BULK AT MOST 1048576: true; the input reads as it did. -/
def regsStaysUptoRow : OpenClaim := { program := "ythlacommhklkkaa", sum := "174ab606f553ead07e0ed9e7b076164b1f2e47f84e200bfd84039627508ca38a", func := "phosphor/phosphorlaw15.RegsStays", spec := "regsStays", apart := false, narrowed := true }
def RegsStaysUptoSaid : Prop := regsStaysUptoRow.holds Try.pinned (OpenSpec.upto regsStaysSpec)

/-- 'phosphorlaw15.RegsTells', WHERE WHAT IT READS IS OF BULK AT MOST 1048576: true; the input reads as it did. -/
def regsTellsUptoRow : OpenClaim := { program := "ythlacommhklkkaa", sum := "174ab606f553ead07e0ed9e7b076164b1f2e47f84e200bfd84039627508ca38a", func := "phosphor/phosphorlaw15.RegsTells", spec := "regsTells", apart := false, narrowed := true }
def RegsTellsUptoSaid : Prop := regsTellsUptoRow.holds Try.pinned (OpenSpec.upto regsTellsSpec)

end Rows
end Go.Proofs.Ythlacommhklkkaa
