/-
  No cell of these rows narrows 'for every input' (looked for: loops, veiled, ifaces, maps, wideKeys, modest, calm, conditions, laid).
  DERIVED. THE GIVEN ROWS OF THIS SEAT. 4 by the template 'for every input the law returns true; each argument reads behind the call as it read before'; 0 by the template 'total and deterministic' (their statements: YthgcagnfjldlfaaTotals.lean).
  GIVEN WITH THE SEED: the statements are not yours to turn. If you find one false, say at which input.
  Laid BY PROGRAM, IN A SANDBOX (cutbox-rows.mjs): the forced cells as the released guide's own fill.sh prints them over the translation f9c284e5e0bbd897… (all of the seat's roots in one cut). By AI agents, Wed Nov 11 2026. No macro, syntax, notation, axiom, sorry.
-/
import Derived.Test.YthgcagnfjldlfaaChecked
import GoSem.Claim
import GoSem.ClaimJoined
import GoSem.ClaimMapViews
import Derived.JoinedTies
import Derived.KernelRfl
namespace Go.Proofs.Ythgcagnfjldlfaa
/- THE CELL 'sum', in the pinned program and in every row, IS THE sha256 OF THE DUMP (.gsa) THAT YthgcagnfjldlfaaProg.lean LOADS. Nothing in Lean hashes anything: it is a label: what it is worth is what the hold of that sum in a sandbox is worth. -/
noncomputable def Try.pinned : Pinned := { name := "ythgcagnfjldlfaa", sum := "f9c284e5e0bbd8972c4a375bab2d1e8343bc203745661a4e07e61ff13f395c40", checked := Try.checked }
namespace Rows
def none {H : Type} : Left H := { results := [], args := [] }

/-- 'phosphorlaw05.MprSides': WHATEVER THE INPUT: true; the input reads as it did. -/
def mprSidesSpec : ChangeSpec := { name := "mprSides", fn := fun _ => fun
  | [d1, d2] => { results := [.lit (.bool true)], args := [d1, d2] }
  | _ => none }
def mprSidesRow : OpenClaim := { program := "ythgcagnfjldlfaa", sum := "f9c284e5e0bbd8972c4a375bab2d1e8343bc203745661a4e07e61ff13f395c40", func := "phosphor/phosphorlaw05.MprSides", spec := "mprSides", apart := false }
def MprSidesSaid : Prop := mprSidesRow.holds Try.pinned (OpenSpec.ofChange mprSidesSpec)

/-- ITS FALSE NEIGHBOUR: 'it returns false'. Refute it at one input. -/
def mprSidesWrong : ChangeSpec := { name := "mprSides", fn := fun _ => fun
  | [d1, d2] => { results := [.lit (.bool false)], args := [d1, d2] }
  | _ => none }
def MprSidesWrongFalsely : Prop := mprSidesRow.holds Try.pinned (OpenSpec.ofChange mprSidesWrong)

/-- 'phosphorlaw05.MprBack': WHATEVER THE INPUT: true; the input reads as it did. -/
def mprBackSpec : ChangeSpec := { name := "mprBack", fn := fun _ => fun
  | [d1, d2, d3] => { results := [.lit (.bool true)], args := [d1, d2, d3] }
  | _ => none }
def mprBackRow : OpenClaim := { program := "ythgcagnfjldlfaa", sum := "f9c284e5e0bbd8972c4a375bab2d1e8343bc203745661a4e07e61ff13f395c40", func := "phosphor/phosphorlaw05.MprBack", spec := "mprBack", apart := false }
def MprBackSaid : Prop := mprBackRow.holds Try.pinned (OpenSpec.ofChange mprBackSpec)

/-- ITS FALSE NEIGHBOUR: 'it returns false'. Refute it at one input. -/
def mprBackWrong : ChangeSpec := { name := "mprBack", fn := fun _ => fun
  | [d1, d2, d3] => { results := [.lit (.bool false)], args := [d1, d2, d3] }
  | _ => none }
def MprBackWrongFalsely : Prop := mprBackRow.holds Try.pinned (OpenSpec.ofChange mprBackWrong)

/-- 'phosphorlaw05.MprEach': WHATEVER THE INPUT: true; the input reads as it did. -/
def mprEachSpec : ChangeSpec := { name := "mprEach", fn := fun _ => fun
  | [d1, d2, d3] => { results := [.lit (.bool true)], args := [d1, d2, d3] }
  | _ => none }
def mprEachRow : OpenClaim := { program := "ythgcagnfjldlfaa", sum := "f9c284e5e0bbd8972c4a375bab2d1e8343bc203745661a4e07e61ff13f395c40", func := "phosphor/phosphorlaw05.MprEach", spec := "mprEach", apart := false }
def MprEachSaid : Prop := mprEachRow.holds Try.pinned (OpenSpec.ofChange mprEachSpec)

/-- ITS FALSE NEIGHBOUR: 'it returns false'. Refute it at one input. -/
def mprEachWrong : ChangeSpec := { name := "mprEach", fn := fun _ => fun
  | [d1, d2, d3] => { results := [.lit (.bool false)], args := [d1, d2, d3] }
  | _ => none }
def MprEachWrongFalsely : Prop := mprEachRow.holds Try.pinned (OpenSpec.ofChange mprEachWrong)

/-- 'phosphorlaw05.MprTells': WHATEVER THE INPUT: true; the input reads as it did. -/
def mprTellsSpec : ChangeSpec := { name := "mprTells", fn := fun _ => fun
  | [d1, d2, d3] => { results := [.lit (.bool true)], args := [d1, d2, d3] }
  | _ => none }
def mprTellsRow : OpenClaim := { program := "ythgcagnfjldlfaa", sum := "f9c284e5e0bbd8972c4a375bab2d1e8343bc203745661a4e07e61ff13f395c40", func := "phosphor/phosphorlaw05.MprTells", spec := "mprTells", apart := false }
def MprTellsSaid : Prop := mprTellsRow.holds Try.pinned (OpenSpec.ofChange mprTellsSpec)

/-- ITS FALSE NEIGHBOUR: 'it returns false'. Refute it at one input. -/
def mprTellsWrong : ChangeSpec := { name := "mprTells", fn := fun _ => fun
  | [d1, d2, d3] => { results := [.lit (.bool false)], args := [d1, d2, d3] }
  | _ => none }
def MprTellsWrongFalsely : Prop := mprTellsRow.holds Try.pinned (OpenSpec.ofChange mprTellsWrong)

/- THE SECOND FORM. 'bulk': how many values and letters a reading holds, each counted each time it is reached (what is shared counts as often as it is met; a slice's spare places count too). A statement '..UptoSaid' is the law's where the arguments, and the package variables that the reading takes, are together of bulk at most 1048576: NARROWER than '..Said'. Prove '..Said' where nothing that the law and all that it calls make is longer than what came in: it says more and counts as full. Else prove '..UptoSaid'. A law counts once. -/
mutual
def uptoBulk {H : Type} : DataW H → Nat
  | .lit (.string bytes) => bytes.length + 1
  | .lit _ => 1
  | .nil => 1
  | .ptr d => uptoBulk d + 1
  | .slice elems spare => uptoBulkAll elems + uptoBulkAll spare + 1
  | .agg parts => uptoBulkAll parts + 1
  | .iface _ d => uptoBulk d + 1
  | .map entries => uptoBulkEntries entries + 1
  | .held _ => 1
def uptoBulkAll {H : Type} : List (DataW H) → Nat
  | [] => 0
  | d :: r => uptoBulk d + uptoBulkAll r
def uptoBulkEntries {H : Type} : List (Lit × DataW H) → Nat
  | [] => 0
  | x :: r => uptoBulkEntry x + uptoBulkEntries r
def uptoBulkEntry {H : Type} : Lit × DataW H → Nat
  | (.string bytes, d) => bytes.length + uptoBulk d + 1
  | (_, d) => uptoBulk d + 1
 end
def uptoSmall : (H : Type) → List (DataW H) → Bool := fun _ ds => decide (uptoBulkAll ds ≤ 1048576)
def OpenSpec.upto (s : _root_.Go.ChangeSpec) : _root_.Go.OpenSpec := { _root_.Go.OpenSpec.ofChange s with cond := some uptoSmall }

/-- 'phosphorlaw05.MprSides', WHERE WHAT IT READS IS OF BULK AT MOST 1048576: true; the input reads as it did. -/
def mprSidesUptoRow : OpenClaim := { program := "ythgcagnfjldlfaa", sum := "f9c284e5e0bbd8972c4a375bab2d1e8343bc203745661a4e07e61ff13f395c40", func := "phosphor/phosphorlaw05.MprSides", spec := "mprSides", apart := false, narrowed := true }
def MprSidesUptoSaid : Prop := mprSidesUptoRow.holds Try.pinned (OpenSpec.upto mprSidesSpec)

/-- 'phosphorlaw05.MprBack', WHERE WHAT IT READS IS OF BULK AT MOST 1048576: true; the input reads as it did. -/
def mprBackUptoRow : OpenClaim := { program := "ythgcagnfjldlfaa", sum := "f9c284e5e0bbd8972c4a375bab2d1e8343bc203745661a4e07e61ff13f395c40", func := "phosphor/phosphorlaw05.MprBack", spec := "mprBack", apart := false, narrowed := true }
def MprBackUptoSaid : Prop := mprBackUptoRow.holds Try.pinned (OpenSpec.upto mprBackSpec)

/-- 'phosphorlaw05.MprEach', WHERE WHAT IT READS IS OF BULK AT MOST 1048576: true; the input reads as it did. -/
def mprEachUptoRow : OpenClaim := { program := "ythgcagnfjldlfaa", sum := "f9c284e5e0bbd8972c4a375bab2d1e8343bc203745661a4e07e61ff13f395c40", func := "phosphor/phosphorlaw05.MprEach", spec := "mprEach", apart := false, narrowed := true }
def MprEachUptoSaid : Prop := mprEachUptoRow.holds Try.pinned (OpenSpec.upto mprEachSpec)

/-- 'phosphorlaw05.MprTells', WHERE WHAT IT READS IS OF BULK AT MOST 1048576: true; the input reads as it did. -/
def mprTellsUptoRow : OpenClaim := { program := "ythgcagnfjldlfaa", sum := "f9c284e5e0bbd8972c4a375bab2d1e8343bc203745661a4e07e61ff13f395c40", func := "phosphor/phosphorlaw05.MprTells", spec := "mprTells", apart := false, narrowed := true }
def MprTellsUptoSaid : Prop := mprTellsUptoRow.holds Try.pinned (OpenSpec.upto mprTellsSpec)

end Rows
end Go.Proofs.Ythgcagnfjldlfaa
