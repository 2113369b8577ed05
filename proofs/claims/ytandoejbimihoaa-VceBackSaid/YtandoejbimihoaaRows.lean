/-
  No cell of these rows narrows 'for every input' (looked for: loops, veiled, ifaces, maps, wideKeys, modest, calm, conditions, laid).
  DERIVED. THE GIVEN ROWS OF THIS SEAT. 4 by the template 'for every input the law returns true; each argument reads behind the call as it read before'; 0 by the template 'total and deterministic' (their statements: YtandoejbimihoaaTotals.lean).
  GIVEN WITH THE SEED: the statements are not yours to turn. If you find one false, say at which input.
  Laid BY PROGRAM, IN A SANDBOX (cutbox-rows.mjs): the forced cells as the released guide's own fill.sh prints them over the translation 27944b724b27b805… (all of the seat's roots in one cut). By AI agents, Wed Nov 11 2026. No macro, syntax, notation, axiom, sorry.
-/
import Derived.Test.YtandoejbimihoaaChecked
import GoSem.Claim
import GoSem.ClaimJoined
import GoSem.ClaimMapViews
import Derived.JoinedTies
import Derived.KernelRfl
namespace Go.Proofs.Ytandoejbimihoaa
/- THE CELL 'sum', in the pinned program and in every row, IS THE sha256 OF THE DUMP (.gsa) THAT YtandoejbimihoaaProg.lean LOADS. Nothing in Lean hashes anything: it is a label: what it is worth is what the hold of that sum in a sandbox is worth. -/
noncomputable def Try.pinned : Pinned := { name := "ytandoejbimihoaa", sum := "27944b724b27b8058a248b7bed158e02f2c99616daff39650bd6c0512c67507b", checked := Try.checked }
namespace Rows
def none {H : Type} : Left H := { results := [], args := [] }

/-- 'phosphorlaw12.VceGrey': WHATEVER THE INPUT: true; the input reads as it did. -/
def vceGreySpec : ChangeSpec := { name := "vceGrey", fn := fun _ => fun
  | [d1, d2] => { results := [.lit (.bool true)], args := [d1, d2] }
  | _ => none }
def vceGreyRow : OpenClaim := { program := "ytandoejbimihoaa", sum := "27944b724b27b8058a248b7bed158e02f2c99616daff39650bd6c0512c67507b", func := "phosphor/phosphorlaw12.VceGrey", spec := "vceGrey", apart := false }
def VceGreySaid : Prop := vceGreyRow.holds Try.pinned (OpenSpec.ofChange vceGreySpec)

/-- ITS FALSE NEIGHBOUR: 'it returns false'. Refute it at one input. -/
def vceGreyWrong : ChangeSpec := { name := "vceGrey", fn := fun _ => fun
  | [d1, d2] => { results := [.lit (.bool false)], args := [d1, d2] }
  | _ => none }
def VceGreyWrongFalsely : Prop := vceGreyRow.holds Try.pinned (OpenSpec.ofChange vceGreyWrong)

/-- 'phosphorlaw12.VceOthers': WHATEVER THE INPUT: true; the input reads as it did. -/
def vceOthersSpec : ChangeSpec := { name := "vceOthers", fn := fun _ => fun
  | [d1, d2, d3] => { results := [.lit (.bool true)], args := [d1, d2, d3] }
  | _ => none }
def vceOthersRow : OpenClaim := { program := "ytandoejbimihoaa", sum := "27944b724b27b8058a248b7bed158e02f2c99616daff39650bd6c0512c67507b", func := "phosphor/phosphorlaw12.VceOthers", spec := "vceOthers", apart := false }
def VceOthersSaid : Prop := vceOthersRow.holds Try.pinned (OpenSpec.ofChange vceOthersSpec)

/-- ITS FALSE NEIGHBOUR: 'it returns false'. Refute it at one input. -/
def vceOthersWrong : ChangeSpec := { name := "vceOthers", fn := fun _ => fun
  | [d1, d2, d3] => { results := [.lit (.bool false)], args := [d1, d2, d3] }
  | _ => none }
def VceOthersWrongFalsely : Prop := vceOthersRow.holds Try.pinned (OpenSpec.ofChange vceOthersWrong)

/-- 'phosphorlaw12.VceControls': WHATEVER THE INPUT: true; the input reads as it did. -/
def vceControlsSpec : ChangeSpec := { name := "vceControls", fn := fun _ => fun
  | [d1, d2, d3] => { results := [.lit (.bool true)], args := [d1, d2, d3] }
  | _ => none }
def vceControlsRow : OpenClaim := { program := "ytandoejbimihoaa", sum := "27944b724b27b8058a248b7bed158e02f2c99616daff39650bd6c0512c67507b", func := "phosphor/phosphorlaw12.VceControls", spec := "vceControls", apart := false }
def VceControlsSaid : Prop := vceControlsRow.holds Try.pinned (OpenSpec.ofChange vceControlsSpec)

/-- ITS FALSE NEIGHBOUR: 'it returns false'. Refute it at one input. -/
def vceControlsWrong : ChangeSpec := { name := "vceControls", fn := fun _ => fun
  | [d1, d2, d3] => { results := [.lit (.bool false)], args := [d1, d2, d3] }
  | _ => none }
def VceControlsWrongFalsely : Prop := vceControlsRow.holds Try.pinned (OpenSpec.ofChange vceControlsWrong)

/-- 'phosphorlaw12.VceBack': WHATEVER THE INPUT: true; the input reads as it did. -/
def vceBackSpec : ChangeSpec := { name := "vceBack", fn := fun _ => fun
  | [d1, d2] => { results := [.lit (.bool true)], args := [d1, d2] }
  | _ => none }
def vceBackRow : OpenClaim := { program := "ytandoejbimihoaa", sum := "27944b724b27b8058a248b7bed158e02f2c99616daff39650bd6c0512c67507b", func := "phosphor/phosphorlaw12.VceBack", spec := "vceBack", apart := false }
def VceBackSaid : Prop := vceBackRow.holds Try.pinned (OpenSpec.ofChange vceBackSpec)

/-- ITS FALSE NEIGHBOUR: 'it returns false'. Refute it at one input. -/
def vceBackWrong : ChangeSpec := { name := "vceBack", fn := fun _ => fun
  | [d1, d2] => { results := [.lit (.bool false)], args := [d1, d2] }
  | _ => none }
def VceBackWrongFalsely : Prop := vceBackRow.holds Try.pinned (OpenSpec.ofChange vceBackWrong)

/- THE SECOND FORM. 'bulk': how many values and letters a reading holds, each counted each time it is reached (what is shared counts as often as it is met; a slice's spare places count too). A statement '..UptoSaid' is the law's where the arguments, and the package variables that the reading takes, are together of bulk at most 1048576: NARROWER than '..Said'. Prove '..Said' where nothing that the law and all that it calls make is longer than what came in: it says more and counts as full. Else prove '..UptoSaid'. A law counts once. -/
mutual
def uptoBulk {H : Type} : DataW H → Nat
  | .lit (.string bytes) => bytes.length + 1
  | .lit _ => 1
  | .nil => 1
  | .ptr d => uptoBulk d + 1
  | .slice elems spare => uptoBulkAll elems + uptoBulkAll spare + 1
  | .agg parts => uptoBulkAll parts + 1
  | .iface _ d => uptoBulk d + 1
  | .map entries => uptoBulkEntries entries + 1
  | .held _ => 1
def uptoBulkAll {H : Type} : List (DataW H) → Nat
  | [] => 0
  | d :: r => uptoBulk d + uptoBulkAll r
def uptoBulkEntries {H : Type} : List (Lit × DataW H) → Nat
  | [] => 0
  | x :: r => uptoBulkEntry x + uptoBulkEntries r
def uptoBulkEntry {H : Type} : Lit × DataW H → Nat
  | (.string bytes, d) => bytes.length + uptoBulk d + 1
  | (_, d) => uptoBulk d + 1
 end
def uptoSmall : (H : Type) → List (DataW H) → Bool := fun _ ds => decide (uptoBulkAll ds ≤ 1048576)
def OpenSpec.upto (s : _root_.Go.ChangeSpec) : _root_.Go.OpenSpec := { _root_.Go.OpenSpec.ofChange s with cond := some uptoSmall }

/-- 'phosphorlaw12.VceGrey', WHERE WHAT IT READS IS OF BULK AT MOST 1048576: true; the input reads as it did. -/
def vceGreyUptoRow : OpenClaim := { program := "ytandoejbimihoaa", sum := "27944b724b27b8058a248b7bed158e02f2c99616daff39650bd6c0512c67507b", func := "phosphor/phosphorlaw12.VceGrey", spec := "vceGrey", apart := false, narrowed := true }
def VceGreyUptoSaid : Prop := vceGreyUptoRow.holds Try.pinned (OpenSpec.upto vceGreySpec)

/-- 'phosphorlaw12.VceOthers', WHERE WHAT IT READS IS OF BULK AT MOST 1048576: true; the input reads as it did. -/
def vceOthersUptoRow : OpenClaim := { program := "ytandoejbimihoaa", sum := "27944b724b27b8058a248b7bed158e02f2c99616daff39650bd6c0512c67507b", func := "phosphor/phosphorlaw12.VceOthers", spec := "vceOthers", apart := false, narrowed := true }
def VceOthersUptoSaid : Prop := vceOthersUptoRow.holds Try.pinned (OpenSpec.upto vceOthersSpec)

/-- 'phosphorlaw12.VceControls', WHERE WHAT IT READS IS OF BULK AT MOST 1048576: true; the input reads as it did. -/
def vceControlsUptoRow : OpenClaim := { program := "ytandoejbimihoaa", sum := "27944b724b27b8058a248b7bed158e02f2c99616daff39650bd6c0512c67507b", func := "phosphor/phosphorlaw12.VceControls", spec := "vceControls", apart := false, narrowed := true }
def VceControlsUptoSaid : Prop := vceControlsUptoRow.holds Try.pinned (OpenSpec.upto vceControlsSpec)

/-- 'phosphorlaw12.VceBack', WHERE WHAT IT READS IS OF BULK AT MOST 1048576: true; the input reads as it did. -/
def vceBackUptoRow : OpenClaim := { program := "ytandoejbimihoaa", sum := "27944b724b27b8058a248b7bed158e02f2c99616daff39650bd6c0512c67507b", func := "phosphor/phosphorlaw12.VceBack", spec := "vceBack", apart := false, narrowed := true }
def VceBackUptoSaid : Prop := vceBackUptoRow.holds Try.pinned (OpenSpec.upto vceBackSpec)

end Rows
end Go.Proofs.Ytandoejbimihoaa
