/-
  No cell of these rows narrows 'for every input' (looked for: loops, veiled, ifaces, maps, wideKeys, modest, calm, conditions, laid).
  DERIVED. THE GIVEN ROWS OF THIS SEAT. 5 by the template 'for every input the law returns true; each argument reads behind the call as it read before'; 0 by the template 'total and deterministic' (their statements: YtdinpclbfolimaaTotals.lean).
  GIVEN WITH THE SEED: the statements are not yours to turn. If you find one false, say at which input.
  Laid BY PROGRAM, IN A SANDBOX (cutbox-rows.mjs): the forced cells as the released guide's own fill.sh prints them over the translation 5b0b77cfca53d3de… (all of the seat's roots in one cut). By AI agents, Wed Nov 11 2026. No macro, syntax, notation, axiom, sorry.
-/
import Derived.Test.YtdinpclbfolimaaChecked
import GoSem.Claim
import GoSem.ClaimJoined
import GoSem.ClaimMapViews
import Derived.JoinedTies
import Derived.KernelRfl
namespace Go.Proofs.Ytdinpclbfolimaa
/- THE CELL 'sum', in the pinned program and in every row, IS THE sha256 OF THE DUMP (.gsa) THAT YtdinpclbfolimaaProg.lean LOADS. Nothing in Lean hashes anything: it is a label: what it is worth is what the hold of that sum in a sandbox is worth. -/
noncomputable def Try.pinned : Pinned := { name := "ytdinpclbfolimaa", sum := "5b0b77cfca53d3de6addf1d14f2f6192feb30397849601311df84df7f40c5650", checked := Try.checked }
namespace Rows
def none {H : Type} : Left H := { results := [], args := [] }

/-- 'phosphorlaw14.TimingNext': WHATEVER THE INPUT: true; the input reads as it did. -/
def timingNextSpec : ChangeSpec := { name := "timingNext", fn := fun _ => fun
  | [d] => { results := [.lit (.bool true)], args := [d] }
  | _ => none }
def timingNextRow : OpenClaim := { program := "ytdinpclbfolimaa", sum := "5b0b77cfca53d3de6addf1d14f2f6192feb30397849601311df84df7f40c5650", func := "phosphor/phosphorlaw14.TimingNext", spec := "timingNext", apart := false }
def TimingNextSaid : Prop := timingNextRow.holds Try.pinned (OpenSpec.ofChange timingNextSpec)

/-- ITS FALSE NEIGHBOUR: 'it returns false'. Refute it at one input. -/
def timingNextWrong : ChangeSpec := { name := "timingNext", fn := fun _ => fun
  | [d] => { results := [.lit (.bool false)], args := [d] }
  | _ => none }
def TimingNextWrongFalsely : Prop := timingNextRow.holds Try.pinned (OpenSpec.ofChange timingNextWrong)

/-- 'phosphorlaw14.TimingGrows': WHATEVER THE INPUT: true; the input reads as it did. -/
def timingGrowsSpec : ChangeSpec := { name := "timingGrows", fn := fun _ => fun
  | [d1, d2] => { results := [.lit (.bool true)], args := [d1, d2] }
  | _ => none }
def timingGrowsRow : OpenClaim := { program := "ytdinpclbfolimaa", sum := "5b0b77cfca53d3de6addf1d14f2f6192feb30397849601311df84df7f40c5650", func := "phosphor/phosphorlaw14.TimingGrows", spec := "timingGrows", unfollowed := true, recurses := true, apart := false }
def TimingGrowsSaid : Prop := timingGrowsRow.holds Try.pinned (OpenSpec.ofChange timingGrowsSpec)

/-- ITS FALSE NEIGHBOUR: 'it returns false'. Refute it at one input. -/
def timingGrowsWrong : ChangeSpec := { name := "timingGrows", fn := fun _ => fun
  | [d1, d2] => { results := [.lit (.bool false)], args := [d1, d2] }
  | _ => none }
def TimingGrowsWrongFalsely : Prop := timingGrowsRow.holds Try.pinned (OpenSpec.ofChange timingGrowsWrong)

/-- 'phosphorlaw14.TimingBounds': WHATEVER THE INPUT: true; the input reads as it did. -/
def timingBoundsSpec : ChangeSpec := { name := "timingBounds", fn := fun _ => fun
  | [d] => { results := [.lit (.bool true)], args := [d] }
  | _ => none }
def timingBoundsRow : OpenClaim := { program := "ytdinpclbfolimaa", sum := "5b0b77cfca53d3de6addf1d14f2f6192feb30397849601311df84df7f40c5650", func := "phosphor/phosphorlaw14.TimingBounds", spec := "timingBounds", unfollowed := true, recurses := true, apart := false }
def TimingBoundsSaid : Prop := timingBoundsRow.holds Try.pinned (OpenSpec.ofChange timingBoundsSpec)

/-- ITS FALSE NEIGHBOUR: 'it returns false'. Refute it at one input. -/
def timingBoundsWrong : ChangeSpec := { name := "timingBounds", fn := fun _ => fun
  | [d] => { results := [.lit (.bool false)], args := [d] }
  | _ => none }
def TimingBoundsWrongFalsely : Prop := timingBoundsRow.holds Try.pinned (OpenSpec.ofChange timingBoundsWrong)

/-- 'phosphorlaw14.TimingTells': WHATEVER THE INPUT: true; the input reads as it did. -/
def timingTellsSpec : ChangeSpec := { name := "timingTells", fn := fun _ => fun
  | [d1, d2, d3] => { results := [.lit (.bool true)], args := [d1, d2, d3] }
  | _ => none }
def timingTellsRow : OpenClaim := { program := "ytdinpclbfolimaa", sum := "5b0b77cfca53d3de6addf1d14f2f6192feb30397849601311df84df7f40c5650", func := "phosphor/phosphorlaw14.TimingTells", spec := "timingTells", unfollowed := true, recurses := true, apart := false }
def TimingTellsSaid : Prop := timingTellsRow.holds Try.pinned (OpenSpec.ofChange timingTellsSpec)

/-- ITS FALSE NEIGHBOUR: 'it returns false'. Refute it at one input. -/
def timingTellsWrong : ChangeSpec := { name := "timingTells", fn := fun _ => fun
  | [d1, d2, d3] => { results := [.lit (.bool false)], args := [d1, d2, d3] }
  | _ => none }
def TimingTellsWrongFalsely : Prop := timingTellsRow.holds Try.pinned (OpenSpec.ofChange timingTellsWrong)

/-- 'phosphorlaw14.TimingWalks': WHATEVER THE INPUT: true; the input reads as it did. -/
def timingWalksSpec : ChangeSpec := { name := "timingWalks", fn := fun _ => fun
  | [d] => { results := [.lit (.bool true)], args := [d] }
  | _ => none }
def timingWalksRow : OpenClaim := { program := "ytdinpclbfolimaa", sum := "5b0b77cfca53d3de6addf1d14f2f6192feb30397849601311df84df7f40c5650", func := "phosphor/phosphorlaw14.TimingWalks", spec := "timingWalks", unfollowed := true, recurses := true, apart := false }
def TimingWalksSaid : Prop := timingWalksRow.holds Try.pinned (OpenSpec.ofChange timingWalksSpec)

/-- ITS FALSE NEIGHBOUR: 'it returns false'. Refute it at one input. -/
def timingWalksWrong : ChangeSpec := { name := "timingWalks", fn := fun _ => fun
  | [d] => { results := [.lit (.bool false)], args := [d] }
  | _ => none }
def TimingWalksWrongFalsely : Prop := timingWalksRow.holds Try.pinned (OpenSpec.ofChange timingWalksWrong)

/- THE SECOND FORM. 'bulk': how many values and letters a reading holds, each counted each time it is reached (what is shared counts as often as it is met; a slice's spare places count too). A statement '..UptoSaid' is the law's where the arguments, and the package variables that the reading takes, are together of bulk at most 1048576: NARROWER than '..Said'. Prove '..Said' where nothing that the law and all that it calls make is longer than what came in: it says more and counts as full. Else prove '..UptoSaid'. A law counts once. -/
mutual
def uptoBulk {H : Type} : DataW H → Nat
  | .lit (.string bytes) => bytes.length + 1
  | .lit _ => 1
  | .nil => 1
  | .ptr d => uptoBulk d + 1
  | .slice elems spare => uptoBulkAll elems + uptoBulkAll spare + 1
  | .agg parts => uptoBulkAll parts + 1
  | .iface _ d => uptoBulk d + 1
  | .map entries => uptoBulkEntries entries + 1
  | .held _ => 1
def uptoBulkAll {H : Type} : List (DataW H) → Nat
  | [] => 0
  | d :: r => uptoBulk d + uptoBulkAll r
def uptoBulkEntries {H : Type} : List (Lit × DataW H) → Nat
  | [] => 0
  | x :: r => uptoBulkEntry x + uptoBulkEntries r
def uptoBulkEntry {H : Type} : Lit × DataW H → Nat
  | (.string bytes, d) => bytes.length + uptoBulk d + 1
  | (_, d) => uptoBulk d + 1
 end
def uptoSmall : (H : Type) → List (DataW H) → Bool := fun _ ds => decide (uptoBulkAll ds ≤ 1048576)
def OpenSpec.upto (s : _root_.Go.ChangeSpec) : _root_.Go.OpenSpec := { _root_.Go.OpenSpec.ofChange s with cond := some uptoSmall }

/-- 'phosphorlaw14.TimingNext', WHERE WHAT IT READS IS OF BULK AT MOST 1048576: true; the input reads as it did. -/
def timingNextUptoRow : OpenClaim := { program := "ytdinpclbfolimaa", sum := "5b0b77cfca53d3de6addf1d14f2f6192feb30397849601311df84df7f40c5650", func := "phosphor/phosphorlaw14.TimingNext", spec := "timingNext", apart := false, narrowed := true }
def TimingNextUptoSaid : Prop := timingNextUptoRow.holds Try.pinned (OpenSpec.upto timingNextSpec)

/-- 'phosphorlaw14.TimingGrows', WHERE WHAT IT READS IS OF BULK AT MOST 1048576: true; the input reads as it did. -/
def timingGrowsUptoRow : OpenClaim := { program := "ytdinpclbfolimaa", sum := "5b0b77cfca53d3de6addf1d14f2f6192feb30397849601311df84df7f40c5650", func := "phosphor/phosphorlaw14.TimingGrows", spec := "timingGrows", unfollowed := true, recurses := true, apart := false, narrowed := true }
def TimingGrowsUptoSaid : Prop := timingGrowsUptoRow.holds Try.pinned (OpenSpec.upto timingGrowsSpec)

/-- 'phosphorlaw14.TimingBounds', WHERE WHAT IT READS IS OF BULK AT MOST 1048576: true; the input reads as it did. -/
def timingBoundsUptoRow : OpenClaim := { program := "ytdinpclbfolimaa", sum := "5b0b77cfca53d3de6addf1d14f2f6192feb30397849601311df84df7f40c5650", func := "phosphor/phosphorlaw14.TimingBounds", spec := "timingBounds", unfollowed := true, recurses := true, apart := false, narrowed := true }
def TimingBoundsUptoSaid : Prop := timingBoundsUptoRow.holds Try.pinned (OpenSpec.upto timingBoundsSpec)

/-- 'phosphorlaw14.TimingTells', WHERE WHAT IT READS IS OF BULK AT MOST 1048576: true; the input reads as it did. -/
def timingTellsUptoRow : OpenClaim := { program := "ytdinpclbfolimaa", sum := "5b0b77cfca53d3de6addf1d14f2f6192feb30397849601311df84df7f40c5650", func := "phosphor/phosphorlaw14.TimingTells", spec := "timingTells", unfollowed := true, recurses := true, apart := false, narrowed := true }
def TimingTellsUptoSaid : Prop := timingTellsUptoRow.holds Try.pinned (OpenSpec.upto timingTellsSpec)

/-- 'phosphorlaw14.TimingWalks', WHERE WHAT IT READS IS OF BULK AT MOST 1048576: true; the input reads as it did. -/
def timingWalksUptoRow : OpenClaim := { program := "ytdinpclbfolimaa", sum := "5b0b77cfca53d3de6addf1d14f2f6192feb30397849601311df84df7f40c5650", func := "phosphor/phosphorlaw14.TimingWalks", spec := "timingWalks", unfollowed := true, recurses := true, apart := false, narrowed := true }
def TimingWalksUptoSaid : Prop := timingWalksUptoRow.holds Try.pinned (OpenSpec.upto timingWalksSpec)

end Rows
end Go.Proofs.Ytdinpclbfolimaa
