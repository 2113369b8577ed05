/-
  No cell of these rows narrows 'for every input' (looked for: loops, veiled, ifaces, maps, wideKeys, modest, calm, conditions, laid).
  DERIVED. THE GIVEN ROWS OF THIS SEAT. 5 by the template 'for every input the law returns true; each argument reads behind the call as it read before'; 0 by the template 'total and deterministic' (their statements: YtmgafhipaeicaaaTotals.lean).
  GIVEN WITH THE SEED: the statements are not yours to turn. If you find one false, say at which input.
  Laid BY PROGRAM, IN A SANDBOX (cutbox-rows.mjs): the forced cells as the released guide's own fill.sh prints them over the translation af0ec1d749735269… (all of the seat's roots in one cut). By AI agents, Wed Nov 11 2026. No macro, syntax, notation, axiom, sorry.
-/
import Derived.Test.YtmgafhipaeicaaaChecked
import GoSem.Claim
import GoSem.ClaimJoined
import GoSem.ClaimMapViews
import Derived.JoinedTies
import Derived.KernelRfl
namespace Go.Proofs.Ytmgafhipaeicaaa
/- THE CELL 'sum', in the pinned program and in every row, IS THE sha256 OF THE DUMP (.gsa) THAT YtmgafhipaeicaaaProg.lean LOADS. Nothing in Lean hashes anything: it is a label: what it is worth is what the hold of that sum in a sandbox is worth. -/
noncomputable def Try.pinned : Pinned := { name := "ytmgafhipaeicaaa", sum := "af0ec1d7497352690a03ea44f1a72c1f63e6cc0be0108249d7a00f1a3de85bd8", checked := Try.checked }
namespace Rows
def none {H : Type} : Left H := { results := [], args := [] }

/-- 'phosphorlaw10.TimerParts': WHATEVER THE INPUT: true; the input reads as it did. -/
def timerPartsSpec : ChangeSpec := { name := "timerParts", fn := fun _ => fun
  | [d1, d2, d3] => { results := [.lit (.bool true)], args := [d1, d2, d3] }
  | _ => none }
def timerPartsRow : OpenClaim := { program := "ytmgafhipaeicaaa", sum := "af0ec1d7497352690a03ea44f1a72c1f63e6cc0be0108249d7a00f1a3de85bd8", func := "phosphor/phosphorlaw10.TimerParts", spec := "timerParts", unfollowed := true, recurses := true, apart := false }
def TimerPartsSaid : Prop := timerPartsRow.holds Try.pinned (OpenSpec.ofChange timerPartsSpec)

/-- ITS FALSE NEIGHBOUR: 'it returns false'. Refute it at one input. -/
def timerPartsWrong : ChangeSpec := { name := "timerParts", fn := fun _ => fun
  | [d1, d2, d3] => { results := [.lit (.bool false)], args := [d1, d2, d3] }
  | _ => none }
def TimerPartsWrongFalsely : Prop := timerPartsRow.holds Try.pinned (OpenSpec.ofChange timerPartsWrong)

/-- 'phosphorlaw10.TimerNext': WHATEVER THE INPUT: true; the input reads as it did. -/
def timerNextSpec : ChangeSpec := { name := "timerNext", fn := fun _ => fun
  | [d] => { results := [.lit (.bool true)], args := [d] }
  | _ => none }
def timerNextRow : OpenClaim := { program := "ytmgafhipaeicaaa", sum := "af0ec1d7497352690a03ea44f1a72c1f63e6cc0be0108249d7a00f1a3de85bd8", func := "phosphor/phosphorlaw10.TimerNext", spec := "timerNext", unfollowed := true, recurses := true, apart := false }
def TimerNextSaid : Prop := timerNextRow.holds Try.pinned (OpenSpec.ofChange timerNextSpec)

/-- ITS FALSE NEIGHBOUR: 'it returns false'. Refute it at one input. -/
def timerNextWrong : ChangeSpec := { name := "timerNext", fn := fun _ => fun
  | [d] => { results := [.lit (.bool false)], args := [d] }
  | _ => none }
def TimerNextWrongFalsely : Prop := timerNextRow.holds Try.pinned (OpenSpec.ofChange timerNextWrong)

/-- 'phosphorlaw10.TimerRate': WHATEVER THE INPUT: true; the input reads as it did. -/
def timerRateSpec : ChangeSpec := { name := "timerRate", fn := fun _ => fun
  | [d1, d2, d3] => { results := [.lit (.bool true)], args := [d1, d2, d3] }
  | _ => none }
def timerRateRow : OpenClaim := { program := "ytmgafhipaeicaaa", sum := "af0ec1d7497352690a03ea44f1a72c1f63e6cc0be0108249d7a00f1a3de85bd8", func := "phosphor/phosphorlaw10.TimerRate", spec := "timerRate", unfollowed := true, recurses := true, apart := false }
def TimerRateSaid : Prop := timerRateRow.holds Try.pinned (OpenSpec.ofChange timerRateSpec)

/-- ITS FALSE NEIGHBOUR: 'it returns false'. Refute it at one input. -/
def timerRateWrong : ChangeSpec := { name := "timerRate", fn := fun _ => fun
  | [d1, d2, d3] => { results := [.lit (.bool false)], args := [d1, d2, d3] }
  | _ => none }
def TimerRateWrongFalsely : Prop := timerRateRow.holds Try.pinned (OpenSpec.ofChange timerRateWrong)

/-- 'phosphorlaw10.TimerTells': WHATEVER THE INPUT: true; the input reads as it did. -/
def timerTellsSpec : ChangeSpec := { name := "timerTells", fn := fun _ => fun
  | [d1, d2, d3] => { results := [.lit (.bool true)], args := [d1, d2, d3] }
  | _ => none }
def timerTellsRow : OpenClaim := { program := "ytmgafhipaeicaaa", sum := "af0ec1d7497352690a03ea44f1a72c1f63e6cc0be0108249d7a00f1a3de85bd8", func := "phosphor/phosphorlaw10.TimerTells", spec := "timerTells", unfollowed := true, recurses := true, apart := false }
def TimerTellsSaid : Prop := timerTellsRow.holds Try.pinned (OpenSpec.ofChange timerTellsSpec)

/-- ITS FALSE NEIGHBOUR: 'it returns false'. Refute it at one input. -/
def timerTellsWrong : ChangeSpec := { name := "timerTells", fn := fun _ => fun
  | [d1, d2, d3] => { results := [.lit (.bool false)], args := [d1, d2, d3] }
  | _ => none }
def TimerTellsWrongFalsely : Prop := timerTellsRow.holds Try.pinned (OpenSpec.ofChange timerTellsWrong)

/-- 'phosphorlaw10.TimerWrites': WHATEVER THE INPUT: true; the input reads as it did. -/
def timerWritesSpec : ChangeSpec := { name := "timerWrites", fn := fun _ => fun
  | [d1, d2] => { results := [.lit (.bool true)], args := [d1, d2] }
  | _ => none }
def timerWritesRow : OpenClaim := { program := "ytmgafhipaeicaaa", sum := "af0ec1d7497352690a03ea44f1a72c1f63e6cc0be0108249d7a00f1a3de85bd8", func := "phosphor/phosphorlaw10.TimerWrites", spec := "timerWrites", unfollowed := true, recurses := true, apart := false }
def TimerWritesSaid : Prop := timerWritesRow.holds Try.pinned (OpenSpec.ofChange timerWritesSpec)

/-- ITS FALSE NEIGHBOUR: 'it returns false'. Refute it at one input. -/
def timerWritesWrong : ChangeSpec := { name := "timerWrites", fn := fun _ => fun
  | [d1, d2] => { results := [.lit (.bool false)], args := [d1, d2] }
  | _ => none }
def TimerWritesWrongFalsely : Prop := timerWritesRow.holds Try.pinned (OpenSpec.ofChange timerWritesWrong)

/- THE SECOND FORM. 'bulk': how many values and letters a reading holds, each counted each time it is reached (what is shared counts as often as it is met; a slice's spare places count too). A statement '..UptoSaid' is the law's where the arguments, and the package variables that the reading takes, are together of bulk at most 1048576: NARROWER than '..Said'. Prove '..Said' where nothing that the law and all that it calls make is longer than what came in: it says more and counts as full. Else prove '..UptoSaid'. A law counts once. -/
mutual
def uptoBulk {H : Type} : DataW H → Nat
  | .lit (.string bytes) => bytes.length + 1
  | .lit _ => 1
  | .nil => 1
  | .ptr d => uptoBulk d + 1
  | .slice elems spare => uptoBulkAll elems + uptoBulkAll spare + 1
  | .agg parts => uptoBulkAll parts + 1
  | .iface _ d => uptoBulk d + 1
  | .map entries => uptoBulkEntries entries + 1
  | .held _ => 1
def uptoBulkAll {H : Type} : List (DataW H) → Nat
  | [] => 0
  | d :: r => uptoBulk d + uptoBulkAll r
def uptoBulkEntries {H : Type} : List (Lit × DataW H) → Nat
  | [] => 0
  | x :: r => uptoBulkEntry x + uptoBulkEntries r
def uptoBulkEntry {H : Type} : Lit × DataW H → Nat
  | (.string bytes, d) => bytes.length + uptoBulk d + 1
  | (_, d) => uptoBulk d + 1
 end
def uptoSmall : (H : Type) → List (DataW H) → Bool := fun _ ds => decide (uptoBulkAll ds ≤ 1048576)
def OpenSpec.upto (s : _root_.Go.ChangeSpec) : _root_.Go.OpenSpec := { _root_.Go.OpenSpec.ofChange s with cond := some uptoSmall }

/-- 'phosphorlaw10.TimerParts', WHERE WHAT IT READS IS OF BULK AT MOST 1048576: true; the input reads as it did. -/
def timerPartsUptoRow : OpenClaim := { program := "ytmgafhipaeicaaa", sum := "af0ec1d7497352690a03ea44f1a72c1f63e6cc0be0108249d7a00f1a3de85bd8", func := "phosphor/phosphorlaw10.TimerParts", spec := "timerParts", unfollowed := true, recurses := true, apart := false, narrowed := true }
def TimerPartsUptoSaid : Prop := timerPartsUptoRow.holds Try.pinned (OpenSpec.upto timerPartsSpec)

/-- 'phosphorlaw10.TimerNext', WHERE WHAT IT READS IS OF BULK AT MOST 1048576: true; the input reads as it did. -/
def timerNextUptoRow : OpenClaim := { program := "ytmgafhipaeicaaa", sum := "af0ec1d7497352690a03ea44f1a72c1f63e6cc0be0108249d7a00f1a3de85bd8", func := "phosphor/phosphorlaw10.TimerNext", spec := "timerNext", unfollowed := true, recurses := true, apart := false, narrowed := true }
def TimerNextUptoSaid : Prop := timerNextUptoRow.holds Try.pinned (OpenSpec.upto timerNextSpec)

/-- 'phosphorlaw10.TimerRate', WHERE WHAT IT READS IS OF BULK AT MOST 1048576: true; the input reads as it did. -/
def timerRateUptoRow : OpenClaim := { program := "ytmgafhipaeicaaa", sum := "af0ec1d7497352690a03ea44f1a72c1f63e6cc0be0108249d7a00f1a3de85bd8", func := "phosphor/phosphorlaw10.TimerRate", spec := "timerRate", unfollowed := true, recurses := true, apart := false, narrowed := true }
def TimerRateUptoSaid : Prop := timerRateUptoRow.holds Try.pinned (OpenSpec.upto timerRateSpec)

/-- 'phosphorlaw10.TimerTells', WHERE WHAT IT READS IS OF BULK AT MOST 1048576: true; the input reads as it did. -/
def timerTellsUptoRow : OpenClaim := { program := "ytmgafhipaeicaaa", sum := "af0ec1d7497352690a03ea44f1a72c1f63e6cc0be0108249d7a00f1a3de85bd8", func := "phosphor/phosphorlaw10.TimerTells", spec := "timerTells", unfollowed := true, recurses := true, apart := false, narrowed := true }
def TimerTellsUptoSaid : Prop := timerTellsUptoRow.holds Try.pinned (OpenSpec.upto timerTellsSpec)

/-- 'phosphorlaw10.TimerWrites', WHERE WHAT IT READS IS OF BULK AT MOST 1048576: true; the input reads as it did. -/
def timerWritesUptoRow : OpenClaim := { program := "ytmgafhipaeicaaa", sum := "af0ec1d7497352690a03ea44f1a72c1f63e6cc0be0108249d7a00f1a3de85bd8", func := "phosphor/phosphorlaw10.TimerWrites", spec := "timerWrites", unfollowed := true, recurses := true, apart := false, narrowed := true }
def TimerWritesUptoSaid : Prop := timerWritesUptoRow.holds Try.pinned (OpenSpec.upto timerWritesSpec)

end Rows
end Go.Proofs.Ytmgafhipaeicaaa
