/-
  No cell of these rows narrows 'for every input' (looked for: loops, veiled, ifaces, maps, wideKeys, modest, calm, conditions, laid).
  DERIVED. THE GIVEN ROWS OF THIS SEAT. 4 by the template 'for every input the law returns true; each argument reads behind the call as it read before'; 0 by the template 'total and deterministic' (their statements: YtmbfcbjnidgieaaTotals.lean).
  GIVEN WITH THE SEED: the statements are not yours to turn. If you find one false, say at which input.
  Laid BY PROGRAM, IN A SANDBOX (cutbox-rows.mjs): the forced cells as the released guide's own fill.sh prints them over the translation 0148b93350b0def0… (all of the seat's roots in one cut). By AI agents, Wed Nov 11 2026. No macro, syntax, notation, axiom, sorry.
-/
import Derived.Test.YtmbfcbjnidgieaaChecked
import GoSem.Claim
import GoSem.ClaimJoined
import GoSem.ClaimMapViews
import Derived.JoinedTies
import Derived.KernelRfl
namespace Go.Proofs.Ytmbfcbjnidgieaa
/- THE CELL 'sum', in the pinned program and in every row, IS THE sha256 OF THE DUMP (.gsa) THAT YtmbfcbjnidgieaaProg.lean LOADS. Nothing in Lean hashes anything: it is a label: what it is worth is what the hold of that sum in a sandbox is worth. -/
noncomputable def Try.pinned : Pinned := { name := "ytmbfcbjnidgieaa", sum := "0148b93350b0def0242eac7510f5eeb25fcafacdd8f896ca22335f447e3e255f", checked := Try.checked }
namespace Rows
def none {H : Type} : Left H := { results := [], args := [] }

/-- 'phosphorlaw08.ModeMoves': WHATEVER THE INPUT: true; the input reads as it did. -/
def modeMovesSpec : ChangeSpec := { name := "modeMoves", fn := fun _ => fun
  | [d1, d2] => { results := [.lit (.bool true)], args := [d1, d2] }
  | _ => none }
def modeMovesRow : OpenClaim := { program := "ytmbfcbjnidgieaa", sum := "0148b93350b0def0242eac7510f5eeb25fcafacdd8f896ca22335f447e3e255f", func := "phosphor/phosphorlaw08.ModeMoves", spec := "modeMoves", unfollowed := true, recurses := true, apart := false }
def ModeMovesSaid : Prop := modeMovesRow.holds Try.pinned (OpenSpec.ofChange modeMovesSpec)

/-- ITS FALSE NEIGHBOUR: 'it returns false'. Refute it at one input. -/
def modeMovesWrong : ChangeSpec := { name := "modeMoves", fn := fun _ => fun
  | [d1, d2] => { results := [.lit (.bool false)], args := [d1, d2] }
  | _ => none }
def ModeMovesWrongFalsely : Prop := modeMovesRow.holds Try.pinned (OpenSpec.ofChange modeMovesWrong)

/-- 'phosphorlaw08.ModeStays': WHATEVER THE INPUT: true; the input reads as it did. -/
def modeStaysSpec : ChangeSpec := { name := "modeStays", fn := fun _ => fun
  | [d1, d2, d3] => { results := [.lit (.bool true)], args := [d1, d2, d3] }
  | _ => none }
def modeStaysRow : OpenClaim := { program := "ytmbfcbjnidgieaa", sum := "0148b93350b0def0242eac7510f5eeb25fcafacdd8f896ca22335f447e3e255f", func := "phosphor/phosphorlaw08.ModeStays", spec := "modeStays", unfollowed := true, recurses := true, apart := false }
def ModeStaysSaid : Prop := modeStaysRow.holds Try.pinned (OpenSpec.ofChange modeStaysSpec)

/-- ITS FALSE NEIGHBOUR: 'it returns false'. Refute it at one input. -/
def modeStaysWrong : ChangeSpec := { name := "modeStays", fn := fun _ => fun
  | [d1, d2, d3] => { results := [.lit (.bool false)], args := [d1, d2, d3] }
  | _ => none }
def ModeStaysWrongFalsely : Prop := modeStaysRow.holds Try.pinned (OpenSpec.ofChange modeStaysWrong)

/-- 'phosphorlaw08.ModeNone': WHATEVER THE INPUT: true; the input reads as it did. -/
def modeNoneSpec : ChangeSpec := { name := "modeNone", fn := fun _ => fun
  | [d1, d2, d3] => { results := [.lit (.bool true)], args := [d1, d2, d3] }
  | _ => none }
def modeNoneRow : OpenClaim := { program := "ytmbfcbjnidgieaa", sum := "0148b93350b0def0242eac7510f5eeb25fcafacdd8f896ca22335f447e3e255f", func := "phosphor/phosphorlaw08.ModeNone", spec := "modeNone", unfollowed := true, recurses := true, apart := false }
def ModeNoneSaid : Prop := modeNoneRow.holds Try.pinned (OpenSpec.ofChange modeNoneSpec)

/-- ITS FALSE NEIGHBOUR: 'it returns false'. Refute it at one input. -/
def modeNoneWrong : ChangeSpec := { name := "modeNone", fn := fun _ => fun
  | [d1, d2, d3] => { results := [.lit (.bool false)], args := [d1, d2, d3] }
  | _ => none }
def ModeNoneWrongFalsely : Prop := modeNoneRow.holds Try.pinned (OpenSpec.ofChange modeNoneWrong)

/-- 'phosphorlaw08.ModeTells': WHATEVER THE INPUT: true; the input reads as it did. -/
def modeTellsSpec : ChangeSpec := { name := "modeTells", fn := fun _ => fun
  | [d1, d2, d3] => { results := [.lit (.bool true)], args := [d1, d2, d3] }
  | _ => none }
def modeTellsRow : OpenClaim := { program := "ytmbfcbjnidgieaa", sum := "0148b93350b0def0242eac7510f5eeb25fcafacdd8f896ca22335f447e3e255f", func := "phosphor/phosphorlaw08.ModeTells", spec := "modeTells", unfollowed := true, recurses := true, apart := false }
def ModeTellsSaid : Prop := modeTellsRow.holds Try.pinned (OpenSpec.ofChange modeTellsSpec)

/-- ITS FALSE NEIGHBOUR: 'it returns false'. Refute it at one input. -/
def modeTellsWrong : ChangeSpec := { name := "modeTells", fn := fun _ => fun
  | [d1, d2, d3] => { results := [.lit (.bool false)], args := [d1, d2, d3] }
  | _ => none }
def ModeTellsWrongFalsely : Prop := modeTellsRow.holds Try.pinned (OpenSpec.ofChange modeTellsWrong)

/- THE SECOND FORM. 'bulk': how many values and letters a reading holds, each counted each time it is reached (what is shared counts as often as it is met; a slice's spare places count too). A statement '..UptoSaid' is the law's where the arguments, and the package variables that the reading takes, are together of bulk at most 1048576: NARROWER than '..Said'. Prove '..Said' where nothing that the law and all that it calls make is longer than what came in: it says more and counts as full. Else prove '..UptoSaid'. A law counts once. -/
mutual
def uptoBulk {H : Type} : DataW H → Nat
  | .lit (.string bytes) => bytes.length + 1
  | .lit _ => 1
  | .nil => 1
  | .ptr d => uptoBulk d + 1
  | .slice elems spare => uptoBulkAll elems + uptoBulkAll spare + 1
  | .agg parts => uptoBulkAll parts + 1
  | .iface _ d => uptoBulk d + 1
  | .map entries => uptoBulkEntries entries + 1
  | .held _ => 1
def uptoBulkAll {H : Type} : List (DataW H) → Nat
  | [] => 0
  | d :: r => uptoBulk d + uptoBulkAll r
def uptoBulkEntries {H : Type} : List (Lit × DataW H) → Nat
  | [] => 0
  | x :: r => uptoBulkEntry x + uptoBulkEntries r
def uptoBulkEntry {H : Type} : Lit × DataW H → Nat
  | (.string bytes, d) => bytes.length + uptoBulk d + 1
  | (_, d) => uptoBulk d + 1
 end
def uptoSmall : (H : Type) → List (DataW H) → Bool := fun _ ds => decide (uptoBulkAll ds ≤ 1048576)
def OpenSpec.upto (s : _root_.Go.ChangeSpec) : _root_.Go.OpenSpec := { _root_.Go.OpenSpec.ofChange s with cond := some uptoSmall }

/-- 'phosphorlaw08.ModeMoves', WHERE WHAT IT READS IS OF BULK AT MOST 1048576: true; the input reads as it did. -/
def modeMovesUptoRow : OpenClaim := { program := "ytmbfcbjnidgieaa", sum := "0148b93350b0def0242eac7510f5eeb25fcafacdd8f896ca22335f447e3e255f", func := "phosphor/phosphorlaw08.ModeMoves", spec := "modeMoves", unfollowed := true, recurses := true, apart := false, narrowed := true }
def ModeMovesUptoSaid : Prop := modeMovesUptoRow.holds Try.pinned (OpenSpec.upto modeMovesSpec)

/-- 'phosphorlaw08.ModeStays', WHERE WHAT IT READS IS OF BULK AT MOST 1048576: true; the input reads as it did. -/
def modeStaysUptoRow : OpenClaim := { program := "ytmbfcbjnidgieaa", sum := "0148b93350b0def0242eac7510f5eeb25fcafacdd8f896ca22335f447e3e255f", func := "phosphor/phosphorlaw08.ModeStays", spec := "modeStays", unfollowed := true, recurses := true, apart := false, narrowed := true }
def ModeStaysUptoSaid : Prop := modeStaysUptoRow.holds Try.pinned (OpenSpec.upto modeStaysSpec)

/-- 'phosphorlaw08.ModeNone', WHERE WHAT IT READS IS OF BULK AT MOST 1048576: true; the input reads as it did. -/
def modeNoneUptoRow : OpenClaim := { program := "ytmbfcbjnidgieaa", sum := "0148b93350b0def0242eac7510f5eeb25fcafacdd8f896ca22335f447e3e255f", func := "phosphor/phosphorlaw08.ModeNone", spec := "modeNone", unfollowed := true, recurses := true, apart := false, narrowed := true }
def ModeNoneUptoSaid : Prop := modeNoneUptoRow.holds Try.pinned (OpenSpec.upto modeNoneSpec)

/-- 'phosphorlaw08.ModeTells', WHERE WHAT IT READS IS OF BULK AT MOST 1048576: true; the input reads as it did. -/
def modeTellsUptoRow : OpenClaim := { program := "ytmbfcbjnidgieaa", sum := "0148b93350b0def0242eac7510f5eeb25fcafacdd8f896ca22335f447e3e255f", func := "phosphor/phosphorlaw08.ModeTells", spec := "modeTells", unfollowed := true, recurses := true, apart := false, narrowed := true }
def ModeTellsUptoSaid : Prop := modeTellsUptoRow.holds Try.pinned (OpenSpec.upto modeTellsSpec)

end Rows
end Go.Proofs.Ytmbfcbjnidgieaa
