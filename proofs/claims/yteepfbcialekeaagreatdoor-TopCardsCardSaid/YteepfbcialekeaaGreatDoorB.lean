/- Contracts of the package banks. -/
import Derived.Test.YteepfbcialekeaaGreatDoorA
import Derived.BigQuiet
import Derived.Deep.QuietTactic
namespace Go.Proofs.YteepfbcialekeaaGreatDoor
set_option linter.unusedSimpArgs false
set_option linter.unusedVariables false
open Go.RowKit
open RV
attribute [local go_sem] BM.and3
theorem two_any (a b c x y z : Int) (w : World) : Calls Tryz.prog 45 #[.agg #[.int .i64 a, .int .i64 b, .int .i64 c], .agg #[.int .i64 x, .int .i64 y, .int .i64 z]] w fun e w' => ∃ g, e = .returned (.slice (some ⟨g, 0, none⟩) 2 2) ∧ Up w w' ∧ w'.heap[g]? = some (.cells #[.int .i64 x, .int .i64 y, .int .i64 z, .int .i64 a, .int .i64 b, .int .i64 c] 92 (0, 0)) := by
  go_enter Tryz.func45, Tryz.ntmps45
  go_wp2_with fail
  go_ret
  exact ⟨_, rfl, (((Up.refl w).alloc _).alloc _).alloc _, by (repeat (first | assumption | (exact setRow_heap _ _ _ _ _ _ (by assumption)) | (refine heap_at _ _ _ ?_; (first | rfl | (simp; done) | (simp <;> omega) | omega); done) | refine heap_drew' _ _ _ ?_ | (apply heap_past; (case hn => (first | rfl | (simp; done) | (simp <;> omega) | omega)))))⟩
/-- Some pages of the bus, from one on, that show some of the card. -/
def vPieces (pages kind latch : Int) : List (Int × Int × Int) :=
  if kind = 1 then [(64, pages * 2 / 3, pages - pages * 2 / 3), (0, 0, pages * 2 / 3)] else if kind = 2 then [(64, 64 + 64 * (latch % 4), 64), (0, 0, 64)] else [(0, 0, pages)]
def vCells (l : List (Int × Int × Int)) : Array Value := (l.flatMap fun x => [Value.int .i64 x.1, .int .i64 x.2.1, .int .i64 x.2.2]).toArray
theorem pieces_any (pages kind latch : Int) (h0 : 0 ≤ pages) (h1 : pages ≤ 320) (w : World) : Calls Tryz.prog 24 #[.int .i64 pages, .int .i64 kind, .int .i64 latch] w fun e w' => ∃ g, e = .returned (.slice (some ⟨g, 0, none⟩) (vPieces pages kind latch).length (vPieces pages kind latch).length) ∧ Up w w' ∧ w'.heap[g]? = some (.cells (vCells (vPieces pages kind latch)) 92 (0, 0)) := by
  have hd : (pages * 2).tdiv 3 = pages * 2 / 3 := Int.tdiv_eq_ediv_of_nonneg (by omega)
  have l0 : 0 ≤ pages * 2 / 3 := by omega
  have l1 : pages * 2 / 3 ≤ 320 := by omega
  have a0 : 0 ≤ latch % 4 := by omega
  have a1 : latch % 4 ≤ 3 := by omega
  by_cases k1 : kind = 1
  · subst k1
    rw [show vPieces pages 1 latch = [(64, pages * 2 / 3, pages - pages * 2 / 3), (0, 0, pages * 2 / 3)] from if_pos rfl]
    go_enter Tryz.func24, Tryz.ntmps24
    go_wp2_with (go_at_call 45; refine (two_any _ _ _ _ _ _ _).mono ?_; rintro e w' ⟨g, rfl, hU, hg⟩)
    go_ret
    exact ⟨g, rfl, hU, hg⟩
  · by_cases k2 : kind = 2
    · subst k2
      rw [show vPieces pages 2 latch = [(64, 64 + 64 * (latch % 4), 64), (0, 0, 64)] from rfl]
      go_enter Tryz.func24, Tryz.ntmps24
      go_wp2_with (go_at_call 45; refine (two_any _ _ _ _ _ _ _).mono ?_; rintro e w' ⟨g, rfl, hU, hg⟩)
      go_ret
      exact ⟨g, rfl, hU, hg⟩
    · rw [show vPieces pages kind latch = [(0, 0, pages)] by unfold vPieces; rw [if_neg k1, if_neg k2]]
      have b1 : (kind == 1) = false := beq_eq_false_iff_ne.2 k1
      have b2 : (kind == 2) = false := beq_eq_false_iff_ne.2 k2
      go_enter Tryz.func24, Tryz.ntmps24
      go_wp2_with fail
      go_ret
      exact ⟨_, rfl, (Up.refl w).alloc _, by (repeat (first | assumption | (exact setRow_heap _ _ _ _ _ _ (by assumption)) | (refine heap_at _ _ _ ?_; (first | rfl | (simp; done) | (simp <;> omega) | omega); done) | refine heap_drew' _ _ _ ?_ | (apply heap_past; (case hn => (first | rfl | (simp; done) | (simp <;> omega) | omega)))))⟩
end Go.Proofs.YteepfbcialekeaaGreatDoor
