/- Contract of vram.New. -/
import Derived.Test.YteepfbcialekeaaGreatDoorN
import Derived.Deep.OwnRows
namespace Go.Proofs.YteepfbcialekeaaGreatDoor
set_option linter.unusedSimpArgs false
set_option linter.unusedVariables false
open Go.RowKit
open RV
theorem i64_facts : (Tryz.prog.info? 3).map (fun i => (i.zero, i.size, i.bytes)) = some (some (.int .i64 0), 1, 8) := by kernel_rfl
theorem i64_info : ∃ i0, Tryz.prog.info? 3 = some i0 ∧ i0.zero = some (.int .i64 0) ∧ i0.size = 1 ∧ i0.bytes = 8 := by
  obtain ⟨i0, h, he⟩ := Option.map_eq_some_iff.1 i64_facts
  simp only [Prod.mk.injEq] at he
  exact ⟨i0, h, he.1, he.2.1, he.2.2⟩
set_option maxHeartbeats 4000000 in
theorem vramNew_any (w : World) : Calls Tryz.prog 18 #[] w fun e w' => (∃ v, e = .returned (.pointer (some ⟨v, 0, none⟩))) ∧ Up w w' := by
  obtain ⟨i0, hi, hz0, hz1, hz2⟩ := i64_info
  go_enter Tryz.func18, Tryz.ntmps18
  go_wp2_with (refine wpList_make_row _ rfl _ _ 118 rfl 3 i0 (.int .i64 0) Tryz.underlying118 hi hz0 hz1 rfl .i64 .i64 32768 rfl rfl (by rw [hz2]; decide) (by decide) ?_)
  go_ret
  exact ⟨⟨_, rfl⟩, ((Up.refl w).alloc _).alloc _⟩
end Go.Proofs.YteepfbcialekeaaGreatDoor
