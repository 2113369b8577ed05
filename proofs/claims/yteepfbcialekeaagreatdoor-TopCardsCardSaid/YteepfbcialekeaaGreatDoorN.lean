/- Contracts of regs.Fresh, mpr.Fresh. -/
import Derived.Test.YteepfbcialekeaaGreatDoorM
namespace Go.Proofs.YteepfbcialekeaaGreatDoor
set_option linter.unusedSimpArgs false
set_option linter.unusedVariables false
open Go.RowKit
open RV
set_option maxHeartbeats 4000000 in
theorem mprFresh_any (w : World) : Calls Tryz.prog 19 #[] w fun e w' => e = .returned (.agg #[.int .i64 0, .int .i64 248, .int .i64 0, .int .i64 0, .int .i64 0, .int .i64 0, .int .i64 0, .int .i64 0]) ∧ Up w w' := by
  go_enter Tryz.func19, Tryz.ntmps19
  go_wp2_with fail
  refine bodyPost_ret (v := .agg #[.int .i64 0, .int .i64 248, .int .i64 0, .int .i64 0, .int .i64 0, .int .i64 0, .int .i64 0, .int .i64 0]) ?_ rfl ⟨rfl, ?_⟩
  · simp [results, Tryz.results19, go_sem]
  · repeat (first | exact Up.refl _ | refine Up.alloc ?_ _)
def RG : Array Value := #[.int .i64 0, .int .i64 0, .int .i64 0, .int .i64 0, .int .i64 0, .int .i64 0, .int .i64 0, .int .i64 0, .int .i64 0, .int .i64 0, .int .i64 0, .int .i64 0, .int .i64 0, .int .i64 0, .int .i64 0, .int .i64 0, .int .i64 0, .int .i64 0, .int .i64 0, .int .i64 0, .int .i64 0]
theorem RG_one : RG.all (·.oneCell') = true := by simp [RG, Value.oneCell']
theorem RG_size : RG.size = 21 := rfl
theorem size21 : (Tryz.prog.info? 37).map (·.size) = some 21 := by kernel_rfl
theorem szRG : (Tryz.prog.info? 37).map (·.size) = some RG.size := by rw [RG_size]; exact size21
theorem built_regs : Tryz.prog.built 37 [] = some RG := by kernel_rfl
set_option maxRecDepth 100000 in
set_option maxHeartbeats 4000000 in
theorem regsFresh_any (w : World) : Calls Tryz.prog 17 #[] w fun e w' => (∃ V : Array Value, V.size = 21 ∧ e = .returned (.agg V)) ∧ Up w w' := by
  go_enter Tryz.func17, Tryz.ntmps17
  go_wp2_with (first | (apply build_is (t := 37); (case ho => rfl); (case hg => rfl); (case hf => exact built_regs)) | (apply store_is (ty := 37); (case ho => rfl); (case hgd => rfl); (case hx => rfl); (case hy => rfl); (case h1 => exact RG_one); (case hw => exact setRow_at _ _ _ _ _ rfl); (case hg => (refine heap_at _ _ _ rfl)); (case hi => exact szRG); (case hold => simp)))
  refine bodyPost_ret (v := .agg RG) ?_ rfl ⟨⟨RG, rfl, rfl⟩, ?_⟩
  · (apply results_cell_row; (case h => rfl); (case hp => rfl); (case hg => exact heap_at _ _ _ rfl); (case hu => exact Tryz.underlying37); (case hd => rfl); (case hi => exact szRG))
  · exact (Up.refl w).alloc _
end Go.Proofs.YteepfbcialekeaaGreatDoor
