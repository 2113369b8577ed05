/- Contracts of the package card: the kinds of cards. -/
import Derived.Test.YteepfbcialekeaaGreatDoorBC
import Derived.Test.YteepfbcialekeaaGreatDoorRV
import Derived.Test.YteepfbcialekeaaGreatDoorPW
import Derived.Lib.Hide
namespace Go.Proofs.YteepfbcialekeaaGreatDoor
set_option linter.unusedSimpArgs false
set_option linter.unusedVariables false
open Go.RowKit
open RV
def CL : Array Value := #[.int .i64 1, .int .i64 0, .int .i64 2, .int .i64 0, .int .i64 4, .int .i64 0, .int .i64 8, .int .i64 0, .int .i64 16, .int .i64 0, .int .i64 32, .int .i64 0, .int .i64 64, .int .i64 0, .int .i64 128, .int .i64 0, .int .i64 48, .int .i64 1, .int .i64 96, .int .i64 1, .int .i64 320, .int .i64 2]
theorem CL_one : CL.all (·.oneCell') = true := by simp [CL, Value.oneCell']
theorem CL_size : CL.size = 22 := rfl
theorem size22 : (Tryz.prog.info? 116).map (·.size) = some 22 := by kernel_rfl
theorem szCL : (Tryz.prog.info? 116).map (·.size) = some CL.size := by rw [CL_size]; exact size22
def LCL : List (Nat × Value) := [(0, .agg #[.int .i64 1, .int .i64 0]), (1, .agg #[.int .i64 2, .int .i64 0]), (2, .agg #[.int .i64 4, .int .i64 0]), (3, .agg #[.int .i64 8, .int .i64 0]), (4, .agg #[.int .i64 16, .int .i64 0]), (5, .agg #[.int .i64 32, .int .i64 0]), (6, .agg #[.int .i64 64, .int .i64 0]), (7, .agg #[.int .i64 128, .int .i64 0]), (8, .agg #[.int .i64 48, .int .i64 1]), (9, .agg #[.int .i64 96, .int .i64 1]), (10, .agg #[.int .i64 320, .int .i64 2])]
theorem built_classes : Tryz.prog.built 116 LCL = some CL := by kernel_rfl
theorem idxC0 (w : World) : (Instr.index 116 (.agg CL) (.int .i64 0)).run Tryz.prog w = .ok (.agg #[.int .i64 1, .int .i64 0]) w := by kernel_rfl
theorem idxC1 (w : World) : (Instr.index 116 (.agg CL) (.int .i64 1)).run Tryz.prog w = .ok (.agg #[.int .i64 2, .int .i64 0]) w := by kernel_rfl
theorem idxC2 (w : World) : (Instr.index 116 (.agg CL) (.int .i64 2)).run Tryz.prog w = .ok (.agg #[.int .i64 4, .int .i64 0]) w := by kernel_rfl
theorem idxC3 (w : World) : (Instr.index 116 (.agg CL) (.int .i64 3)).run Tryz.prog w = .ok (.agg #[.int .i64 8, .int .i64 0]) w := by kernel_rfl
theorem idxC4 (w : World) : (Instr.index 116 (.agg CL) (.int .i64 4)).run Tryz.prog w = .ok (.agg #[.int .i64 16, .int .i64 0]) w := by kernel_rfl
theorem idxC5 (w : World) : (Instr.index 116 (.agg CL) (.int .i64 5)).run Tryz.prog w = .ok (.agg #[.int .i64 32, .int .i64 0]) w := by kernel_rfl
theorem idxC6 (w : World) : (Instr.index 116 (.agg CL) (.int .i64 6)).run Tryz.prog w = .ok (.agg #[.int .i64 64, .int .i64 0]) w := by kernel_rfl
theorem idxC7 (w : World) : (Instr.index 116 (.agg CL) (.int .i64 7)).run Tryz.prog w = .ok (.agg #[.int .i64 128, .int .i64 0]) w := by kernel_rfl
theorem idxC8 (w : World) : (Instr.index 116 (.agg CL) (.int .i64 8)).run Tryz.prog w = .ok (.agg #[.int .i64 48, .int .i64 1]) w := by kernel_rfl
theorem idxC9 (w : World) : (Instr.index 116 (.agg CL) (.int .i64 9)).run Tryz.prog w = .ok (.agg #[.int .i64 96, .int .i64 1]) w := by kernel_rfl
theorem idxC10 (w : World) : (Instr.index 116 (.agg CL) (.int .i64 10)).run Tryz.prog w = .ok (.agg #[.int .i64 320, .int .i64 2]) w := by kernel_rfl
theorem classes_any (w : World) : Calls Tryz.prog 44 #[] w fun e w' => e = .returned (.agg CL) ∧ Up w w' := by
  go_enter Tryz.func44, Tryz.ntmps44
  go_wp2_with (first | (apply build_is (t := 116); (case ho => rfl); (case hg => rfl); (case hf => (rw [Array.toList_map]; exact built_classes))) | (apply store_is (ty := 116); (case ho => rfl); (case hgd => rfl); (case hx => rfl); (case hy => rfl); (case h1 => exact CL_one); (case hw => (repeat (first | (refine setRow_at _ _ _ _ _ ?_; (first | rfl | (simp; done) | (simp <;> omega) | omega); done) | apply setRow_drew_is | (apply setRow_past_is; (case hn => (first | rfl | (simp; done) | (simp <;> omega) | omega))) | exact rfl))); (case hg => (repeat (first | assumption | (exact setRow_heap _ _ _ _ _ _ (by assumption)) | (refine heap_at _ _ _ ?_; (first | rfl | (simp; done) | (simp <;> omega) | omega); done) | refine heap_drew' _ _ _ ?_ | (apply heap_past; (case hn => (first | rfl | (simp; done) | (simp <;> omega) | omega)))))); (case hi => exact szCL); (case hold => simp [CL_size])))
  refine bodyPost_ret (v := .agg CL) ?_ rfl ⟨rfl, ?_⟩
  · (apply results_cell_row; (case h => rfl); (case hp => rfl); (case hg => (repeat (first | assumption | (exact setRow_heap _ _ _ _ _ _ (by assumption)) | (refine heap_at _ _ _ ?_; (first | rfl | (simp; done) | (simp <;> omega) | omega); done) | refine heap_drew' _ _ _ ?_ | (apply heap_past; (case hn => (first | rfl | (simp; done) | (simp <;> omega) | omega)))))); (case hu => exact Tryz.underlying116); (case hd => rfl); (case hi => exact szCL))
  · exact (Up.refl w).alloc _
def cls : List (Int × Int) := [(1, 0), (2, 0), (4, 0), (8, 0), (16, 0), (32, 0), (64, 0), (128, 0), (48, 1), (96, 1), (320, 2)]
/-- The kind of cards of so many pages. -/
def vClass (p : Int) : Option Int := (cls.find? fun x => x.1 == p).map (·.2)
attribute [local go_sem] idxC0 idxC1 idxC2 idxC3 idxC4 idxC5 idxC6 idxC7 idxC8 idxC9 idxC10
set_option maxHeartbeats 4000000 in
theorem class_any (p : Int) (w : World) : Calls Tryz.prog 16 #[.int .i64 p] w fun e w' => e = .returned (.tuple #[.int .i64 ((vClass p).getD 0), .bool (vClass p).isSome]) ∧ Up w w' := by
  obtain ⟨R, hR⟩ : ∃ x, vClass p = x := ⟨_, rfl⟩
  have HR := Lib.hid hR
  rw [hR]; clear hR
  go_enter Tryz.func16, Tryz.ntmps16
  go_wp2_with fail
  refine (classes_any _).mono ?_; rintro e w1 ⟨rfl, hU1⟩
  have HU1 := Lib.hid hU1
  clear hU1
  go_wp2_with fail
  go_loopw [7, 5] (fun i c wr => ∃ k : Nat, k ≤ 11 ∧ i = .int .i64 k ∧ ((cls.take k).all fun x => x.1 != p) = true ∧ Up w1 wr) (fun i _ _ => 11 - (intOf i).toNat)
  case atStart => exact ⟨0, by omega, rfl, rfl, Up.refl _⟩
  case round =>
    obtain ⟨k, hk, rfl, hno, hUr⟩ := hrel
    have HUr := Lib.hid hUr
    have HNO := Lib.hid hno
    clear hUr hno
    have hks : k = 0 ∨ k = 1 ∨ k = 2 ∨ k = 3 ∨ k = 4 ∨ k = 5 ∨ k = 6 ∨ k = 7 ∨ k = 8 ∨ k = 9 ∨ k = 10 ∨ k = 11 := by omega
    rcases hks with rfl | rfl | rfl | rfl | rfl | rfl | rfl | rfl | rfl | rfl | rfl | rfl
    · by_cases hp : p = 1
      · subst hp
        go_wp2_with fail
        go_ret2
        obtain rfl : R = some 0 := HR.out.symm.trans (by decide +kernel)
        exact ⟨rfl, HU1.out.trans (HUr.out.alloc _)⟩
      · have hb : ((1 : Int) == p) = false := by rw [beq_eq_false_iff_ne]; omega
        have hb2 : ¬ (1 : Int) = p := by omega
        go_wp2_with fail
        go_roundw
        case rel => exact ⟨1, by omega, rfl, by have := HNO.out; simp only [cls, List.take_succ_cons, List.take_zero, List.all_cons, List.all_nil, Bool.and_true, Bool.and_eq_true, bne_iff_ne, ne_eq] at this ⊢; omega, HUr.out.alloc _⟩
        case measure => simp [intOf]
    · by_cases hp : p = 2
      · subst hp
        go_wp2_with fail
        go_ret2
        obtain rfl : R = some 0 := HR.out.symm.trans (by decide +kernel)
        exact ⟨rfl, HU1.out.trans (HUr.out.alloc _)⟩
      · have hb : ((2 : Int) == p) = false := by rw [beq_eq_false_iff_ne]; omega
        have hb2 : ¬ (2 : Int) = p := by omega
        go_wp2_with fail
        go_roundw
        case rel => exact ⟨2, by omega, rfl, by have := HNO.out; simp only [cls, List.take_succ_cons, List.take_zero, List.all_cons, List.all_nil, Bool.and_true, Bool.and_eq_true, bne_iff_ne, ne_eq] at this ⊢; omega, HUr.out.alloc _⟩
        case measure => simp [intOf]
    · by_cases hp : p = 4
      · subst hp
        go_wp2_with fail
        go_ret2
        obtain rfl : R = some 0 := HR.out.symm.trans (by decide +kernel)
        exact ⟨rfl, HU1.out.trans (HUr.out.alloc _)⟩
      · have hb : ((4 : Int) == p) = false := by rw [beq_eq_false_iff_ne]; omega
        have hb2 : ¬ (4 : Int) = p := by omega
        go_wp2_with fail
        go_roundw
        case rel => exact ⟨3, by omega, rfl, by have := HNO.out; simp only [cls, List.take_succ_cons, List.take_zero, List.all_cons, List.all_nil, Bool.and_true, Bool.and_eq_true, bne_iff_ne, ne_eq] at this ⊢; omega, HUr.out.alloc _⟩
        case measure => simp [intOf]
    · by_cases hp : p = 8
      · subst hp
        go_wp2_with fail
        go_ret2
        obtain rfl : R = some 0 := HR.out.symm.trans (by decide +kernel)
        exact ⟨rfl, HU1.out.trans (HUr.out.alloc _)⟩
      · have hb : ((8 : Int) == p) = false := by rw [beq_eq_false_iff_ne]; omega
        have hb2 : ¬ (8 : Int) = p := by omega
        go_wp2_with fail
        go_roundw
        case rel => exact ⟨4, by omega, rfl, by have := HNO.out; simp only [cls, List.take_succ_cons, List.take_zero, List.all_cons, List.all_nil, Bool.and_true, Bool.and_eq_true, bne_iff_ne, ne_eq] at this ⊢; omega, HUr.out.alloc _⟩
        case measure => simp [intOf]
    · by_cases hp : p = 16
      · subst hp
        go_wp2_with fail
        go_ret2
        obtain rfl : R = some 0 := HR.out.symm.trans (by decide +kernel)
        exact ⟨rfl, HU1.out.trans (HUr.out.alloc _)⟩
      · have hb : ((16 : Int) == p) = false := by rw [beq_eq_false_iff_ne]; omega
        have hb2 : ¬ (16 : Int) = p := by omega
        go_wp2_with fail
        go_roundw
        case rel => exact ⟨5, by omega, rfl, by have := HNO.out; simp only [cls, List.take_succ_cons, List.take_zero, List.all_cons, List.all_nil, Bool.and_true, Bool.and_eq_true, bne_iff_ne, ne_eq] at this ⊢; omega, HUr.out.alloc _⟩
        case measure => simp [intOf]
    · by_cases hp : p = 32
      · subst hp
        go_wp2_with fail
        go_ret2
        obtain rfl : R = some 0 := HR.out.symm.trans (by decide +kernel)
        exact ⟨rfl, HU1.out.trans (HUr.out.alloc _)⟩
      · have hb : ((32 : Int) == p) = false := by rw [beq_eq_false_iff_ne]; omega
        have hb2 : ¬ (32 : Int) = p := by omega
        go_wp2_with fail
        go_roundw
        case rel => exact ⟨6, by omega, rfl, by have := HNO.out; simp only [cls, List.take_succ_cons, List.take_zero, List.all_cons, List.all_nil, Bool.and_true, Bool.and_eq_true, bne_iff_ne, ne_eq] at this ⊢; omega, HUr.out.alloc _⟩
        case measure => simp [intOf]
    · by_cases hp : p = 64
      · subst hp
        go_wp2_with fail
        go_ret2
        obtain rfl : R = some 0 := HR.out.symm.trans (by decide +kernel)
        exact ⟨rfl, HU1.out.trans (HUr.out.alloc _)⟩
      · have hb : ((64 : Int) == p) = false := by rw [beq_eq_false_iff_ne]; omega
        have hb2 : ¬ (64 : Int) = p := by omega
        go_wp2_with fail
        go_roundw
        case rel => exact ⟨7, by omega, rfl, by have := HNO.out; simp only [cls, List.take_succ_cons, List.take_zero, List.all_cons, List.all_nil, Bool.and_true, Bool.and_eq_true, bne_iff_ne, ne_eq] at this ⊢; omega, HUr.out.alloc _⟩
        case measure => simp [intOf]
    · by_cases hp : p = 128
      · subst hp
        go_wp2_with fail
        go_ret2
        obtain rfl : R = some 0 := HR.out.symm.trans (by decide +kernel)
        exact ⟨rfl, HU1.out.trans (HUr.out.alloc _)⟩
      · have hb : ((128 : Int) == p) = false := by rw [beq_eq_false_iff_ne]; omega
        have hb2 : ¬ (128 : Int) = p := by omega
        go_wp2_with fail
        go_roundw
        case rel => exact ⟨8, by omega, rfl, by have := HNO.out; simp only [cls, List.take_succ_cons, List.take_zero, List.all_cons, List.all_nil, Bool.and_true, Bool.and_eq_true, bne_iff_ne, ne_eq] at this ⊢; omega, HUr.out.alloc _⟩
        case measure => simp [intOf]
    · by_cases hp : p = 48
      · subst hp
        go_wp2_with fail
        go_ret2
        obtain rfl : R = some 1 := HR.out.symm.trans (by decide +kernel)
        exact ⟨rfl, HU1.out.trans (HUr.out.alloc _)⟩
      · have hb : ((48 : Int) == p) = false := by rw [beq_eq_false_iff_ne]; omega
        have hb2 : ¬ (48 : Int) = p := by omega
        go_wp2_with fail
        go_roundw
        case rel => exact ⟨9, by omega, rfl, by have := HNO.out; simp only [cls, List.take_succ_cons, List.take_zero, List.all_cons, List.all_nil, Bool.and_true, Bool.and_eq_true, bne_iff_ne, ne_eq] at this ⊢; omega, HUr.out.alloc _⟩
        case measure => simp [intOf]
    · by_cases hp : p = 96
      · subst hp
        go_wp2_with fail
        go_ret2
        obtain rfl : R = some 1 := HR.out.symm.trans (by decide +kernel)
        exact ⟨rfl, HU1.out.trans (HUr.out.alloc _)⟩
      · have hb : ((96 : Int) == p) = false := by rw [beq_eq_false_iff_ne]; omega
        have hb2 : ¬ (96 : Int) = p := by omega
        go_wp2_with fail
        go_roundw
        case rel => exact ⟨10, by omega, rfl, by have := HNO.out; simp only [cls, List.take_succ_cons, List.take_zero, List.all_cons, List.all_nil, Bool.and_true, Bool.and_eq_true, bne_iff_ne, ne_eq] at this ⊢; omega, HUr.out.alloc _⟩
        case measure => simp [intOf]
    · by_cases hp : p = 320
      · subst hp
        go_wp2_with fail
        go_ret2
        obtain rfl : R = some 2 := HR.out.symm.trans (by decide +kernel)
        exact ⟨rfl, HU1.out.trans (HUr.out.alloc _)⟩
      · have hb : ((320 : Int) == p) = false := by rw [beq_eq_false_iff_ne]; omega
        have hb2 : ¬ (320 : Int) = p := by omega
        go_wp2_with fail
        go_roundw
        case rel => exact ⟨11, by omega, rfl, by have := HNO.out; simp only [cls, List.take_succ_cons, List.take_zero, List.all_cons, List.all_nil, Bool.and_true, Bool.and_eq_true, bne_iff_ne, ne_eq] at this ⊢; omega, HUr.out.alloc _⟩
        case measure => simp [intOf]
    · go_wp2_with fail
      go_ret2
      have hn : vClass p = none := by
        have := HNO.out
        unfold vClass
        rw [Option.map_eq_none_iff, List.find?_eq_none]
        intro x hx
        have h2 := (List.all_eq_true.1 this) x (by simpa [cls] using hx)
        simpa using h2
      obtain rfl : R = none := HR.out.symm.trans hn
      exact ⟨rfl, HU1.out.trans HUr.out⟩
end Go.Proofs.YteepfbcialekeaaGreatDoor
