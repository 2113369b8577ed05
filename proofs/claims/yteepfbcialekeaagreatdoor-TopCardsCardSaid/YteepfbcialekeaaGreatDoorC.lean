/- Contracts of banks.Page and banks.Latch. -/
import Derived.Test.YteepfbcialekeaaGreatDoorB
import Derived.LoopN
import Derived.WalkMore
namespace Go.Proofs.YteepfbcialekeaaGreatDoor
set_option linter.unusedSimpArgs false
set_option linter.unusedVariables false
open Go.RowKit
open RV
theorem class_cases (p k : Int) (h : vClass p = some k) : (k = 0 ∧ 1 ≤ p ∧ p ≤ 128) ∨ (k = 1 ∧ 48 ≤ p ∧ p ≤ 96 ∧ p % 3 = 0) ∨ (k = 2 ∧ p = 320) := by
  unfold vClass at h
  rw [Option.map_eq_some_iff] at h
  obtain ⟨x, hx, rfl⟩ := h
  have hm := List.mem_of_find?_eq_some hx
  have he : x.1 = p := by simpa using List.find?_some hx
  subst he
  simp only [cls, List.mem_cons, List.not_mem_nil, or_false] at hm
  rcases hm with rfl | rfl | rfl | rfl | rfl | rfl | rfl | rfl | rfl | rfl | rfl <;> simp
/-- The card's page that stands at a page of the bus. -/
def vPage (pages k latch page : Int) : Int :=
  if k = 1 then (if 64 ≤ page then pages * 2 / 3 + page % (pages - pages * 2 / 3) else page % (pages * 2 / 3)) else if k = 2 then (if 64 ≤ page then 64 + 64 * (latch % 4) + page % 64 else page % 64) else page % pages
theorem vPage_rng (pages k latch page : Int) (hk : vClass pages = some k) (h0 : 0 ≤ page) : 0 ≤ vPage pages k latch page ∧ vPage pages k latch page < pages := by
  rcases class_cases pages k hk with ⟨rfl, a, b⟩ | ⟨rfl, a, b, c⟩ | ⟨rfl, rfl⟩
  · have e : vPage pages 0 latch page = page % pages := rfl
    rw [e]
    exact ⟨Int.emod_nonneg _ (by omega), Int.emod_lt_of_pos _ (by omega)⟩
  · have e : vPage pages 1 latch page = (if 64 ≤ page then pages * 2 / 3 + page % (pages - pages * 2 / 3) else page % (pages * 2 / 3)) := rfl
    rw [e]
    have p1 := Int.emod_nonneg page (show pages - pages * 2 / 3 ≠ 0 by omega)
    have p2 := Int.emod_lt_of_pos page (show 0 < pages - pages * 2 / 3 by omega)
    have p3 := Int.emod_nonneg page (show pages * 2 / 3 ≠ 0 by omega)
    have p4 := Int.emod_lt_of_pos page (show 0 < pages * 2 / 3 by omega)
    split <;> omega
  · have e : vPage 320 2 latch page = (if 64 ≤ page then 64 + 64 * (latch % 4) + page % 64 else page % 64) := rfl
    rw [e]
    split <;> omega
set_option maxHeartbeats 4000000 in
theorem page_any (pages k latch page : Int) (hk : vClass pages = some k) (h0 : 0 ≤ page) (h1 : page < 128) (w : World) : Calls Tryz.prog 9 #[.int .i64 pages, .int .i64 latch, .int .i64 page] w fun e w' => e = .returned (.int .i64 (vPage pages k latch page)) ∧ Up w w' := by
  have hv := vPage_rng pages k latch page hk h0
  have hcc := class_cases pages k hk
  obtain ⟨P, hP⟩ : ∃ x, vPage pages k latch page = x := ⟨_, rfl⟩
  have HP := Lib.hid hP
  rw [hP] at hv ⊢
  have d0 : decide (page < 0) = false := decide_eq_false (by omega)
  have d1 : decide (128 ≤ page) = false := decide_eq_false (by omega)
  have hc2 : 1 ≤ pages ∧ pages ≤ 320 := by omega
  have HCL := Lib.hid (show ∀ w, Calls Tryz.prog 16 #[.int .i64 pages] w (fun e w' => e = .returned (.tuple #[.int .i64 k, .bool true]) ∧ Up w w') from fun w => by
    have h := class_any pages w
    rw [hk] at h; exact h)
  have HPC := Lib.hid (fun w => pieces_any pages k latch (by omega) hc2.2 w)
  clear hP hk
  rcases hcc with ⟨rfl, q0, q1⟩ | ⟨rfl, q0, q1, q2⟩ | ⟨rfl, rfl⟩
  · skip
    have ht : page.tmod pages = page % pages := Int.tmod_eq_emod_of_nonneg h0
    have hz : (pages != 0) = true := by rw [bne_iff_ne]; omega
    have hz2 : (pages == 0) = false := by rw [beq_eq_false_iff_ne]; omega
    have m0 : 0 ≤ page % pages := Int.emod_nonneg _ (by omega)
    have m1 : page % pages < pages := Int.emod_lt_of_pos _ (by omega)
    have HP := Lib.hid (show page % pages = P from HP.out)
    go_enter Tryz.func9, Tryz.ntmps9
    go_wp2_with fail
    go_step3
    go_wp2_with fail
    refine (HCL.out _).mono ?_; rintro e w1 ⟨rfl, hU1⟩
    go_wp2_with fail
    go_step3
    go_wp2_with fail
    refine (HPC.out _).mono ?_; rintro e w2 ⟨g, rfl, hU2, hg⟩
    have HU := Lib.hid (hU1.trans hU2)
    have hlg : g < w2.heap.size := lt_of_block hg
    rw [show vPieces pages 0 latch = [(0, 0, pages)] from rfl] at hg ⊢
    have c0 : w2.cell? ⟨g, 0, none⟩ = some (.int .i64 (0)) := (cell_of_row _ _ _ _ _ _ hg).trans rfl
    have c1 : w2.cell? ⟨g, 1, none⟩ = some (.int .i64 (0)) := (cell_of_row _ _ _ _ _ _ hg).trans rfl
    have c2 : w2.cell? ⟨g, 2, none⟩ = some (.int .i64 (pages)) := (cell_of_row _ _ _ _ _ _ hg).trans rfl
    clear hg hU1 hU2
    go_wp2_with fail
    refine wp_loop_rounds 1 ?_
    rw [rounds_succ]; go_wp2_with fail
    go_quiet (fail)
    go_wp2_with fail
    rw [Exit.noGoto_ret]
    go_ret
    exact ⟨ret_int HP.out, HU.out.trans (by repeat (first | exact Up.refl _ | refine Up.drewN ?_ _ | refine Up.drew ?_ | refine Up.alloc ?_ _))⟩
  · have l0 : 32 ≤ pages * 2 / 3 := by omega
    have l1 : pages * 2 / 3 ≤ 64 := by omega
    have l2 : 16 ≤ pages - pages * 2 / 3 := by omega
    have e1 : vPage pages 1 latch page = (if 64 ≤ page then pages * 2 / 3 + page % (pages - pages * 2 / 3) else page % (pages * 2 / 3)) := rfl
    by_cases h64 : 64 ≤ page
    · have d64 : decide (64 ≤ page) = true := decide_eq_true h64
      have ht : page.tmod (pages - pages * 2 / 3) = page % (pages - pages * 2 / 3) := Int.tmod_eq_emod_of_nonneg h0
      have hz : ((pages - pages * 2 / 3) != 0) = true := by rw [bne_iff_ne]; omega
      have hz2 : ((pages - pages * 2 / 3) == 0) = false := by rw [beq_eq_false_iff_ne]; omega
      have m0 : 0 ≤ page % (pages - pages * 2 / 3) := Int.emod_nonneg _ (by omega)
      have m1 : page % (pages - pages * 2 / 3) < (pages - pages * 2 / 3) := Int.emod_lt_of_pos _ (by omega)
      have HP := Lib.hid (show pages * 2 / 3 + page % (pages - pages * 2 / 3) = P from by rw [← HP.out, e1, if_pos h64])
      go_enter Tryz.func9, Tryz.ntmps9
      go_wp2_with fail
      go_step3
      go_wp2_with fail
      refine (HCL.out _).mono ?_; rintro e w1 ⟨rfl, hU1⟩
      go_wp2_with fail
      go_step3
      go_wp2_with fail
      refine (HPC.out _).mono ?_; rintro e w2 ⟨g, rfl, hU2, hg⟩
      have HU := Lib.hid (hU1.trans hU2)
      have hlg : g < w2.heap.size := lt_of_block hg
      rw [show vPieces pages 1 latch = [(64, pages * 2 / 3, pages - pages * 2 / 3), (0, 0, pages * 2 / 3)] from rfl] at hg ⊢
      have c0 : w2.cell? ⟨g, 0, none⟩ = some (.int .i64 (64)) := (cell_of_row _ _ _ _ _ _ hg).trans rfl
      have c1 : w2.cell? ⟨g, 1, none⟩ = some (.int .i64 (pages * 2 / 3)) := (cell_of_row _ _ _ _ _ _ hg).trans rfl
      have c2 : w2.cell? ⟨g, 2, none⟩ = some (.int .i64 (pages - pages * 2 / 3)) := (cell_of_row _ _ _ _ _ _ hg).trans rfl
      have c3 : w2.cell? ⟨g, 3, none⟩ = some (.int .i64 (0)) := (cell_of_row _ _ _ _ _ _ hg).trans rfl
      have c4 : w2.cell? ⟨g, 4, none⟩ = some (.int .i64 (0)) := (cell_of_row _ _ _ _ _ _ hg).trans rfl
      have c5 : w2.cell? ⟨g, 5, none⟩ = some (.int .i64 (pages * 2 / 3)) := (cell_of_row _ _ _ _ _ _ hg).trans rfl
      clear hg hU1 hU2
      go_wp2_with fail
      refine wp_loop_rounds 1 ?_
      rw [rounds_succ]; go_wp2_with fail
      go_quiet (fail)
      go_wp2_with fail
      rw [Exit.noGoto_ret]
      go_ret
      exact ⟨ret_int HP.out, HU.out.trans (by repeat (first | exact Up.refl _ | refine Up.drewN ?_ _ | refine Up.drew ?_ | refine Up.alloc ?_ _))⟩
    · have d64 : decide (64 ≤ page) = false := decide_eq_false h64
      have ht : page.tmod (pages * 2 / 3) = page % (pages * 2 / 3) := Int.tmod_eq_emod_of_nonneg h0
      have hz : ((pages * 2 / 3) != 0) = true := by rw [bne_iff_ne]; omega
      have hz2 : ((pages * 2 / 3) == 0) = false := by rw [beq_eq_false_iff_ne]; omega
      have m0 : 0 ≤ page % (pages * 2 / 3) := Int.emod_nonneg _ (by omega)
      have m1 : page % (pages * 2 / 3) < (pages * 2 / 3) := Int.emod_lt_of_pos _ (by omega)
      have HP := Lib.hid (show page % (pages * 2 / 3) = P from by rw [← HP.out, e1, if_neg h64])
      go_enter Tryz.func9, Tryz.ntmps9
      go_wp2_with fail
      go_step3
      go_wp2_with fail
      refine (HCL.out _).mono ?_; rintro e w1 ⟨rfl, hU1⟩
      go_wp2_with fail
      go_step3
      go_wp2_with fail
      refine (HPC.out _).mono ?_; rintro e w2 ⟨g, rfl, hU2, hg⟩
      have HU := Lib.hid (hU1.trans hU2)
      have hlg : g < w2.heap.size := lt_of_block hg
      rw [show vPieces pages 1 latch = [(64, pages * 2 / 3, pages - pages * 2 / 3), (0, 0, pages * 2 / 3)] from rfl] at hg ⊢
      have c0 : w2.cell? ⟨g, 0, none⟩ = some (.int .i64 (64)) := (cell_of_row _ _ _ _ _ _ hg).trans rfl
      have c1 : w2.cell? ⟨g, 1, none⟩ = some (.int .i64 (pages * 2 / 3)) := (cell_of_row _ _ _ _ _ _ hg).trans rfl
      have c2 : w2.cell? ⟨g, 2, none⟩ = some (.int .i64 (pages - pages * 2 / 3)) := (cell_of_row _ _ _ _ _ _ hg).trans rfl
      have c3 : w2.cell? ⟨g, 3, none⟩ = some (.int .i64 (0)) := (cell_of_row _ _ _ _ _ _ hg).trans rfl
      have c4 : w2.cell? ⟨g, 4, none⟩ = some (.int .i64 (0)) := (cell_of_row _ _ _ _ _ _ hg).trans rfl
      have c5 : w2.cell? ⟨g, 5, none⟩ = some (.int .i64 (pages * 2 / 3)) := (cell_of_row _ _ _ _ _ _ hg).trans rfl
      clear hg hU1 hU2
      go_wp2_with fail
      refine wp_loop_rounds 2 ?_
      rw [rounds_succ]; go_wp2_with fail
      rw [rounds_succ]; go_wp2_with fail
      go_quiet (fail)
      go_wp2_with fail
      rw [Exit.noGoto_ret]
      go_ret
      exact ⟨ret_int HP.out, HU.out.trans (by repeat (first | exact Up.refl _ | refine Up.drewN ?_ _ | refine Up.drew ?_ | refine Up.alloc ?_ _))⟩
  · have e1 : vPage 320 2 latch page = (if 64 ≤ page then 64 + 64 * (latch % 4) + page % 64 else page % 64) := rfl
    have ht : page.tmod 64 = page % 64 := Int.tmod_eq_emod_of_nonneg h0
    have m0 : 0 ≤ page % 64 := by omega
    have m1 : page % 64 ≤ 63 := by omega
    have m2 : 0 ≤ latch % 4 := by omega
    have m3 : latch % 4 ≤ 3 := by omega
    by_cases h64 : 64 ≤ page
    · have d64 : decide (64 ≤ page) = true := decide_eq_true h64
      have HP := Lib.hid (show 64 + 64 * (latch % 4) + page % 64 = P from by rw [← HP.out, e1, if_pos h64])
      go_enter Tryz.func9, Tryz.ntmps9
      go_wp2_with fail
      go_step3
      go_wp2_with fail
      refine (HCL.out _).mono ?_; rintro e w1 ⟨rfl, hU1⟩
      go_wp2_with fail
      go_step3
      go_wp2_with fail
      refine (HPC.out _).mono ?_; rintro e w2 ⟨g, rfl, hU2, hg⟩
      have HU := Lib.hid (hU1.trans hU2)
      have hlg : g < w2.heap.size := lt_of_block hg
      rw [show vPieces 320 2 latch = [(64, 64 + 64 * (latch % 4), 64), (0, 0, 64)] from rfl] at hg ⊢
      have c0 : w2.cell? ⟨g, 0, none⟩ = some (.int .i64 (64)) := (cell_of_row _ _ _ _ _ _ hg).trans rfl
      have c1 : w2.cell? ⟨g, 1, none⟩ = some (.int .i64 (64 + 64 * (latch % 4))) := (cell_of_row _ _ _ _ _ _ hg).trans rfl
      have c2 : w2.cell? ⟨g, 2, none⟩ = some (.int .i64 (64)) := (cell_of_row _ _ _ _ _ _ hg).trans rfl
      have c3 : w2.cell? ⟨g, 3, none⟩ = some (.int .i64 (0)) := (cell_of_row _ _ _ _ _ _ hg).trans rfl
      have c4 : w2.cell? ⟨g, 4, none⟩ = some (.int .i64 (0)) := (cell_of_row _ _ _ _ _ _ hg).trans rfl
      have c5 : w2.cell? ⟨g, 5, none⟩ = some (.int .i64 (64)) := (cell_of_row _ _ _ _ _ _ hg).trans rfl
      clear hg hU1 hU2
      go_wp2_with fail
      refine wp_loop_rounds 1 ?_
      rw [rounds_succ]; go_wp2_with fail
      go_quiet (fail)
      go_wp2_with fail
      rw [Exit.noGoto_ret]
      go_ret
      exact ⟨ret_int HP.out, HU.out.trans (by repeat (first | exact Up.refl _ | refine Up.drewN ?_ _ | refine Up.drew ?_ | refine Up.alloc ?_ _))⟩
    · have d64 : decide (64 ≤ page) = false := decide_eq_false h64
      have HP := Lib.hid (show page % 64 = P from by rw [← HP.out, e1, if_neg h64])
      go_enter Tryz.func9, Tryz.ntmps9
      go_wp2_with fail
      go_step3
      go_wp2_with fail
      refine (HCL.out _).mono ?_; rintro e w1 ⟨rfl, hU1⟩
      go_wp2_with fail
      go_step3
      go_wp2_with fail
      refine (HPC.out _).mono ?_; rintro e w2 ⟨g, rfl, hU2, hg⟩
      have HU := Lib.hid (hU1.trans hU2)
      have hlg : g < w2.heap.size := lt_of_block hg
      rw [show vPieces 320 2 latch = [(64, 64 + 64 * (latch % 4), 64), (0, 0, 64)] from rfl] at hg ⊢
      have c0 : w2.cell? ⟨g, 0, none⟩ = some (.int .i64 (64)) := (cell_of_row _ _ _ _ _ _ hg).trans rfl
      have c1 : w2.cell? ⟨g, 1, none⟩ = some (.int .i64 (64 + 64 * (latch % 4))) := (cell_of_row _ _ _ _ _ _ hg).trans rfl
      have c2 : w2.cell? ⟨g, 2, none⟩ = some (.int .i64 (64)) := (cell_of_row _ _ _ _ _ _ hg).trans rfl
      have c3 : w2.cell? ⟨g, 3, none⟩ = some (.int .i64 (0)) := (cell_of_row _ _ _ _ _ _ hg).trans rfl
      have c4 : w2.cell? ⟨g, 4, none⟩ = some (.int .i64 (0)) := (cell_of_row _ _ _ _ _ _ hg).trans rfl
      have c5 : w2.cell? ⟨g, 5, none⟩ = some (.int .i64 (64)) := (cell_of_row _ _ _ _ _ _ hg).trans rfl
      clear hg hU1 hU2
      go_wp2_with fail
      refine wp_loop_rounds 2 ?_
      rw [rounds_succ]; go_wp2_with fail
      rw [rounds_succ]; go_wp2_with fail
      go_quiet (fail)
      go_wp2_with fail
      rw [Exit.noGoto_ret]
      go_ret
      exact ⟨ret_int HP.out, HU.out.trans (by repeat (first | exact Up.refl _ | refine Up.drewN ?_ _ | refine Up.drew ?_ | refine Up.alloc ?_ _))⟩
end Go.Proofs.YteepfbcialekeaaGreatDoor
