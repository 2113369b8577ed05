/- Contracts of the functions of the package pad: what each returns. -/
import Derived.Test.YthaffmnoffjblaaBC
import Derived.Lib.MinMax
import Derived.Deep.RegionHeld3
import Derived.StillTailTactics
namespace Go.Proofs.Ythaffmnoffjblaa
open Go.RowKit
attribute [local go_sem] BM.and15

def vPr (k : Int) (six sel sec : Bool) : Int := if sec && six then (if sel then 15 else k % 65536 / 256 % 16) else if sel then k % 65536 / 16 % 16 else k % 65536 % 16
theorem vPr_rng (k : Int) (six sel sec : Bool) : 0 ≤ vPr k six sel sec ∧ vPr k six sel sec ≤ 15 := by
  unfold vPr
  split
  · split <;> omega
  · split <;> omega
theorem pressed_any (k : Int) (six sel sec : Bool) (w : World) : Calls Try.prog 8 #[.agg #[.int .i64 k, .bool six], .bool sel, .bool sec] w fun e w' => e = .returned (.int .i64 (vPr k six sel sec)) ∧ w.alloc (.cells #[.int .i64 k, .bool six] 25) = w' := by
  have h0 : 0 ≤ k % 65536 := by omega
  cases six <;> cases sel <;> cases sec
  · go_enter Try.func8, Try.ntmps8
    go_wp2_with (go_at_call 10; refine (word_any _ _).mono ?_; rintro e w' ⟨rfl, rfl⟩)
    go_ret
    exact ⟨ret_int (by simp [vPr]), rfl⟩
  · go_enter Try.func8, Try.ntmps8
    go_wp2_with (go_at_call 10; refine (word_any _ _).mono ?_; rintro e w' ⟨rfl, rfl⟩)
    go_ret
    exact ⟨ret_int (by simp [vPr]), rfl⟩
  · go_enter Try.func8, Try.ntmps8
    go_wp2_with (go_at_call 10; refine (word_any _ _).mono ?_; rintro e w' ⟨rfl, rfl⟩)
    go_ret
    exact ⟨ret_int (by simp [vPr]), rfl⟩
  · go_enter Try.func8, Try.ntmps8
    go_wp2_with (go_at_call 10; refine (word_any _ _).mono ?_; rintro e w' ⟨rfl, rfl⟩)
    go_ret
    exact ⟨ret_int (by simp [vPr]), rfl⟩
  · go_enter Try.func8, Try.ntmps8
    go_wp2_with (go_at_call 10; refine (word_any _ _).mono ?_; rintro e w' ⟨rfl, rfl⟩)
    go_ret
    exact ⟨ret_int (by simp [vPr]), rfl⟩
  · go_enter Try.func8, Try.ntmps8
    go_wp2_with (go_at_call 10; refine (word_any _ _).mono ?_; rintro e w' ⟨rfl, rfl⟩)
    go_ret
    exact ⟨ret_int (by simp [vPr]), rfl⟩
  · go_enter Try.func8, Try.ntmps8
    go_wp2_with (go_at_call 10; refine (word_any _ _).mono ?_; rintro e w' ⟨rfl, rfl⟩)
    go_ret
    exact ⟨ret_int (by simp [vPr]), rfl⟩
  · go_enter Try.func8, Try.ntmps8
    go_wp2_with (go_at_call 10; refine (word_any _ _).mono ?_; rintro e w' ⟨rfl, rfl⟩)
    go_ret
    exact ⟨ret_int (by simp [vPr]), rfl⟩

theorem pressed_up (k : Int) (six sel sec : Bool) (w : World) : Calls Try.prog 8 #[.agg #[.int .i64 k, .bool six], .bool sel, .bool sec] w fun e w' => e = .returned (.int .i64 (vPr k six sel sec)) ∧ Up w w' :=
  (pressed_any k six sel sec w).mono fun _ _ ⟨h, h2⟩ => ⟨h, h2 ▸ (Up.refl _).alloc _⟩
theorem clear191 (x : Int) (h0 : 0 ≤ x) (h1 : x ≤ 15) : bits .andNot .i64 191 x = 191 - x := by
  have : x = 0 ∨ x = 1 ∨ x = 2 ∨ x = 3 ∨ x = 4 ∨ x = 5 ∨ x = 6 ∨ x = 7 ∨ x = 8 ∨ x = 9 ∨ x = 10 ∨ x = 11 ∨ x = 12 ∨ x = 13 ∨ x = 14 ∨ x = 15 := by omega
  rcases this with rfl | rfl | rfl | rfl | rfl | rfl | rfl | rfl | rfl | rfl | rfl | rfl | rfl | rfl | rfl | rfl <;> decide +kernel
theorem clear255 (x : Int) (h0 : 0 ≤ x) (h1 : x ≤ 15) : bits .andNot .i64 255 x = 255 - x := by
  have : x = 0 ∨ x = 1 ∨ x = 2 ∨ x = 3 ∨ x = 4 ∨ x = 5 ∨ x = 6 ∨ x = 7 ∨ x = 8 ∨ x = 9 ∨ x = 10 ∨ x = 11 ∨ x = 12 ∨ x = 13 ∨ x = 14 ∨ x = 15 := by omega
  rcases this with rfl | rfl | rfl | rfl | rfl | rfl | rfl | rfl | rfl | rfl | rfl | rfl | rfl | rfl | rfl | rfl <;> decide +kernel
theorem or64 : bits .or .i64 191 64 = 255 := by decide +kernel

def vBase (abroad : Bool) : Int := if abroad then 191 else 255
def vRd (sel sec : Bool) (idx k0 : Int) (s0 : Bool) (k1 : Int) (s1 : Bool) (k2 : Int) (s2 : Bool) (k3 : Int) (s3 : Bool) (k4 : Int) (s4 : Bool) (abroad : Bool) : Int :=
  if idx = 0 then vBase abroad - vPr k0 s0 sel sec else if idx = 1 then vBase abroad - vPr k1 s1 sel sec else if idx = 2 then vBase abroad - vPr k2 s2 sel sec else if idx = 3 then vBase abroad - vPr k3 s3 sel sec else if idx = 4 then vBase abroad - vPr k4 s4 sel sec else vBase abroad
set_option maxHeartbeats 2000000 in
theorem read_any (sel clr sec : Bool) (idx k0 : Int) (s0 : Bool) (k1 : Int) (s1 : Bool) (k2 : Int) (s2 : Bool) (k3 : Int) (s3 : Bool) (k4 : Int) (s4 : Bool) (abroad : Bool) (w : World) : Calls Try.prog 6 #[.agg #[.bool sel, .bool clr, .bool sec, .int .i64 idx], .agg #[.int .i64 k0, .bool s0, .int .i64 k1, .bool s1, .int .i64 k2, .bool s2, .int .i64 k3, .bool s3, .int .i64 k4, .bool s4], .bool abroad] w fun e w' => e = .returned (.int .i64 (vRd sel sec idx k0 s0 k1 s1 k2 s2 k3 s3 k4 s4 abroad)) ∧ Up w w' := by
  have ho := or64
  by_cases n0 : idx < 0
  · have E := Lib.hid (show vRd sel sec idx k0 s0 k1 s1 k2 s2 k3 s3 k4 s4 abroad = vBase abroad by unfold vRd; rw [if_neg (by omega), if_neg (by omega), if_neg (by omega), if_neg (by omega), if_neg (by omega)])
    cases abroad
    · go_enter Try.func6, Try.ntmps6
      go_wp2
      go_ret
      exact ⟨ret_int (by rw [E.out]; rfl), (by repeat (first | exact Up.refl _ | assumption | refine Up.drew ?_ | refine Up.alloc ?_ _ | refine Up.trans ?_ (by assumption)))⟩
    · go_enter Try.func6, Try.ntmps6
      go_wp2
      go_ret
      exact ⟨ret_int (by rw [E.out]; rfl), (by repeat (first | exact Up.refl _ | assumption | refine Up.drew ?_ | refine Up.alloc ?_ _ | refine Up.trans ?_ (by assumption)))⟩
  · by_cases n5 : 5 ≤ idx
    · have E := Lib.hid (show vRd sel sec idx k0 s0 k1 s1 k2 s2 k3 s3 k4 s4 abroad = vBase abroad by unfold vRd; rw [if_neg (by omega), if_neg (by omega), if_neg (by omega), if_neg (by omega), if_neg (by omega)])
      cases abroad
      · go_enter Try.func6, Try.ntmps6
        go_wp2
        go_ret
        exact ⟨ret_int (by rw [E.out]; rfl), (by repeat (first | exact Up.refl _ | assumption | refine Up.drew ?_ | refine Up.alloc ?_ _ | refine Up.trans ?_ (by assumption)))⟩
      · go_enter Try.func6, Try.ntmps6
        go_wp2
        go_ret
        exact ⟨ret_int (by rw [E.out]; rfl), (by repeat (first | exact Up.refl _ | assumption | refine Up.drew ?_ | refine Up.alloc ?_ _ | refine Up.trans ?_ (by assumption)))⟩
    · have h5 : idx = 0 ∨ idx = 1 ∨ idx = 2 ∨ idx = 3 ∨ idx = 4 := by omega
      clear n0 n5
      rcases h5 with rfl | rfl | rfl | rfl | rfl
      · have hr := vPr_rng k0 s0 sel sec
        cases abroad
        · skip
          have C := Lib.hid (clear255 _ hr.1 hr.2)
          clear hr
          go_enter Try.func6, Try.ntmps6
          go_wp2
          have hU_W0 : Up w ((w.alloc (.cells #[.bool sel, .bool clr, .bool sec, .int .i64 0] 23)).alloc (.cells #[.int .i64 k0, .bool s0, .int .i64 k1, .bool s1, .int .i64 k2, .bool s2, .int .i64 k3, .bool s3, .int .i64 k4, .bool s4] 26)) := ((Up.refl w).alloc _).alloc _
          have yW00 : w.heap.size < ((w.alloc (.cells #[.bool sel, .bool clr, .bool sec, .int .i64 0] 23)).alloc (.cells #[.int .i64 k0, .bool s0, .int .i64 k1, .bool s1, .int .i64 k2, .bool s2, .int .i64 k3, .bool s3, .int .i64 k4, .bool s4] 26)).heap.size := by (try simp only [World.size_alloc]); omega
          have zW00 : ((w.alloc (.cells #[.bool sel, .bool clr, .bool sec, .int .i64 0] 23)).alloc (.cells #[.int .i64 k0, .bool s0, .int .i64 k1, .bool s1, .int .i64 k2, .bool s2, .int .i64 k3, .bool s3, .int .i64 k4, .bool s4] 26)).cell? ⟨w.heap.size, 0, none⟩ = some (.bool sel) := by go_simp
          have zW01 : ((w.alloc (.cells #[.bool sel, .bool clr, .bool sec, .int .i64 0] 23)).alloc (.cells #[.int .i64 k0, .bool s0, .int .i64 k1, .bool s1, .int .i64 k2, .bool s2, .int .i64 k3, .bool s3, .int .i64 k4, .bool s4] 26)).cell? ⟨w.heap.size, 1, none⟩ = some (.bool clr) := by go_simp
          have zW02 : ((w.alloc (.cells #[.bool sel, .bool clr, .bool sec, .int .i64 0] 23)).alloc (.cells #[.int .i64 k0, .bool s0, .int .i64 k1, .bool s1, .int .i64 k2, .bool s2, .int .i64 k3, .bool s3, .int .i64 k4, .bool s4] 26)).cell? ⟨w.heap.size, 2, none⟩ = some (.bool sec) := by go_simp
          have zW03 : ((w.alloc (.cells #[.bool sel, .bool clr, .bool sec, .int .i64 0] 23)).alloc (.cells #[.int .i64 k0, .bool s0, .int .i64 k1, .bool s1, .int .i64 k2, .bool s2, .int .i64 k3, .bool s3, .int .i64 k4, .bool s4] 26)).cell? ⟨w.heap.size, 3, none⟩ = some (.int .i64 0) := by go_simp
          have yW01 : w.heap.size + 1 < ((w.alloc (.cells #[.bool sel, .bool clr, .bool sec, .int .i64 0] 23)).alloc (.cells #[.int .i64 k0, .bool s0, .int .i64 k1, .bool s1, .int .i64 k2, .bool s2, .int .i64 k3, .bool s3, .int .i64 k4, .bool s4] 26)).heap.size := by (try simp only [World.size_alloc]); omega
          have zW04 : ((w.alloc (.cells #[.bool sel, .bool clr, .bool sec, .int .i64 0] 23)).alloc (.cells #[.int .i64 k0, .bool s0, .int .i64 k1, .bool s1, .int .i64 k2, .bool s2, .int .i64 k3, .bool s3, .int .i64 k4, .bool s4] 26)).cell? ⟨w.heap.size + 1, 0, none⟩ = some (.int .i64 k0) := by go_simp
          have zW05 : ((w.alloc (.cells #[.bool sel, .bool clr, .bool sec, .int .i64 0] 23)).alloc (.cells #[.int .i64 k0, .bool s0, .int .i64 k1, .bool s1, .int .i64 k2, .bool s2, .int .i64 k3, .bool s3, .int .i64 k4, .bool s4] 26)).cell? ⟨w.heap.size + 1, 1, none⟩ = some (.bool s0) := by go_simp
          have zW06 : ((w.alloc (.cells #[.bool sel, .bool clr, .bool sec, .int .i64 0] 23)).alloc (.cells #[.int .i64 k0, .bool s0, .int .i64 k1, .bool s1, .int .i64 k2, .bool s2, .int .i64 k3, .bool s3, .int .i64 k4, .bool s4] 26)).cell? ⟨w.heap.size + 1, 2, none⟩ = some (.int .i64 k1) := by go_simp
          have zW07 : ((w.alloc (.cells #[.bool sel, .bool clr, .bool sec, .int .i64 0] 23)).alloc (.cells #[.int .i64 k0, .bool s0, .int .i64 k1, .bool s1, .int .i64 k2, .bool s2, .int .i64 k3, .bool s3, .int .i64 k4, .bool s4] 26)).cell? ⟨w.heap.size + 1, 3, none⟩ = some (.bool s1) := by go_simp
          have zW08 : ((w.alloc (.cells #[.bool sel, .bool clr, .bool sec, .int .i64 0] 23)).alloc (.cells #[.int .i64 k0, .bool s0, .int .i64 k1, .bool s1, .int .i64 k2, .bool s2, .int .i64 k3, .bool s3, .int .i64 k4, .bool s4] 26)).cell? ⟨w.heap.size + 1, 4, none⟩ = some (.int .i64 k2) := by go_simp
          have zW09 : ((w.alloc (.cells #[.bool sel, .bool clr, .bool sec, .int .i64 0] 23)).alloc (.cells #[.int .i64 k0, .bool s0, .int .i64 k1, .bool s1, .int .i64 k2, .bool s2, .int .i64 k3, .bool s3, .int .i64 k4, .bool s4] 26)).cell? ⟨w.heap.size + 1, 5, none⟩ = some (.bool s2) := by go_simp
          have zW010 : ((w.alloc (.cells #[.bool sel, .bool clr, .bool sec, .int .i64 0] 23)).alloc (.cells #[.int .i64 k0, .bool s0, .int .i64 k1, .bool s1, .int .i64 k2, .bool s2, .int .i64 k3, .bool s3, .int .i64 k4, .bool s4] 26)).cell? ⟨w.heap.size + 1, 6, none⟩ = some (.int .i64 k3) := by go_simp
          have zW011 : ((w.alloc (.cells #[.bool sel, .bool clr, .bool sec, .int .i64 0] 23)).alloc (.cells #[.int .i64 k0, .bool s0, .int .i64 k1, .bool s1, .int .i64 k2, .bool s2, .int .i64 k3, .bool s3, .int .i64 k4, .bool s4] 26)).cell? ⟨w.heap.size + 1, 7, none⟩ = some (.bool s3) := by go_simp
          have zW012 : ((w.alloc (.cells #[.bool sel, .bool clr, .bool sec, .int .i64 0] 23)).alloc (.cells #[.int .i64 k0, .bool s0, .int .i64 k1, .bool s1, .int .i64 k2, .bool s2, .int .i64 k3, .bool s3, .int .i64 k4, .bool s4] 26)).cell? ⟨w.heap.size + 1, 8, none⟩ = some (.int .i64 k4) := by go_simp
          have zW013 : ((w.alloc (.cells #[.bool sel, .bool clr, .bool sec, .int .i64 0] 23)).alloc (.cells #[.int .i64 k0, .bool s0, .int .i64 k1, .bool s1, .int .i64 k2, .bool s2, .int .i64 k3, .bool s3, .int .i64 k4, .bool s4] 26)).cell? ⟨w.heap.size + 1, 9, none⟩ = some (.bool s4) := by go_simp
          generalize ((w.alloc (.cells #[.bool sel, .bool clr, .bool sec, .int .i64 0] 23)).alloc (.cells #[.int .i64 k0, .bool s0, .int .i64 k1, .bool s1, .int .i64 k2, .bool s2, .int .i64 k3, .bool s3, .int .i64 k4, .bool s4] 26)) = W0 at *
          go_region_held3 (fun w' => Up W0 w' ∧ ∀ b o, b < W0.heap.size → w'.cell? ⟨b, o, none⟩ = W0.cell? ⟨b, o, none⟩) (first | exact ⟨by assumption, by assumption⟩ | go_keep) (first | (go_at_call 8; refine (pressed_up _ _ _ _ _).mono ?_; rintro e w3 ⟨rfl, hB3⟩; have hU3 : Up W0 w3 := (by first | exact Up.trans (by assumption) hB3 | exact Up.trans (Up.drew (Up.refl W0)) hB3); have hc3 : ∀ b o, b < W0.heap.size → w3.cell? ⟨b, o, none⟩ = W0.cell? ⟨b, o, none⟩ := (fun b o hb => hU3.cell hb)))
          go_wp2
          go_ret
          exact ⟨ret_int (by first | exact C.out | (rw [C.out]; rfl)), hU_W0.trans (by assumption)⟩
        · skip
          have C := Lib.hid (clear191 _ hr.1 hr.2)
          clear hr
          go_enter Try.func6, Try.ntmps6
          go_wp2
          have hU_W0 : Up w ((w.alloc (.cells #[.bool sel, .bool clr, .bool sec, .int .i64 0] 23)).alloc (.cells #[.int .i64 k0, .bool s0, .int .i64 k1, .bool s1, .int .i64 k2, .bool s2, .int .i64 k3, .bool s3, .int .i64 k4, .bool s4] 26)) := ((Up.refl w).alloc _).alloc _
          have yW00 : w.heap.size < ((w.alloc (.cells #[.bool sel, .bool clr, .bool sec, .int .i64 0] 23)).alloc (.cells #[.int .i64 k0, .bool s0, .int .i64 k1, .bool s1, .int .i64 k2, .bool s2, .int .i64 k3, .bool s3, .int .i64 k4, .bool s4] 26)).heap.size := by (try simp only [World.size_alloc]); omega
          have zW00 : ((w.alloc (.cells #[.bool sel, .bool clr, .bool sec, .int .i64 0] 23)).alloc (.cells #[.int .i64 k0, .bool s0, .int .i64 k1, .bool s1, .int .i64 k2, .bool s2, .int .i64 k3, .bool s3, .int .i64 k4, .bool s4] 26)).cell? ⟨w.heap.size, 0, none⟩ = some (.bool sel) := by go_simp
          have zW01 : ((w.alloc (.cells #[.bool sel, .bool clr, .bool sec, .int .i64 0] 23)).alloc (.cells #[.int .i64 k0, .bool s0, .int .i64 k1, .bool s1, .int .i64 k2, .bool s2, .int .i64 k3, .bool s3, .int .i64 k4, .bool s4] 26)).cell? ⟨w.heap.size, 1, none⟩ = some (.bool clr) := by go_simp
          have zW02 : ((w.alloc (.cells #[.bool sel, .bool clr, .bool sec, .int .i64 0] 23)).alloc (.cells #[.int .i64 k0, .bool s0, .int .i64 k1, .bool s1, .int .i64 k2, .bool s2, .int .i64 k3, .bool s3, .int .i64 k4, .bool s4] 26)).cell? ⟨w.heap.size, 2, none⟩ = some (.bool sec) := by go_simp
          have zW03 : ((w.alloc (.cells #[.bool sel, .bool clr, .bool sec, .int .i64 0] 23)).alloc (.cells #[.int .i64 k0, .bool s0, .int .i64 k1, .bool s1, .int .i64 k2, .bool s2, .int .i64 k3, .bool s3, .int .i64 k4, .bool s4] 26)).cell? ⟨w.heap.size, 3, none⟩ = some (.int .i64 0) := by go_simp
          have yW01 : w.heap.size + 1 < ((w.alloc (.cells #[.bool sel, .bool clr, .bool sec, .int .i64 0] 23)).alloc (.cells #[.int .i64 k0, .bool s0, .int .i64 k1, .bool s1, .int .i64 k2, .bool s2, .int .i64 k3, .bool s3, .int .i64 k4, .bool s4] 26)).heap.size := by (try simp only [World.size_alloc]); omega
          have zW04 : ((w.alloc (.cells #[.bool sel, .bool clr, .bool sec, .int .i64 0] 23)).alloc (.cells #[.int .i64 k0, .bool s0, .int .i64 k1, .bool s1, .int .i64 k2, .bool s2, .int .i64 k3, .bool s3, .int .i64 k4, .bool s4] 26)).cell? ⟨w.heap.size + 1, 0, none⟩ = some (.int .i64 k0) := by go_simp
          have zW05 : ((w.alloc (.cells #[.bool sel, .bool clr, .bool sec, .int .i64 0] 23)).alloc (.cells #[.int .i64 k0, .bool s0, .int .i64 k1, .bool s1, .int .i64 k2, .bool s2, .int .i64 k3, .bool s3, .int .i64 k4, .bool s4] 26)).cell? ⟨w.heap.size + 1, 1, none⟩ = some (.bool s0) := by go_simp
          have zW06 : ((w.alloc (.cells #[.bool sel, .bool clr, .bool sec, .int .i64 0] 23)).alloc (.cells #[.int .i64 k0, .bool s0, .int .i64 k1, .bool s1, .int .i64 k2, .bool s2, .int .i64 k3, .bool s3, .int .i64 k4, .bool s4] 26)).cell? ⟨w.heap.size + 1, 2, none⟩ = some (.int .i64 k1) := by go_simp
          have zW07 : ((w.alloc (.cells #[.bool sel, .bool clr, .bool sec, .int .i64 0] 23)).alloc (.cells #[.int .i64 k0, .bool s0, .int .i64 k1, .bool s1, .int .i64 k2, .bool s2, .int .i64 k3, .bool s3, .int .i64 k4, .bool s4] 26)).cell? ⟨w.heap.size + 1, 3, none⟩ = some (.bool s1) := by go_simp
          have zW08 : ((w.alloc (.cells #[.bool sel, .bool clr, .bool sec, .int .i64 0] 23)).alloc (.cells #[.int .i64 k0, .bool s0, .int .i64 k1, .bool s1, .int .i64 k2, .bool s2, .int .i64 k3, .bool s3, .int .i64 k4, .bool s4] 26)).cell? ⟨w.heap.size + 1, 4, none⟩ = some (.int .i64 k2) := by go_simp
          have zW09 : ((w.alloc (.cells #[.bool sel, .bool clr, .bool sec, .int .i64 0] 23)).alloc (.cells #[.int .i64 k0, .bool s0, .int .i64 k1, .bool s1, .int .i64 k2, .bool s2, .int .i64 k3, .bool s3, .int .i64 k4, .bool s4] 26)).cell? ⟨w.heap.size + 1, 5, none⟩ = some (.bool s2) := by go_simp
          have zW010 : ((w.alloc (.cells #[.bool sel, .bool clr, .bool sec, .int .i64 0] 23)).alloc (.cells #[.int .i64 k0, .bool s0, .int .i64 k1, .bool s1, .int .i64 k2, .bool s2, .int .i64 k3, .bool s3, .int .i64 k4, .bool s4] 26)).cell? ⟨w.heap.size + 1, 6, none⟩ = some (.int .i64 k3) := by go_simp
          have zW011 : ((w.alloc (.cells #[.bool sel, .bool clr, .bool sec, .int .i64 0] 23)).alloc (.cells #[.int .i64 k0, .bool s0, .int .i64 k1, .bool s1, .int .i64 k2, .bool s2, .int .i64 k3, .bool s3, .int .i64 k4, .bool s4] 26)).cell? ⟨w.heap.size + 1, 7, none⟩ = some (.bool s3) := by go_simp
          have zW012 : ((w.alloc (.cells #[.bool sel, .bool clr, .bool sec, .int .i64 0] 23)).alloc (.cells #[.int .i64 k0, .bool s0, .int .i64 k1, .bool s1, .int .i64 k2, .bool s2, .int .i64 k3, .bool s3, .int .i64 k4, .bool s4] 26)).cell? ⟨w.heap.size + 1, 8, none⟩ = some (.int .i64 k4) := by go_simp
          have zW013 : ((w.alloc (.cells #[.bool sel, .bool clr, .bool sec, .int .i64 0] 23)).alloc (.cells #[.int .i64 k0, .bool s0, .int .i64 k1, .bool s1, .int .i64 k2, .bool s2, .int .i64 k3, .bool s3, .int .i64 k4, .bool s4] 26)).cell? ⟨w.heap.size + 1, 9, none⟩ = some (.bool s4) := by go_simp
          generalize ((w.alloc (.cells #[.bool sel, .bool clr, .bool sec, .int .i64 0] 23)).alloc (.cells #[.int .i64 k0, .bool s0, .int .i64 k1, .bool s1, .int .i64 k2, .bool s2, .int .i64 k3, .bool s3, .int .i64 k4, .bool s4] 26)) = W0 at *
          go_region_held3 (fun w' => Up W0 w' ∧ ∀ b o, b < W0.heap.size → w'.cell? ⟨b, o, none⟩ = W0.cell? ⟨b, o, none⟩) (first | exact ⟨by assumption, by assumption⟩ | go_keep) (first | (go_at_call 8; refine (pressed_up _ _ _ _ _).mono ?_; rintro e w3 ⟨rfl, hB3⟩; have hU3 : Up W0 w3 := (by first | exact Up.trans (by assumption) hB3 | exact Up.trans (Up.drew (Up.refl W0)) hB3); have hc3 : ∀ b o, b < W0.heap.size → w3.cell? ⟨b, o, none⟩ = W0.cell? ⟨b, o, none⟩ := (fun b o hb => hU3.cell hb)))
          go_wp2
          go_ret
          exact ⟨ret_int (by first | exact C.out | (rw [C.out]; rfl)), hU_W0.trans (by assumption)⟩
      · have hr := vPr_rng k1 s1 sel sec
        cases abroad
        · skip
          have C := Lib.hid (clear255 _ hr.1 hr.2)
          clear hr
          go_enter Try.func6, Try.ntmps6
          go_wp2
          have hU_W0 : Up w ((w.alloc (.cells #[.bool sel, .bool clr, .bool sec, .int .i64 1] 23)).alloc (.cells #[.int .i64 k0, .bool s0, .int .i64 k1, .bool s1, .int .i64 k2, .bool s2, .int .i64 k3, .bool s3, .int .i64 k4, .bool s4] 26)) := ((Up.refl w).alloc _).alloc _
          have yW00 : w.heap.size < ((w.alloc (.cells #[.bool sel, .bool clr, .bool sec, .int .i64 1] 23)).alloc (.cells #[.int .i64 k0, .bool s0, .int .i64 k1, .bool s1, .int .i64 k2, .bool s2, .int .i64 k3, .bool s3, .int .i64 k4, .bool s4] 26)).heap.size := by (try simp only [World.size_alloc]); omega
          have zW00 : ((w.alloc (.cells #[.bool sel, .bool clr, .bool sec, .int .i64 1] 23)).alloc (.cells #[.int .i64 k0, .bool s0, .int .i64 k1, .bool s1, .int .i64 k2, .bool s2, .int .i64 k3, .bool s3, .int .i64 k4, .bool s4] 26)).cell? ⟨w.heap.size, 0, none⟩ = some (.bool sel) := by go_simp
          have zW01 : ((w.alloc (.cells #[.bool sel, .bool clr, .bool sec, .int .i64 1] 23)).alloc (.cells #[.int .i64 k0, .bool s0, .int .i64 k1, .bool s1, .int .i64 k2, .bool s2, .int .i64 k3, .bool s3, .int .i64 k4, .bool s4] 26)).cell? ⟨w.heap.size, 1, none⟩ = some (.bool clr) := by go_simp
          have zW02 : ((w.alloc (.cells #[.bool sel, .bool clr, .bool sec, .int .i64 1] 23)).alloc (.cells #[.int .i64 k0, .bool s0, .int .i64 k1, .bool s1, .int .i64 k2, .bool s2, .int .i64 k3, .bool s3, .int .i64 k4, .bool s4] 26)).cell? ⟨w.heap.size, 2, none⟩ = some (.bool sec) := by go_simp
          have zW03 : ((w.alloc (.cells #[.bool sel, .bool clr, .bool sec, .int .i64 1] 23)).alloc (.cells #[.int .i64 k0, .bool s0, .int .i64 k1, .bool s1, .int .i64 k2, .bool s2, .int .i64 k3, .bool s3, .int .i64 k4, .bool s4] 26)).cell? ⟨w.heap.size, 3, none⟩ = some (.int .i64 1) := by go_simp
          have yW01 : w.heap.size + 1 < ((w.alloc (.cells #[.bool sel, .bool clr, .bool sec, .int .i64 1] 23)).alloc (.cells #[.int .i64 k0, .bool s0, .int .i64 k1, .bool s1, .int .i64 k2, .bool s2, .int .i64 k3, .bool s3, .int .i64 k4, .bool s4] 26)).heap.size := by (try simp only [World.size_alloc]); omega
          have zW04 : ((w.alloc (.cells #[.bool sel, .bool clr, .bool sec, .int .i64 1] 23)).alloc (.cells #[.int .i64 k0, .bool s0, .int .i64 k1, .bool s1, .int .i64 k2, .bool s2, .int .i64 k3, .bool s3, .int .i64 k4, .bool s4] 26)).cell? ⟨w.heap.size + 1, 0, none⟩ = some (.int .i64 k0) := by go_simp
          have zW05 : ((w.alloc (.cells #[.bool sel, .bool clr, .bool sec, .int .i64 1] 23)).alloc (.cells #[.int .i64 k0, .bool s0, .int .i64 k1, .bool s1, .int .i64 k2, .bool s2, .int .i64 k3, .bool s3, .int .i64 k4, .bool s4] 26)).cell? ⟨w.heap.size + 1, 1, none⟩ = some (.bool s0) := by go_simp
          have zW06 : ((w.alloc (.cells #[.bool sel, .bool clr, .bool sec, .int .i64 1] 23)).alloc (.cells #[.int .i64 k0, .bool s0, .int .i64 k1, .bool s1, .int .i64 k2, .bool s2, .int .i64 k3, .bool s3, .int .i64 k4, .bool s4] 26)).cell? ⟨w.heap.size + 1, 2, none⟩ = some (.int .i64 k1) := by go_simp
          have zW07 : ((w.alloc (.cells #[.bool sel, .bool clr, .bool sec, .int .i64 1] 23)).alloc (.cells #[.int .i64 k0, .bool s0, .int .i64 k1, .bool s1, .int .i64 k2, .bool s2, .int .i64 k3, .bool s3, .int .i64 k4, .bool s4] 26)).cell? ⟨w.heap.size + 1, 3, none⟩ = some (.bool s1) := by go_simp
          have zW08 : ((w.alloc (.cells #[.bool sel, .bool clr, .bool sec, .int .i64 1] 23)).alloc (.cells #[.int .i64 k0, .bool s0, .int .i64 k1, .bool s1, .int .i64 k2, .bool s2, .int .i64 k3, .bool s3, .int .i64 k4, .bool s4] 26)).cell? ⟨w.heap.size + 1, 4, none⟩ = some (.int .i64 k2) := by go_simp
          have zW09 : ((w.alloc (.cells #[.bool sel, .bool clr, .bool sec, .int .i64 1] 23)).alloc (.cells #[.int .i64 k0, .bool s0, .int .i64 k1, .bool s1, .int .i64 k2, .bool s2, .int .i64 k3, .bool s3, .int .i64 k4, .bool s4] 26)).cell? ⟨w.heap.size + 1, 5, none⟩ = some (.bool s2) := by go_simp
          have zW010 : ((w.alloc (.cells #[.bool sel, .bool clr, .bool sec, .int .i64 1] 23)).alloc (.cells #[.int .i64 k0, .bool s0, .int .i64 k1, .bool s1, .int .i64 k2, .bool s2, .int .i64 k3, .bool s3, .int .i64 k4, .bool s4] 26)).cell? ⟨w.heap.size + 1, 6, none⟩ = some (.int .i64 k3) := by go_simp
          have zW011 : ((w.alloc (.cells #[.bool sel, .bool clr, .bool sec, .int .i64 1] 23)).alloc (.cells #[.int .i64 k0, .bool s0, .int .i64 k1, .bool s1, .int .i64 k2, .bool s2, .int .i64 k3, .bool s3, .int .i64 k4, .bool s4] 26)).cell? ⟨w.heap.size + 1, 7, none⟩ = some (.bool s3) := by go_simp
          have zW012 : ((w.alloc (.cells #[.bool sel, .bool clr, .bool sec, .int .i64 1] 23)).alloc (.cells #[.int .i64 k0, .bool s0, .int .i64 k1, .bool s1, .int .i64 k2, .bool s2, .int .i64 k3, .bool s3, .int .i64 k4, .bool s4] 26)).cell? ⟨w.heap.size + 1, 8, none⟩ = some (.int .i64 k4) := by go_simp
          have zW013 : ((w.alloc (.cells #[.bool sel, .bool clr, .bool sec, .int .i64 1] 23)).alloc (.cells #[.int .i64 k0, .bool s0, .int .i64 k1, .bool s1, .int .i64 k2, .bool s2, .int .i64 k3, .bool s3, .int .i64 k4, .bool s4] 26)).cell? ⟨w.heap.size + 1, 9, none⟩ = some (.bool s4) := by go_simp
          generalize ((w.alloc (.cells #[.bool sel, .bool clr, .bool sec, .int .i64 1] 23)).alloc (.cells #[.int .i64 k0, .bool s0, .int .i64 k1, .bool s1, .int .i64 k2, .bool s2, .int .i64 k3, .bool s3, .int .i64 k4, .bool s4] 26)) = W0 at *
          go_region_held3 (fun w' => Up W0 w' ∧ ∀ b o, b < W0.heap.size → w'.cell? ⟨b, o, none⟩ = W0.cell? ⟨b, o, none⟩) (first | exact ⟨by assumption, by assumption⟩ | go_keep) (first | (go_at_call 8; refine (pressed_up _ _ _ _ _).mono ?_; rintro e w3 ⟨rfl, hB3⟩; have hU3 : Up W0 w3 := (by first | exact Up.trans (by assumption) hB3 | exact Up.trans (Up.drew (Up.refl W0)) hB3); have hc3 : ∀ b o, b < W0.heap.size → w3.cell? ⟨b, o, none⟩ = W0.cell? ⟨b, o, none⟩ := (fun b o hb => hU3.cell hb)))
          go_wp2
          go_ret
          exact ⟨ret_int (by first | exact C.out | (rw [C.out]; rfl)), hU_W0.trans (by assumption)⟩
        · skip
          have C := Lib.hid (clear191 _ hr.1 hr.2)
          clear hr
          go_enter Try.func6, Try.ntmps6
          go_wp2
          have hU_W0 : Up w ((w.alloc (.cells #[.bool sel, .bool clr, .bool sec, .int .i64 1] 23)).alloc (.cells #[.int .i64 k0, .bool s0, .int .i64 k1, .bool s1, .int .i64 k2, .bool s2, .int .i64 k3, .bool s3, .int .i64 k4, .bool s4] 26)) := ((Up.refl w).alloc _).alloc _
          have yW00 : w.heap.size < ((w.alloc (.cells #[.bool sel, .bool clr, .bool sec, .int .i64 1] 23)).alloc (.cells #[.int .i64 k0, .bool s0, .int .i64 k1, .bool s1, .int .i64 k2, .bool s2, .int .i64 k3, .bool s3, .int .i64 k4, .bool s4] 26)).heap.size := by (try simp only [World.size_alloc]); omega
          have zW00 : ((w.alloc (.cells #[.bool sel, .bool clr, .bool sec, .int .i64 1] 23)).alloc (.cells #[.int .i64 k0, .bool s0, .int .i64 k1, .bool s1, .int .i64 k2, .bool s2, .int .i64 k3, .bool s3, .int .i64 k4, .bool s4] 26)).cell? ⟨w.heap.size, 0, none⟩ = some (.bool sel) := by go_simp
          have zW01 : ((w.alloc (.cells #[.bool sel, .bool clr, .bool sec, .int .i64 1] 23)).alloc (.cells #[.int .i64 k0, .bool s0, .int .i64 k1, .bool s1, .int .i64 k2, .bool s2, .int .i64 k3, .bool s3, .int .i64 k4, .bool s4] 26)).cell? ⟨w.heap.size, 1, none⟩ = some (.bool clr) := by go_simp
          have zW02 : ((w.alloc (.cells #[.bool sel, .bool clr, .bool sec, .int .i64 1] 23)).alloc (.cells #[.int .i64 k0, .bool s0, .int .i64 k1, .bool s1, .int .i64 k2, .bool s2, .int .i64 k3, .bool s3, .int .i64 k4, .bool s4] 26)).cell? ⟨w.heap.size, 2, none⟩ = some (.bool sec) := by go_simp
          have zW03 : ((w.alloc (.cells #[.bool sel, .bool clr, .bool sec, .int .i64 1] 23)).alloc (.cells #[.int .i64 k0, .bool s0, .int .i64 k1, .bool s1, .int .i64 k2, .bool s2, .int .i64 k3, .bool s3, .int .i64 k4, .bool s4] 26)).cell? ⟨w.heap.size, 3, none⟩ = some (.int .i64 1) := by go_simp
          have yW01 : w.heap.size + 1 < ((w.alloc (.cells #[.bool sel, .bool clr, .bool sec, .int .i64 1] 23)).alloc (.cells #[.int .i64 k0, .bool s0, .int .i64 k1, .bool s1, .int .i64 k2, .bool s2, .int .i64 k3, .bool s3, .int .i64 k4, .bool s4] 26)).heap.size := by (try simp only [World.size_alloc]); omega
          have zW04 : ((w.alloc (.cells #[.bool sel, .bool clr, .bool sec, .int .i64 1] 23)).alloc (.cells #[.int .i64 k0, .bool s0, .int .i64 k1, .bool s1, .int .i64 k2, .bool s2, .int .i64 k3, .bool s3, .int .i64 k4, .bool s4] 26)).cell? ⟨w.heap.size + 1, 0, none⟩ = some (.int .i64 k0) := by go_simp
          have zW05 : ((w.alloc (.cells #[.bool sel, .bool clr, .bool sec, .int .i64 1] 23)).alloc (.cells #[.int .i64 k0, .bool s0, .int .i64 k1, .bool s1, .int .i64 k2, .bool s2, .int .i64 k3, .bool s3, .int .i64 k4, .bool s4] 26)).cell? ⟨w.heap.size + 1, 1, none⟩ = some (.bool s0) := by go_simp
          have zW06 : ((w.alloc (.cells #[.bool sel, .bool clr, .bool sec, .int .i64 1] 23)).alloc (.cells #[.int .i64 k0, .bool s0, .int .i64 k1, .bool s1, .int .i64 k2, .bool s2, .int .i64 k3, .bool s3, .int .i64 k4, .bool s4] 26)).cell? ⟨w.heap.size + 1, 2, none⟩ = some (.int .i64 k1) := by go_simp
          have zW07 : ((w.alloc (.cells #[.bool sel, .bool clr, .bool sec, .int .i64 1] 23)).alloc (.cells #[.int .i64 k0, .bool s0, .int .i64 k1, .bool s1, .int .i64 k2, .bool s2, .int .i64 k3, .bool s3, .int .i64 k4, .bool s4] 26)).cell? ⟨w.heap.size + 1, 3, none⟩ = some (.bool s1) := by go_simp
          have zW08 : ((w.alloc (.cells #[.bool sel, .bool clr, .bool sec, .int .i64 1] 23)).alloc (.cells #[.int .i64 k0, .bool s0, .int .i64 k1, .bool s1, .int .i64 k2, .bool s2, .int .i64 k3, .bool s3, .int .i64 k4, .bool s4] 26)).cell? ⟨w.heap.size + 1, 4, none⟩ = some (.int .i64 k2) := by go_simp
          have zW09 : ((w.alloc (.cells #[.bool sel, .bool clr, .bool sec, .int .i64 1] 23)).alloc (.cells #[.int .i64 k0, .bool s0, .int .i64 k1, .bool s1, .int .i64 k2, .bool s2, .int .i64 k3, .bool s3, .int .i64 k4, .bool s4] 26)).cell? ⟨w.heap.size + 1, 5, none⟩ = some (.bool s2) := by go_simp
          have zW010 : ((w.alloc (.cells #[.bool sel, .bool clr, .bool sec, .int .i64 1] 23)).alloc (.cells #[.int .i64 k0, .bool s0, .int .i64 k1, .bool s1, .int .i64 k2, .bool s2, .int .i64 k3, .bool s3, .int .i64 k4, .bool s4] 26)).cell? ⟨w.heap.size + 1, 6, none⟩ = some (.int .i64 k3) := by go_simp
          have zW011 : ((w.alloc (.cells #[.bool sel, .bool clr, .bool sec, .int .i64 1] 23)).alloc (.cells #[.int .i64 k0, .bool s0, .int .i64 k1, .bool s1, .int .i64 k2, .bool s2, .int .i64 k3, .bool s3, .int .i64 k4, .bool s4] 26)).cell? ⟨w.heap.size + 1, 7, none⟩ = some (.bool s3) := by go_simp
          have zW012 : ((w.alloc (.cells #[.bool sel, .bool clr, .bool sec, .int .i64 1] 23)).alloc (.cells #[.int .i64 k0, .bool s0, .int .i64 k1, .bool s1, .int .i64 k2, .bool s2, .int .i64 k3, .bool s3, .int .i64 k4, .bool s4] 26)).cell? ⟨w.heap.size + 1, 8, none⟩ = some (.int .i64 k4) := by go_simp
          have zW013 : ((w.alloc (.cells #[.bool sel, .bool clr, .bool sec, .int .i64 1] 23)).alloc (.cells #[.int .i64 k0, .bool s0, .int .i64 k1, .bool s1, .int .i64 k2, .bool s2, .int .i64 k3, .bool s3, .int .i64 k4, .bool s4] 26)).cell? ⟨w.heap.size + 1, 9, none⟩ = some (.bool s4) := by go_simp
          generalize ((w.alloc (.cells #[.bool sel, .bool clr, .bool sec, .int .i64 1] 23)).alloc (.cells #[.int .i64 k0, .bool s0, .int .i64 k1, .bool s1, .int .i64 k2, .bool s2, .int .i64 k3, .bool s3, .int .i64 k4, .bool s4] 26)) = W0 at *
          go_region_held3 (fun w' => Up W0 w' ∧ ∀ b o, b < W0.heap.size → w'.cell? ⟨b, o, none⟩ = W0.cell? ⟨b, o, none⟩) (first | exact ⟨by assumption, by assumption⟩ | go_keep) (first | (go_at_call 8; refine (pressed_up _ _ _ _ _).mono ?_; rintro e w3 ⟨rfl, hB3⟩; have hU3 : Up W0 w3 := (by first | exact Up.trans (by assumption) hB3 | exact Up.trans (Up.drew (Up.refl W0)) hB3); have hc3 : ∀ b o, b < W0.heap.size → w3.cell? ⟨b, o, none⟩ = W0.cell? ⟨b, o, none⟩ := (fun b o hb => hU3.cell hb)))
          go_wp2
          go_ret
          exact ⟨ret_int (by first | exact C.out | (rw [C.out]; rfl)), hU_W0.trans (by assumption)⟩
      · have hr := vPr_rng k2 s2 sel sec
        cases abroad
        · skip
          have C := Lib.hid (clear255 _ hr.1 hr.2)
          clear hr
          go_enter Try.func6, Try.ntmps6
          go_wp2
          have hU_W0 : Up w ((w.alloc (.cells #[.bool sel, .bool clr, .bool sec, .int .i64 2] 23)).alloc (.cells #[.int .i64 k0, .bool s0, .int .i64 k1, .bool s1, .int .i64 k2, .bool s2, .int .i64 k3, .bool s3, .int .i64 k4, .bool s4] 26)) := ((Up.refl w).alloc _).alloc _
          have yW00 : w.heap.size < ((w.alloc (.cells #[.bool sel, .bool clr, .bool sec, .int .i64 2] 23)).alloc (.cells #[.int .i64 k0, .bool s0, .int .i64 k1, .bool s1, .int .i64 k2, .bool s2, .int .i64 k3, .bool s3, .int .i64 k4, .bool s4] 26)).heap.size := by (try simp only [World.size_alloc]); omega
          have zW00 : ((w.alloc (.cells #[.bool sel, .bool clr, .bool sec, .int .i64 2] 23)).alloc (.cells #[.int .i64 k0, .bool s0, .int .i64 k1, .bool s1, .int .i64 k2, .bool s2, .int .i64 k3, .bool s3, .int .i64 k4, .bool s4] 26)).cell? ⟨w.heap.size, 0, none⟩ = some (.bool sel) := by go_simp
          have zW01 : ((w.alloc (.cells #[.bool sel, .bool clr, .bool sec, .int .i64 2] 23)).alloc (.cells #[.int .i64 k0, .bool s0, .int .i64 k1, .bool s1, .int .i64 k2, .bool s2, .int .i64 k3, .bool s3, .int .i64 k4, .bool s4] 26)).cell? ⟨w.heap.size, 1, none⟩ = some (.bool clr) := by go_simp
          have zW02 : ((w.alloc (.cells #[.bool sel, .bool clr, .bool sec, .int .i64 2] 23)).alloc (.cells #[.int .i64 k0, .bool s0, .int .i64 k1, .bool s1, .int .i64 k2, .bool s2, .int .i64 k3, .bool s3, .int .i64 k4, .bool s4] 26)).cell? ⟨w.heap.size, 2, none⟩ = some (.bool sec) := by go_simp
          have zW03 : ((w.alloc (.cells #[.bool sel, .bool clr, .bool sec, .int .i64 2] 23)).alloc (.cells #[.int .i64 k0, .bool s0, .int .i64 k1, .bool s1, .int .i64 k2, .bool s2, .int .i64 k3, .bool s3, .int .i64 k4, .bool s4] 26)).cell? ⟨w.heap.size, 3, none⟩ = some (.int .i64 2) := by go_simp
          have yW01 : w.heap.size + 1 < ((w.alloc (.cells #[.bool sel, .bool clr, .bool sec, .int .i64 2] 23)).alloc (.cells #[.int .i64 k0, .bool s0, .int .i64 k1, .bool s1, .int .i64 k2, .bool s2, .int .i64 k3, .bool s3, .int .i64 k4, .bool s4] 26)).heap.size := by (try simp only [World.size_alloc]); omega
          have zW04 : ((w.alloc (.cells #[.bool sel, .bool clr, .bool sec, .int .i64 2] 23)).alloc (.cells #[.int .i64 k0, .bool s0, .int .i64 k1, .bool s1, .int .i64 k2, .bool s2, .int .i64 k3, .bool s3, .int .i64 k4, .bool s4] 26)).cell? ⟨w.heap.size + 1, 0, none⟩ = some (.int .i64 k0) := by go_simp
          have zW05 : ((w.alloc (.cells #[.bool sel, .bool clr, .bool sec, .int .i64 2] 23)).alloc (.cells #[.int .i64 k0, .bool s0, .int .i64 k1, .bool s1, .int .i64 k2, .bool s2, .int .i64 k3, .bool s3, .int .i64 k4, .bool s4] 26)).cell? ⟨w.heap.size + 1, 1, none⟩ = some (.bool s0) := by go_simp
          have zW06 : ((w.alloc (.cells #[.bool sel, .bool clr, .bool sec, .int .i64 2] 23)).alloc (.cells #[.int .i64 k0, .bool s0, .int .i64 k1, .bool s1, .int .i64 k2, .bool s2, .int .i64 k3, .bool s3, .int .i64 k4, .bool s4] 26)).cell? ⟨w.heap.size + 1, 2, none⟩ = some (.int .i64 k1) := by go_simp
          have zW07 : ((w.alloc (.cells #[.bool sel, .bool clr, .bool sec, .int .i64 2] 23)).alloc (.cells #[.int .i64 k0, .bool s0, .int .i64 k1, .bool s1, .int .i64 k2, .bool s2, .int .i64 k3, .bool s3, .int .i64 k4, .bool s4] 26)).cell? ⟨w.heap.size + 1, 3, none⟩ = some (.bool s1) := by go_simp
          have zW08 : ((w.alloc (.cells #[.bool sel, .bool clr, .bool sec, .int .i64 2] 23)).alloc (.cells #[.int .i64 k0, .bool s0, .int .i64 k1, .bool s1, .int .i64 k2, .bool s2, .int .i64 k3, .bool s3, .int .i64 k4, .bool s4] 26)).cell? ⟨w.heap.size + 1, 4, none⟩ = some (.int .i64 k2) := by go_simp
          have zW09 : ((w.alloc (.cells #[.bool sel, .bool clr, .bool sec, .int .i64 2] 23)).alloc (.cells #[.int .i64 k0, .bool s0, .int .i64 k1, .bool s1, .int .i64 k2, .bool s2, .int .i64 k3, .bool s3, .int .i64 k4, .bool s4] 26)).cell? ⟨w.heap.size + 1, 5, none⟩ = some (.bool s2) := by go_simp
          have zW010 : ((w.alloc (.cells #[.bool sel, .bool clr, .bool sec, .int .i64 2] 23)).alloc (.cells #[.int .i64 k0, .bool s0, .int .i64 k1, .bool s1, .int .i64 k2, .bool s2, .int .i64 k3, .bool s3, .int .i64 k4, .bool s4] 26)).cell? ⟨w.heap.size + 1, 6, none⟩ = some (.int .i64 k3) := by go_simp
          have zW011 : ((w.alloc (.cells #[.bool sel, .bool clr, .bool sec, .int .i64 2] 23)).alloc (.cells #[.int .i64 k0, .bool s0, .int .i64 k1, .bool s1, .int .i64 k2, .bool s2, .int .i64 k3, .bool s3, .int .i64 k4, .bool s4] 26)).cell? ⟨w.heap.size + 1, 7, none⟩ = some (.bool s3) := by go_simp
          have zW012 : ((w.alloc (.cells #[.bool sel, .bool clr, .bool sec, .int .i64 2] 23)).alloc (.cells #[.int .i64 k0, .bool s0, .int .i64 k1, .bool s1, .int .i64 k2, .bool s2, .int .i64 k3, .bool s3, .int .i64 k4, .bool s4] 26)).cell? ⟨w.heap.size + 1, 8, none⟩ = some (.int .i64 k4) := by go_simp
          have zW013 : ((w.alloc (.cells #[.bool sel, .bool clr, .bool sec, .int .i64 2] 23)).alloc (.cells #[.int .i64 k0, .bool s0, .int .i64 k1, .bool s1, .int .i64 k2, .bool s2, .int .i64 k3, .bool s3, .int .i64 k4, .bool s4] 26)).cell? ⟨w.heap.size + 1, 9, none⟩ = some (.bool s4) := by go_simp
          generalize ((w.alloc (.cells #[.bool sel, .bool clr, .bool sec, .int .i64 2] 23)).alloc (.cells #[.int .i64 k0, .bool s0, .int .i64 k1, .bool s1, .int .i64 k2, .bool s2, .int .i64 k3, .bool s3, .int .i64 k4, .bool s4] 26)) = W0 at *
          go_region_held3 (fun w' => Up W0 w' ∧ ∀ b o, b < W0.heap.size → w'.cell? ⟨b, o, none⟩ = W0.cell? ⟨b, o, none⟩) (first | exact ⟨by assumption, by assumption⟩ | go_keep) (first | (go_at_call 8; refine (pressed_up _ _ _ _ _).mono ?_; rintro e w3 ⟨rfl, hB3⟩; have hU3 : Up W0 w3 := (by first | exact Up.trans (by assumption) hB3 | exact Up.trans (Up.drew (Up.refl W0)) hB3); have hc3 : ∀ b o, b < W0.heap.size → w3.cell? ⟨b, o, none⟩ = W0.cell? ⟨b, o, none⟩ := (fun b o hb => hU3.cell hb)))
          go_wp2
          go_ret
          exact ⟨ret_int (by first | exact C.out | (rw [C.out]; rfl)), hU_W0.trans (by assumption)⟩
        · skip
          have C := Lib.hid (clear191 _ hr.1 hr.2)
          clear hr
          go_enter Try.func6, Try.ntmps6
          go_wp2
          have hU_W0 : Up w ((w.alloc (.cells #[.bool sel, .bool clr, .bool sec, .int .i64 2] 23)).alloc (.cells #[.int .i64 k0, .bool s0, .int .i64 k1, .bool s1, .int .i64 k2, .bool s2, .int .i64 k3, .bool s3, .int .i64 k4, .bool s4] 26)) := ((Up.refl w).alloc _).alloc _
          have yW00 : w.heap.size < ((w.alloc (.cells #[.bool sel, .bool clr, .bool sec, .int .i64 2] 23)).alloc (.cells #[.int .i64 k0, .bool s0, .int .i64 k1, .bool s1, .int .i64 k2, .bool s2, .int .i64 k3, .bool s3, .int .i64 k4, .bool s4] 26)).heap.size := by (try simp only [World.size_alloc]); omega
          have zW00 : ((w.alloc (.cells #[.bool sel, .bool clr, .bool sec, .int .i64 2] 23)).alloc (.cells #[.int .i64 k0, .bool s0, .int .i64 k1, .bool s1, .int .i64 k2, .bool s2, .int .i64 k3, .bool s3, .int .i64 k4, .bool s4] 26)).cell? ⟨w.heap.size, 0, none⟩ = some (.bool sel) := by go_simp
          have zW01 : ((w.alloc (.cells #[.bool sel, .bool clr, .bool sec, .int .i64 2] 23)).alloc (.cells #[.int .i64 k0, .bool s0, .int .i64 k1, .bool s1, .int .i64 k2, .bool s2, .int .i64 k3, .bool s3, .int .i64 k4, .bool s4] 26)).cell? ⟨w.heap.size, 1, none⟩ = some (.bool clr) := by go_simp
          have zW02 : ((w.alloc (.cells #[.bool sel, .bool clr, .bool sec, .int .i64 2] 23)).alloc (.cells #[.int .i64 k0, .bool s0, .int .i64 k1, .bool s1, .int .i64 k2, .bool s2, .int .i64 k3, .bool s3, .int .i64 k4, .bool s4] 26)).cell? ⟨w.heap.size, 2, none⟩ = some (.bool sec) := by go_simp
          have zW03 : ((w.alloc (.cells #[.bool sel, .bool clr, .bool sec, .int .i64 2] 23)).alloc (.cells #[.int .i64 k0, .bool s0, .int .i64 k1, .bool s1, .int .i64 k2, .bool s2, .int .i64 k3, .bool s3, .int .i64 k4, .bool s4] 26)).cell? ⟨w.heap.size, 3, none⟩ = some (.int .i64 2) := by go_simp
          have yW01 : w.heap.size + 1 < ((w.alloc (.cells #[.bool sel, .bool clr, .bool sec, .int .i64 2] 23)).alloc (.cells #[.int .i64 k0, .bool s0, .int .i64 k1, .bool s1, .int .i64 k2, .bool s2, .int .i64 k3, .bool s3, .int .i64 k4, .bool s4] 26)).heap.size := by (try simp only [World.size_alloc]); omega
          have zW04 : ((w.alloc (.cells #[.bool sel, .bool clr, .bool sec, .int .i64 2] 23)).alloc (.cells #[.int .i64 k0, .bool s0, .int .i64 k1, .bool s1, .int .i64 k2, .bool s2, .int .i64 k3, .bool s3, .int .i64 k4, .bool s4] 26)).cell? ⟨w.heap.size + 1, 0, none⟩ = some (.int .i64 k0) := by go_simp
          have zW05 : ((w.alloc (.cells #[.bool sel, .bool clr, .bool sec, .int .i64 2] 23)).alloc (.cells #[.int .i64 k0, .bool s0, .int .i64 k1, .bool s1, .int .i64 k2, .bool s2, .int .i64 k3, .bool s3, .int .i64 k4, .bool s4] 26)).cell? ⟨w.heap.size + 1, 1, none⟩ = some (.bool s0) := by go_simp
          have zW06 : ((w.alloc (.cells #[.bool sel, .bool clr, .bool sec, .int .i64 2] 23)).alloc (.cells #[.int .i64 k0, .bool s0, .int .i64 k1, .bool s1, .int .i64 k2, .bool s2, .int .i64 k3, .bool s3, .int .i64 k4, .bool s4] 26)).cell? ⟨w.heap.size + 1, 2, none⟩ = some (.int .i64 k1) := by go_simp
          have zW07 : ((w.alloc (.cells #[.bool sel, .bool clr, .bool sec, .int .i64 2] 23)).alloc (.cells #[.int .i64 k0, .bool s0, .int .i64 k1, .bool s1, .int .i64 k2, .bool s2, .int .i64 k3, .bool s3, .int .i64 k4, .bool s4] 26)).cell? ⟨w.heap.size + 1, 3, none⟩ = some (.bool s1) := by go_simp
          have zW08 : ((w.alloc (.cells #[.bool sel, .bool clr, .bool sec, .int .i64 2] 23)).alloc (.cells #[.int .i64 k0, .bool s0, .int .i64 k1, .bool s1, .int .i64 k2, .bool s2, .int .i64 k3, .bool s3, .int .i64 k4, .bool s4] 26)).cell? ⟨w.heap.size + 1, 4, none⟩ = some (.int .i64 k2) := by go_simp
          have zW09 : ((w.alloc (.cells #[.bool sel, .bool clr, .bool sec, .int .i64 2] 23)).alloc (.cells #[.int .i64 k0, .bool s0, .int .i64 k1, .bool s1, .int .i64 k2, .bool s2, .int .i64 k3, .bool s3, .int .i64 k4, .bool s4] 26)).cell? ⟨w.heap.size + 1, 5, none⟩ = some (.bool s2) := by go_simp
          have zW010 : ((w.alloc (.cells #[.bool sel, .bool clr, .bool sec, .int .i64 2] 23)).alloc (.cells #[.int .i64 k0, .bool s0, .int .i64 k1, .bool s1, .int .i64 k2, .bool s2, .int .i64 k3, .bool s3, .int .i64 k4, .bool s4] 26)).cell? ⟨w.heap.size + 1, 6, none⟩ = some (.int .i64 k3) := by go_simp
          have zW011 : ((w.alloc (.cells #[.bool sel, .bool clr, .bool sec, .int .i64 2] 23)).alloc (.cells #[.int .i64 k0, .bool s0, .int .i64 k1, .bool s1, .int .i64 k2, .bool s2, .int .i64 k3, .bool s3, .int .i64 k4, .bool s4] 26)).cell? ⟨w.heap.size + 1, 7, none⟩ = some (.bool s3) := by go_simp
          have zW012 : ((w.alloc (.cells #[.bool sel, .bool clr, .bool sec, .int .i64 2] 23)).alloc (.cells #[.int .i64 k0, .bool s0, .int .i64 k1, .bool s1, .int .i64 k2, .bool s2, .int .i64 k3, .bool s3, .int .i64 k4, .bool s4] 26)).cell? ⟨w.heap.size + 1, 8, none⟩ = some (.int .i64 k4) := by go_simp
          have zW013 : ((w.alloc (.cells #[.bool sel, .bool clr, .bool sec, .int .i64 2] 23)).alloc (.cells #[.int .i64 k0, .bool s0, .int .i64 k1, .bool s1, .int .i64 k2, .bool s2, .int .i64 k3, .bool s3, .int .i64 k4, .bool s4] 26)).cell? ⟨w.heap.size + 1, 9, none⟩ = some (.bool s4) := by go_simp
          generalize ((w.alloc (.cells #[.bool sel, .bool clr, .bool sec, .int .i64 2] 23)).alloc (.cells #[.int .i64 k0, .bool s0, .int .i64 k1, .bool s1, .int .i64 k2, .bool s2, .int .i64 k3, .bool s3, .int .i64 k4, .bool s4] 26)) = W0 at *
          go_region_held3 (fun w' => Up W0 w' ∧ ∀ b o, b < W0.heap.size → w'.cell? ⟨b, o, none⟩ = W0.cell? ⟨b, o, none⟩) (first | exact ⟨by assumption, by assumption⟩ | go_keep) (first | (go_at_call 8; refine (pressed_up _ _ _ _ _).mono ?_; rintro e w3 ⟨rfl, hB3⟩; have hU3 : Up W0 w3 := (by first | exact Up.trans (by assumption) hB3 | exact Up.trans (Up.drew (Up.refl W0)) hB3); have hc3 : ∀ b o, b < W0.heap.size → w3.cell? ⟨b, o, none⟩ = W0.cell? ⟨b, o, none⟩ := (fun b o hb => hU3.cell hb)))
          go_wp2
          go_ret
          exact ⟨ret_int (by first | exact C.out | (rw [C.out]; rfl)), hU_W0.trans (by assumption)⟩
      · have hr := vPr_rng k3 s3 sel sec
        cases abroad
        · skip
          have C := Lib.hid (clear255 _ hr.1 hr.2)
          clear hr
          go_enter Try.func6, Try.ntmps6
          go_wp2
          have hU_W0 : Up w ((w.alloc (.cells #[.bool sel, .bool clr, .bool sec, .int .i64 3] 23)).alloc (.cells #[.int .i64 k0, .bool s0, .int .i64 k1, .bool s1, .int .i64 k2, .bool s2, .int .i64 k3, .bool s3, .int .i64 k4, .bool s4] 26)) := ((Up.refl w).alloc _).alloc _
          have yW00 : w.heap.size < ((w.alloc (.cells #[.bool sel, .bool clr, .bool sec, .int .i64 3] 23)).alloc (.cells #[.int .i64 k0, .bool s0, .int .i64 k1, .bool s1, .int .i64 k2, .bool s2, .int .i64 k3, .bool s3, .int .i64 k4, .bool s4] 26)).heap.size := by (try simp only [World.size_alloc]); omega
          have zW00 : ((w.alloc (.cells #[.bool sel, .bool clr, .bool sec, .int .i64 3] 23)).alloc (.cells #[.int .i64 k0, .bool s0, .int .i64 k1, .bool s1, .int .i64 k2, .bool s2, .int .i64 k3, .bool s3, .int .i64 k4, .bool s4] 26)).cell? ⟨w.heap.size, 0, none⟩ = some (.bool sel) := by go_simp
          have zW01 : ((w.alloc (.cells #[.bool sel, .bool clr, .bool sec, .int .i64 3] 23)).alloc (.cells #[.int .i64 k0, .bool s0, .int .i64 k1, .bool s1, .int .i64 k2, .bool s2, .int .i64 k3, .bool s3, .int .i64 k4, .bool s4] 26)).cell? ⟨w.heap.size, 1, none⟩ = some (.bool clr) := by go_simp
          have zW02 : ((w.alloc (.cells #[.bool sel, .bool clr, .bool sec, .int .i64 3] 23)).alloc (.cells #[.int .i64 k0, .bool s0, .int .i64 k1, .bool s1, .int .i64 k2, .bool s2, .int .i64 k3, .bool s3, .int .i64 k4, .bool s4] 26)).cell? ⟨w.heap.size, 2, none⟩ = some (.bool sec) := by go_simp
          have zW03 : ((w.alloc (.cells #[.bool sel, .bool clr, .bool sec, .int .i64 3] 23)).alloc (.cells #[.int .i64 k0, .bool s0, .int .i64 k1, .bool s1, .int .i64 k2, .bool s2, .int .i64 k3, .bool s3, .int .i64 k4, .bool s4] 26)).cell? ⟨w.heap.size, 3, none⟩ = some (.int .i64 3) := by go_simp
          have yW01 : w.heap.size + 1 < ((w.alloc (.cells #[.bool sel, .bool clr, .bool sec, .int .i64 3] 23)).alloc (.cells #[.int .i64 k0, .bool s0, .int .i64 k1, .bool s1, .int .i64 k2, .bool s2, .int .i64 k3, .bool s3, .int .i64 k4, .bool s4] 26)).heap.size := by (try simp only [World.size_alloc]); omega
          have zW04 : ((w.alloc (.cells #[.bool sel, .bool clr, .bool sec, .int .i64 3] 23)).alloc (.cells #[.int .i64 k0, .bool s0, .int .i64 k1, .bool s1, .int .i64 k2, .bool s2, .int .i64 k3, .bool s3, .int .i64 k4, .bool s4] 26)).cell? ⟨w.heap.size + 1, 0, none⟩ = some (.int .i64 k0) := by go_simp
          have zW05 : ((w.alloc (.cells #[.bool sel, .bool clr, .bool sec, .int .i64 3] 23)).alloc (.cells #[.int .i64 k0, .bool s0, .int .i64 k1, .bool s1, .int .i64 k2, .bool s2, .int .i64 k3, .bool s3, .int .i64 k4, .bool s4] 26)).cell? ⟨w.heap.size + 1, 1, none⟩ = some (.bool s0) := by go_simp
          have zW06 : ((w.alloc (.cells #[.bool sel, .bool clr, .bool sec, .int .i64 3] 23)).alloc (.cells #[.int .i64 k0, .bool s0, .int .i64 k1, .bool s1, .int .i64 k2, .bool s2, .int .i64 k3, .bool s3, .int .i64 k4, .bool s4] 26)).cell? ⟨w.heap.size + 1, 2, none⟩ = some (.int .i64 k1) := by go_simp
          have zW07 : ((w.alloc (.cells #[.bool sel, .bool clr, .bool sec, .int .i64 3] 23)).alloc (.cells #[.int .i64 k0, .bool s0, .int .i64 k1, .bool s1, .int .i64 k2, .bool s2, .int .i64 k3, .bool s3, .int .i64 k4, .bool s4] 26)).cell? ⟨w.heap.size + 1, 3, none⟩ = some (.bool s1) := by go_simp
          have zW08 : ((w.alloc (.cells #[.bool sel, .bool clr, .bool sec, .int .i64 3] 23)).alloc (.cells #[.int .i64 k0, .bool s0, .int .i64 k1, .bool s1, .int .i64 k2, .bool s2, .int .i64 k3, .bool s3, .int .i64 k4, .bool s4] 26)).cell? ⟨w.heap.size + 1, 4, none⟩ = some (.int .i64 k2) := by go_simp
          have zW09 : ((w.alloc (.cells #[.bool sel, .bool clr, .bool sec, .int .i64 3] 23)).alloc (.cells #[.int .i64 k0, .bool s0, .int .i64 k1, .bool s1, .int .i64 k2, .bool s2, .int .i64 k3, .bool s3, .int .i64 k4, .bool s4] 26)).cell? ⟨w.heap.size + 1, 5, none⟩ = some (.bool s2) := by go_simp
          have zW010 : ((w.alloc (.cells #[.bool sel, .bool clr, .bool sec, .int .i64 3] 23)).alloc (.cells #[.int .i64 k0, .bool s0, .int .i64 k1, .bool s1, .int .i64 k2, .bool s2, .int .i64 k3, .bool s3, .int .i64 k4, .bool s4] 26)).cell? ⟨w.heap.size + 1, 6, none⟩ = some (.int .i64 k3) := by go_simp
          have zW011 : ((w.alloc (.cells #[.bool sel, .bool clr, .bool sec, .int .i64 3] 23)).alloc (.cells #[.int .i64 k0, .bool s0, .int .i64 k1, .bool s1, .int .i64 k2, .bool s2, .int .i64 k3, .bool s3, .int .i64 k4, .bool s4] 26)).cell? ⟨w.heap.size + 1, 7, none⟩ = some (.bool s3) := by go_simp
          have zW012 : ((w.alloc (.cells #[.bool sel, .bool clr, .bool sec, .int .i64 3] 23)).alloc (.cells #[.int .i64 k0, .bool s0, .int .i64 k1, .bool s1, .int .i64 k2, .bool s2, .int .i64 k3, .bool s3, .int .i64 k4, .bool s4] 26)).cell? ⟨w.heap.size + 1, 8, none⟩ = some (.int .i64 k4) := by go_simp
          have zW013 : ((w.alloc (.cells #[.bool sel, .bool clr, .bool sec, .int .i64 3] 23)).alloc (.cells #[.int .i64 k0, .bool s0, .int .i64 k1, .bool s1, .int .i64 k2, .bool s2, .int .i64 k3, .bool s3, .int .i64 k4, .bool s4] 26)).cell? ⟨w.heap.size + 1, 9, none⟩ = some (.bool s4) := by go_simp
          generalize ((w.alloc (.cells #[.bool sel, .bool clr, .bool sec, .int .i64 3] 23)).alloc (.cells #[.int .i64 k0, .bool s0, .int .i64 k1, .bool s1, .int .i64 k2, .bool s2, .int .i64 k3, .bool s3, .int .i64 k4, .bool s4] 26)) = W0 at *
          go_region_held3 (fun w' => Up W0 w' ∧ ∀ b o, b < W0.heap.size → w'.cell? ⟨b, o, none⟩ = W0.cell? ⟨b, o, none⟩) (first | exact ⟨by assumption, by assumption⟩ | go_keep) (first | (go_at_call 8; refine (pressed_up _ _ _ _ _).mono ?_; rintro e w3 ⟨rfl, hB3⟩; have hU3 : Up W0 w3 := (by first | exact Up.trans (by assumption) hB3 | exact Up.trans (Up.drew (Up.refl W0)) hB3); have hc3 : ∀ b o, b < W0.heap.size → w3.cell? ⟨b, o, none⟩ = W0.cell? ⟨b, o, none⟩ := (fun b o hb => hU3.cell hb)))
          go_wp2
          go_ret
          exact ⟨ret_int (by first | exact C.out | (rw [C.out]; rfl)), hU_W0.trans (by assumption)⟩
        · skip
          have C := Lib.hid (clear191 _ hr.1 hr.2)
          clear hr
          go_enter Try.func6, Try.ntmps6
          go_wp2
          have hU_W0 : Up w ((w.alloc (.cells #[.bool sel, .bool clr, .bool sec, .int .i64 3] 23)).alloc (.cells #[.int .i64 k0, .bool s0, .int .i64 k1, .bool s1, .int .i64 k2, .bool s2, .int .i64 k3, .bool s3, .int .i64 k4, .bool s4] 26)) := ((Up.refl w).alloc _).alloc _
          have yW00 : w.heap.size < ((w.alloc (.cells #[.bool sel, .bool clr, .bool sec, .int .i64 3] 23)).alloc (.cells #[.int .i64 k0, .bool s0, .int .i64 k1, .bool s1, .int .i64 k2, .bool s2, .int .i64 k3, .bool s3, .int .i64 k4, .bool s4] 26)).heap.size := by (try simp only [World.size_alloc]); omega
          have zW00 : ((w.alloc (.cells #[.bool sel, .bool clr, .bool sec, .int .i64 3] 23)).alloc (.cells #[.int .i64 k0, .bool s0, .int .i64 k1, .bool s1, .int .i64 k2, .bool s2, .int .i64 k3, .bool s3, .int .i64 k4, .bool s4] 26)).cell? ⟨w.heap.size, 0, none⟩ = some (.bool sel) := by go_simp
          have zW01 : ((w.alloc (.cells #[.bool sel, .bool clr, .bool sec, .int .i64 3] 23)).alloc (.cells #[.int .i64 k0, .bool s0, .int .i64 k1, .bool s1, .int .i64 k2, .bool s2, .int .i64 k3, .bool s3, .int .i64 k4, .bool s4] 26)).cell? ⟨w.heap.size, 1, none⟩ = some (.bool clr) := by go_simp
          have zW02 : ((w.alloc (.cells #[.bool sel, .bool clr, .bool sec, .int .i64 3] 23)).alloc (.cells #[.int .i64 k0, .bool s0, .int .i64 k1, .bool s1, .int .i64 k2, .bool s2, .int .i64 k3, .bool s3, .int .i64 k4, .bool s4] 26)).cell? ⟨w.heap.size, 2, none⟩ = some (.bool sec) := by go_simp
          have zW03 : ((w.alloc (.cells #[.bool sel, .bool clr, .bool sec, .int .i64 3] 23)).alloc (.cells #[.int .i64 k0, .bool s0, .int .i64 k1, .bool s1, .int .i64 k2, .bool s2, .int .i64 k3, .bool s3, .int .i64 k4, .bool s4] 26)).cell? ⟨w.heap.size, 3, none⟩ = some (.int .i64 3) := by go_simp
          have yW01 : w.heap.size + 1 < ((w.alloc (.cells #[.bool sel, .bool clr, .bool sec, .int .i64 3] 23)).alloc (.cells #[.int .i64 k0, .bool s0, .int .i64 k1, .bool s1, .int .i64 k2, .bool s2, .int .i64 k3, .bool s3, .int .i64 k4, .bool s4] 26)).heap.size := by (try simp only [World.size_alloc]); omega
          have zW04 : ((w.alloc (.cells #[.bool sel, .bool clr, .bool sec, .int .i64 3] 23)).alloc (.cells #[.int .i64 k0, .bool s0, .int .i64 k1, .bool s1, .int .i64 k2, .bool s2, .int .i64 k3, .bool s3, .int .i64 k4, .bool s4] 26)).cell? ⟨w.heap.size + 1, 0, none⟩ = some (.int .i64 k0) := by go_simp
          have zW05 : ((w.alloc (.cells #[.bool sel, .bool clr, .bool sec, .int .i64 3] 23)).alloc (.cells #[.int .i64 k0, .bool s0, .int .i64 k1, .bool s1, .int .i64 k2, .bool s2, .int .i64 k3, .bool s3, .int .i64 k4, .bool s4] 26)).cell? ⟨w.heap.size + 1, 1, none⟩ = some (.bool s0) := by go_simp
          have zW06 : ((w.alloc (.cells #[.bool sel, .bool clr, .bool sec, .int .i64 3] 23)).alloc (.cells #[.int .i64 k0, .bool s0, .int .i64 k1, .bool s1, .int .i64 k2, .bool s2, .int .i64 k3, .bool s3, .int .i64 k4, .bool s4] 26)).cell? ⟨w.heap.size + 1, 2, none⟩ = some (.int .i64 k1) := by go_simp
          have zW07 : ((w.alloc (.cells #[.bool sel, .bool clr, .bool sec, .int .i64 3] 23)).alloc (.cells #[.int .i64 k0, .bool s0, .int .i64 k1, .bool s1, .int .i64 k2, .bool s2, .int .i64 k3, .bool s3, .int .i64 k4, .bool s4] 26)).cell? ⟨w.heap.size + 1, 3, none⟩ = some (.bool s1) := by go_simp
          have zW08 : ((w.alloc (.cells #[.bool sel, .bool clr, .bool sec, .int .i64 3] 23)).alloc (.cells #[.int .i64 k0, .bool s0, .int .i64 k1, .bool s1, .int .i64 k2, .bool s2, .int .i64 k3, .bool s3, .int .i64 k4, .bool s4] 26)).cell? ⟨w.heap.size + 1, 4, none⟩ = some (.int .i64 k2) := by go_simp
          have zW09 : ((w.alloc (.cells #[.bool sel, .bool clr, .bool sec, .int .i64 3] 23)).alloc (.cells #[.int .i64 k0, .bool s0, .int .i64 k1, .bool s1, .int .i64 k2, .bool s2, .int .i64 k3, .bool s3, .int .i64 k4, .bool s4] 26)).cell? ⟨w.heap.size + 1, 5, none⟩ = some (.bool s2) := by go_simp
          have zW010 : ((w.alloc (.cells #[.bool sel, .bool clr, .bool sec, .int .i64 3] 23)).alloc (.cells #[.int .i64 k0, .bool s0, .int .i64 k1, .bool s1, .int .i64 k2, .bool s2, .int .i64 k3, .bool s3, .int .i64 k4, .bool s4] 26)).cell? ⟨w.heap.size + 1, 6, none⟩ = some (.int .i64 k3) := by go_simp
          have zW011 : ((w.alloc (.cells #[.bool sel, .bool clr, .bool sec, .int .i64 3] 23)).alloc (.cells #[.int .i64 k0, .bool s0, .int .i64 k1, .bool s1, .int .i64 k2, .bool s2, .int .i64 k3, .bool s3, .int .i64 k4, .bool s4] 26)).cell? ⟨w.heap.size + 1, 7, none⟩ = some (.bool s3) := by go_simp
          have zW012 : ((w.alloc (.cells #[.bool sel, .bool clr, .bool sec, .int .i64 3] 23)).alloc (.cells #[.int .i64 k0, .bool s0, .int .i64 k1, .bool s1, .int .i64 k2, .bool s2, .int .i64 k3, .bool s3, .int .i64 k4, .bool s4] 26)).cell? ⟨w.heap.size + 1, 8, none⟩ = some (.int .i64 k4) := by go_simp
          have zW013 : ((w.alloc (.cells #[.bool sel, .bool clr, .bool sec, .int .i64 3] 23)).alloc (.cells #[.int .i64 k0, .bool s0, .int .i64 k1, .bool s1, .int .i64 k2, .bool s2, .int .i64 k3, .bool s3, .int .i64 k4, .bool s4] 26)).cell? ⟨w.heap.size + 1, 9, none⟩ = some (.bool s4) := by go_simp
          generalize ((w.alloc (.cells #[.bool sel, .bool clr, .bool sec, .int .i64 3] 23)).alloc (.cells #[.int .i64 k0, .bool s0, .int .i64 k1, .bool s1, .int .i64 k2, .bool s2, .int .i64 k3, .bool s3, .int .i64 k4, .bool s4] 26)) = W0 at *
          go_region_held3 (fun w' => Up W0 w' ∧ ∀ b o, b < W0.heap.size → w'.cell? ⟨b, o, none⟩ = W0.cell? ⟨b, o, none⟩) (first | exact ⟨by assumption, by assumption⟩ | go_keep) (first | (go_at_call 8; refine (pressed_up _ _ _ _ _).mono ?_; rintro e w3 ⟨rfl, hB3⟩; have hU3 : Up W0 w3 := (by first | exact Up.trans (by assumption) hB3 | exact Up.trans (Up.drew (Up.refl W0)) hB3); have hc3 : ∀ b o, b < W0.heap.size → w3.cell? ⟨b, o, none⟩ = W0.cell? ⟨b, o, none⟩ := (fun b o hb => hU3.cell hb)))
          go_wp2
          go_ret
          exact ⟨ret_int (by first | exact C.out | (rw [C.out]; rfl)), hU_W0.trans (by assumption)⟩
      · have hr := vPr_rng k4 s4 sel sec
        cases abroad
        · skip
          have C := Lib.hid (clear255 _ hr.1 hr.2)
          clear hr
          go_enter Try.func6, Try.ntmps6
          go_wp2
          have hU_W0 : Up w ((w.alloc (.cells #[.bool sel, .bool clr, .bool sec, .int .i64 4] 23)).alloc (.cells #[.int .i64 k0, .bool s0, .int .i64 k1, .bool s1, .int .i64 k2, .bool s2, .int .i64 k3, .bool s3, .int .i64 k4, .bool s4] 26)) := ((Up.refl w).alloc _).alloc _
          have yW00 : w.heap.size < ((w.alloc (.cells #[.bool sel, .bool clr, .bool sec, .int .i64 4] 23)).alloc (.cells #[.int .i64 k0, .bool s0, .int .i64 k1, .bool s1, .int .i64 k2, .bool s2, .int .i64 k3, .bool s3, .int .i64 k4, .bool s4] 26)).heap.size := by (try simp only [World.size_alloc]); omega
          have zW00 : ((w.alloc (.cells #[.bool sel, .bool clr, .bool sec, .int .i64 4] 23)).alloc (.cells #[.int .i64 k0, .bool s0, .int .i64 k1, .bool s1, .int .i64 k2, .bool s2, .int .i64 k3, .bool s3, .int .i64 k4, .bool s4] 26)).cell? ⟨w.heap.size, 0, none⟩ = some (.bool sel) := by go_simp
          have zW01 : ((w.alloc (.cells #[.bool sel, .bool clr, .bool sec, .int .i64 4] 23)).alloc (.cells #[.int .i64 k0, .bool s0, .int .i64 k1, .bool s1, .int .i64 k2, .bool s2, .int .i64 k3, .bool s3, .int .i64 k4, .bool s4] 26)).cell? ⟨w.heap.size, 1, none⟩ = some (.bool clr) := by go_simp
          have zW02 : ((w.alloc (.cells #[.bool sel, .bool clr, .bool sec, .int .i64 4] 23)).alloc (.cells #[.int .i64 k0, .bool s0, .int .i64 k1, .bool s1, .int .i64 k2, .bool s2, .int .i64 k3, .bool s3, .int .i64 k4, .bool s4] 26)).cell? ⟨w.heap.size, 2, none⟩ = some (.bool sec) := by go_simp
          have zW03 : ((w.alloc (.cells #[.bool sel, .bool clr, .bool sec, .int .i64 4] 23)).alloc (.cells #[.int .i64 k0, .bool s0, .int .i64 k1, .bool s1, .int .i64 k2, .bool s2, .int .i64 k3, .bool s3, .int .i64 k4, .bool s4] 26)).cell? ⟨w.heap.size, 3, none⟩ = some (.int .i64 4) := by go_simp
          have yW01 : w.heap.size + 1 < ((w.alloc (.cells #[.bool sel, .bool clr, .bool sec, .int .i64 4] 23)).alloc (.cells #[.int .i64 k0, .bool s0, .int .i64 k1, .bool s1, .int .i64 k2, .bool s2, .int .i64 k3, .bool s3, .int .i64 k4, .bool s4] 26)).heap.size := by (try simp only [World.size_alloc]); omega
          have zW04 : ((w.alloc (.cells #[.bool sel, .bool clr, .bool sec, .int .i64 4] 23)).alloc (.cells #[.int .i64 k0, .bool s0, .int .i64 k1, .bool s1, .int .i64 k2, .bool s2, .int .i64 k3, .bool s3, .int .i64 k4, .bool s4] 26)).cell? ⟨w.heap.size + 1, 0, none⟩ = some (.int .i64 k0) := by go_simp
          have zW05 : ((w.alloc (.cells #[.bool sel, .bool clr, .bool sec, .int .i64 4] 23)).alloc (.cells #[.int .i64 k0, .bool s0, .int .i64 k1, .bool s1, .int .i64 k2, .bool s2, .int .i64 k3, .bool s3, .int .i64 k4, .bool s4] 26)).cell? ⟨w.heap.size + 1, 1, none⟩ = some (.bool s0) := by go_simp
          have zW06 : ((w.alloc (.cells #[.bool sel, .bool clr, .bool sec, .int .i64 4] 23)).alloc (.cells #[.int .i64 k0, .bool s0, .int .i64 k1, .bool s1, .int .i64 k2, .bool s2, .int .i64 k3, .bool s3, .int .i64 k4, .bool s4] 26)).cell? ⟨w.heap.size + 1, 2, none⟩ = some (.int .i64 k1) := by go_simp
          have zW07 : ((w.alloc (.cells #[.bool sel, .bool clr, .bool sec, .int .i64 4] 23)).alloc (.cells #[.int .i64 k0, .bool s0, .int .i64 k1, .bool s1, .int .i64 k2, .bool s2, .int .i64 k3, .bool s3, .int .i64 k4, .bool s4] 26)).cell? ⟨w.heap.size + 1, 3, none⟩ = some (.bool s1) := by go_simp
          have zW08 : ((w.alloc (.cells #[.bool sel, .bool clr, .bool sec, .int .i64 4] 23)).alloc (.cells #[.int .i64 k0, .bool s0, .int .i64 k1, .bool s1, .int .i64 k2, .bool s2, .int .i64 k3, .bool s3, .int .i64 k4, .bool s4] 26)).cell? ⟨w.heap.size + 1, 4, none⟩ = some (.int .i64 k2) := by go_simp
          have zW09 : ((w.alloc (.cells #[.bool sel, .bool clr, .bool sec, .int .i64 4] 23)).alloc (.cells #[.int .i64 k0, .bool s0, .int .i64 k1, .bool s1, .int .i64 k2, .bool s2, .int .i64 k3, .bool s3, .int .i64 k4, .bool s4] 26)).cell? ⟨w.heap.size + 1, 5, none⟩ = some (.bool s2) := by go_simp
          have zW010 : ((w.alloc (.cells #[.bool sel, .bool clr, .bool sec, .int .i64 4] 23)).alloc (.cells #[.int .i64 k0, .bool s0, .int .i64 k1, .bool s1, .int .i64 k2, .bool s2, .int .i64 k3, .bool s3, .int .i64 k4, .bool s4] 26)).cell? ⟨w.heap.size + 1, 6, none⟩ = some (.int .i64 k3) := by go_simp
          have zW011 : ((w.alloc (.cells #[.bool sel, .bool clr, .bool sec, .int .i64 4] 23)).alloc (.cells #[.int .i64 k0, .bool s0, .int .i64 k1, .bool s1, .int .i64 k2, .bool s2, .int .i64 k3, .bool s3, .int .i64 k4, .bool s4] 26)).cell? ⟨w.heap.size + 1, 7, none⟩ = some (.bool s3) := by go_simp
          have zW012 : ((w.alloc (.cells #[.bool sel, .bool clr, .bool sec, .int .i64 4] 23)).alloc (.cells #[.int .i64 k0, .bool s0, .int .i64 k1, .bool s1, .int .i64 k2, .bool s2, .int .i64 k3, .bool s3, .int .i64 k4, .bool s4] 26)).cell? ⟨w.heap.size + 1, 8, none⟩ = some (.int .i64 k4) := by go_simp
          have zW013 : ((w.alloc (.cells #[.bool sel, .bool clr, .bool sec, .int .i64 4] 23)).alloc (.cells #[.int .i64 k0, .bool s0, .int .i64 k1, .bool s1, .int .i64 k2, .bool s2, .int .i64 k3, .bool s3, .int .i64 k4, .bool s4] 26)).cell? ⟨w.heap.size + 1, 9, none⟩ = some (.bool s4) := by go_simp
          generalize ((w.alloc (.cells #[.bool sel, .bool clr, .bool sec, .int .i64 4] 23)).alloc (.cells #[.int .i64 k0, .bool s0, .int .i64 k1, .bool s1, .int .i64 k2, .bool s2, .int .i64 k3, .bool s3, .int .i64 k4, .bool s4] 26)) = W0 at *
          go_region_held3 (fun w' => Up W0 w' ∧ ∀ b o, b < W0.heap.size → w'.cell? ⟨b, o, none⟩ = W0.cell? ⟨b, o, none⟩) (first | exact ⟨by assumption, by assumption⟩ | go_keep) (first | (go_at_call 8; refine (pressed_up _ _ _ _ _).mono ?_; rintro e w3 ⟨rfl, hB3⟩; have hU3 : Up W0 w3 := (by first | exact Up.trans (by assumption) hB3 | exact Up.trans (Up.drew (Up.refl W0)) hB3); have hc3 : ∀ b o, b < W0.heap.size → w3.cell? ⟨b, o, none⟩ = W0.cell? ⟨b, o, none⟩ := (fun b o hb => hU3.cell hb)))
          go_wp2
          go_ret
          exact ⟨ret_int (by first | exact C.out | (rw [C.out]; rfl)), hU_W0.trans (by assumption)⟩
        · skip
          have C := Lib.hid (clear191 _ hr.1 hr.2)
          clear hr
          go_enter Try.func6, Try.ntmps6
          go_wp2
          have hU_W0 : Up w ((w.alloc (.cells #[.bool sel, .bool clr, .bool sec, .int .i64 4] 23)).alloc (.cells #[.int .i64 k0, .bool s0, .int .i64 k1, .bool s1, .int .i64 k2, .bool s2, .int .i64 k3, .bool s3, .int .i64 k4, .bool s4] 26)) := ((Up.refl w).alloc _).alloc _
          have yW00 : w.heap.size < ((w.alloc (.cells #[.bool sel, .bool clr, .bool sec, .int .i64 4] 23)).alloc (.cells #[.int .i64 k0, .bool s0, .int .i64 k1, .bool s1, .int .i64 k2, .bool s2, .int .i64 k3, .bool s3, .int .i64 k4, .bool s4] 26)).heap.size := by (try simp only [World.size_alloc]); omega
          have zW00 : ((w.alloc (.cells #[.bool sel, .bool clr, .bool sec, .int .i64 4] 23)).alloc (.cells #[.int .i64 k0, .bool s0, .int .i64 k1, .bool s1, .int .i64 k2, .bool s2, .int .i64 k3, .bool s3, .int .i64 k4, .bool s4] 26)).cell? ⟨w.heap.size, 0, none⟩ = some (.bool sel) := by go_simp
          have zW01 : ((w.alloc (.cells #[.bool sel, .bool clr, .bool sec, .int .i64 4] 23)).alloc (.cells #[.int .i64 k0, .bool s0, .int .i64 k1, .bool s1, .int .i64 k2, .bool s2, .int .i64 k3, .bool s3, .int .i64 k4, .bool s4] 26)).cell? ⟨w.heap.size, 1, none⟩ = some (.bool clr) := by go_simp
          have zW02 : ((w.alloc (.cells #[.bool sel, .bool clr, .bool sec, .int .i64 4] 23)).alloc (.cells #[.int .i64 k0, .bool s0, .int .i64 k1, .bool s1, .int .i64 k2, .bool s2, .int .i64 k3, .bool s3, .int .i64 k4, .bool s4] 26)).cell? ⟨w.heap.size, 2, none⟩ = some (.bool sec) := by go_simp
          have zW03 : ((w.alloc (.cells #[.bool sel, .bool clr, .bool sec, .int .i64 4] 23)).alloc (.cells #[.int .i64 k0, .bool s0, .int .i64 k1, .bool s1, .int .i64 k2, .bool s2, .int .i64 k3, .bool s3, .int .i64 k4, .bool s4] 26)).cell? ⟨w.heap.size, 3, none⟩ = some (.int .i64 4) := by go_simp
          have yW01 : w.heap.size + 1 < ((w.alloc (.cells #[.bool sel, .bool clr, .bool sec, .int .i64 4] 23)).alloc (.cells #[.int .i64 k0, .bool s0, .int .i64 k1, .bool s1, .int .i64 k2, .bool s2, .int .i64 k3, .bool s3, .int .i64 k4, .bool s4] 26)).heap.size := by (try simp only [World.size_alloc]); omega
          have zW04 : ((w.alloc (.cells #[.bool sel, .bool clr, .bool sec, .int .i64 4] 23)).alloc (.cells #[.int .i64 k0, .bool s0, .int .i64 k1, .bool s1, .int .i64 k2, .bool s2, .int .i64 k3, .bool s3, .int .i64 k4, .bool s4] 26)).cell? ⟨w.heap.size + 1, 0, none⟩ = some (.int .i64 k0) := by go_simp
          have zW05 : ((w.alloc (.cells #[.bool sel, .bool clr, .bool sec, .int .i64 4] 23)).alloc (.cells #[.int .i64 k0, .bool s0, .int .i64 k1, .bool s1, .int .i64 k2, .bool s2, .int .i64 k3, .bool s3, .int .i64 k4, .bool s4] 26)).cell? ⟨w.heap.size + 1, 1, none⟩ = some (.bool s0) := by go_simp
          have zW06 : ((w.alloc (.cells #[.bool sel, .bool clr, .bool sec, .int .i64 4] 23)).alloc (.cells #[.int .i64 k0, .bool s0, .int .i64 k1, .bool s1, .int .i64 k2, .bool s2, .int .i64 k3, .bool s3, .int .i64 k4, .bool s4] 26)).cell? ⟨w.heap.size + 1, 2, none⟩ = some (.int .i64 k1) := by go_simp
          have zW07 : ((w.alloc (.cells #[.bool sel, .bool clr, .bool sec, .int .i64 4] 23)).alloc (.cells #[.int .i64 k0, .bool s0, .int .i64 k1, .bool s1, .int .i64 k2, .bool s2, .int .i64 k3, .bool s3, .int .i64 k4, .bool s4] 26)).cell? ⟨w.heap.size + 1, 3, none⟩ = some (.bool s1) := by go_simp
          have zW08 : ((w.alloc (.cells #[.bool sel, .bool clr, .bool sec, .int .i64 4] 23)).alloc (.cells #[.int .i64 k0, .bool s0, .int .i64 k1, .bool s1, .int .i64 k2, .bool s2, .int .i64 k3, .bool s3, .int .i64 k4, .bool s4] 26)).cell? ⟨w.heap.size + 1, 4, none⟩ = some (.int .i64 k2) := by go_simp
          have zW09 : ((w.alloc (.cells #[.bool sel, .bool clr, .bool sec, .int .i64 4] 23)).alloc (.cells #[.int .i64 k0, .bool s0, .int .i64 k1, .bool s1, .int .i64 k2, .bool s2, .int .i64 k3, .bool s3, .int .i64 k4, .bool s4] 26)).cell? ⟨w.heap.size + 1, 5, none⟩ = some (.bool s2) := by go_simp
          have zW010 : ((w.alloc (.cells #[.bool sel, .bool clr, .bool sec, .int .i64 4] 23)).alloc (.cells #[.int .i64 k0, .bool s0, .int .i64 k1, .bool s1, .int .i64 k2, .bool s2, .int .i64 k3, .bool s3, .int .i64 k4, .bool s4] 26)).cell? ⟨w.heap.size + 1, 6, none⟩ = some (.int .i64 k3) := by go_simp
          have zW011 : ((w.alloc (.cells #[.bool sel, .bool clr, .bool sec, .int .i64 4] 23)).alloc (.cells #[.int .i64 k0, .bool s0, .int .i64 k1, .bool s1, .int .i64 k2, .bool s2, .int .i64 k3, .bool s3, .int .i64 k4, .bool s4] 26)).cell? ⟨w.heap.size + 1, 7, none⟩ = some (.bool s3) := by go_simp
          have zW012 : ((w.alloc (.cells #[.bool sel, .bool clr, .bool sec, .int .i64 4] 23)).alloc (.cells #[.int .i64 k0, .bool s0, .int .i64 k1, .bool s1, .int .i64 k2, .bool s2, .int .i64 k3, .bool s3, .int .i64 k4, .bool s4] 26)).cell? ⟨w.heap.size + 1, 8, none⟩ = some (.int .i64 k4) := by go_simp
          have zW013 : ((w.alloc (.cells #[.bool sel, .bool clr, .bool sec, .int .i64 4] 23)).alloc (.cells #[.int .i64 k0, .bool s0, .int .i64 k1, .bool s1, .int .i64 k2, .bool s2, .int .i64 k3, .bool s3, .int .i64 k4, .bool s4] 26)).cell? ⟨w.heap.size + 1, 9, none⟩ = some (.bool s4) := by go_simp
          generalize ((w.alloc (.cells #[.bool sel, .bool clr, .bool sec, .int .i64 4] 23)).alloc (.cells #[.int .i64 k0, .bool s0, .int .i64 k1, .bool s1, .int .i64 k2, .bool s2, .int .i64 k3, .bool s3, .int .i64 k4, .bool s4] 26)) = W0 at *
          go_region_held3 (fun w' => Up W0 w' ∧ ∀ b o, b < W0.heap.size → w'.cell? ⟨b, o, none⟩ = W0.cell? ⟨b, o, none⟩) (first | exact ⟨by assumption, by assumption⟩ | go_keep) (first | (go_at_call 8; refine (pressed_up _ _ _ _ _).mono ?_; rintro e w3 ⟨rfl, hB3⟩; have hU3 : Up W0 w3 := (by first | exact Up.trans (by assumption) hB3 | exact Up.trans (Up.drew (Up.refl W0)) hB3); have hc3 : ∀ b o, b < W0.heap.size → w3.cell? ⟨b, o, none⟩ = W0.cell? ⟨b, o, none⟩ := (fun b o hb => hU3.cell hb)))
          go_wp2
          go_ret
          exact ⟨ret_int (by first | exact C.out | (rw [C.out]; rfl)), hU_W0.trans (by assumption)⟩

def vIdx (sel : Bool) (idx : Int) (S K : Bool) : Int := if K then 0 else if S && !sel then min ((if idx < 0 ∨ 5 < idx then 5 else idx) + 1) 5 else (if idx < 0 ∨ 5 < idx then 5 else idx)
def vSec (clr sec K : Bool) : Bool := if K then (sec != !clr) else sec
set_option maxHeartbeats 4000000 in
theorem write_any (sel clr sec : Bool) (idx b : Int) (S K : Bool) (hS : (BM.vBit b 0 == 1) = S) (hK : (BM.vBit b 1 == 1) = K) (w : World) :
    Calls Try.prog 7 #[.agg #[.bool sel, .bool clr, .bool sec, .int .i64 idx], .int .i64 b] w fun e w' => e = .returned (.agg #[.bool S, .bool K, .bool (vSec clr sec K), .int .i64 (vIdx sel idx S K)]) ∧ Up w w' := by
  by_cases n0 : idx < 0
  · have d0 : decide (idx < 0) = true := decide_eq_true n0
    have hr : idx < 0 ∨ 5 < idx := .inl n0
    clear n0
    cases K
    · cases S
      · skip
        have E1 := Lib.hid (show vIdx sel idx false false = 5 by unfold vIdx; simp [hr])
        have E2 := Lib.hid (show vSec clr sec false = sec by unfold vSec; simp)
        clear hr
        go_enter Try.func7, Try.ntmps7
        go_wp2
        go_region_held3 (fun w' => w'.cell? ⟨w.heap.size, 0, none⟩ = some (.bool sel) ∧ w'.cell? ⟨w.heap.size, 1, none⟩ = some (.bool clr) ∧ w'.cell? ⟨w.heap.size, 2, none⟩ = some (.bool sec) ∧ w'.cell? ⟨w.heap.size, 3, none⟩ = some (.int .i64 idx)) (go_keep) (first | (go_at_call 9; refine (bit_any _ _ _).mono ?_; rintro e w' ⟨rfl, rfl⟩))
        all_goals
          go_wp2
          refine bodyPost_ret (v := .agg #[.bool false, .bool false, .bool (vSec clr sec false), .int .i64 (vIdx sel idx false false)]) ?_ rfl ⟨rfl, ?_⟩
          · simp [results, Try.results7, go_sem]
            first | exact ⟨E2.out.symm, E1.out.symm⟩ | exact ⟨E2.out, E1.out.symm⟩ | (rw [E1.out, E2.out]; cases sec <;> cases clr <;> simp)
          · exact (by repeat (first | exact Up.refl _ | assumption | refine Up.drew ?_ | refine Up.alloc ?_ _ | refine Up.trans ?_ (by assumption)))
      · cases sel
        · skip
          have E1 := Lib.hid (show vIdx false idx true false = min (5 + 1) 5 by unfold vIdx; simp [hr])
          have E2 := Lib.hid (show vSec clr sec false = sec by unfold vSec; simp)
          clear hr
          go_enter Try.func7, Try.ntmps7
          go_wp2
          go_region_held3 (fun w' => w'.cell? ⟨w.heap.size, 0, none⟩ = some (.bool false) ∧ w'.cell? ⟨w.heap.size, 1, none⟩ = some (.bool clr) ∧ w'.cell? ⟨w.heap.size, 2, none⟩ = some (.bool sec) ∧ w'.cell? ⟨w.heap.size, 3, none⟩ = some (.int .i64 idx)) (go_keep) (first | (go_at_call 9; refine (bit_any _ _ _).mono ?_; rintro e w' ⟨rfl, rfl⟩))
          all_goals
            go_wp2
            refine bodyPost_ret (v := .agg #[.bool true, .bool false, .bool (vSec clr sec false), .int .i64 (vIdx false idx true false)]) ?_ rfl ⟨rfl, ?_⟩
            · simp [results, Try.results7, go_sem]
              first | exact ⟨E2.out.symm, E1.out.symm⟩ | exact ⟨E2.out, E1.out.symm⟩ | (rw [E1.out, E2.out]; cases sec <;> cases clr <;> simp)
            · exact (by repeat (first | exact Up.refl _ | assumption | refine Up.drew ?_ | refine Up.alloc ?_ _ | refine Up.trans ?_ (by assumption)))
        · skip
          have E1 := Lib.hid (show vIdx true idx true false = 5 by unfold vIdx; simp [hr])
          have E2 := Lib.hid (show vSec clr sec false = sec by unfold vSec; simp)
          clear hr
          go_enter Try.func7, Try.ntmps7
          go_wp2
          go_region_held3 (fun w' => w'.cell? ⟨w.heap.size, 0, none⟩ = some (.bool true) ∧ w'.cell? ⟨w.heap.size, 1, none⟩ = some (.bool clr) ∧ w'.cell? ⟨w.heap.size, 2, none⟩ = some (.bool sec) ∧ w'.cell? ⟨w.heap.size, 3, none⟩ = some (.int .i64 idx)) (go_keep) (first | (go_at_call 9; refine (bit_any _ _ _).mono ?_; rintro e w' ⟨rfl, rfl⟩))
          all_goals
            go_wp2
            refine bodyPost_ret (v := .agg #[.bool true, .bool false, .bool (vSec clr sec false), .int .i64 (vIdx true idx true false)]) ?_ rfl ⟨rfl, ?_⟩
            · simp [results, Try.results7, go_sem]
              first | exact ⟨E2.out.symm, E1.out.symm⟩ | exact ⟨E2.out, E1.out.symm⟩ | (rw [E1.out, E2.out]; cases sec <;> cases clr <;> simp)
            · exact (by repeat (first | exact Up.refl _ | assumption | refine Up.drew ?_ | refine Up.alloc ?_ _ | refine Up.trans ?_ (by assumption)))
    · skip
      have E1 := Lib.hid (show vIdx sel idx S true = 0 by unfold vIdx; simp)
      have E2 := Lib.hid (show vSec clr sec true = (sec != !clr) by unfold vSec; simp)
      clear hr
      go_enter Try.func7, Try.ntmps7
      go_wp2
      go_region_held3 (fun w' => w'.cell? ⟨w.heap.size, 0, none⟩ = some (.bool sel) ∧ w'.cell? ⟨w.heap.size, 1, none⟩ = some (.bool clr) ∧ w'.cell? ⟨w.heap.size, 2, none⟩ = some (.bool sec) ∧ w'.cell? ⟨w.heap.size, 3, none⟩ = some (.int .i64 idx)) (go_keep) (first | (go_at_call 9; refine (bit_any _ _ _).mono ?_; rintro e w' ⟨rfl, rfl⟩))
      all_goals
        go_wp2
        go_region
        go_wp2
        refine bodyPost_ret (v := .agg #[.bool S, .bool true, .bool (vSec clr sec true), .int .i64 (vIdx sel idx S true)]) ?_ rfl ⟨rfl, ?_⟩
        · simp [results, Try.results7, go_sem]
          first | exact ⟨E2.out.symm, E1.out.symm⟩ | exact ⟨E2.out, E1.out.symm⟩ | (rw [E1.out, E2.out]; cases sec <;> cases clr <;> simp)
        · exact (by repeat (first | exact Up.refl _ | assumption | refine Up.drew ?_ | refine Up.alloc ?_ _ | refine Up.trans ?_ (by assumption)))
  · have d0 : decide (idx < 0) = false := decide_eq_false n0
    by_cases n5 : 5 < idx
    · have d1 : decide (5 < idx) = true := decide_eq_true n5
      have hr : idx < 0 ∨ 5 < idx := .inr n5
      clear n0 n5
      cases K
      · cases S
        · skip
          have E1 := Lib.hid (show vIdx sel idx false false = 5 by unfold vIdx; simp [hr])
          have E2 := Lib.hid (show vSec clr sec false = sec by unfold vSec; simp)
          clear hr
          go_enter Try.func7, Try.ntmps7
          go_wp2
          go_region_held3 (fun w' => w'.cell? ⟨w.heap.size, 0, none⟩ = some (.bool sel) ∧ w'.cell? ⟨w.heap.size, 1, none⟩ = some (.bool clr) ∧ w'.cell? ⟨w.heap.size, 2, none⟩ = some (.bool sec) ∧ w'.cell? ⟨w.heap.size, 3, none⟩ = some (.int .i64 idx)) (go_keep) (first | (go_at_call 9; refine (bit_any _ _ _).mono ?_; rintro e w' ⟨rfl, rfl⟩))
          all_goals
            go_wp2
            refine bodyPost_ret (v := .agg #[.bool false, .bool false, .bool (vSec clr sec false), .int .i64 (vIdx sel idx false false)]) ?_ rfl ⟨rfl, ?_⟩
            · simp [results, Try.results7, go_sem]
              first | exact ⟨E2.out.symm, E1.out.symm⟩ | exact ⟨E2.out, E1.out.symm⟩ | (rw [E1.out, E2.out]; cases sec <;> cases clr <;> simp)
            · exact (by repeat (first | exact Up.refl _ | assumption | refine Up.drew ?_ | refine Up.alloc ?_ _ | refine Up.trans ?_ (by assumption)))
        · cases sel
          · skip
            have E1 := Lib.hid (show vIdx false idx true false = min (5 + 1) 5 by unfold vIdx; simp [hr])
            have E2 := Lib.hid (show vSec clr sec false = sec by unfold vSec; simp)
            clear hr
            go_enter Try.func7, Try.ntmps7
            go_wp2
            go_region_held3 (fun w' => w'.cell? ⟨w.heap.size, 0, none⟩ = some (.bool false) ∧ w'.cell? ⟨w.heap.size, 1, none⟩ = some (.bool clr) ∧ w'.cell? ⟨w.heap.size, 2, none⟩ = some (.bool sec) ∧ w'.cell? ⟨w.heap.size, 3, none⟩ = some (.int .i64 idx)) (go_keep) (first | (go_at_call 9; refine (bit_any _ _ _).mono ?_; rintro e w' ⟨rfl, rfl⟩))
            all_goals
              go_wp2
              refine bodyPost_ret (v := .agg #[.bool true, .bool false, .bool (vSec clr sec false), .int .i64 (vIdx false idx true false)]) ?_ rfl ⟨rfl, ?_⟩
              · simp [results, Try.results7, go_sem]
                first | exact ⟨E2.out.symm, E1.out.symm⟩ | exact ⟨E2.out, E1.out.symm⟩ | (rw [E1.out, E2.out]; cases sec <;> cases clr <;> simp)
              · exact (by repeat (first | exact Up.refl _ | assumption | refine Up.drew ?_ | refine Up.alloc ?_ _ | refine Up.trans ?_ (by assumption)))
          · skip
            have E1 := Lib.hid (show vIdx true idx true false = 5 by unfold vIdx; simp [hr])
            have E2 := Lib.hid (show vSec clr sec false = sec by unfold vSec; simp)
            clear hr
            go_enter Try.func7, Try.ntmps7
            go_wp2
            go_region_held3 (fun w' => w'.cell? ⟨w.heap.size, 0, none⟩ = some (.bool true) ∧ w'.cell? ⟨w.heap.size, 1, none⟩ = some (.bool clr) ∧ w'.cell? ⟨w.heap.size, 2, none⟩ = some (.bool sec) ∧ w'.cell? ⟨w.heap.size, 3, none⟩ = some (.int .i64 idx)) (go_keep) (first | (go_at_call 9; refine (bit_any _ _ _).mono ?_; rintro e w' ⟨rfl, rfl⟩))
            all_goals
              go_wp2
              refine bodyPost_ret (v := .agg #[.bool true, .bool false, .bool (vSec clr sec false), .int .i64 (vIdx true idx true false)]) ?_ rfl ⟨rfl, ?_⟩
              · simp [results, Try.results7, go_sem]
                first | exact ⟨E2.out.symm, E1.out.symm⟩ | exact ⟨E2.out, E1.out.symm⟩ | (rw [E1.out, E2.out]; cases sec <;> cases clr <;> simp)
              · exact (by repeat (first | exact Up.refl _ | assumption | refine Up.drew ?_ | refine Up.alloc ?_ _ | refine Up.trans ?_ (by assumption)))
      · skip
        have E1 := Lib.hid (show vIdx sel idx S true = 0 by unfold vIdx; simp)
        have E2 := Lib.hid (show vSec clr sec true = (sec != !clr) by unfold vSec; simp)
        clear hr
        go_enter Try.func7, Try.ntmps7
        go_wp2
        go_region_held3 (fun w' => w'.cell? ⟨w.heap.size, 0, none⟩ = some (.bool sel) ∧ w'.cell? ⟨w.heap.size, 1, none⟩ = some (.bool clr) ∧ w'.cell? ⟨w.heap.size, 2, none⟩ = some (.bool sec) ∧ w'.cell? ⟨w.heap.size, 3, none⟩ = some (.int .i64 idx)) (go_keep) (first | (go_at_call 9; refine (bit_any _ _ _).mono ?_; rintro e w' ⟨rfl, rfl⟩))
        all_goals
          go_wp2
          go_region
          go_wp2
          refine bodyPost_ret (v := .agg #[.bool S, .bool true, .bool (vSec clr sec true), .int .i64 (vIdx sel idx S true)]) ?_ rfl ⟨rfl, ?_⟩
          · simp [results, Try.results7, go_sem]
            first | exact ⟨E2.out.symm, E1.out.symm⟩ | exact ⟨E2.out, E1.out.symm⟩ | (rw [E1.out, E2.out]; cases sec <;> cases clr <;> simp)
          · exact (by repeat (first | exact Up.refl _ | assumption | refine Up.drew ?_ | refine Up.alloc ?_ _ | refine Up.trans ?_ (by assumption)))
    · have d1 : decide (5 < idx) = false := decide_eq_false n5
      have hr : ¬ (idx < 0 ∨ 5 < idx) := by omega
      have b0 : 0 ≤ idx := by omega
      have b5 : idx ≤ 5 := by omega
      clear n0 n5
      cases K
      · cases S
        · skip
          have E1 := Lib.hid (show vIdx sel idx false false = idx by unfold vIdx; simp [hr])
          have E2 := Lib.hid (show vSec clr sec false = sec by unfold vSec; simp)
          clear hr
          go_enter Try.func7, Try.ntmps7
          go_wp2
          go_region_held3 (fun w' => w'.cell? ⟨w.heap.size, 0, none⟩ = some (.bool sel) ∧ w'.cell? ⟨w.heap.size, 1, none⟩ = some (.bool clr) ∧ w'.cell? ⟨w.heap.size, 2, none⟩ = some (.bool sec) ∧ w'.cell? ⟨w.heap.size, 3, none⟩ = some (.int .i64 idx)) (go_keep) (first | (go_at_call 9; refine (bit_any _ _ _).mono ?_; rintro e w' ⟨rfl, rfl⟩))
          all_goals
            go_wp2
            refine bodyPost_ret (v := .agg #[.bool false, .bool false, .bool (vSec clr sec false), .int .i64 (vIdx sel idx false false)]) ?_ rfl ⟨rfl, ?_⟩
            · simp [results, Try.results7, go_sem]
              first | exact ⟨E2.out.symm, E1.out.symm⟩ | exact ⟨E2.out, E1.out.symm⟩ | (rw [E1.out, E2.out]; cases sec <;> cases clr <;> simp)
            · exact (by repeat (first | exact Up.refl _ | assumption | refine Up.drew ?_ | refine Up.alloc ?_ _ | refine Up.trans ?_ (by assumption)))
        · cases sel
          · skip
            have E1 := Lib.hid (show vIdx false idx true false = min (idx + 1) 5 by unfold vIdx; simp [hr])
            have E2 := Lib.hid (show vSec clr sec false = sec by unfold vSec; simp)
            clear hr
            go_enter Try.func7, Try.ntmps7
            go_wp2
            go_region_held3 (fun w' => w'.cell? ⟨w.heap.size, 0, none⟩ = some (.bool false) ∧ w'.cell? ⟨w.heap.size, 1, none⟩ = some (.bool clr) ∧ w'.cell? ⟨w.heap.size, 2, none⟩ = some (.bool sec) ∧ w'.cell? ⟨w.heap.size, 3, none⟩ = some (.int .i64 idx)) (go_keep) (first | (go_at_call 9; refine (bit_any _ _ _).mono ?_; rintro e w' ⟨rfl, rfl⟩))
            all_goals
              go_wp2
              refine bodyPost_ret (v := .agg #[.bool true, .bool false, .bool (vSec clr sec false), .int .i64 (vIdx false idx true false)]) ?_ rfl ⟨rfl, ?_⟩
              · simp [results, Try.results7, go_sem]
                first | exact ⟨E2.out.symm, E1.out.symm⟩ | exact ⟨E2.out, E1.out.symm⟩ | (rw [E1.out, E2.out]; cases sec <;> cases clr <;> simp)
              · exact (by repeat (first | exact Up.refl _ | assumption | refine Up.drew ?_ | refine Up.alloc ?_ _ | refine Up.trans ?_ (by assumption)))
          · skip
            have E1 := Lib.hid (show vIdx true idx true false = idx by unfold vIdx; simp [hr])
            have E2 := Lib.hid (show vSec clr sec false = sec by unfold vSec; simp)
            clear hr
            go_enter Try.func7, Try.ntmps7
            go_wp2
            go_region_held3 (fun w' => w'.cell? ⟨w.heap.size, 0, none⟩ = some (.bool true) ∧ w'.cell? ⟨w.heap.size, 1, none⟩ = some (.bool clr) ∧ w'.cell? ⟨w.heap.size, 2, none⟩ = some (.bool sec) ∧ w'.cell? ⟨w.heap.size, 3, none⟩ = some (.int .i64 idx)) (go_keep) (first | (go_at_call 9; refine (bit_any _ _ _).mono ?_; rintro e w' ⟨rfl, rfl⟩))
            all_goals
              go_wp2
              refine bodyPost_ret (v := .agg #[.bool true, .bool false, .bool (vSec clr sec false), .int .i64 (vIdx true idx true false)]) ?_ rfl ⟨rfl, ?_⟩
              · simp [results, Try.results7, go_sem]
                first | exact ⟨E2.out.symm, E1.out.symm⟩ | exact ⟨E2.out, E1.out.symm⟩ | (rw [E1.out, E2.out]; cases sec <;> cases clr <;> simp)
              · exact (by repeat (first | exact Up.refl _ | assumption | refine Up.drew ?_ | refine Up.alloc ?_ _ | refine Up.trans ?_ (by assumption)))
      · skip
        have E1 := Lib.hid (show vIdx sel idx S true = 0 by unfold vIdx; simp)
        have E2 := Lib.hid (show vSec clr sec true = (sec != !clr) by unfold vSec; simp)
        clear hr
        go_enter Try.func7, Try.ntmps7
        go_wp2
        go_region_held3 (fun w' => w'.cell? ⟨w.heap.size, 0, none⟩ = some (.bool sel) ∧ w'.cell? ⟨w.heap.size, 1, none⟩ = some (.bool clr) ∧ w'.cell? ⟨w.heap.size, 2, none⟩ = some (.bool sec) ∧ w'.cell? ⟨w.heap.size, 3, none⟩ = some (.int .i64 idx)) (go_keep) (first | (go_at_call 9; refine (bit_any _ _ _).mono ?_; rintro e w' ⟨rfl, rfl⟩))
        all_goals
          go_wp2
          go_region
          go_wp2
          refine bodyPost_ret (v := .agg #[.bool S, .bool true, .bool (vSec clr sec true), .int .i64 (vIdx sel idx S true)]) ?_ rfl ⟨rfl, ?_⟩
          · simp [results, Try.results7, go_sem]
            first | exact ⟨E2.out.symm, E1.out.symm⟩ | exact ⟨E2.out, E1.out.symm⟩ | (rw [E1.out, E2.out]; cases sec <;> cases clr <;> simp)
          · exact (by repeat (first | exact Up.refl _ | assumption | refine Up.drew ?_ | refine Up.alloc ?_ _ | refine Up.trans ?_ (by assumption)))
end Go.Proofs.Ythaffmnoffjblaa
