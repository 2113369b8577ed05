/- Contract of mpr.Valid. -/
import Derived.Test.YthgcagnfjldlfaaB
import Derived.Test.YthgcagnfjldlfaaE
import Derived.Deep.RegionHeld3
import Derived.Lib.Hide
namespace Go.Proofs.Ythgcagnfjldlfaa
open Go.RowKit
attribute [local go_sem] eq8 eq8r

def vOk (F : Nat → Int) : Bool := (F 0 == F 0 % 256) && (F 1 == F 1 % 256) && (F 2 == F 2 % 256) && (F 3 == F 3 % 256) && (F 4 == F 4 % 256) && (F 5 == F 5 % 256) && (F 6 == F 6 % 256) && (F 7 == F 7 % 256)
theorem valid_any (F : Nat → Int) (w : World) : Calls Try.prog 10 #[.agg #[.int .i64 (F 0), .int .i64 (F 1), .int .i64 (F 2), .int .i64 (F 3), .int .i64 (F 4), .int .i64 (F 5), .int .i64 (F 6), .int .i64 (F 7)]] w fun e w' => e = .returned (.bool (vOk F)) ∧ Up w w' := by
  have HB := Lib.hid (fun w => bytes_any F w)
  go_enter Try.func10, Try.ntmps10
  go_wp2_with fail
  have hU_W0 : Up w (w.alloc (.cells #[.int .i64 (F 0), .int .i64 (F 1), .int .i64 (F 2), .int .i64 (F 3), .int .i64 (F 4), .int .i64 (F 5), .int .i64 (F 6), .int .i64 (F 7)] 24)) := (Up.refl w).alloc _
  have yW00 : w.heap.size < (w.alloc (.cells #[.int .i64 (F 0), .int .i64 (F 1), .int .i64 (F 2), .int .i64 (F 3), .int .i64 (F 4), .int .i64 (F 5), .int .i64 (F 6), .int .i64 (F 7)] 24)).heap.size := by (try simp only [World.size_alloc]); omega
  have zW00 : (w.alloc (.cells #[.int .i64 (F 0), .int .i64 (F 1), .int .i64 (F 2), .int .i64 (F 3), .int .i64 (F 4), .int .i64 (F 5), .int .i64 (F 6), .int .i64 (F 7)] 24)).cell? ⟨w.heap.size, 0, none⟩ = some (.int .i64 (F 0)) := by go_simp
  have zW01 : (w.alloc (.cells #[.int .i64 (F 0), .int .i64 (F 1), .int .i64 (F 2), .int .i64 (F 3), .int .i64 (F 4), .int .i64 (F 5), .int .i64 (F 6), .int .i64 (F 7)] 24)).cell? ⟨w.heap.size, 1, none⟩ = some (.int .i64 (F 1)) := by go_simp
  have zW02 : (w.alloc (.cells #[.int .i64 (F 0), .int .i64 (F 1), .int .i64 (F 2), .int .i64 (F 3), .int .i64 (F 4), .int .i64 (F 5), .int .i64 (F 6), .int .i64 (F 7)] 24)).cell? ⟨w.heap.size, 2, none⟩ = some (.int .i64 (F 2)) := by go_simp
  have zW03 : (w.alloc (.cells #[.int .i64 (F 0), .int .i64 (F 1), .int .i64 (F 2), .int .i64 (F 3), .int .i64 (F 4), .int .i64 (F 5), .int .i64 (F 6), .int .i64 (F 7)] 24)).cell? ⟨w.heap.size, 3, none⟩ = some (.int .i64 (F 3)) := by go_simp
  have zW04 : (w.alloc (.cells #[.int .i64 (F 0), .int .i64 (F 1), .int .i64 (F 2), .int .i64 (F 3), .int .i64 (F 4), .int .i64 (F 5), .int .i64 (F 6), .int .i64 (F 7)] 24)).cell? ⟨w.heap.size, 4, none⟩ = some (.int .i64 (F 4)) := by go_simp
  have zW05 : (w.alloc (.cells #[.int .i64 (F 0), .int .i64 (F 1), .int .i64 (F 2), .int .i64 (F 3), .int .i64 (F 4), .int .i64 (F 5), .int .i64 (F 6), .int .i64 (F 7)] 24)).cell? ⟨w.heap.size, 5, none⟩ = some (.int .i64 (F 5)) := by go_simp
  have zW06 : (w.alloc (.cells #[.int .i64 (F 0), .int .i64 (F 1), .int .i64 (F 2), .int .i64 (F 3), .int .i64 (F 4), .int .i64 (F 5), .int .i64 (F 6), .int .i64 (F 7)] 24)).cell? ⟨w.heap.size, 6, none⟩ = some (.int .i64 (F 6)) := by go_simp
  have zW07 : (w.alloc (.cells #[.int .i64 (F 0), .int .i64 (F 1), .int .i64 (F 2), .int .i64 (F 3), .int .i64 (F 4), .int .i64 (F 5), .int .i64 (F 6), .int .i64 (F 7)] 24)).cell? ⟨w.heap.size, 7, none⟩ = some (.int .i64 (F 7)) := by go_simp
  generalize (w.alloc (.cells #[.int .i64 (F 0), .int .i64 (F 1), .int .i64 (F 2), .int .i64 (F 3), .int .i64 (F 4), .int .i64 (F 5), .int .i64 (F 6), .int .i64 (F 7)] 24)) = W0 at *
  go_region_held3 (fun w' => Up W0 w' ∧ ∀ b o, b < W0.heap.size → w'.cell? ⟨b, o, none⟩ = W0.cell? ⟨b, o, none⟩) (first | exact ⟨by assumption, by assumption⟩ | go_keep) (first | (go_at_call 16; refine (HB.out _).mono ?_; rintro e w3 ⟨rfl, hB3⟩; have hU3 : Up W0 w3 := (by first | exact Up.trans (by assumption) hB3 | exact Up.trans (Up.drew (Up.refl W0)) hB3); have hc3 : ∀ b o, b < W0.heap.size → w3.cell? ⟨b, o, none⟩ = W0.cell? ⟨b, o, none⟩ := (fun b o hb => hU3.cell hb)))
  obtain ⟨hU4, hc4⟩ := ‹Up W0 w3 ∧ _›
  go_wp2_with fail
  go_ret
  exact ⟨ret_bool (by simp [vOk, Bool.and_assoc]), hU_W0.trans hU4⟩
end Go.Proofs.Ythgcagnfjldlfaa
