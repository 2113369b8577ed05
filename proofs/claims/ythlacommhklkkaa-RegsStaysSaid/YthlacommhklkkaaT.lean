/- Whole rows read in a region that draws its order, rules for the walk; both sides' Write at once. -/
import Derived.Test.YthlacommhklkkaaH
import Derived.Test.YthlacommhklkkaaH2
import Derived.Test.YthlacommhklkkaaRH
import Derived.Test.YthlacommhklkkaaE
import Derived.Test.YthlacommhklkkaaRW
namespace Go.Proofs.Ythlacommhklkkaa
open Go.RowKit
open RV
def ldR (v : Value) : Sem Value := Instr.loadAt 24 v
theorem to_ldR (v : Value) : Instr.loadAt 24 v = ldR v := rfl
theorem run_ldR (w : World) (g : Nat) (h : RowOK 21 w g) : (ldR (.pointer (some ⟨g, 0, none⟩))).run Try.prog w = .ok (.agg (rowOf w g)) w := by
  obtain ⟨hn, c, t, fr, hg⟩ := h
  have e := rowOf_eq hg
  rw [e] at hn ⊢
  have hl := run_loadVar_row (P := Try.prog) w g t 24 c fr _ hg Try.underlying24 rfl (by rw [hn]; exact size21)
  simp only [ldR, Instr.loadAt, Instr.sureAddr, Sem.run_bind, Sem.run_pure, Result.andThen_ok]
  exact hl
def ldQ (v : Value) : Sem Value := Instr.loadAt 39 v
theorem to_ldQ (v : Value) : Instr.loadAt 39 v = ldQ v := rfl
theorem run_ldQ (w : World) (g : Nat) (h : RowOK 21 w g) : (ldQ (.pointer (some ⟨g, 0, none⟩))).run Try.prog w = .ok (.agg (rowOf w g)) w := by
  obtain ⟨hn, c, t, fr, hg⟩ := h
  have e := rowOf_eq hg
  rw [e] at hn ⊢
  have hl := run_loadVar_row (P := Try.prog) w g t 39 c fr _ hg Try.underlying39 rfl (by rw [hn]; exact size21r)
  simp only [ldQ, Instr.loadAt, Instr.sureAddr, Sem.run_bind, Sem.run_pure, Result.andThen_ok]
  exact hl
def bdR (ps : Array (Nat × Value)) : Sem Value := Instr.build 24 ps
theorem to_bdR (ps : Array (Nat × Value)) : Instr.build 24 ps = bdR ps := rfl
theorem run_bdR (w : World) : (bdR #[]).run Try.prog w = .ok (.agg (rv [0] 20 fun _ => 0)) w := run_build w 24 #[] _ built_none
theorem RowOK.of {n : Nat} {w : World} {g : Nat} {c : Array Value} {t : TypeId} {fr : Nat × Nat} (h : w.heap[g]? = some (.cells c t fr)) (hn : c.size = n) : RowOK n w g :=
  ⟨by rw [rowOf_eq h]; exact hn, c, t, fr, h⟩
theorem eq21_refl' (s : Int) (F : Nat → Int) (w : World) : (Op.equalIn 10000 24 (.agg (rv [s] 20 F)) (.agg (rv [s] 20 F))).run Try.prog w = .ok true w := by rw [eq21, same_refl]; simp
theorem fields21r : (Try.prog.fieldsOf 39).toList.map (fun f => (f.name, f.type, f.offset)) = [("Sel", 3, 0), ("R", 22, 1)] := by kernel_rfl
theorem under21r : Try.prog.underlying 39 = some (.struct (Try.prog.fieldsOf 39)) := by kernel_rfl
theorem stood21r : Try.prog.stoodInHeld 39 = false := by kernel_rfl
theorem eq21r_refl (s : Int) (F : Nat → Int) (w : World) : (Op.equalIn 10000 39 (.agg (rv [s] 20 F)) (.agg (rv [s] 20 F))).run Try.prog w = .ok true w := by
  rw [run_equalIn_agg w 9999 39 _ _ under21r stood21r, eqFields_two 9997 _ _ _ w s s F F fields21r rfl rfl, same_refl]; simp
/-- Both sides write alike. -/
theorem both_write (s : Int) (F : Nat → Int) (hF : ∀ i, -9223372036854775808 ≤ F i ∧ F i ≤ 9223372036854775807) (at0 b : Int) (hb : -9223372036854775808 ≤ b ∧ b ≤ 9223372036854775807) :
    ∃ (s' : Int) (G : Nat → Int) (e0 : Int), (∀ w, Calls Try.prog 11 #[.agg (rv [s] 20 F), .int .i64 at0, .int .i64 b] w fun e w' => e = .returned (.tuple #[.agg (rv [s'] 20 G), .int .i64 e0]) ∧ Up w w') ∧
      (∀ w, Calls Try.prog 15 #[.agg (rv [s] 20 F), .int .i64 at0, .int .i64 b] w fun e w' => e = .returned (.tuple #[.agg (rv [s'] 20 G), .int .i64 e0]) ∧ Up w w') := by
  by_cases h0 : at0 = 0
  · subst h0
    exact ⟨_, _, _, fun w => write_sel s b F w, fun w => rwrite_sel s b F hb w⟩
  · by_cases h2 : at0 = 2 ∨ at0 = 3
    · by_cases hs : s < 0 ∨ 20 ≤ s
      · exact ⟨_, _, _, fun w => write_far s at0 b F w h2 hs, fun w => rwrite_far s at0 b F hb w h2 hs⟩
      · obtain ⟨j, rfl⟩ := Int.eq_ofNat_of_zero_le (show 0 ≤ s by omega)
        have hj : j < 20 := by omega
        rcases h2 with rfl | rfl
        · exact ⟨_, _, _, fun w => write_low j hj b F w, fun w => rwrite_low j hj b F hb (hF j) w⟩
        · exact ⟨_, _, _, fun w => write_high j hj b F w, fun w => rwrite_high j hj b F hb (hF j) w⟩
    · have a0 : (at0 == 0) = false := beq_eq_false_iff_ne.2 h0
      have a2 : (at0 == 2) = false := beq_eq_false_iff_ne.2 (by omega)
      have a3 : (at0 == 3) = false := beq_eq_false_iff_ne.2 (by omega)
      exact ⟨_, _, _, fun w => write_none s at0 b F w a0 a2 a3, fun w => rwrite_none s at0 b F hb w a0 a2 a3⟩
end Go.Proofs.Ythlacommhklkkaa
