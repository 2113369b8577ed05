/- Whole rows read in a region that draws its order: a rule for the walk. -/
import Derived.Test.YtandoejbimihoaaC
import Derived.Test.YtandoejbimihoaaRW
namespace Go.Proofs.Ytandoejbimihoaa
open Go.RowKit
open RV
def ld514 (v : Value) : Sem Value := Instr.loadAt 24 v
theorem to_ld514 (v : Value) : Instr.loadAt 24 v = ld514 v := rfl
theorem run_ld514 (w : World) (g : Nat) (h : RowOK 514 w g) : (ld514 (.pointer (some ⟨g, 0, none⟩))).run Try.prog w = .ok (.agg (rowOf w g)) w := by
  obtain ⟨hn, c, t, fr, hg⟩ := h
  have e := rowOf_eq hg
  rw [e] at hn ⊢
  have hl := run_loadVar_row (P := Try.prog) w g t 24 c fr _ hg Try.underlying24 rfl (by rw [hn]; exact size514)
  simp only [ld514, Instr.loadAt, Instr.sureAddr, Sem.run_bind, Sem.run_pure, Result.andThen_ok]
  exact hl
theorem RowOK.of {n : Nat} {w : World} {g : Nat} {c : Array Value} {t : TypeId} {fr : Nat × Nat} (h : w.heap[g]? = some (.cells c t fr)) (hn : c.size = n) : RowOK n w g :=
  ⟨by rw [rowOf_eq h]; exact hn, c, t, fr, h⟩
theorem quiet_of {P : Program} {f : FuncId} {args : Array Value} {w : World} {n : Nat} {v : Value}
    (h : Calls P f args (w.drewN n) fun e w' => e = .returned v ∧ w.drewN n = w') : Calls P f args (w.drewN n) fun e w'' => e = .returned v ∧ ∃ m, w'' = w.drewN m :=
  h.mono fun _ _ ⟨he, hm⟩ => ⟨he, n, hm.symm⟩
theorem write_4up (ct a : Int) (F : Nat → Int) (b : Int) (j : Nat) (hk : a % 512 = (j : Int)) (w : World) : Calls Try.prog 9 #[.agg (rv [ct, a] 512 F), .int .i64 4, .int .i64 b] w fun e w' => e = .returned (.agg (rv [ct, (j : Int)] 512 (upd F j (vLow (F j) (b % 256))))) ∧ Up w w' :=
  (write_4 ct a F b j hk w).mono fun _ _ h => up_of_eq h (((Up.refl w).alloc _).alloc _)
theorem write_17 (ct a : Int) (F : Nat → Int) (k b : Int) (hk : k = 1 ∨ k = 7) (w : World) : Calls Try.prog 9 #[.agg (rv [ct, a] 512 F), .int .i64 k, .int .i64 b] w fun e w' => e = .returned (.agg (rv [ct, a] 512 F)) ∧ Up w w' := by
  obtain ⟨j, hj⟩ := Int.eq_ofNat_of_zero_le (show 0 ≤ a % 512 by omega)
  rcases hk with rfl | rfl
  · exact (write_1 ct a F b j hj w).mono fun _ _ h => up_of_eq h (((Up.refl w).alloc _).alloc _)
  · exact (write_7 ct a F b j hj w).mono fun _ _ h => up_of_eq h (((Up.refl w).alloc _).alloc _)
theorem read_5up (ct a : Int) (F : Nat → Int) (j : Nat) (hk : a % 512 = (j : Int)) (w : World) : Calls Try.prog 10 #[.agg (rv [ct, a] 512 F), .int .i64 5] w fun e w' => e = .returned (.tuple #[.int .i64 (254 + F j % 512 / 256), .agg (rv [ct, ((j : Int) + 1) % 512] 512 F)]) ∧ Up w w' :=
  (read_5 ct a F j hk w).mono fun _ _ h => up_of_eq h ((((Up.refl w).alloc _).alloc _).drew)
end Go.Proofs.Ytandoejbimihoaa
