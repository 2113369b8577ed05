/- '==' on arrays of eight integers, as one Bool. -/
import Derived.Test.YthgcagnfjldlfaaBC
import Derived.ChangeKeysEq
namespace Go.Proofs.Ythgcagnfjldlfaa
open Go.RowKit

theorem int3 : Try.prog.underlying 3 = some (.int .i64) := by kernel_rfl
theorem items_nil (d c : Nat) (xs ys : Array Value) (w : World) : (Op.eqItems d 3 c xs ys []).run Try.prog w = .ok true w := by simp [Op.eqItems]
theorem items_cons {d i : Nat} {xs ys : Array Value} {is : List Nat} {a b : Int} {s : Bool} {w : World} (ha : (part 3 xs (i * 1)).run Try.prog w = .ok (.int .i64 a) w) (hb : (part 3 ys (i * 1)).run Try.prog w = .ok (.int .i64 b) w)
    (hs : (Op.eqItems (d + 1) 3 1 xs ys is).run Try.prog w = .ok s w) : (Op.eqItems (d + 1) 3 1 xs ys (i :: is)).run Try.prog w = .ok (a == b && s) w := by
  simp only [Op.eqItems, Sem.run_bind, ha, hb, run_equalIn_int w d 3 .i64 .i64 a b int3, Result.andThen_ok]
  cases a == b <;> simp [hs]
theorem eq8 (a0 a1 a2 a3 a4 a5 a6 a7 b0 b1 b2 b3 b4 b5 b6 b7 : Int) (w : World) : (Op.equalIn 10000 24 (.agg #[.int .i64 a0, .int .i64 a1, .int .i64 a2, .int .i64 a3, .int .i64 a4, .int .i64 a5, .int .i64 a6, .int .i64 a7]) (.agg #[.int .i64 b0, .int .i64 b1, .int .i64 b2, .int .i64 b3, .int .i64 b4, .int .i64 b5, .int .i64 b6, .int .i64 b7])).run Try.prog w = .ok ((a0 == b0) && ((a1 == b1) && ((a2 == b2) && ((a3 == b3) && ((a4 == b4) && ((a5 == b5) && ((a6 == b6) && ((a7 == b7) && (true))))))))) w := by
  obtain ⟨ti, hi⟩ := Option.isSome_iff_exists.1 (show (Try.prog.info? 3).isSome = true by kernel_rfl)
  rw [run_equalIn_array (P := Try.prog) w 9999 (n := 8) (e := 3) _ _ (by kernel_rfl) hi]
  rw [show Try.prog.cellsOf 3 = 1 by kernel_rfl, show List.range 8 = [0, 1, 2, 3, 4, 5, 6, 7] from rfl]
  exact items_cons (by kernel_rfl) (by kernel_rfl) (items_cons (by kernel_rfl) (by kernel_rfl) (items_cons (by kernel_rfl) (by kernel_rfl) (items_cons (by kernel_rfl) (by kernel_rfl) (items_cons (by kernel_rfl) (by kernel_rfl) (items_cons (by kernel_rfl) (by kernel_rfl) (items_cons (by kernel_rfl) (by kernel_rfl) (items_cons (by kernel_rfl) (by kernel_rfl) (items_nil _ _ _ _ _))))))))
theorem eq8r (a0 a1 a2 a3 a4 a5 a6 a7 b0 b1 b2 b3 b4 b5 b6 b7 : Int) (w : World) : (Op.equalIn 10000 22 (.agg #[.int .i64 a0, .int .i64 a1, .int .i64 a2, .int .i64 a3, .int .i64 a4, .int .i64 a5, .int .i64 a6, .int .i64 a7]) (.agg #[.int .i64 b0, .int .i64 b1, .int .i64 b2, .int .i64 b3, .int .i64 b4, .int .i64 b5, .int .i64 b6, .int .i64 b7])).run Try.prog w = .ok ((a0 == b0) && ((a1 == b1) && ((a2 == b2) && ((a3 == b3) && ((a4 == b4) && ((a5 == b5) && ((a6 == b6) && ((a7 == b7) && (true))))))))) w := by
  obtain ⟨ti, hi⟩ := Option.isSome_iff_exists.1 (show (Try.prog.info? 3).isSome = true by kernel_rfl)
  rw [run_equalIn_array (P := Try.prog) w 9999 (n := 8) (e := 3) _ _ (by kernel_rfl) hi]
  rw [show Try.prog.cellsOf 3 = 1 by kernel_rfl, show List.range 8 = [0, 1, 2, 3, 4, 5, 6, 7] from rfl]
  exact items_cons (by kernel_rfl) (by kernel_rfl) (items_cons (by kernel_rfl) (by kernel_rfl) (items_cons (by kernel_rfl) (by kernel_rfl) (items_cons (by kernel_rfl) (by kernel_rfl) (items_cons (by kernel_rfl) (by kernel_rfl) (items_cons (by kernel_rfl) (by kernel_rfl) (items_cons (by kernel_rfl) (by kernel_rfl) (items_cons (by kernel_rfl) (by kernel_rfl) (items_nil _ _ _ _ _))))))))
end Go.Proofs.Ythgcagnfjldlfaa
