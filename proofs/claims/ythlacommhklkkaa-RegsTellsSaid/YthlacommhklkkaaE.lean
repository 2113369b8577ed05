/- '==' of registers. -/
import Derived.Test.YthlacommhklkkaaR
namespace Go.Proofs.Ythlacommhklkkaa
open Go.RowKit
open RV
theorem int1 : Try.prog.cellsOf 3 = 1 := by kernel_rfl
theorem eq20 (d : Nat) (F G : Nat → Int) (w : World) : (Op.equalIn (d + 2) 22 (.agg (rv [] 20 F)) (.agg (rv [] 20 G))).run Try.prog w = .ok (same 20 F G) w :=
  equal_row w d 22 3 20 F G Try.underlying22 int3 int1 (by kernel_rfl)
theorem eq20' (F G : Nat → Int) (w : World) : (Op.equalIn 10000 22 (.agg (rv [] 20 F)) (.agg (rv [] 20 G))).run Try.prog w = .ok (same 20 F G) w := eq20 9998 F G w
theorem part_row (s : Int) (F : Nat → Int) (w : World) : (part 22 (rv [s] 20 F) 1).run Try.prog w = .ok (.agg (rv [] 20 F)) w := by
  obtain ⟨ie, he⟩ := Option.isSome_iff_exists.1 (show (Try.prog.info? 22).isSome = true by kernel_rfl)
  have h1 := size20
  rw [he] at h1
  simp only [Option.map_some, Option.some.injEq] at h1
  simp [part, isAgg, run_underlying Try.underlying22, sizeOf, typeInfo, he, h1]
  exact rv_extract [s] 20 F 1 rfl
theorem part_sel (s : Int) (F : Nat → Int) (w : World) : (part 3 (rv [s] 20 F) 0).run Try.prog w = .ok (.int .i64 s) w := by
  simp [part, isAgg, run_underlying int3, rv1_get0]
theorem fields21 : (Try.prog.fieldsOf 24).toList.map (fun f => (f.name, f.type, f.offset)) = [("Sel", 3, 0), ("R", 22, 1)] := by kernel_rfl
theorem under21 : Try.prog.underlying 24 = some (.struct (Try.prog.fieldsOf 24)) := by kernel_rfl
theorem stood21 : Try.prog.stoodInHeld 24 = false := by kernel_rfl
theorem eqFields_two (d : Nat) (xs ys : Array Value) (fs : List Field) (w : World) (s s' : Int) (F G : Nat → Int) (h : fs.map (fun f => (f.name, f.type, f.offset)) = [("Sel", 3, 0), ("R", 22, 1)]) (hx : xs = rv [s] 20 F) (hy : ys = rv [s'] 20 G) :
    (Op.eqFields (d + 2) xs ys fs).run Try.prog w = .ok (s == s' && same 20 F G) w := by
  subst hx hy
  obtain ⟨f, g, rfl⟩ : ∃ f g, fs = [f, g] := by
    rcases fs with _ | ⟨f, _ | ⟨g, _ | ⟨k, r⟩⟩⟩
    · simp at h
    · simp at h
    · exact ⟨f, g, rfl⟩
    · simp at h
  simp only [List.map_cons, List.map_nil, List.cons.injEq, Prod.mk.injEq, and_true] at h
  obtain ⟨⟨f1, f2, f3⟩, g1, g2, g3⟩ := h
  have hi : ∀ a b : Int, (Op.equalIn (d + 2) 3 (.int .i64 a) (.int .i64 b)).run Try.prog w = .ok (a == b) w := fun a b => run_equalIn_int w (d + 1) 3 .i64 .i64 a b int3
  have n1 : "Sel" ≠ "_" := by decide
  have n2 : "R" ≠ "_" := by decide
  simp only [Op.eqFields, f1, f2, f3, g1, g2, g3, n1, n2, ne_eq, not_false_eq_true, if_true, Sem.run_bind, part_sel, hi, Result.andThen_ok]
  cases s == s'
  · simp
  · simp only [Bool.not_true, Bool.false_eq_true, if_false, Sem.run_bind, part_row, eq20, Result.andThen_ok, Bool.true_and]
    cases same 20 F G <;> simp
theorem eq21 (s s' : Int) (F G : Nat → Int) (w : World) : (Op.equalIn 10000 24 (.agg (rv [s] 20 F)) (.agg (rv [s'] 20 G))).run Try.prog w = .ok (s == s' && same 20 F G) w := by
  rw [run_equalIn_agg w 9999 24 _ _ under21 stood21]
  exact eqFields_two 9997 _ _ _ w s s' F G fields21 rfl rfl
end Go.Proofs.Ythlacommhklkkaa
