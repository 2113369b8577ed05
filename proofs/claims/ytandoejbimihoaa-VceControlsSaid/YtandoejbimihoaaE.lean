/- '==' of colours. -/
import Derived.Test.YtandoejbimihoaaC
namespace Go.Proofs.Ytandoejbimihoaa
open Go.RowKit
open RV
theorem int3 : Try.prog.underlying 3 = some (.int .i64) := by kernel_rfl
theorem int1 : Try.prog.cellsOf 3 = 1 := by kernel_rfl
theorem eq512 (d : Nat) (F G : Nat → Int) (w : World) : (Op.equalIn (d + 2) 22 (.agg (rv [] 512 F)) (.agg (rv [] 512 G))).run Try.prog w = .ok (same 512 F G) w :=
  equal_row w d 22 3 512 F G Try.underlying22 int3 int1 (by kernel_rfl)
theorem eq512_refl (F : Nat → Int) (w : World) : (Op.equalIn 10000 22 (.agg (rv [] 512 F)) (.agg (rv [] 512 F))).run Try.prog w = .ok true w := by rw [eq512 9998 F F w, same_refl]
theorem part_tab (s t : Int) (F : Nat → Int) (w : World) : (part 22 (rv [s, t] 512 F) 2).run Try.prog w = .ok (.agg (rv [] 512 F)) w := by
  obtain ⟨ie, he⟩ := Option.isSome_iff_exists.1 (show (Try.prog.info? 22).isSome = true by kernel_rfl)
  have h1 := size512
  rw [he] at h1
  simp only [Option.map_some, Option.some.injEq] at h1
  simp [part, isAgg, run_underlying Try.underlying22, sizeOf, typeInfo, he, h1]
  exact rv_extract [s, t] 512 F 2 rfl
theorem part_0 (s t : Int) (F : Nat → Int) (w : World) : (part 3 (rv [s, t] 512 F) 0).run Try.prog w = .ok (.int .i64 s) w := by
  simp [part, isAgg, run_underlying int3, rv2_get0]
theorem part_1 (s t : Int) (F : Nat → Int) (w : World) : (part 3 (rv [s, t] 512 F) 1).run Try.prog w = .ok (.int .i64 t) w := by
  simp [part, isAgg, run_underlying int3, rv2_get1]
theorem fields514 : (Try.prog.fieldsOf 24).toList.map (fun f => (f.name, f.type, f.offset)) = [("Control", 3, 0), ("Addr", 3, 1), ("Table", 22, 2)] := by kernel_rfl
theorem under514 : Try.prog.underlying 24 = some (.struct (Try.prog.fieldsOf 24)) := by kernel_rfl
theorem stood514 : Try.prog.stoodInHeld 24 = false := by kernel_rfl
theorem eq514_refl (s t : Int) (F : Nat → Int) (w : World) : (Op.equalIn 10000 24 (.agg (rv [s, t] 512 F)) (.agg (rv [s, t] 512 F))).run Try.prog w = .ok true w := by
  rw [run_equalIn_agg w 9999 24 _ _ under514 stood514]
  have h := fields514
  generalize (Try.prog.fieldsOf 24).toList = fs at h ⊢
  obtain ⟨f, g, k, rfl⟩ : ∃ f g k, fs = [f, g, k] := by
    rcases fs with _ | ⟨f, _ | ⟨g, _ | ⟨k, _ | ⟨l, r⟩⟩⟩⟩
    · simp at h
    · simp at h
    · simp at h
    · exact ⟨f, g, k, rfl⟩
    · simp at h
  simp only [List.map_cons, List.map_nil, List.cons.injEq, Prod.mk.injEq, and_true] at h
  obtain ⟨⟨f1, f2, f3⟩, ⟨g1, g2, g3⟩, k1, k2, k3⟩ := h
  have hi : ∀ a b : Int, (Op.equalIn 9999 3 (.int .i64 a) (.int .i64 b)).run Try.prog w = .ok (a == b) w := fun a b => run_equalIn_int w 9998 3 .i64 .i64 a b int3
  have n1 : "Control" ≠ "_" := by decide
  have n2 : "Addr" ≠ "_" := by decide
  have n3 : "Table" ≠ "_" := by decide
  have ht := eq512 9997 F F w
  rw [same_refl] at ht
  simp only [Op.eqFields, f1, f2, f3, g1, g2, g3, k1, k2, k3, n1, n2, n3, ne_eq, not_false_eq_true, if_true, Sem.run_bind, part_0, part_1, part_tab, hi, Result.andThen_ok, beq_self_eq_true, Bool.not_true, Bool.false_eq_true, if_false, ht]
  simp
end Go.Proofs.Ytandoejbimihoaa
