/- Contracts of the functions of the package vce. -/
import Derived.Test.YtandoejbimihoaaBC
import Derived.Test.YtandoejbimihoaaRV
import Derived.Test.YtandoejbimihoaaPW
import Derived.LoopN
import Derived.StillTailTactics
namespace Go.Proofs.Ytandoejbimihoaa
open Go.RowKit
open RV
theorem rv2_set0 (s t v : Int) (n : Nat) (F : Nat → Int) : (rv [s, t] n F).setIfInBounds 0 (.int .i64 v) = rv [v, t] n F := rv_set_head [s, t] n F 0 v (by simp)
theorem rv2_set1 (s t v : Int) (n : Nat) (F : Nat → Int) : (rv [s, t] n F).setIfInBounds 1 (.int .i64 v) = rv [s, v] n F := rv_set_head [s, t] n F 1 v (by simp)
theorem rv2_set (s t v : Int) (n j : Nat) (F : Nat → Int) : (rv [s, t] n F).setIfInBounds (2 + j) (.int .i64 v) = rv [s, t] n (upd F j v) := rv_set [s, t] n F 2 j v rfl
theorem rv2_get0 (s t : Int) (n : Nat) (F : Nat → Int) : (rv [s, t] n F)[0]? = some (.int .i64 s) := rv_head [s, t] n F 0 s rfl
theorem rv2_get1 (s t : Int) (n : Nat) (F : Nat → Int) : (rv [s, t] n F)[1]? = some (.int .i64 t) := rv_head [s, t] n F 1 t rfl
theorem rv2_get (s t : Int) (n j : Nat) (F : Nat → Int) (hj : j < n) : (rv [s, t] n F)[2 + j]? = some (.int .i64 (F j)) := rv_row [s, t] n F 2 j rfl hj
theorem rv_append (hs : List Int) (n : Nat) : (hs.map (Value.int .i64)).toArray ++ Array.replicate n (Value.int .i64 0) = rv hs n fun _ => 0 := by
  rw [replicate_rv]; simp [rv]
theorem size514 : (Try.prog.info? 24).map (·.size) = some 514 := by kernel_rfl
theorem size512 : (Try.prog.info? 22).map (·.size) = some 512 := by kernel_rfl
theorem zero512 : (Try.prog.info? 22).map (·.zero) = some (some (.agg (rv [] 512 fun _ => 0))) := by
  have h : (Try.prog.info? 22).map (·.zero) = some (some (.agg (Array.replicate 512 (.int .i64 0)))) := by kernel_rfl
  rw [h, replicate_rv]
theorem zero514 : (Try.prog.info? 24).map (·.zero) = some (some (.agg (rv [0, 0] 512 fun _ => 0))) := by
  have h : (Try.prog.info? 24).map (·.zero) = some (some (.agg (#[.int .i64 0, .int .i64 0] ++ Array.replicate 512 (.int .i64 0)))) := by kernel_rfl
  rw [h, ← rv_append]; rfl
theorem zv514 (w : World) : (zeroValue 24).run Try.prog w = .ok (.agg (rv [0, 0] 512 fun _ => 0)) w := by
  have hz := zero514
  obtain ⟨it, hi⟩ := Option.isSome_iff_exists.1 (show (Try.prog.info? 24).isSome = true by kernel_rfl)
  rw [hi] at hz
  simp only [Option.map_some, Option.some.injEq] at hz
  simp [zeroValue, typeInfo, hi, hz]
theorem places514 : ∀ fs, Try.prog.underlying 24 = some (.struct fs) → fs.toList.mapM (fun f => (Try.prog.info? f.type).map fun i => (f.offset, i.size)) = some [(0, 1), (1, 1), (2, 512)] := by
  intro fs h; rw [Try.underlying24] at h; injection h with h; injection h with h; subst h; kernel_rfl
theorem sz514 (s t : Int) (F : Nat → Int) : (Try.prog.info? 24).map (·.size) = some (rv [s, t] 512 F).size := by rw [rv_size]; exact size514
theorem sz512 (F : Nat → Int) : (Try.prog.info? 22).map (·.size) = some (rv [] 512 F).size := by rw [rv_size]; exact size512
theorem built_vce0 : Try.prog.built 24 [] = some (rv [0, 0] 512 fun _ => 0) := by
  have hz := zero514
  obtain ⟨it, hi⟩ := Option.isSome_iff_exists.1 (show (Try.prog.info? 24).isSome = true by kernel_rfl)
  rw [hi] at hz
  simp only [Option.map_some, Option.some.injEq] at hz
  unfold Program.built
  simp only [hi, Try.underlying24, hz, places514 _ Try.underlying24, cells_agg]
  rfl
theorem fill_first (places : Nat → Option (Nat × Nat)) (i k : Nat) (hp : places i = some (k, 1)) (hs : List Int) (n : Nat) (F : Nat → Int) (v : Int) (rest : List (Nat × Value)) (hk : k < hs.length) :
    Instr.fill places (rv hs n F) ((i, .int .i64 v) :: rest) = Instr.fill places (rv (hs.set k v) n F) rest := by
  have h1 : (Value.int IntKind.i64 v).cells = #[.int .i64 v] := rfl
  simp only [Instr.fill, h1, hp]
  rw [if_neg (by rw [rv_size]; simp; omega)]
  have e := rv_set_head hs n F k v hk
  have e2 : (#[Value.int .i64 v] : Array Value).zipIdx.foldl (fun cs (x : Value × Nat) => cs.setIfInBounds (k + x.2) x.1) (rv hs n F) = rv (hs.set k v) n F := by
    simpa [Array.zipIdx] using e
  rw [e2]
theorem built_vce1 (c : Int) : Try.prog.built 24 [(0, .int .i64 c)] = some (rv [c, 0] 512 fun _ => 0) := by
  have hz := zero514
  obtain ⟨it, hi⟩ := Option.isSome_iff_exists.1 (show (Try.prog.info? 24).isSome = true by kernel_rfl)
  rw [hi] at hz
  simp only [Option.map_some, Option.some.injEq] at hz
  unfold Program.built
  simp only [hi, Try.underlying24, hz, places514 _ Try.underlying24, cells_agg]
  rw [fill_first _ 0 0 rfl _ _ _ _ _ (by simp)]
  rfl
theorem built_vce2 (c a : Int) : Try.prog.built 24 [(0, .int .i64 c), (1, .int .i64 a)] = some (rv [c, a] 512 fun _ => 0) := by
  have hz := zero514
  obtain ⟨it, hi⟩ := Option.isSome_iff_exists.1 (show (Try.prog.info? 24).isSome = true by kernel_rfl)
  rw [hi] at hz
  simp only [Option.map_some, Option.some.injEq] at hz
  unfold Program.built
  simp only [hi, Try.underlying24, hz, places514 _ Try.underlying24, cells_agg]
  rw [fill_first _ 0 0 rfl _ _ _ _ _ (by simp), fill_first _ 1 1 rfl _ _ _ _ _ (by simp)]
  rfl
end Go.Proofs.Ytandoejbimihoaa
