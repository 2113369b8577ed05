/- What the build of a bus gives. -/
import Derived.Test.YteepfbcialekeaaGreatDoorL
namespace Go.Proofs.YteepfbcialekeaaGreatDoor
set_option linter.unusedSimpArgs false
set_option linter.unusedVariables false
open Go.RowKit
open RV
def putAt (o : Nat) (vs cs : Array Value) : Array Value := vs.zipIdx.foldl (fun cs (x : Value × Nat) => cs.setIfInBounds (o + x.2) x.1) cs
theorem putAt_get (o : Nat) (vs cs : Array Value) (i : Nat) : (putAt o vs cs)[i]? = if o ≤ i ∧ i < o + vs.size ∧ i < cs.size then vs[i - o]? else cs[i]? := by
  unfold putAt
  rw [← Array.foldl_toList, Array.toList_zipIdx, fold_get o vs.toList 0 cs i]
  simp
theorem putAt_out (o : Nat) (vs cs : Array Value) (i : Nat) (h : ¬ (o ≤ i ∧ i < o + vs.size)) : (putAt o vs cs)[i]? = cs[i]? := by
  rw [putAt_get, if_neg (fun k => h ⟨k.1, k.2.1⟩)]
theorem putAt_in (o : Nat) (vs cs : Array Value) (i j : Nat) (h : i = o + j) (hj : j < vs.size) (hc : i < cs.size) : (putAt o vs cs)[i]? = vs[j]? := by
  subst h
  rw [putAt_get, if_pos ⟨by omega, by omega, hc⟩, Nat.add_sub_cancel_left]
theorem one_size (x : Value) : (#[x] : Array Value).size = 1 := rfl
theorem put_size : ∀ (l : List (Value × Nat)) (o : Nat) (cs : Array Value), (l.foldl (fun cs (x : Value × Nat) => cs.setIfInBounds (o + x.2) x.1) cs).size = cs.size
  | [], _, _ => rfl
  | x :: l, o, cs => by rw [List.foldl_cons, put_size l]; simp
theorem putAt_size (o : Nat) (vs cs : Array Value) : (putAt o vs cs).size = cs.size := by
  unfold putAt
  rw [← Array.foldl_toList]; exact put_size _ _ _
theorem fill_step (place : Nat → Option (Nat × Nat)) (cs : Array Value) (i o n : Nat) (v : Value) (rest : List (Nat × Value)) (hp : place i = some (o, n)) (hn : v.cells.size = n) (ho : o + n ≤ cs.size) :
    Instr.fill place cs ((i, v) :: rest) = Instr.fill place (putAt o v.cells cs) rest := by
  simp only [Instr.fill, hp]
  rw [if_neg (by simp; exact ⟨hn, by omega⟩)]
  rfl
def BPL : List (Nat × Nat) := [(0,281),(281,1),(282,1),(283,8192),(8475,8),(8483,514),(8997,244),(9241,4),(9245,2),(9247,4),(9251,10),(9261,1),(9262,1)]
noncomputable def fieldsOf (t : TypeId) : Option (List (Nat × Nat)) := match Tryz.prog.underlying t with
  | some (.struct fs) => fs.toList.mapM (fun f => (Tryz.prog.info? f.type).map fun i => (f.offset, i.size))
  | _ => none
theorem bus_places : fieldsOf 63 = some BPL := by kernel_rfl
theorem bus_facts : (Tryz.prog.info? 63).map (fun i => i.zero.map (fun z => (z.cells.size, z.cells[282]?))) = some (some (9263, some (.int .i64 0))) := by kernel_rfl
theorem built_fields (t : TypeId) (pl : List (Nat × Nat)) (hp : fieldsOf t = some pl) (it : TypeInfo) (z : Value) (hi : Tryz.prog.info? t = some it) (hz : it.zero = some z) (parts : List (Nat × Value)) :
    Tryz.prog.built t parts = Instr.fill (pl.toArray[·]?) z.cells parts := by
  unfold fieldsOf at hp
  unfold Program.built
  rw [hi]
  cases hu : Tryz.prog.underlying t with
  | none => rw [hu] at hp; cases hp
  | some d =>
    rw [hu] at hp
    cases d <;> simp only [] at hp <;> try cases hp
    simp only [hz, hp]
theorem built_bus (V M P : Array Value) (c : Value) (hV : V.size = 281) (hM : M.size = 8) (hP : P.size = 244) (hc : c.cells = #[c]) :
    ∃ cs, Tryz.prog.built 63 [(0, .agg V), (1, c), (4, .agg M), (6, .agg P), (11, .int .i64 255)] = some cs ∧ cs.size = 9263 ∧ cs[281]? = some c ∧ cs[282]? = some (.int .i64 0) ∧ cs[9261]? = some (.int .i64 255) ∧ ∀ k, k < 8 → cs[8475 + k]? = M[k]? := by
  obtain ⟨it, hi, he⟩ := Option.map_eq_some_iff.1 bus_facts
  obtain ⟨z, hz, he⟩ := Option.map_eq_some_iff.1 he
  simp only [Prod.mk.injEq] at he
  obtain ⟨hs, h0⟩ := he
  rw [built_fields _ _ bus_places it z hi hz]
  generalize z.cells = Z at *
  have c0 : (Value.agg V).cells = V := rfl
  have c2 : (Value.agg M).cells = M := rfl
  have c3 : (Value.agg P).cells = P := rfl
  have c4 : (Value.int .i64 255).cells = #[.int .i64 255] := rfl
  refine ⟨putAt 9261 #[.int .i64 255] (putAt 8997 P (putAt 8475 M (putAt 281 #[c] (putAt 0 V Z)))), ?_, by simp only [putAt_size]; exact hs, ?_, ?_, ?_, ?_⟩
  · rw [fill_step _ _ 0 0 281 _ _ rfl (by rw [c0]; exact hV) (by omega), c0]
    rw [fill_step _ _ 1 281 1 _ _ rfl (by rw [hc]; rfl) (by simp only [putAt_size]; omega), hc]
    rw [fill_step _ _ 4 8475 8 _ _ rfl (by rw [c2]; exact hM) (by simp only [putAt_size]; omega), c2]
    rw [fill_step _ _ 6 8997 244 _ _ rfl (by rw [c3]; exact hP) (by simp only [putAt_size]; omega), c3]
    rw [fill_step _ _ 11 9261 1 _ _ rfl (by rw [c4]; rfl) (by simp only [putAt_size]; omega), c4]
    rfl
  · rw [putAt_out _ _ _ _ (by rw [one_size]; omega), putAt_out _ _ _ _ (by omega), putAt_out _ _ _ _ (by omega), putAt_in 281 #[c] _ 281 0 rfl (by rw [one_size]; omega) (by rw [putAt_size]; omega)]
    rfl
  · rw [putAt_out _ _ _ _ (by rw [one_size]; omega), putAt_out _ _ _ _ (by omega), putAt_out _ _ _ _ (by omega), putAt_out _ _ _ _ (by rw [one_size]; omega), putAt_out _ _ _ _ (by omega)]
    exact h0
  · rw [putAt_in 9261 #[.int .i64 255] _ 9261 0 rfl (by rw [one_size]; omega) (by simp only [putAt_size]; omega)]
    rfl
  · intro k hk
    rw [putAt_out _ _ _ _ (by rw [one_size]; omega), putAt_out _ _ _ _ (by omega), putAt_in 8475 M _ _ k rfl (by omega) (by simp only [putAt_size]; omega)]
end Go.Proofs.YteepfbcialekeaaGreatDoor
