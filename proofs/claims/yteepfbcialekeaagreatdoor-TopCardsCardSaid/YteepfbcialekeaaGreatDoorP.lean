/- Contract of psg.Fresh. -/
import Derived.Test.YteepfbcialekeaaGreatDoorO
import Derived.LoopN
namespace Go.Proofs.YteepfbcialekeaaGreatDoor
set_option linter.unusedSimpArgs false
set_option linter.unusedVariables false
open Go.RowKit
open RV
theorem rowCell {w : World} {g o : Nat} {cs : Array Value} {t : TypeId} {v : Value} (hg : w.heap[g]? = some (.cells cs t (0, 0))) (ho : cs[o]? = some v) : w.cell? ⟨g, o, none⟩ = some v := by simp [World.cell?, hg, ho]
theorem rowFree {w : World} {g : Nat} {cs : Array Value} {t : TypeId} (hg : w.heap[g]? = some (.cells cs t (0, 0))) (o : Nat) : w.frozen? ⟨g, o, none⟩ = false := by simp [World.frozen?, hg]
theorem one_set {cs : Array Value} {i : Nat} {v : Value} (h : cs.all (·.oneCell') = true) (hv : v.oneCell' = true) : (cs.setIfInBounds i v).all (·.oneCell') = true := by
  rw [Array.all_eq_true] at h ⊢
  intro j hj
  rw [Array.getElem_setIfInBounds]
  split
  · exact hv
  · exact h j (by simpa using hj)
/-- A row of 244 at each of two places. -/
structure PS (w wr : World) : Prop where
  up : Up w wr
  a : ∃ c : Array Value, c.size = 244 ∧ wr.heap[w.heap.size]? = some (.cells c 52 (0, 0))
  b : ∃ c : Array Value, c.size = 244 ∧ c.all (·.oneCell') = true ∧ wr.heap[w.heap.size + 1]? = some (.cells c 52 (0, 0))
theorem PS.cell {w wr : World} (h : PS w wr) {o : Nat} (ho : o < 244) : ∃ v, wr.cell? ⟨w.heap.size + 1, o, none⟩ = some v := by
  obtain ⟨c, hs, _, hg⟩ := h.b
  exact ⟨c[o], rowCell hg (by rw [Array.getElem?_eq_getElem])⟩
theorem PS.free {w wr : World} (h : PS w wr) (o : Nat) : wr.frozen? ⟨w.heap.size + 1, o, none⟩ = false := by
  obtain ⟨c, _, _, hg⟩ := h.b
  exact rowFree hg o
theorem PS.set {w wr : World} (h : PS w wr) (o : Nat) : PS w (wr.setCell ⟨w.heap.size + 1, o, none⟩ (.int .i64 1)) := by
  obtain ⟨c0, hs0, hg0⟩ := h.a
  obtain ⟨c, hs, h1, hg⟩ := h.b
  refine ⟨h.up.setCell (by simp) _, ⟨c0, hs0, ?_⟩, ⟨c.setIfInBounds o (.int .i64 1), by simpa using hs, one_set h1 rfl, heap_setCell_same _ _ _ _ _ _ hg⟩⟩
  rw [Below.heap_setCell _ _ _ _ (by simp)]; exact hg0
theorem size244 : (Tryz.prog.info? 52).map (·.size) = some 244 := by kernel_rfl
set_option maxRecDepth 100000 in
set_option maxHeartbeats 4000000 in
theorem psgFresh_any (w : World) : Calls Tryz.prog 20 #[] w fun e w' => (∃ P : Array Value, P.size = 244 ∧ e = .returned (.agg P)) ∧ Up w w' := by
  go_enter Tryz.func20, Tryz.ntmps20
  go_wp2_with fail
  have hp : PS w ((w.alloc (.cells Tryz.zeroCells52 52)).alloc (.cells Tryz.zeroCells52 52)) :=
    ⟨((Up.refl w).alloc _).alloc _, ⟨_, by kernel_rfl, heap_past _ _ _ _ (by simp) (heap_at _ _ _ rfl)⟩, ⟨_, by kernel_rfl, by kernel_rfl, heap_at _ _ _ (by simp)⟩⟩
  generalize ((w.alloc (.cells Tryz.zeroCells52 52)).alloc (.cells Tryz.zeroCells52 52)) = W0 at *
  go_loopw [3, 2] (fun i _ wr => ∃ j : Nat, j ≤ 6 ∧ i = .int .i64 j ∧ PS w wr) (fun i _ _ => 6 - (intOf i).toNat)
  case atStart => exact ⟨0, by omega, rfl, hp⟩
  case round =>
    obtain ⟨j, hj, rfl, hq⟩ := hrel
    have hjs : j = 0 ∨ j = 1 ∨ j = 2 ∨ j = 3 ∨ j = 4 ∨ j = 5 ∨ j = 6 := by omega
    rcases hjs with rfl | rfl | rfl | rfl | rfl | rfl | rfl
    · obtain ⟨v, hv⟩ := hq.cell (o := 42) (by omega)
      have hfz := hq.free 42
      have HQ := Lib.hid (hq.set 42)
      clear hq
      go_wp2_with fail
      exact ⟨⟨1, by omega, rfl, HQ.out⟩, by decide⟩
    · obtain ⟨v, hv⟩ := hq.cell (o := 82) (by omega)
      have hfz := hq.free 82
      have HQ := Lib.hid (hq.set 82)
      clear hq
      go_wp2_with fail
      exact ⟨⟨2, by omega, rfl, HQ.out⟩, by decide⟩
    · obtain ⟨v, hv⟩ := hq.cell (o := 122) (by omega)
      have hfz := hq.free 122
      have HQ := Lib.hid (hq.set 122)
      clear hq
      go_wp2_with fail
      exact ⟨⟨3, by omega, rfl, HQ.out⟩, by decide⟩
    · obtain ⟨v, hv⟩ := hq.cell (o := 162) (by omega)
      have hfz := hq.free 162
      have HQ := Lib.hid (hq.set 162)
      clear hq
      go_wp2_with fail
      exact ⟨⟨4, by omega, rfl, HQ.out⟩, by decide⟩
    · obtain ⟨v, hv⟩ := hq.cell (o := 202) (by omega)
      have hfz := hq.free 202
      have HQ := Lib.hid (hq.set 202)
      clear hq
      go_wp2_with fail
      exact ⟨⟨5, by omega, rfl, HQ.out⟩, by decide⟩
    · obtain ⟨v, hv⟩ := hq.cell (o := 242) (by omega)
      have hfz := hq.free 242
      have HQ := Lib.hid (hq.set 242)
      clear hq
      go_wp2_with fail
      exact ⟨⟨6, by omega, rfl, HQ.out⟩, by decide⟩
    · obtain ⟨c0, hs0, hg0⟩ := hq.a
      obtain ⟨c1, hs1, h1, hg1⟩ := hq.b
      have HU := Lib.hid hq.up
      clear hq
      have hz : (Tryz.prog.info? 52).map (·.size) = some c1.size := by rw [hs1]; exact size244
      have hgS : (wr.setRow w.heap.size c1).heap[w.heap.size]? = some (.cells c1 52 (0, 0)) := setRow_heap _ _ _ _ _ _ hg0
      go_wp2_with (first | (apply load_is (ty := 52); (case ho => rfl); (case hgd => rfl); (case hx => rfl); (case hg => exact hg1); (case hu => exact Tryz.underlying52); (case hd => rfl); (case hi => exact hz)) | (apply store_is (ty := 52); (case ho => rfl); (case hgd => rfl); (case hx => rfl); (case hy => rfl); (case h1 => exact h1); (case hw => exact rfl); (case hg => exact hg0); (case hi => exact hz); (case hold => rw [hs0, hs1])))
      refine bodyPost_ret (v := .agg c1) ?_ rfl ⟨⟨c1, hs1, rfl⟩, ?_⟩
      · (apply results_cell_row; (case h => rfl); (case hp => rfl); (case hg => exact hgS); (case hu => exact Tryz.underlying52); (case hd => rfl); (case hi => exact hz))
      · exact Up.setRow HU.out (Nat.le_refl _) c1
end Go.Proofs.YteepfbcialekeaaGreatDoor
