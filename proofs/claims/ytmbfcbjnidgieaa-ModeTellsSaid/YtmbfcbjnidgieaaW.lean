/- The walks of the laws over modes: each returns true. -/
import Derived.Test.YtmbfcbjnidgieaaR
import Derived.Test.YtmbfcbjnidgieaaOP
import Derived.Deep.QuietTactic
import Derived.BigQuiet
namespace Go.Proofs.Ytmbfcbjnidgieaa
open Go.RowKit
attribute [local go_sem] BM.and127 BM.and255 BM.and65535

/-- A callee that leaves the world alone, in the form that a quiet region wants. -/
theorem quiet_of {P : Program} {f : FuncId} {args : Array Value} {w : World} {n : Nat} {v : Value}
    (h : Calls P f args (w.drewN n) fun e w' => e = .returned v ∧ w.drewN n = w') : Calls P f args (w.drewN n) fun e w'' => e = .returned v ∧ ∃ m, w'' = w.drewN m :=
  h.mono fun _ _ ⟨he, hm⟩ => ⟨he, n, hm.symm⟩

set_option maxHeartbeats 4000000 in
set_option maxRecDepth 100000 in
theorem walk_modeTells (m : Int) (_hm : -9223372036854775808 ≤ m ∧ m ≤ 9223372036854775807) (c1 : List Value) (f1 : OP.FitsAll [true, true] c1) (c2 : List Value) (f2 : OP.FitsAll [true, true] c2) (w : World) :
    Calls Try.prog 6 #[.int .i64 m, .agg ⟨c1⟩, .agg ⟨c2⟩] w fun e w' => e = .returned (.bool true) ∧ Below w.heap.size w w' := by
  obtain ⟨x, r0, rfl, hx, g1⟩ := OP.cons_int f1
  obtain ⟨y, r1, rfl, hy, g2⟩ := OP.cons_int g1
  obtain rfl := OP.none_left g2
  obtain ⟨o, r2, rfl, ho, g3⟩ := OP.cons_int f2
  obtain ⟨p, r3, rfl, hp, g4⟩ := OP.cons_int g3
  obtain rfl := OP.none_left g4
  clear f1 f2 g1 g2 g3 g4
  have RP := Lib.hid (fun w => rpointer_any m x o hx ho w)
  have RA := Lib.hid (fun w => raddress_any m x y o p hx hy ho hp w)
  have A9 := Lib.hid (show ∀ w, Calls Try.prog 7 #[.int .i64 9, .agg #[.int .i64 0, .int .i64 0], .int .i64 5, .int .i64 0] w fun e w' => e = .returned (.tuple #[.int .i64 5, .bool true]) ∧ Up w w' from fun w => address_9 0 0 5 0 w)
  have RT := Lib.hid (fun w => rtarget_any o p ho hp w)
  have RF := Lib.hid (fun w => rafter_any o ho (vPh m) w)
  clear hx hy ho hp
  go_enter Try.func6, Try.ntmps6
  go_wp2_with fail
  refine (pointer_any _ _ _ _).mono ?_; rintro e w' ⟨rfl, rfl⟩
  go_wp2_with fail
  refine (RP.out _).mono ?_; rintro e w' ⟨rfl, rfl⟩
  go_wp2_with fail
  refine (address_any _ _ _ _ _ _).mono ?_; rintro e w1 ⟨rfl, hU1⟩
  obtain ⟨hc1, hf1, _⟩ := hU1.facts
  go_wp2_with fail
  refine (RA.out _).mono ?_; rintro e w' ⟨rfl, rfl⟩
  go_wp2_with fail
  refine (A9.out _).mono ?_; rintro e w2 ⟨rfl, hU2⟩
  have k0 : w2.cell? ⟨w.heap.size + 1, 0, none⟩ = some (.int .i64 o) := by
    rw [hU2.cell (by have := hU1.size; simp only [World.size_alloc] at this; omega), hc1 _ _ (by simp)]; go_simp
  have k1 : w2.cell? ⟨w.heap.size + 1, 1, none⟩ = some (.int .i64 p) := by
    rw [hU2.cell (by have := hU1.size; simp only [World.size_alloc] at this; omega), hc1 _ _ (by simp)]; go_simp
  clear hc1 hf1
  go_wp2
  go_quiet ((first | (go_at_call 8; exact quiet_of (target_any _ _ _)) | (go_at_call 13; exact quiet_of (RT.out _)) | (go_at_call 9; exact quiet_of (after_any _ _ _)) | (go_at_call 14; exact quiet_of (RF.out _))))
  go_wp2
  go_ret
  exact ⟨ret_bool rfl, (by repeat (first | exact Up.refl _ | assumption | refine Up.drew ?_ | refine Up.drewN ?_ _ | refine Up.alloc ?_ _ | refine Up.trans ?_ (by assumption)))⟩
end Go.Proofs.Ytmbfcbjnidgieaa
