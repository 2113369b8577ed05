/- Contracts of (*Card).Pages, (*Card).Byte and (*Bus).none. -/
import Derived.Test.YteepfbcialekeaaGreatDoorI
namespace Go.Proofs.YteepfbcialekeaaGreatDoor
set_option linter.unusedSimpArgs false
set_option linter.unusedVariables false
open Go.RowKit
theorem pages_ptr (c m cap : Nat) (hm : m ≤ 131071) (p : Option Addr) (w : World) (hc : w.cell? ⟨c, 0, none⟩ = some (.slice p m cap)) : Calls Tryz.prog 6 #[.pointer (some ⟨c, 0, none⟩)] w fun e w' => e = .returned (.int .i64 ((m : Int) / 8192)) ∧ w = w' := by
  have hd := tdiv_nat m
  go_enter Tryz.func6, Tryz.ntmps6
  go_wp2_with fail
  go_ret
  exact ⟨rfl, rfl⟩
theorem byte_of (c r m cap : Nat) (page at0 x : Int) (w : World) (hc : w.cell? ⟨c, 0, none⟩ = some (.slice (some ⟨r, 0, none⟩) m cap)) (hm : m ≤ 131071) (h0 : 0 ≤ page) (h1 : page < (m : Int) / 8192) (a0 : 0 ≤ at0) (a1 : at0 < 8192)
    (hx : w.cell? ⟨r, (page * 8192 + at0).toNat, none⟩ = some (.int .u8 x)) (x0 : 0 ≤ x) (x1 : x < 256) :
    Calls Tryz.prog 27 #[.pointer (some ⟨c, 0, none⟩), .int .i64 page, .int .i64 at0] w fun e w' => e = .returned (.int .i64 x) ∧ w = w' := by
  have d0 : decide (page < 0) = false := decide_eq_false (by omega)
  have d1 : decide ((m : Int) / 8192 ≤ page) = false := decide_eq_false (by omega)
  have d2 : decide (at0 < 0) = false := decide_eq_false (by omega)
  have d3 : decide (8192 ≤ at0) = false := decide_eq_false (by omega)
  have e1 : page * 8192 + at0 < m := by omega
  have e2 : 0 ≤ page * 8192 + at0 := by omega
  have HPG := Lib.hid (pages_ptr c m cap hm _ w hc)
  go_enter Tryz.func27, Tryz.ntmps27
  go_wp2_with (go_at_call 6; refine HPG.out.mono ?_; rintro e w' ⟨rfl, rfl⟩)
  go_ret
  exact ⟨rfl, rfl⟩
theorem none_any (b c : Nat) (w : World) (hb : w.cell? ⟨b, 281, none⟩ = some (.pointer (some ⟨c, 0, none⟩))) : Calls Tryz.prog 25 #[.pointer (some ⟨b, 0, none⟩)] w fun e w' => e = .returned (.bool false) ∧ w = w' := by
  go_enter Tryz.func25, Tryz.ntmps25
  go_wp2_with fail
  go_ret
  exact ⟨rfl, rfl⟩
end Go.Proofs.YteepfbcialekeaaGreatDoor
