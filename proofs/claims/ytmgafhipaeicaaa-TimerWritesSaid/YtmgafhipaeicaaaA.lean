/- Contracts of the functions of the package timer: what each returns. -/
import Derived.Test.YtmgafhipaeicaaaBC
namespace Go.Proofs.Ytmgafhipaeicaaa
open Go.RowKit
attribute [local go_sem] BM.and127

def vIn (n m : Int) : Bool := decide (0 ≤ n ∧ n ≤ m)
theorem in_any (n m : Int) (w : World) : Calls Try.prog 17 #[.int .i64 n, .int .i64 m] w fun e w' => e = .returned (.bool (vIn n m)) ∧ w = w' := by
  by_cases h0 : 0 ≤ n
  · by_cases h1 : n ≤ m
    · have E := Lib.hid (show vIn n m = true by unfold vIn; rw [decide_eq_true_eq]; omega)
      have d0 : decide (0 ≤ n) = true := decide_eq_true h0
      have d1 : decide (n ≤ m) = true := decide_eq_true h1
      go_enter Try.func17, Try.ntmps17
      go_wp2
      go_ret
      exact ⟨ret_bool E.out.symm, rfl⟩
    · have E := Lib.hid (show vIn n m = false by unfold vIn; rw [decide_eq_false_iff_not]; omega)
      have d0 : decide (0 ≤ n) = true := decide_eq_true h0
      have d1 : decide (n ≤ m) = false := decide_eq_false h1
      go_enter Try.func17, Try.ntmps17
      go_wp2
      go_ret
      exact ⟨ret_bool E.out.symm, rfl⟩
  · have E := Lib.hid (show vIn n m = false by unfold vIn; rw [decide_eq_false_iff_not]; omega)
    have d0 : decide (0 ≤ n) = false := decide_eq_false h0
    go_enter Try.func17, Try.ntmps17
    go_wp2
    go_ret
    exact ⟨ret_bool E.out.symm, rfl⟩

def vValid (r c : Int) (on : Bool) (p : Int) : Bool := vIn r 127 && vIn c 127 && vIn p 3071 && (on || p == 0)
set_option maxHeartbeats 1000000 in
theorem valid_any (r c : Int) (on : Bool) (p : Int) (w : World) : Calls Try.prog 9 #[.agg #[.int .i64 r, .int .i64 c, .bool on, .int .i64 p]] w fun e w' => e = .returned (.bool (vValid r c on p)) ∧ (w.alloc (.cells #[.int .i64 r, .int .i64 c, .bool on, .int .i64 p] 23)).alloc (.cells #[.int .i64 r, .int .i64 c, .bool false, .int .i64 0] 23) = w' := by
  cases h1 : vIn r 127
  · have E := Lib.hid (show vValid r c on p = false by unfold vValid; rw [h1]; simp)
    go_enter Try.func9, Try.ntmps9
    go_wp2_with (go_at_call 17; refine (in_any _ _ _).mono ?_; rintro e w' ⟨rfl, rfl⟩)
    go_ret
    exact ⟨ret_bool E.out.symm, rfl⟩
  · cases h2 : vIn c 127
    · have E := Lib.hid (show vValid r c on p = false by unfold vValid; rw [h2]; simp)
      go_enter Try.func9, Try.ntmps9
      go_wp2_with (go_at_call 17; refine (in_any _ _ _).mono ?_; rintro e w' ⟨rfl, rfl⟩)
      go_ret
      exact ⟨ret_bool E.out.symm, rfl⟩
    · cases h3 : vIn p 3071
      · have E := Lib.hid (show vValid r c on p = false by unfold vValid; rw [h3]; simp)
        go_enter Try.func9, Try.ntmps9
        go_wp2_with (go_at_call 17; refine (in_any _ _ _).mono ?_; rintro e w' ⟨rfl, rfl⟩)
        go_ret
        exact ⟨ret_bool E.out.symm, rfl⟩
      · cases on
        · by_cases hp0 : p = 0
          · subst hp0
            have E := Lib.hid (show vValid r c false 0 = true by unfold vValid; rw [h1, h2, h3]; simp)
            go_enter Try.func9, Try.ntmps9
            go_wp2_with (go_at_call 17; refine (in_any _ _ _).mono ?_; rintro e w' ⟨rfl, rfl⟩)
            go_ret
            exact ⟨ret_bool E.out.symm, rfl⟩
          · have hp1 : (p == 0) = false := beq_eq_false_iff_ne.2 hp0
            have E := Lib.hid (show vValid r c false p = false by unfold vValid; rw [hp1]; simp)
            go_enter Try.func9, Try.ntmps9
            go_wp2_with (go_at_call 17; refine (in_any _ _ _).mono ?_; rintro e w' ⟨rfl, rfl⟩)
            go_ret
            exact ⟨ret_bool E.out.symm, rfl⟩
        · have E := Lib.hid (show vValid r c true p = true by unfold vValid; rw [h1, h2, h3]; simp)
          go_enter Try.func9, Try.ntmps9
          go_wp2_with (go_at_call 17; refine (in_any _ _ _).mono ?_; rintro e w' ⟨rfl, rfl⟩)
          go_ret
          exact ⟨ret_bool E.out.symm, rfl⟩
end Go.Proofs.Ytmgafhipaeicaaa
