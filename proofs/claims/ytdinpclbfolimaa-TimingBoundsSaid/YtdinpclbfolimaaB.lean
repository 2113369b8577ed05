/- Contracts of the functions of the package timing and of its reference, the second part: lines, ticks, and the reference's geometry. -/
import Derived.Test.YtdinpclbfolimaaA
namespace Go.Proofs.Ytdinpclbfolimaa
open Go.RowKit
attribute [local go_sem] BM.and31 BM.and127 BM.and511

theorem line_any (t : Int) (ht : -9223372036854775808 ≤ t ∧ t ≤ 9223372036854775807) (w : World) : Calls Try.prog 9 #[.int .i64 t] w fun e w' => e = .returned (.tuple #[.int .i64 (max t 0 / 1365), .int .i64 (max t 0 % 1365)]) ∧ w = w' := by
  have h0 : 0 ≤ max t 0 := by omega
  have h1 : max t 0 ≤ 9223372036854775807 := by omega
  go_enter Try.func9, Try.ntmps9
  go_wp2
  go_ret2
  exact ⟨rfl, rfl⟩
theorem next_any (t : Int) (ht : -9223372036854775808 ≤ t ∧ t ≤ 9223372036854775807) (w : World) : Calls Try.prog 8 #[.int .i64 t] w fun e w' => e = .returned (.int .i64 (1365 - max t 0 % 1365)) ∧ w = w' := by
  have h0 : 0 ≤ max t 0 % 1365 := by omega
  have h1 : max t 0 % 1365 ≤ 1364 := by omega
  go_enter Try.func8, Try.ntmps8
  go_wp2_with (go_at_call 9; refine (line_any _ ht _).mono ?_; rintro e w' ⟨rfl, rfl⟩)
  go_ret
  exact ⟨rfl, rfl⟩
theorem frame_any (a b c d l : Int) (h0 : 0 ≤ l) (h1 : l ≤ 263) (w : World) : Calls Try.prog 12 #[.agg #[.int .i64 a, .int .i64 b, .int .i64 c, .int .i64 d, .int .i64 l]] w fun e w' => e = .returned (.int .i64 (l * 1365)) ∧ Up w w' := by
  go_enter Try.func12, Try.ntmps12
  go_wp2
  go_ret
  exact ⟨rfl, (Up.refl _).alloc _⟩
def vShown (t b n : Int) : Int := if n < t ∨ b ≤ n then -1 else n - t
theorem shown_any (a t b c l n : Int) (h0 : 0 ≤ t) (h1 : t ≤ 263) (hn : -9223372036854775808 ≤ n ∧ n ≤ 9223372036854775807) (w : World) : Calls Try.prog 11 #[.agg #[.int .i64 a, .int .i64 t, .int .i64 b, .int .i64 c, .int .i64 l], .int .i64 n] w fun e w' => e = .returned (.int .i64 (vShown t b n)) ∧ Up w w' := by
  obtain ⟨hn0, hn1⟩ := hn
  by_cases c1 : n < t
  · have E := Lib.hid (show vShown t b n = -1 by unfold vShown; rw [if_pos (.inl c1)])
    go_enter Try.func11, Try.ntmps11
    go_wp2
    go_ret
    exact ⟨ret_int E.out.symm, (Up.refl _).alloc _⟩
  · by_cases c2 : b ≤ n
    · have E := Lib.hid (show vShown t b n = -1 by unfold vShown; rw [if_pos (.inr c2)])
      go_enter Try.func11, Try.ntmps11
      go_wp2
      go_ret
      exact ⟨ret_int E.out.symm, (Up.refl _).alloc _⟩
    · have E := Lib.hid (show vShown t b n = n - t by unfold vShown; rw [if_neg (by omega)])
      go_enter Try.func11, Try.ntmps11
      go_wp2
      go_ret
      exact ⟨ret_int E.out.symm, (Up.refl _).alloc _⟩
theorem clamp_any (n a b : Int) (h : a ≤ b) (w : World) : Calls Try.prog 19 #[.int .i64 n, .int .i64 a, .int .i64 b] w fun e w' => e = .returned (.int .i64 (min (max n a) b)) ∧ w = w' := by
  by_cases c1 : n < a
  · have E := Lib.hid (show min (max n a) b = a by omega)
    go_enter Try.func19, Try.ntmps19
    go_wp2
    go_ret
    exact ⟨ret_int E.out.symm, rfl⟩
  · by_cases c2 : b < n
    · have E := Lib.hid (show min (max n a) b = b by omega)
      go_enter Try.func19, Try.ntmps19
      go_wp2
      go_ret
      exact ⟨ret_int E.out.symm, rfl⟩
    · have E := Lib.hid (show min (max n a) b = n by omega)
      go_enter Try.func19, Try.ntmps19
      go_wp2
      go_ret
      exact ⟨ret_int E.out.symm, rfl⟩
theorem rline_any (t : Int) (ht : -9223372036854775808 ≤ t ∧ t ≤ 9223372036854775807) (w : World) : Calls Try.prog 14 #[.int .i64 t] w fun e w' => e = .returned (.tuple #[.int .i64 (max t 0 / 1365), .int .i64 (max t 0 % 1365)]) ∧ w = w' := by
  by_cases c : t < 0
  · have E := Lib.hid (show max t 0 = 0 by omega)
    go_enter Try.func14, Try.ntmps14
    go_wp2
    go_ret2
    exact ⟨by rw [E.out]; rfl, rfl⟩
  · have E := Lib.hid (show max t 0 = t by omega)
    have h0 : 0 ≤ t := by omega
    have h1 : t ≤ 9223372036854775807 := by omega
    go_enter Try.func14, Try.ntmps14
    go_wp2
    go_ret2
    exact ⟨by rw [E.out]; rfl, rfl⟩
theorem rnext_any (t : Int) (ht : -9223372036854775808 ≤ t ∧ t ≤ 9223372036854775807) (w : World) : Calls Try.prog 16 #[.int .i64 t] w fun e w' => e = .returned (.int .i64 (1365 - max t 0 % 1365)) ∧ w = w' := by
  by_cases c : t < 0
  · have E := Lib.hid (show 1365 - max t 0 % 1365 = 1365 by omega)
    go_enter Try.func16, Try.ntmps16
    go_wp2
    go_ret
    exact ⟨ret_int E.out.symm, rfl⟩
  · have E := Lib.hid (show 1365 - max t 0 % 1365 = 1365 - t % 1365 by omega)
    have h0 : 0 ≤ t := by omega
    have h1 : t ≤ 9223372036854775807 := by omega
    have h2 : 0 ≤ t % 1365 := by omega
    have h3 : t % 1365 ≤ 1364 := by omega
    go_enter Try.func16, Try.ntmps16
    go_wp2
    go_ret
    exact ⟨ret_int E.out.symm, rfl⟩
theorem rshown_any (a t b c l n : Int) (h0 : 0 ≤ t) (h1 : t ≤ 263) (hn : -9223372036854775808 ≤ n ∧ n ≤ 9223372036854775807) (w : World) : Calls Try.prog 15 #[.agg #[.int .i64 a, .int .i64 t, .int .i64 b, .int .i64 c, .int .i64 l], .int .i64 n] w fun e w' => e = .returned (.int .i64 (vShown t b n)) ∧ Up w w' := by
  obtain ⟨hn0, hn1⟩ := hn
  by_cases c1 : n < t
  · have E := Lib.hid (show vShown t b n = -1 by unfold vShown; rw [if_pos (.inl c1)])
    go_enter Try.func15, Try.ntmps15
    go_wp2
    go_ret
    exact ⟨ret_int E.out.symm, (Up.refl _).alloc _⟩
  · by_cases c2 : b ≤ n
    · have E := Lib.hid (show vShown t b n = -1 by unfold vShown; rw [if_pos (.inr c2)])
      go_enter Try.func15, Try.ntmps15
      go_wp2
      go_ret
      exact ⟨ret_int E.out.symm, (Up.refl _).alloc _⟩
    · have E := Lib.hid (show vShown t b n = n - t by unfold vShown; rw [if_neg (by omega)])
      go_enter Try.func15, Try.ntmps15
      go_wp2
      go_ret
      exact ⟨ret_int E.out.symm, (Up.refl _).alloc _⟩
theorem rof_any (d l h vp vd vc : Int) (hh : -9223372036854775808 ≤ h ∧ h ≤ 9223372036854775807) (hp : -9223372036854775808 ≤ vp ∧ vp ≤ 9223372036854775807) (hd : -9223372036854775808 ≤ vd ∧ vd ≤ 9223372036854775807) (w : World) :
    Calls Try.prog 13 #[.agg #[.int .i64 d, .int .i64 l, .int .i64 h, .int .i64 vp, .int .i64 vd, .int .i64 vc]] w fun e w' => e = .returned (.agg #[.int .i64 (vWidth d h), .int .i64 (vTop l vp), .int .i64 (vBottom l vp vd), .int .i64 (vBlank l vp vd), .int .i64 (vLines l)]) ∧ Up w w' := by
  have hd0 : 2 ≤ min (max d 2) 4 := by omega
  have hd1 : min (max d 2) 4 ≤ 4 := by omega
  have hl0 : 262 ≤ min (max l 262) 263 := by omega
  have hl1 : min (max l 262) 263 ≤ 263 := by omega
  have hv4 : 0 ≤ vp % 65536 := by omega
  have hv5 : vp % 65536 ≤ 65535 := by omega
  have hv6 : 0 ≤ vd % 65536 := by omega
  have hv7 : vd % 65536 ≤ 65535 := by omega
  have hv8 : 0 ≤ h % 65536 := by omega
  have hv9 : h % 65536 ≤ 65535 := by omega
  have hw0 : 0 ≤ 1365 / min (max d 2) 4 := Int.ediv_nonneg (by omega) (by omega)
  go_enter Try.func13, Try.ntmps13
  go_wp2_with (first | (go_at_call 20; refine (rword_any _ _ (by assumption)).mono ?_; rintro e w' ⟨rfl, rfl⟩) | (go_at_call 19; refine (clamp_any _ _ _ (by first | assumption | omega) _).mono ?_; rintro e w' ⟨rfl, rfl⟩))
  refine bodyPost_ret (v := .agg #[.int .i64 (vWidth d h), .int .i64 (vTop l vp), .int .i64 (vBottom l vp vd), .int .i64 (vBlank l vp vd), .int .i64 (vLines l)]) ?_ rfl ⟨rfl, ?_⟩
  · simp [results, Try.results13, go_sem]
    exact ⟨by unfold vWidth; generalize 1365 / min (max d 2) 4 = q at *; omega, by unfold vTop vLines; omega, by unfold vBottom vTop vLines; omega, by unfold vBlank vBottom vTop vLines; omega, rfl⟩
  · exact (((Up.refl _).alloc _).alloc _)
end Go.Proofs.Ytdinpclbfolimaa
