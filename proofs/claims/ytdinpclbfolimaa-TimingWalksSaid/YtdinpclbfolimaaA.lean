/- Contracts of the functions of the package timing and of its reference: what each returns. -/
import Derived.Test.YtdinpclbfolimaaBC
import Derived.Lib.MinMax
namespace Go.Proofs.Ytdinpclbfolimaa
open Go.RowKit
attribute [local go_sem] BM.and31 BM.and127 BM.and511
@[local go_sem high] theorem run_min_ints3 {P : Program} (w : World) (ts : Array TypeId) (t : TypeId) (k k' k'' : IntKind) (x y z : Int) :
    (Builtin.min_ ts t #[.int k x, .int k' y, .int k'' z]).run P w = .ok (.int k (min (min x y) z)) w := by
  rw [run_min_int3]
  congr 2
  rw [Int.min_def, Int.min_def]
  split <;> split <;> split <;> omega

theorem within_any (b : Nat) (x l : Int) (w : World) (h : w.cell? ⟨b, 4, none⟩ = some (.int .i64 l)) :
    Calls Try.prog 17 #[.int .i64 x, .pointer (some ⟨b, 0, none⟩)] w fun e w' => e = .returned (.int .i64 (min x l)) ∧ w = w' := by
  go_enter Try.func17, Try.ntmps17
  go_wp2
  go_ret
  exact ⟨rfl, rfl⟩

def vLines (l : Int) : Int := min (max l 262) 263
def vWidth (d h : Int) : Int := min (8 * (h % 128 + 1)) (min 512 (1365 / min (max d 2) 4))
def vTop (l vp : Int) : Int := min (vp % 32 + vp / 256 % 256 + 3) (vLines l)
def vBottom (l vp vd : Int) : Int := min (vTop l vp + vd % 512 + 1) (vLines l)
def vBlank (l vp vd : Int) : Int := min (vBottom l vp vd) (vLines l - 1)

theorem of_any (d l h vp vd vc : Int) (w : World) :
    Calls Try.prog 10 #[.agg #[.int .i64 d, .int .i64 l, .int .i64 h, .int .i64 vp, .int .i64 vd, .int .i64 vc]] w fun e w' => e = .returned (.agg #[.int .i64 (vWidth d h), .int .i64 (vTop l vp), .int .i64 (vBottom l vp vd), .int .i64 (vBlank l vp vd), .int .i64 (vLines l)]) ∧ Up w w' := by
  have hd0 : 2 ≤ min (max d 2) 4 := by omega
  have hd1 : min (max d 2) 4 ≤ 4 := by omega
  have hl0 : 262 ≤ min (max l 262) 263 := by omega
  have hl1 : min (max l 262) 263 ≤ 263 := by omega
  have hv0 : 0 ≤ vp % 32 := by omega
  have hv1 : vp % 32 ≤ 31 := by omega
  have hv2 : 0 ≤ vp / 256 % 256 := by omega
  have hv3 : vp / 256 % 256 ≤ 255 := by omega
  go_enter Try.func10, Try.ntmps10
  go_wp2
  go_region
  go_wp2_with (first | (go_at_call 18; refine (split_any _ _).mono ?_; rintro e w' ⟨rfl, rfl⟩) | (go_at_call 17; refine (within_any _ _ (min (max l 262) 263) _ (by go_simp)).mono ?_; rintro e w' ⟨rfl, rfl⟩))
  refine bodyPost_ret (v := .agg #[.int .i64 (vWidth d h), .int .i64 (vTop l vp), .int .i64 (vBottom l vp vd), .int .i64 (vBlank l vp vd), .int .i64 (vLines l)]) ?_ rfl ⟨rfl, ?_⟩
  · simp [results, Try.results10, go_sem]
    exact ⟨rfl, rfl, rfl, by unfold vBlank vBottom vTop vLines; omega, rfl⟩
  · exact ((((Up.refl _).alloc _).alloc _).alloc _).drew
end Go.Proofs.Ytdinpclbfolimaa
