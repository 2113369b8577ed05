/- What a timer comes to, in plain numbers: so many periods on. -/
namespace Go.Proofs.Ytmgafhipaeicaaa

/-- Count, and how often it came round, so many periods on. -/
def vCount (r c j : Int) : Int := if j ≤ c then c - j else r - (j - (c + 1)) % (r + 1)
def vRound (c r j : Int) : Int := if j ≤ c then 0 else 1 + (j - (c + 1)) / (r + 1)

theorem div_step (s a : Int) (ha : 1 ≤ a) (_hs : 0 ≤ s) : (s % a = a - 1 → (s + 1) % a = 0 ∧ (s + 1) / a = s / a + 1) ∧ (s % a < a - 1 → (s + 1) % a = s % a + 1 ∧ (s + 1) / a = s / a) := by
  have h1 := Int.emod_add_mul_ediv s a
  have h2 := Int.emod_nonneg s (show a ≠ 0 by omega)
  have h3 := Int.emod_lt_of_pos s (show 0 < a by omega)
  constructor
  · intro h
    have := (Int.ediv_emod_unique (a := s + 1) (b := a) (r := 0) (q := s / a + 1) (by omega)).2 ⟨by rw [Int.mul_add]; omega, by omega, by omega⟩
    exact ⟨this.2, this.1⟩
  · intro h
    have := (Int.ediv_emod_unique (a := s + 1) (b := a) (r := s % a + 1) (q := s / a) (by omega)).2 ⟨by omega, by omega, by omega⟩
    exact ⟨this.2, this.1⟩

theorem count_rng (r c j : Int) (hr : 0 ≤ r) (_hc : 0 ≤ c) (hc1 : c ≤ 127) (hr1 : r ≤ 127) (_hj : 0 ≤ j) : 0 ≤ vCount r c j ∧ vCount r c j ≤ 127 ∧ 0 ≤ vRound c r j ∧ vRound c r j ≤ j := by
  unfold vCount vRound
  split
  · omega
  · have h2 := Int.emod_nonneg (j - (c + 1)) (show r + 1 ≠ 0 by omega)
    have h3 := Int.emod_lt_of_pos (j - (c + 1)) (show 0 < r + 1 by omega)
    have h4 := Int.ediv_nonneg (show 0 ≤ j - (c + 1) by omega) (show 0 ≤ r + 1 by omega)
    have h5 := Int.ediv_le_self (r + 1) (show 0 ≤ j - (c + 1) by omega)
    omega

/-- One period more. -/
theorem one_more (r c j : Int) (hr : 0 ≤ r) (_hc : 0 ≤ c) (_hj : 0 ≤ j) :
    (vCount r c j = 0 → vCount r c (j + 1) = r ∧ vRound c r (j + 1) = vRound c r j + 1) ∧ (vCount r c j ≠ 0 → vCount r c (j + 1) = vCount r c j - 1 ∧ vRound c r (j + 1) = vRound c r j) := by
  unfold vCount vRound
  by_cases h : j ≤ c
  · rw [if_pos h, if_pos h]
    by_cases h2 : j + 1 ≤ c
    · rw [if_pos h2, if_pos h2]; omega
    · rw [if_neg h2, if_neg h2]
      have e : j + 1 - (c + 1) = 0 := by omega
      rw [e, Int.zero_emod, Int.zero_ediv]; omega
  · rw [if_neg h, if_neg h, if_neg (by omega), if_neg (by omega)]
    have hs := div_step (j - (c + 1)) (r + 1) (by omega) (by omega)
    have h2 := Int.emod_nonneg (j - (c + 1)) (show r + 1 ≠ 0 by omega)
    have h3 := Int.emod_lt_of_pos (j - (c + 1)) (show 0 < r + 1 by omega)
    have e : j + 1 - (c + 1) = j - (c + 1) + 1 := by omega
    rw [e]
    constructor
    · intro h0
      obtain ⟨a1, a2⟩ := hs.1 (by omega)
      rw [a1, a2]; omega
    · intro h0
      obtain ⟨a1, a2⟩ := hs.2 (by omega)
      rw [a1, a2]; omega

/-- So many periods, in two parts. -/
theorem two_parts (r c : Int) (hr : 0 ≤ r) (hc : 0 ≤ c) (hc1 : c ≤ 127) (hr1 : r ≤ 127) (i : Int) (hi : 0 ≤ i) : ∀ j : Nat,
    vCount r (vCount r c i) j = vCount r c (i + j) ∧ vRound c r i + vRound (vCount r c i) r j = vRound c r (i + j)
  | 0 => by
    have := count_rng r c i hr hc hc1 hr1 hi
    have e : vCount r (vCount r c i) ((0 : Nat) : Int) = vCount r c i := by
      show (if ((0 : Nat) : Int) ≤ vCount r c i then _ else _) = _
      rw [if_pos (by omega)]; omega
    have e2 : vRound (vCount r c i) r ((0 : Nat) : Int) = 0 := by
      show (if ((0 : Nat) : Int) ≤ vCount r c i then _ else _) = _
      rw [if_pos (by omega)]
    rw [e, e2, show i + ((0 : Nat) : Int) = i by omega]
    exact ⟨rfl, by omega⟩
  | j + 1 => by
    obtain ⟨h1, h2⟩ := two_parts r c hr hc hc1 hr1 i hi j
    have hb := count_rng r c i hr hc hc1 hr1 hi
    have s1 := one_more r (vCount r c i) j hr hb.1 (by omega)
    have s2 := one_more r c (i + j) hr hc (by omega)
    rw [show i + ((j + 1 : Nat) : Int) = i + (j : Int) + 1 by omega, show ((j + 1 : Nat) : Int) = (j : Int) + 1 by omega]
    rw [h1] at s1
    by_cases h0 : vCount r c (i + j) = 0
    · obtain ⟨a1, a2⟩ := s1.1 h0
      obtain ⟨b1, b2⟩ := s2.1 h0
      rw [a1, a2, b1, b2]
      exact ⟨rfl, by omega⟩
    · obtain ⟨a1, a2⟩ := s1.2 h0
      obtain ⟨b1, b2⟩ := s2.2 h0
      rw [a1, a2, b1, b2]
      exact ⟨rfl, by omega⟩
end Go.Proofs.Ytmgafhipaeicaaa
