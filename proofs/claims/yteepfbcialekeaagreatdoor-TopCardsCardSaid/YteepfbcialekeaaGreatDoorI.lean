/- Contract of card.Load. -/
import Derived.Test.YteepfbcialekeaaGreatDoorH
import Derived.Laws.AppendOwn
import Derived.BigQuiet
namespace Go.Proofs.YteepfbcialekeaaGreatDoor
set_option linter.unusedSimpArgs false
set_option linter.unusedVariables false
open Go.RowKit
theorem u8_facts : (Tryz.prog.info? 5).map (fun i => (i.zero, i.size, i.bytes)) = some (some (.int .u8 0), 1, 1) := by kernel_rfl
theorem u8_info : ∃ i0, Tryz.prog.info? 5 = some i0 ∧ i0.zero = some (.int .u8 0) ∧ i0.size = 1 ∧ i0.bytes = 1 := by
  obtain ⟨i0, h, he⟩ := Option.map_eq_some_iff.1 u8_facts
  simp only [Prod.mk.injEq] at he
  exact ⟨i0, h, he.1, he.2.1, he.2.2⟩
theorem Up.grown {a w w' : World} {v : Value} (h : Up a w) (hg : w.grownBy w' v.ownBlock) (hb : ∀ k, v.ownBlock = some k → a.heap.size ≤ k) : Up a w' :=
  Below.grown h hg h.size (fun k hk => hb k hk)
/-- What Load hands back of a picture of n bytes. -/
def Loaded (w : World) (n : Nat) (F : Nat → Int) (e : Ending) (w' : World) : Prop :=
  (∃ why : Int, (why = 10 ∨ why = 11 ∨ why = 12 ∨ why = 13) ∧ e = .returned (.tuple #[.pointer none, .int .i64 why])) ∨
  (∃ c r cap m : Nat, m = n - vHead n ∧ e = .returned (.tuple #[.pointer (some ⟨c, 0, none⟩), .int .i64 0]) ∧ w.heap.size ≤ c ∧ c < w'.heap.size ∧ w.heap.size ≤ r ∧ r < w'.heap.size ∧
    w'.cell? ⟨c, 0, none⟩ = some (.slice (some ⟨r, 0, none⟩) m cap) ∧ (∀ i, i < m → w'.cell? ⟨r, i, none⟩ = some (.int .u8 (F (vHead n + i)))) ∧ (m : Int) % 8192 = 0 ∧ vClass ((m : Int) / 8192) = some 0)
set_option maxRecDepth 100000 in
set_option maxHeartbeats 4000000 in
theorem load_any (g n : Nat) (hn : n ≤ 131071) (F : Nat → Int) (w : World) (hg : w.cell? ⟨0, 0, none⟩ = some (.iface 140 (.agg #[.pointer (some ⟨1, 77, none⟩)]))) (hgs : g < w.heap.size)
    (hF : ∀ i, i < n → w.cell? ⟨g, i, none⟩ = some (.int .u8 (F i))) :
    Calls Tryz.prog 4 #[.slice (some ⟨g, 0, none⟩) n n] w fun e w' => Loaded w n F e w' ∧ Up w w' := by
  obtain ⟨i0, hi, hz0, hz1, hz2⟩ := u8_info
  have HF := Lib.hid hF
  have HL := vHead_le n
  have hlt : 0 < w.heap.size := by
    rcases Nat.eq_zero_or_pos w.heap.size with h0 | h
    · simp [World.cell?, h0] at hg
    · exact h
  obtain ⟨m, hm⟩ : ∃ m, n - vHead n = m := ⟨_, rfl⟩
  have HM := Lib.hid hm
  have hst := Lib.hid (stripped_any g n w)
  rw [hm] at hst
  have hm2 : m ≤ 131071 := by omega
  have HCH := Lib.hid (fun p w => check_any p m m (show m ≤ 131072 by omega) w)
  clear hF hm
  go_enter Tryz.func4, Tryz.ntmps4
  go_wp2_with fail
  refine hst.out.mono ?_; rintro e w1 ⟨⟨p, hp, rfl⟩, rfl⟩
  have HP := Lib.hid hp
  clear hp
  go_wp2_with fail
  refine (HCH.out _ _).mono ?_; rintro e w1 ⟨hch, hU1⟩
  obtain ⟨hc1, hf1, hs1⟩ := hU1.facts
  have hgA : w1.cell? ⟨0, 0, none⟩ = some (.iface 140 (.agg #[.pointer (some ⟨1, 77, none⟩)])) := by
    rw [hc1 0 0 (by simp), World.cell?_alloc_lt _ _ ⟨0, 0, none⟩ hlt]; exact hg
  have htA : w1.cell? ⟨w.heap.size, 0, none⟩ = some (.int .i64 0) := by
    rw [hc1 _ 0 (by simp)]; simp
  have hfA : w1.frozen? ⟨w.heap.size, 0, none⟩ = false := by
    rw [hf1 _ 0 (by simp)]; simp
  have hs1' : w.heap.size + 1 ≤ w1.heap.size := by simpa using hs1
  rcases hch with ⟨why, hwhy, rfl⟩ | ⟨rfl, hm8, hcl⟩
  · have HA := Lib.hid (as_hit why w.heap.size _ w1 hgA htA hfA)
    have HTA := Lib.hid htA
    clear hc1 hf1 hgA htA hfA
    go_wp2_with fail
    refine HA.out.mono ?_; rintro e w2 ⟨rfl, hw2⟩
    have hU2 : Up w w2 := by
      rw [hw2]
      exact Up.setCell ((((((Up.refl w).alloc _).trans hU1).alloc _).alloc _).alloc _ |>.alloc _) (by simp) _
    have hc2 : w2.cell? ⟨w.heap.size, 0, none⟩ = some (.int .i64 why) := by
      rw [hw2]
      have : ((((w1.alloc (.cells #[.pointer (some ⟨w.heap.size, 0, none⟩)] 80)).alloc (.cells #[.pointer (some ⟨1, 80, none⟩), .pointer (some ⟨w1.heap.size, 0, none⟩), .int .u64 150] 105)).alloc (.cells #[.pointer (some ⟨1, 80, none⟩), .pointer (some ⟨w1.heap.size, 0, none⟩), .int .u64 150] 105)).alloc (.cells #[.int .i64 why] 75)).cell? ⟨w.heap.size, 0, none⟩ = some (.int .i64 0) := by
        rw [World.cell?_alloc_lt _ _ ⟨w.heap.size, 0, none⟩ (by simp; omega), World.cell?_alloc_lt _ _ ⟨w.heap.size, 0, none⟩ (by simp; omega), World.cell?_alloc_lt _ _ ⟨w.heap.size, 0, none⟩ (by simp; omega), World.cell?_alloc_lt _ _ ⟨w.heap.size, 0, none⟩ (by show w.heap.size < w1.heap.size; omega)]
        exact HTA.out
      exact World.cell?_setCell_same _ _ _ this
    clear hw2 HA hU1 hs1 hs1'
    go_wp2_with fail
    go_quiet (fail)
    go_wp2_with fail
    go_ret2
    exact ⟨.inl ⟨why, hwhy, rfl⟩, by repeat (first | assumption | refine Up.drew ?_ | refine Up.drewN ?_ _)⟩
  · obtain rfl | hp := HP.out
    · have := class_cases _ _ hcl
      omega
    subst hp
    have HU2 := Lib.hid ((Up.refl w).alloc _ |>.trans hU1)
    have hcells : ∀ i, i < m → w1.cell? ⟨g, vHead n + i, none⟩ = some (.int .u8 (F (vHead n + i))) := by
      intro i hi'
      have h1 := HF.out (vHead n + i) (by have := HM.out; omega)
      rw [hc1 g _ (by simp; omega), World.cell?_alloc_lt _ _ ⟨g, _, none⟩ hgs]; exact h1
    have HCELLS := Lib.hid hcells
    have HCC := Lib.hid (fun w => class_any ((m : Int) / 8192) w)
    rw [hcl] at HCC
    have HKL := Lib.hid hcl
    have hd := tdiv_nat m
    have HX := Lib.hid hm8
    clear hc1 hf1 hgA htA hfA hg hU1 hcells hs1 hs1' hst hlt hm8 hn HF
    go_wp2_with (go_at_call 15; refine (as_nil _ _).mono ?_; rintro e w2 ⟨rfl, rfl⟩)
    refine (HCC.out _).mono ?_; rintro e w3 ⟨rfl, hU3⟩
    obtain ⟨hc3, -, hs3⟩ := hU3.facts
    have hb3 : w.heap.size ≤ w3.heap.size := (HU2.out.trans hU3).size
    have hgw1 : g < w2.heap.size := Nat.lt_of_lt_of_le hgs HU2.out.size
    have hnews : ∀ j u, ((List.range m).map fun i => Value.int .u8 (F (vHead n + i)))[j]? = some u → (w3.alloc (.cells #[] 5)).cell? ((⟨g, vHead n, none⟩ : Addr).add j) = some u := by
      intro j u hj
      rw [List.getElem?_map, Option.map_eq_some_iff] at hj
      obtain ⟨j', hj', rfl⟩ := hj
      by_cases hjm : j < m
      case neg => rw [List.getElem?_eq_none (by simpa using hjm)] at hj'; cases hj'
      rw [List.getElem?_range hjm] at hj'
      obtain rfl := Option.some.inj hj'
      have e : ((⟨g, vHead n, none⟩ : Addr).add j) = ⟨g, vHead n + j, none⟩ := by simp [Addr.add]
      rw [e, World.cell?_alloc_lt _ _ ⟨g, _, none⟩ (Nat.lt_of_lt_of_le hgw1 hs3), hc3 g _ hgw1]
      exact HCELLS.out j hjm
    have HNEWS := Lib.hid hnews
    have HU3 := Lib.hid (HU2.out.trans hU3)
    have HB3 := Lib.hid hb3
    clear hU3 hc3 hs3 hnews hgw1 hgs hcl
    go_wp2_with (at_builtin; refine wpList_append_own _ rfl (.tmp 25) (.tmp 26) 22 rfl w.heap.size 5 i0 (.int .u8 0) 1 1 Tryz.underlying22 hi hz0 hz1 hz2 rfl (by decide) (.slice (some ⟨w3.heap.size, 0, none⟩) 0 0) 0 [] rfl (World.ownsRow_made w3 #[] 0 HB3.out (by simp [maxLen]) rfl) ⟨g, vHead n, none⟩ m m ((List.range m).map fun i => Value.int .u8 (F (vHead n + i))) rfl (by simp) HNEWS.out (by intro u hu; simp at hu; obtain ⟨k, _, rfl⟩ := hu; rfl) (by unfold maxLen; omega) (by omega) (by simp; have := HB3.out; omega) ?_; intro v' w4 hown' hgrow4 hnil4
                 obtain ⟨r, cap, rfl⟩ : ∃ r cap, v' = .slice (some ⟨r, 0, none⟩) m cap := by
                   rcases hown'.2 with ⟨h, _⟩ | ⟨r, cap, _, h, _⟩
                   · exact absurd (hnil4.1 h).1 (by simp)
                   · exact ⟨r, cap, by rw [h]; simp⟩
                 have HOWN := Lib.hid hown'
                 have HGROW := Lib.hid hgrow4
                 clear hown' hgrow4 hnil4)
    have hU4 : Up w w4 := Up.grown (HU3.out.alloc _) HGROW.out (by intro k hk; cases hk; exact HB3.out)
    have hr := HOWN.out.lt r rfl
    have hcs : ∀ i, i < m → w4.cell? ⟨r, i, none⟩ = some (.int .u8 (F (vHead n + i))) := by
      intro i hi'
      have e : ((⟨r, 0, none⟩ : Addr).add i) = ⟨r, i, none⟩ := by unfold Addr.add; split <;> simp_all
      rw [← e]
      refine HOWN.out.cells rfl i _ ?_
      rw [List.nil_append, List.getElem?_map, List.getElem?_range hi']
      rfl
    go_ret2
    refine ⟨.inr ⟨w4.heap.size, r, cap, m, HM.out.symm, rfl, hU4.size, by simp, hr.1, by simp; omega, by simp, ?_, HX.out, HKL.out⟩, hU4.alloc _⟩
    intro i hi'
    rw [World.cell?_alloc_lt _ _ ⟨r, i, none⟩ hr.2]
    exact hcs i hi'
end Go.Proofs.YteepfbcialekeaaGreatDoor
