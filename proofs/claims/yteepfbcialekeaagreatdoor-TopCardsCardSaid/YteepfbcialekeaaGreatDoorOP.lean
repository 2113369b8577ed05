/- Opening of arguments: what a value is made of that reads as data. -/
import Derived.ProofKit
import Derived.OpenShut
import Derived.ChangeOld
import Derived.Below
namespace Go.Proofs.YteepfbcialekeaaGreatDoor.OP
open Go.ChangeShapes Go.WideShapes Go.ChangeAt Go.RowKit

/-! Opening what is read: whole numbers, bools, and whatever is made of these by structs and arrays, cell by cell. -/

/-- The kind of a cell: an int ('true') or a bool ('false'). -/
def fits : Bool → Value → Prop
  | true, v => ∃ n : Int, v = .int .i64 n ∧ -9223372036854775808 ≤ n ∧ n ≤ 9223372036854775807
  | false, v => ∃ x : Bool, v = .bool x
def FitsAll : List Bool → List Value → Prop
  | [], [] => True
  | k :: ks, v :: vs => fits k v ∧ FitsAll ks vs
  | _, _ => False

theorem cons_int {ks : List Bool} {vs : List Value} (h : FitsAll (true :: ks) vs) : ∃ (n : Int) (r : List Value), vs = .int .i64 n :: r ∧ (-9223372036854775808 ≤ n ∧ n ≤ 9223372036854775807) ∧ FitsAll ks r := by
  cases vs with
  | nil => exact h.elim
  | cons v r =>
    obtain ⟨⟨n, rfl, hn⟩, h2⟩ := h
    exact ⟨n, r, rfl, hn, h2⟩
theorem cons_bool {ks : List Bool} {vs : List Value} (h : FitsAll (false :: ks) vs) : ∃ (b : Bool) (r : List Value), vs = .bool b :: r ∧ FitsAll ks r := by
  cases vs with
  | nil => exact h.elim
  | cons v r =>
    obtain ⟨⟨b, rfl⟩, h2⟩ := h
    exact ⟨b, r, rfl, h2⟩
theorem none_left {vs : List Value} (h : FitsAll [] vs) : vs = [] := by
  cases vs with
  | nil => rfl
  | cons v r => exact h.elim

/-- The kind of a type's i-th cell. -/
def kindAt (P : Program) : Nat → TypeId → Nat → Option Bool
  | 0, _, _ => none
  | n + 1, t, i =>
    match P.underlying t with
    | some .bool => if i = 0 then some false else none
    | some (.int .i64) => if i = 0 then some true else none
    | some (.struct fs) => fs.toList.findSome? fun f => if f.offset ≤ i ∧ i < f.offset + P.cellsOf f.type then kindAt P n f.type (i - f.offset) else none
    | some (.array m e) => if 0 < P.cellsOf e ∧ i < m * P.cellsOf e then kindAt P n e (i % P.cellsOf e) else none
    | _ => none

section
variable {H : Type} {enc : TypeId × Value → H} {P : Program} {w : World} {base : Nat} {spare : Nat → Bool} {held : Bool}

theorem get_part {cs : List Value} {o n i : Nat} {v : Value} (h1 : o ≤ i) (h2 : i < o + n) (h : ((cs.drop o).take n)[i - o]? = some v) : cs[i]? = some v := by
  rw [List.getElem?_take_of_lt (by omega), List.getElem?_drop] at h
  rwa [show o + (i - o) = i from by omega] at h

theorem trod_kind : ∀ (n fuel : Nat) (t : TypeId) (cs : List Value) (x : DataW H × List MemPlace) (i : Nat) (k : Bool),
    DataW.trod enc P w base spare held fuel t cs = some x → kindAt P n t i = some k → ∃ v, cs[i]? = some v ∧ fits k v
  | 0, _, _, _, _, _, _, _, hk => by simp [kindAt] at hk
  | n + 1, 0, _, _, _, _, _, h, _ => by simp [DataW.trod] at h
  | n + 1, fuel + 1, t, cs, x, i, k, h, hk => by
    unfold kindAt at hk
    cases hu : P.underlying t with
    | none => simp [hu] at hk
    | some d =>
      rw [hu] at hk
      cases d with
      | bool =>
        simp only at hk
        split at hk
        · rename_i hi
          subst hi
          simp only [Option.some.injEq] at hk
          subst hk
          unfold DataW.trod at h
          rw [hu] at h
          match cs, h with
          | [.bool b], _ => exact ⟨_, rfl, b, rfl⟩
        · simp at hk
      | int q =>
        cases q <;> simp only [reduceCtorEq] at hk
        split at hk
        · rename_i hi
          subst hi
          simp only [Option.some.injEq] at hk
          subst hk
          obtain ⟨a, rfl, _, wa⟩ := DataW.trod_int hu h

          exact ⟨_, rfl, a, rfl, bounds_i64 wa⟩
        · simp at hk
      | struct fs =>
        simp only at hk
        obtain ⟨f, hf, hfk⟩ := List.exists_of_findSome?_eq_some hk
        split at hfk
        · rename_i hi
          obtain ⟨j, hj, rfl⟩ := List.getElem_of_mem hf
          obtain ⟨xs, m, _, _, hl, hxl, hg⟩ := DataW.trod_struct hu h
          have hj' : j < fs.size := by simpa using hj
          have hgf := hg j fs[j] (by simp [hj'])
          have hx : xs[j]? = some (xs[j]'(by omega)) := List.getElem?_eq_getElem (by omega)
          rw [hx] at hgf
          simp only [Array.getElem_toList] at hi hfk
          obtain ⟨v, hv, hkv⟩ := trod_kind n _ _ _ _ _ _ hgf hfk
          exact ⟨v, get_part hi.1 hi.2 hv, hkv⟩
        · simp at hfk
      | array m e =>
        simp only at hk
        split at hk
        · rename_i hi
          obtain ⟨xs, q, _, _, hl, hxl, hg⟩ := DataW.trod_array hu h
          have hj : i / P.cellsOf e < m := by
            rw [Nat.div_lt_iff_lt_mul hi.1]; exact hi.2
          have hgf := hg (i / P.cellsOf e) hj
          have hx : xs[i / P.cellsOf e]? = some (xs[i / P.cellsOf e]'(by omega)) := List.getElem?_eq_getElem (by omega)
          rw [hx] at hgf
          obtain ⟨v, hv, hkv⟩ := trod_kind n _ _ _ _ _ _ hgf hk
          have hdm := Nat.div_add_mod i (P.cellsOf e)
          have hml := Nat.mod_lt i hi.1
          refine ⟨v, get_part (o := i / P.cellsOf e * P.cellsOf e) (n := P.cellsOf e) ?_ ?_ ?_, hkv⟩
          · rw [Nat.mul_comm]; omega
          · rw [Nat.mul_comm]; omega
          · rw [show i - i / P.cellsOf e * P.cellsOf e = i % P.cellsOf e from by rw [Nat.mul_comm]; omega]
            exact hv
        · simp at hk
      | _ => simp at hk

theorem fitsAll_of : ∀ (ks : List Bool) (vs : List Value), vs.length = ks.length → (∀ (i : Nat) (k : Bool), ks[i]? = some k → ∃ v, vs[i]? = some v ∧ fits k v) → FitsAll ks vs
  | [], [], _, _ => trivial
  | [], _ :: _, h, _ => by simp at h
  | _ :: _, [], h, _ => by simp at h
  | k :: ks, v :: vs, h, hf => by
    refine ⟨?_, fitsAll_of ks vs (by simpa using h) fun i q hq => ?_⟩
    · obtain ⟨x, hx, hk⟩ := hf 0 k rfl
      simp only [List.getElem?_cons_zero, Option.some.injEq] at hx
      subst hx
      exact hk
    · obtain ⟨x, hx, hk⟩ := hf (i + 1) q (by simpa using hq)
      exact ⟨x, by simpa using hx, hk⟩

/-- The kinds of all cells. -/
def kinds (P : Program) (t : TypeId) : List (Option Bool) := (List.range (P.cellsOf t)).map (kindAt P 8 t)

/-- A struct or an array of ints and bools, by value: its cells. -/
theorem open_flat {t : TypeId} {v : Value} {d : DataW H} {ps : List MemPlace} (ks : List Bool) (hn : (ks.length == 1) = false) (hc : P.cellsOf t = ks.length) (hl : kinds P t = ks.map some)
    (hle : ∀ fuel cs x, DataW.trod enc P w base spare held fuel t cs = some x → cs.length = P.cellsOf t)
    (h : DataW.Trod enc P w base spare held t v d ps) : ∃ vs : List Value, v = .agg ⟨vs⟩ ∧ FitsAll ks vs := by
  obtain ⟨fuel, hf⟩ := h
  have hlen := hle _ _ _ hf
  have hn' : ks.length ≠ 1 := by simpa using hn
  have hagg : ∃ cs, v = .agg cs := by
    cases v with
    | agg cs => exact ⟨cs, rfl⟩
    | _ => simp [Value.cells] at hlen; omega
  obtain ⟨⟨vs⟩, rfl⟩ := hagg
  refine ⟨vs, rfl, fitsAll_of ks vs ?_ fun i k hi => ?_⟩
  · simpa [Value.cells, hc] using hlen
  · have hk : kindAt P 8 t i = some k := by
      have h1 : (kinds P t)[i]? = some (some k) := by rw [hl]; simp [hi]
      have h2 : i < ks.length := (List.getElem?_eq_some_iff.1 hi).1
      simp only [kinds, List.getElem?_map, List.getElem?_range (show i < P.cellsOf t by omega), Option.map_some, Option.some.injEq] at h1
      exact h1
    obtain ⟨x, hx, hkx⟩ := trod_kind 8 _ _ _ _ _ _ hf hk
    exact ⟨x, by simpa [Value.cells] using hx, hkx⟩

theorem len_struct {t : TypeId} {fs : Array Field} (hu : P.underlying t = some (.struct fs)) : ∀ fuel cs (x : DataW H × List MemPlace), DataW.trod enc P w base spare held fuel t cs = some x → cs.length = P.cellsOf t := by
  intro fuel cs x h
  obtain ⟨_, _, _, _, hl, _, _⟩ := DataW.trod_struct hu h
  exact hl
theorem len_array {t e : TypeId} {n : Nat} (hu : P.underlying t = some (.array n e)) : ∀ fuel cs (x : DataW H × List MemPlace), DataW.trod enc P w base spare held fuel t cs = some x → cs.length = P.cellsOf t := by
  intro fuel cs x h
  obtain ⟨_, _, _, _, hl, _, _⟩ := DataW.trod_array hu h
  exact hl

/-- So many ints in a row. -/
theorem ints_of : ∀ (n : Nat) (vs : List Value), FitsAll (List.replicate n true) vs → ∃ zs : List Int, vs = zs.map (Value.int .i64) ∧ zs.length = n ∧ ∀ z ∈ zs, -9223372036854775808 ≤ z ∧ z ≤ 9223372036854775807
  | 0, [], _ => ⟨[], rfl, rfl, by simp⟩
  | 0, _ :: _, h => h.elim
  | n + 1, [], h => h.elim
  | n + 1, v :: vs, h => by
    obtain ⟨⟨a, rfl, ha⟩, h2⟩ := h
    obtain ⟨zs, rfl, hl, hz⟩ := ints_of n vs h2
    exact ⟨a :: zs, rfl, by simp [hl], by simpa using ⟨ha, hz⟩⟩
end
end Go.Proofs.YteepfbcialekeaaGreatDoor.OP
