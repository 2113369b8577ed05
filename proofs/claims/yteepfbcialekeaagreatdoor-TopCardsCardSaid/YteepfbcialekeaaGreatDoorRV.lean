/- Values that are some whole numbers and then a row of n whole numbers, the row as a function of the place: their cells, read, written, taken apart, made and compared, without unrolling. -/
import Derived.Laws.Rows
import Derived.Laws.Tables
import Derived.Laws.World
import Derived.Deep.WholeRow
import Derived.ChangeKeysEq
import Derived.StillTailTactics
import Derived.Deep.MidRow
namespace Go.Proofs.YteepfbcialekeaaGreatDoor.RV
variable {P : Program}

/-- The cells: the numbers of 'hs', then F 0 .. F (n - 1). -/
def rv (hs : List Int) (n : Nat) (F : Nat → Int) : Array Value := ((hs ++ (List.range n).map F).map (Value.int .i64)).toArray
def upd (F : Nat → Int) (i : Nat) (v : Int) : Nat → Int := fun j => if j = i then v else F j
theorem upd_same (F : Nat → Int) (i : Nat) (v : Int) : upd F i v i = v := by simp [upd]
theorem upd_other (F : Nat → Int) (i j : Nat) (v : Int) (h : j ≠ i) : upd F i v j = F j := by simp [upd, h]
theorem rv_size (hs : List Int) (n : Nat) (F : Nat → Int) : (rv hs n F).size = hs.length + n := by simp [rv]
theorem rv_row (hs : List Int) (n : Nat) (F : Nat → Int) (o j : Nat) (ho : o = hs.length) (hj : j < n) : (rv hs n F)[o + j]? = some (.int .i64 (F j)) := by
  subst ho
  simp [rv, hj]
theorem rv_head (hs : List Int) (n : Nat) (F : Nat → Int) (j : Nat) (v : Int) (h : hs[j]? = some v) : (rv hs n F)[j]? = some (.int .i64 v) := by
  have hj : j < hs.length := by
    rw [List.getElem?_eq_some_iff] at h; exact h.1
  simp only [rv, List.getElem?_toArray, List.getElem?_map, List.getElem?_append_left hj, h, Option.map_some]
theorem rv_set (hs : List Int) (n : Nat) (F : Nat → Int) (o j : Nat) (v : Int) (ho : o = hs.length) : (rv hs n F).setIfInBounds (o + j) (.int .i64 v) = rv hs n (upd F j v) := by
  subst ho
  apply Array.ext_getElem?
  intro k
  simp only [rv, Array.getElem?_setIfInBounds, List.size_toArray, List.length_map, List.length_append, List.length_range, List.getElem?_toArray, List.getElem?_map]
  by_cases hk : k < hs.length
  · rw [if_neg (by omega), List.getElem?_append_left hk, List.getElem?_append_left hk]
  · obtain ⟨q, rfl⟩ : ∃ q, k = hs.length + q := ⟨k - hs.length, by omega⟩
    rw [List.getElem?_append_right (by omega), List.getElem?_append_right (by omega)]
    simp only [Nat.add_sub_cancel_left, Nat.add_left_cancel_iff, List.getElem?_map]
    by_cases hq : j = q
    · subst hq
      by_cases hn : j < n
      · simp [hn, upd]
      · simp [hn]
    · rw [if_neg hq]
      by_cases hn : q < n
      · have hq2 : ¬ q = j := fun e => hq e.symm
        simp [hn, upd, hq2]
      · simp [hn]
theorem rv_set_head (hs : List Int) (n : Nat) (F : Nat → Int) (j : Nat) (v : Int) (h : j < hs.length) : (rv hs n F).setIfInBounds j (.int .i64 v) = rv (hs.set j v) n F := by
  apply Array.ext_getElem?
  intro k
  simp only [rv, Array.getElem?_setIfInBounds, List.size_toArray, List.length_map, List.length_append, List.length_range, List.getElem?_toArray, List.getElem?_map]
  by_cases hk : k < hs.length
  · rw [List.getElem?_append_left hk, List.getElem?_append_left (by simpa using hk), List.getElem?_set]
    by_cases hj : j = k
    · subst hj; simp [hk]; omega
    · simp [hj]
  · rw [if_neg (by omega), List.getElem?_append_right (by omega), List.getElem?_append_right (by simp; omega)]
    simp
theorem rv_one (hs : List Int) (n : Nat) (F : Nat → Int) : (rv hs n F).all (·.oneCell') = true := by
  simp [rv, Value.oneCell']
theorem rv_extract (hs : List Int) (n : Nat) (F : Nat → Int) (o : Nat) (ho : o = hs.length) : (rv hs n F).extract o (o + n) = rv [] n F := by
  subst ho
  simp [rv]
  rw [List.take_of_length_le (by simp)]
theorem rv_congr (hs : List Int) (n : Nat) (F G : Nat → Int) (h : ∀ j, j < n → F j = G j) : rv hs n F = rv hs n G := by
  have : (List.range n).map F = (List.range n).map G := List.map_congr_left fun j hj => h j (List.mem_range.1 hj)
  simp only [rv, this]
theorem replicate_rv (n : Nat) : Array.replicate n (Value.int .i64 0) = rv [] n (fun _ => 0) := by
  apply Array.ext_getElem?
  intro k
  by_cases hk : k < n
  · simp [rv, hk]
  · simp [rv, hk]

/-- Are two rows alike? -/
def same (n : Nat) (F G : Nat → Int) : Bool := (List.range n).all fun j => F j == G j
theorem same_iff (n : Nat) (F G : Nat → Int) : same n F G = true ↔ ∀ j, j < n → F j = G j := by simp [same]
theorem same_refl (n : Nat) (F : Nat → Int) : same n F F = true := by simp [same]

theorem items_all (w : World) (d e : Nat) (xs ys : Array Value) (F G : Nat → Int) (he : P.underlying e = some (.int .i64)) (h1 : P.cellsOf e = 1) :
    ∀ is : List Nat, (∀ i ∈ is, xs[i]? = some (.int .i64 (F i)) ∧ ys[i]? = some (.int .i64 (G i))) → (Op.eqItems (d + 1) e 1 xs ys is).run P w = .ok (is.all fun j => F j == G j) w
  | [], _ => by simp [Op.eqItems]
  | i :: is, h => by
    obtain ⟨hx, hy⟩ := h i (by simp)
    have ih := items_all w d e xs ys F G he h1 is fun j hj => h j (by simp [hj])
    have hp : ∀ (zs : Array Value) v, zs[i]? = some v → (part e zs (i * 1)).run P w = .ok v w := by
      intro zs v hz
      simp [part, isAgg, run_underlying he, hz]
    simp only [Op.eqItems, Sem.run_bind, hp _ _ hx, hp _ _ hy, run_equalIn_int w d e .i64 .i64 _ _ he, Result.andThen_ok, List.all_cons]
    cases F i == G i <;> simp [ih]
/-- '==' on arrays of whole numbers. -/
theorem equal_row (w : World) (d : Nat) (t e n : Nat) (F G : Nat → Int) (ht : P.underlying t = some (.array n e)) (he : P.underlying e = some (.int .i64)) (h1 : P.cellsOf e = 1) (hi : (P.info? e).isSome = true) :
    (Op.equalIn (d + 2) t (.agg (rv [] n F)) (.agg (rv [] n G))).run P w = .ok (same n F G) w := by
  obtain ⟨ti, hti⟩ := Option.isSome_iff_exists.1 hi
  rw [run_equalIn_array (P := P) w (d + 1) (n := n) (e := e) _ _ ht hti, h1]
  refine items_all w d e _ _ F G he h1 _ fun i hi => ?_
  have hj := List.mem_range.1 hi
  constructor
  · have := rv_row [] n F 0 i rfl hj; simpa using this
  · have := rv_row [] n G 0 i rfl hj; simpa using this

theorem fold_get (o : Nat) : ∀ (l : List Value) (k : Nat) (cs : Array Value) (i : Nat), ((l.zipIdx k).foldl (fun cs (x : Value × Nat) => cs.setIfInBounds (o + x.2) x.1) cs)[i]? = if o + k ≤ i ∧ i < o + k + l.length ∧ i < cs.size then l[i - (o + k)]? else cs[i]?
  | [], k, cs, i => by simp; intro h1 h2; omega
  | v :: l, k, cs, i => by
    rw [List.zipIdx_cons, List.foldl_cons, fold_get o l (k + 1)]
    simp only [Array.size_setIfInBounds, Array.getElem?_setIfInBounds, List.length_cons]
    by_cases h1 : i = o + k
    · subst h1
      rw [if_neg (by omega), if_pos rfl]
      by_cases h2 : o + k < cs.size
      · rw [if_pos h2, if_pos (by omega)]; simp
      · rw [if_neg h2, if_neg (by omega)]; simp; omega
    · by_cases h2 : o + (k + 1) ≤ i ∧ i < o + (k + 1) + l.length ∧ i < cs.size
      · rw [if_pos h2, if_pos (by omega)]
        rw [show i - (o + k) = (i - (o + (k + 1))) + 1 by omega, List.getElem?_cons_succ]
      · rw [if_neg h2, if_neg (by omega), if_neg (by omega)]
theorem fold_row (hs : List Int) (n : Nat) (F G : Nat → Int) (o : Nat) (ho : o = hs.length) :
    (rv [] n F).zipIdx.foldl (fun cs (x : Value × Nat) => cs.setIfInBounds (o + x.2) x.1) (rv hs n G) = rv hs n F := by
  subst ho
  rw [← Array.foldl_toList, Array.toList_zipIdx]
  apply Array.ext_getElem?
  intro i
  rw [fold_get]
  by_cases hi : i < hs.length
  · rw [if_neg (by omega)]
    have h := rv_head hs n G i (hs[i]) (by simp [hi])
    have h' := rv_head hs n F i (hs[i]) (by simp [hi])
    rw [h, h']
  · obtain ⟨q, rfl⟩ : ∃ q, i = hs.length + q := ⟨i - hs.length, by omega⟩
    have hz : (rv [] n F).toList.length = n := by simp [rv]
    by_cases hq : q < n
    · rw [if_pos (by rw [rv_size, hz]; omega), rv_row hs n F _ q rfl hq]
      have := rv_row [] n F 0 q rfl hq
      simpa using this
    · rw [if_neg (by rw [hz]; omega)]
      rw [Array.getElem?_eq_none (by rw [rv_size]; omega), Array.getElem?_eq_none (by rw [rv_size]; omega)]
theorem cells_agg (c : Array Value) : (Value.agg c).cells = c := rfl
theorem fill_int (n : Nat) (F : Nat → Int) (i : Nat) (v : Int) (rest : List (Nat × Value)) (hi : i < n) :
    Instr.fill (fun i => some (i * 1, 1)) (rv [] n F) ((i, .int .i64 v) :: rest) = Instr.fill (fun i => some (i * 1, 1)) (rv [] n (upd F i v)) rest := by
  have h1 : (Value.int IntKind.i64 v).cells = #[.int .i64 v] := rfl
  simp only [Instr.fill, h1]
  rw [if_neg (by rw [rv_size]; simp; omega)]
  have e := rv_set [] n F 0 i v rfl
  rw [Nat.zero_add] at e
  have e2 : (#[Value.int .i64 v] : Array Value).zipIdx.foldl (fun cs (x : Value × Nat) => cs.setIfInBounds (i * 1 + x.2) x.1) (rv [] n F) = rv [] n (upd F i v) := by
    simpa [Array.zipIdx] using e
  rw [e2]
theorem fill_done (n : Nat) (F : Nat → Int) : Instr.fill (fun i => some (i * 1, 1)) (rv [] n F) [] = some (rv [] n F) := rfl
theorem built_array (t e : TypeId) (it ie : TypeInfo) (n : Nat) (parts : List (Nat × Value)) (hi : P.info? t = some it) (hu : P.underlying t = some (.array n e)) (hz : it.zero = some (.agg (rv [] n fun _ => 0)))
    (he : P.info? e = some ie) (h1 : ie.size = 1) : P.built t parts = Instr.fill (fun i => some (i * 1, 1)) (rv [] n fun _ => 0) parts := by
  unfold Program.built
  simp only [hi, hu, hz, he, h1, cells_agg]
/-- A struct of one number and a row, made of both. -/
theorem built_one (t : TypeId) (it : TypeInfo) (fs : Array Field) (n : Nat) (s : Int) (F : Nat → Int) (hi : P.info? t = some it) (hu : P.underlying t = some (.struct fs)) (hz : it.zero = some (.agg (rv [0] n fun _ => 0)))
    (hp : fs.toList.mapM (fun f => (P.info? f.type).map fun i => (f.offset, i.size)) = some [(0, 1), (1, n)]) : P.built t [(0, .int .i64 s), (1, .agg (rv [] n F))] = some (rv [s] n F) := by
  unfold Program.built
  simp only [hi, hu, hz, hp, cells_agg]
  have h1 : (Value.int IntKind.i64 s).cells = #[.int .i64 s] := rfl
  simp only [Instr.fill, h1, cells_agg, List.getElem?_toArray, List.getElem?_cons_zero, List.getElem?_cons_succ]
  rw [if_neg (by rw [rv_size]; simp)]
  have e : (#[Value.int .i64 s] : Array Value).zipIdx.foldl (fun cs (x : Value × Nat) => cs.setIfInBounds (0 + x.2) x.1) (rv [0] n fun _ => 0) = rv [s] n fun _ => 0 := by
    have := rv_set_head [0] n (fun _ => 0) 0 s (by simp)
    simpa [Array.zipIdx] using this
  have e' := fold_row [s] n F (fun _ => 0) 1 rfl
  simp only [] at e e'
  rw [e, if_neg (by simp only [rv_size]; simp)]
  rw [e']

/-! Whole rows into blocks of the call's own, whatever was made after them. -/
theorem setRow_at (w : World) (c c' : Array Value) (t : TypeId) (n : Nat) (hn : n = w.heap.size) : (w.alloc (.cells c t)).setRow n c' = w.alloc (.cells c' t) := by
  subst hn; exact World.setRow_alloc_new w c c' t
theorem setRow_past (w : World) (o : Obj) (c' : Array Value) (n : Nat) (hn : n < w.heap.size) : (w.alloc o).setRow n c' = (w.setRow n c').alloc o := by
  simp only [World.setRow, World.alloc]
  congr 1
  apply Array.ext_getElem?
  intro i
  simp only [Array.getElem?_modify, Array.getElem?_push, Array.size_modify]
  by_cases h : n = i
  · subst h
    have : ¬ n = w.heap.size := by omega
    simp [this]
  · simp [h]
theorem setRow_drew (w : World) (c' : Array Value) (n : Nat) : w.drew.setRow n c' = (w.setRow n c').drew := rfl
theorem heap_at (w : World) (o : Obj) (n : Nat) (hn : n = w.heap.size) : (w.alloc o).heap[n]? = some o := by subst hn; exact heap_alloc_new w o
theorem heap_past (w : World) (o x : Obj) (n : Nat) (hn : n < w.heap.size) (h : w.heap[n]? = some x) : (w.alloc o).heap[n]? = some x := (heap_alloc_old w o n hn).trans h
theorem wpList_wanted {ops : Array Oper} {rest : List Oper} {o : Oper} {a : Act} {w : World} {Q : Exit → Act → World → Prop} (hw : Region.wanted o (yielded ops a.tmps) = true)
    (h : ∀ K : Act → World → Prop, (∀ a w, wpList P ops Q rest a w → K a w) → o.wp P a w K Q) : wpList P ops Q (o :: rest) a w :=
  wpList_step fun K hK => by rw [if_pos hw]; exact h K hK
theorem load_is {ops : Array Oper} {rest : List Oper} {o : Oper} {a : Act} {w : World} {Q : Exit → Act → World → Prop} (hgd : Region.wanted o (yielded ops a.tmps) = true) (ty : TypeId) (x : Operand) (ho : o.op = .load ty x)
    (g : Nat) (hx : a.eval x = .pointer (some ⟨g, 0, none⟩)) (t : TypeId) (cs : Array Value) (fr : Nat × Nat) (d : TypeDesc) (hg : w.heap[g]? = some (.cells cs t fr))
    (hu : P.underlying ty = some d) (hd : (match d with | .struct _ | .array _ _ => true | _ => false) = true) (hi : (P.info? ty).map (·.size) = some cs.size)
    (h : wpList P ops Q rest (a.put o.dst (.agg cs)) w) : wpList P ops Q (o :: rest) a w :=
  wpList_wanted hgd fun _ hK => wp_load_row ty x ho g hx t cs fr d hg hu hd hi (hK _ _ h)
theorem build_is {ops : Array Oper} {rest : List Oper} {o : Oper} {a : Act} {w : World} {Q : Exit → Act → World → Prop} (hg : Region.wanted o (yielded ops a.tmps) = true) (t : TypeId) (parts : Array (Nat × Operand)) (ho : o.op = .build t parts) (cells : Array Value)
    (hf : P.built t (parts.map fun (i, x) => (i, a.eval x)).toList = some cells) (h : wpList P ops Q rest (a.put o.dst (.agg cells)) w) : wpList P ops Q (o :: rest) a w :=
  wpList_wanted hg fun _ hK => wp_build t parts ho (by rw [hf]; rfl) (hK _ _ (by rw [hf]; exact h))
theorem heap_drew' (w : World) (x : Obj) (n : Nat) (h : w.heap[n]? = some x) : w.drew.heap[n]? = some x := h
theorem setRow_past_is (w w2 : World) (o : Obj) (c' : Array Value) (n : Nat) (hn : n < w.heap.size) (h : w.setRow n c' = w2) : (w.alloc o).setRow n c' = w2.alloc o := by
  rw [setRow_past w o c' n hn, h]
theorem setRow_drew_is (w w2 : World) (c' : Array Value) (n : Nat) (h : w.setRow n c' = w2) : w.drew.setRow n c' = w2.drew := by
  rw [setRow_drew, h]
/-- 'wpList_store_row', the world behind it as the prover says. -/
theorem store_is {ops : Array Oper} {rest : List Oper} {o : Oper} {a : Act} {w : World} {Q : Exit → Act → World → Prop} (hgd : Region.wanted o (yielded ops a.tmps) = true) (ty : TypeId) (x y : Operand) (ho : o.op = .store ty x y)
    (g : Nat) (cells : Array Value) (hx : a.eval x = .pointer (some ⟨g, 0, none⟩)) (hy : a.eval y = .agg cells)
    (t : TypeId) (old : Array Value) (hg : w.heap[g]? = some (.cells old t (0, 0))) (hi : (P.info? ty).map (·.size) = some cells.size)
    (hold : old.size = cells.size) (h1 : cells.all (·.oneCell') = true) (w2 : World) (hw : w.setRow g cells = w2)
    (h : wpList P ops Q rest (a.put o.dst undef) w2) : wpList P ops Q (o :: rest) a w :=
  wpList_wanted hgd fun _ hK => wp_store_row ty x y ho g cells hx hy t old hg hi hold h1 (hK _ _ (by rw [hw]; exact h))
/-- A whole row read in a still region. -/
theorem still_load_row {ops : Array Oper} {w : World} {Q : Act → Prop} {a : Act} {o : Oper} {rest : List Oper} (hgd : o.guard = none) (ty : TypeId) (x : Operand) (ho : o.op = .load ty x)
    (g : Nat) (hx : a.eval x = .pointer (some ⟨g, 0, none⟩)) (t : TypeId) (cs : Array Value) (fr : Nat × Nat) (d : TypeDesc) (hg : w.heap[g]? = some (.cells cs t fr))
    (hu : P.underlying ty = some d) (hd : (match d with | .struct _ | .array _ _ => true | _ => false) = true) (hi : (P.info? ty).map (·.size) = some cs.size)
    (h : wpStill P ops w Q rest (a.put o.dst (.agg cs))) : wpStill P ops w Q (o :: rest) a := by
  refine wpStill_step fun K hK => ?_
  have hw : Region.wanted o (yielded ops a.tmps) = true := by simp [Region.wanted, hgd]
  rw [if_pos hw]
  unfold Oper.still execOp
  simp only [ho, hx, Instr.loadAt, Instr.sureAddr, Sem.run_bind, Sem.run_pure, Result.andThen_ok, run_loadVar_row w g t ty cs fr d hg hu hd hi]
  exact ⟨rfl, hK _ h⟩
theorem rv_mid {w : World} {g : Nat} {hs : List Int} {n : Nat} {F : Nat → Int} {t : TypeId} {fr : Nat × Nat} (o : Nat) (hg : w.heap[g]? = some (.cells (rv hs n F) t fr)) (ho : o = hs.length) : w.rangeAt g o (rv [] n F).toList := by
  intro j v hv
  have hj : j < n := by
    have := (List.getElem?_eq_some_iff.1 hv).1
    simpa [rv] using this
  rw [cell_of_row _ _ _ _ _ _ hg, rv_row hs n F o j ho hj]
  have := rv_row [] n F 0 j rfl hj
  rw [Nat.zero_add] at this
  rw [Array.getElem?_toList, this] at hv
  exact hv
/-- The row behind the heads, as a value. -/
theorem load_tail {ops : Array Oper} {rest : List Oper} {o : Oper} {a : Act} {w : World} {Q : Exit → Act → World → Prop} (hgd : Region.wanted o (yielded ops a.tmps) = true) (ty : TypeId) (x : Operand) (ho : o.op = .load ty x)
    (g k : Nat) (hx : a.eval x = .pointer (some ⟨g, k, none⟩)) (hs : List Int) (n : Nat) (F : Nat → Int) (t : TypeId) (fr : Nat × Nat) (d : TypeDesc) (hg : w.heap[g]? = some (.cells (rv hs n F) t fr)) (hk : k = hs.length)
    (hu : P.underlying ty = some d) (hd : d.isRow = true) (hi : (P.info? ty).map (·.size) = some (rv [] n F).size)
    (h : wpList P ops Q rest (a.put o.dst (.agg (rv [] n F))) w) : wpList P ops Q (o :: rest) a w := by
  refine wpList_wanted hgd fun _ hK => wp_load_mid ty x ho g k hx (rv [] n F).toList d (rv_mid k hg hk) hu hd (by simpa using hi) ?_
  exact hK _ _ (by simpa using h)
theorem results_row_tmp {fn : Func} {p u : Tmp} {ty : TypeId} (h : fn.results = #[.cell p ty, .tmp u]) (tmps : Array Value) (w : World) (g : Nat) (t : TypeId) (cs : Array Value) (fr : Nat × Nat) (d : TypeDesc) (r : Value) (hr : tmps.getD u undef = r)
    (hp : tmps.getD p undef = .pointer (some ⟨g, 0, none⟩)) (hg : w.heap[g]? = some (.cells cs t fr))
    (hu : P.underlying ty = some d) (hd : (match d with | .struct _ | .array _ _ => true | _ => false) = true) (hi : (P.info? ty).map (·.size) = some cs.size) :
    (results fn tmps).run P w = .ok (.tuple #[.agg cs, r]) w := by
  subst hr
  have hp' : tmps[p]?.getD undef = .pointer (some ⟨g, 0, none⟩) := by simpa using hp
  simp [results, h, hp', asAddr, run_loadVar_row w g t ty cs fr d hg hu hd hi]
theorem results_tmp_row {fn : Func} {p u : Tmp} {ty : TypeId} (h : fn.results = #[.tmp u, .cell p ty]) (tmps : Array Value) (w : World) (g : Nat) (t : TypeId) (cs : Array Value) (fr : Nat × Nat) (d : TypeDesc) (r : Value) (hr : tmps.getD u undef = r)
    (hp : tmps.getD p undef = .pointer (some ⟨g, 0, none⟩)) (hg : w.heap[g]? = some (.cells cs t fr))
    (hu : P.underlying ty = some d) (hd : (match d with | .struct _ | .array _ _ => true | _ => false) = true) (hi : (P.info? ty).map (·.size) = some cs.size) :
    (results fn tmps).run P w = .ok (.tuple #[r, .agg cs]) w := by
  subst hr
  have hp' : tmps[p]?.getD undef = .pointer (some ⟨g, 0, none⟩) := by simpa using hp
  simp [results, h, hp', asAddr, run_loadVar_row w g t ty cs fr d hg hu hd hi]
theorem rv1_set0 (s v : Int) (n : Nat) (F : Nat → Int) : (rv [s] n F).setIfInBounds 0 (.int .i64 v) = rv [v] n F := rv_set_head [s] n F 0 v (by simp)
theorem rv1_set (s v : Int) (n j : Nat) (F : Nat → Int) : (rv [s] n F).setIfInBounds (1 + j) (.int .i64 v) = rv [s] n (upd F j v) := rv_set [s] n F 1 j v rfl
theorem rv1_get0 (s : Int) (n : Nat) (F : Nat → Int) : (rv [s] n F)[0]? = some (.int .i64 s) := rv_head [s] n F 0 s rfl
theorem rv1_get (s : Int) (n j : Nat) (F : Nat → Int) (hj : j < n) : (rv [s] n F)[1 + j]? = some (.int .i64 (F j)) := rv_row [s] n F 1 j rfl hj
theorem rv0_set (v : Int) (n j : Nat) (F : Nat → Int) : (rv [] n F).setIfInBounds j (.int .i64 v) = rv [] n (upd F j v) := by have := rv_set [] n F 0 j v rfl; simpa using this
theorem rv0_get (n j : Nat) (F : Nat → Int) (hj : j < n) : (rv [] n F)[j]? = some (.int .i64 (F j)) := by have := rv_row [] n F 0 j rfl hj; simpa using this
end Go.Proofs.YteepfbcialekeaaGreatDoor.RV
