/-
  The document's ids: the same words as for the program's.
-/
import Derived.Test.YtcgfednoolkhkaaSpI
namespace Go.Proofs.Ytcgfednoolkhkaa
open Go.RowKit
set_option linter.unusedVariables false
set_option linter.unusedSimpArgs false
def IdR (w : World) (b : Nat) (l : List Nat) : Prop := w.heap[b]? = some (.cells (idc l).toArray 56 (0, 0))
theorem idR_cell {w : World} {b : Nat} {l : List Nat} (h : IdR w b l) (k : Nat) (hk : k < l.length) : w.cell? ⟨b, k, none⟩ = some (.int .u8 (l.getD k 0 : Nat)) ∧ w.frozen? ⟨b, k, none⟩ = false := by
  constructor
  · have h' : w.heap[b]? = some (.cells (idc l).toArray 56 (0, 0)) := h
    simp [World.cell?, h', idc, hk]
  · have h' : w.heap[b]? = some (.cells (idc l).toArray 56 (0, 0)) := h
    simp [World.frozen?, h']
theorem idR_new (w : World) (l : List Nat) : IdR (w.alloc (.cells (idc l).toArray 56)) w.heap.size l := heap_alloc_new w _
theorem idR_below {w w' : World} {b : Nat} {l : List Nat} (h : IdR w b l) (hb : Below w.heap.size w w') : IdR w' b l := by
  have hlt : b < w.heap.size := by
    rcases Nat.lt_or_ge b w.heap.size with h2 | h2
    · exact h2
    · have h' : w.heap[b]? = _ := h
      rw [Array.getElem?_eq_none h2] at h'; cases h'
  exact (hb.block b hlt).trans h
theorem info56 : (Try.prog.info? 56).map (·.size) = some 20 := by kernel_rfl
theorem idR_range {w : World} {b : Nat} {l : List Nat} (h : IdR w b l) : w.rangeAt b 0 (idc l) := fun j v hv => by
  have h' : w.heap[b]? = some (.cells (idc l).toArray 56 (0, 0)) := h
  simp only [World.cell?, h', Nat.zero_add]
  simpa using hv
theorem load_r {w : World} {b : Nat} {l : List Nat} (h : IdR w b l) (hl : l.length = 20) : (loadVar 56 ⟨b, 0, none⟩).run Try.prog w = .ok (idv l) w :=
  run_loadVar_mid w b 0 56 (idc l) _ (idR_range h) Try.underlying56 rfl (by rw [info56, idc_len, hl])
theorem wpList_load_r {ops : Array Oper} {rest : List Oper} {op : Oper} {a : Act} {w : World} {Q : Exit → Act → World → Prop} (hgd : op.guard = none) (x : Operand) (ho : op.op = .load 56 x)
    (b : Nat) (hx : a.eval x = .pointer (some ⟨b, 0, none⟩)) (l : List Nat) (hc : IdR w b l) (hl : l.length = 20)
    (h : wpList Try.prog ops Q rest (a.put op.dst (idv l)) w) : wpList Try.prog ops Q (op :: rest) a w :=
  wpList_load_mid hgd 56 x ho b 0 hx (idc l) _ (idR_range hc) Try.underlying56 rfl (by rw [info56, idc_len, hl]) h
theorem storeVar_r {w : World} {b : Nat} {l l' : List Nat} (h : IdR w b l) (hl : l.length = 20) (hl' : l'.length = 20) :
    (storeVar 56 ⟨b, 0, none⟩ (idv l')).run Try.prog w = .ok () (w.setRow b (idc l').toArray) := by
  have h' : w.heap[b]? = some (.cells (idc l).toArray 56 (0, 0)) := h
  have := run_storeCells_at Try.prog b 0 56 (idc l') 0 (idc l).toArray w h' (by simp [idc_len, hl, hl']) (by intro v hv; obtain ⟨x, _, rfl⟩ := List.mem_map.1 hv; rfl)
  have hd : (idc l).drop (idc l').length = [] := List.drop_eq_nil_of_le (by simp [idc_len, hl, hl'])
  cases hq : Try.prog.info? 56 with
  | none => have := info56; simp [hq] at this
  | some i =>
    have hs : i.size = 20 := by have := info56; simpa [hq] using this
    simp only [List.take_zero, List.nil_append, Nat.zero_add, List.append_nil, hd] at this
    simp [storeVar, sizeOf, typeInfo, hq, Value.cells, idv, hs, idc_len, hl', this]
theorem r_setRow {w : World} {b : Nat} {l : List Nat} (l' : List Nat) (h : IdR w b l) : IdR (w.setRow b (idc l').toArray) b l' := setRow_heap w b _ _ 56 _ h
theorem wpList_store_r {ops : Array Oper} {rest : List Oper} {op : Oper} {a : Act} {w : World} {Q : Exit → Act → World → Prop} (hgd : op.guard = none) (x y : Operand) (ho : op.op = .store 56 x y)
    (b : Nat) (hx : a.eval x = .pointer (some ⟨b, 0, none⟩)) (l l' : List Nat) (hy : a.eval y = idv l') (hc : IdR w b l) (hl : l.length = 20) (hl' : l'.length = 20)
    (h : ∀ w', IdR w' b l' → w.grownBy w' (some b) → wpList Try.prog ops Q rest (a.put op.dst undef) w') : wpList Try.prog ops Q (op :: rest) a w := by
  refine wpList_plain hgd fun K hK => ?_
  unfold Oper.wp execOp
  simp only [ho, hx, hy, Instr.storeAt, Instr.sureAddr, Sem.run_bind, Sem.run_pure, Result.andThen_ok, storeVar_r hc hl hl']
  exact hK _ _ (h _ (r_setRow l' hc) (grown_setRow _ _ _))
theorem results_r {fn : Func} {u : Tmp} (hr : fn.results = #[.cell u 56]) (tmps : Array Value) (w : World) (b : Nat) (l : List Nat) (hx : tmps.getD u undef = .pointer (some ⟨b, 0, none⟩)) (h : IdR w b l) (hl : l.length = 20) :
    (results fn tmps).run Try.prog w = .ok (idv l) w := by
  have hx' : tmps[u]?.getD undef = .pointer (some ⟨b, 0, none⟩) := by simpa using hx
  simp [results, hr, hx', asAddr, load_r h hl]
theorem results_r2 {fn : Func} {u v : Tmp} (hr : fn.results = #[.cell u 56, .tmp v]) (tmps : Array Value) (w : World) (b : Nat) (l : List Nat) (hx : tmps.getD u undef = .pointer (some ⟨b, 0, none⟩)) (h : IdR w b l) (hl : l.length = 20) :
    (results fn tmps).run Try.prog w = .ok (.tuple #[idv l, tmps.getD v undef]) w := by
  have hx' : tmps[u]?.getD undef = .pointer (some ⟨b, 0, none⟩) := by simpa using hx
  simp [results, hr, hx', asAddr, load_r h hl]
theorem idR_set {W : World} {b k y : Nat} {l : List Nat} (h : IdR W b l) : IdR (W.setCell ⟨b, k, none⟩ (.int .u8 (y : Int))) b (l.set k y) := by
  have h' : W.heap[b]? = some (.cells (idc l).toArray 56 (0, 0)) := h
  show (W.setCell ⟨b, k, none⟩ (.int .u8 (y : Int))).heap[b]? = _
  rw [setCell_eq_setRow W b k _ 56 (0, 0) _ h', setRow_heap W b _ _ 56 _ h']
  simp [idc, List.map_set]
theorem idR_there {w : World} {b : Nat} {l : List Nat} (h : IdR w b l) (hl : l.length = 20) : w.there b 0 20 := fun j hj => by
  have := idR_cell h j (by omega)
  rw [Nat.zero_add]
  exact ⟨by rw [this.1]; rfl, this.2⟩
abbrev Z56 : Obj := .cells #[Value.int .u8 0, Value.int .u8 0, Value.int .u8 0, Value.int .u8 0, Value.int .u8 0, Value.int .u8 0, Value.int .u8 0, Value.int .u8 0, Value.int .u8 0, Value.int .u8 0, Value.int .u8 0, Value.int .u8 0, Value.int .u8 0, Value.int .u8 0, Value.int .u8 0, Value.int .u8 0, Value.int .u8 0, Value.int .u8 0, Value.int .u8 0, Value.int .u8 0] 56
theorem idR_zero (w : World) : IdR (w.alloc Z56) w.heap.size zero20 := heap_alloc_new w _
theorem wp_load_r {op : Oper} {a : Act} {w : World} {K : Act → World → Prop} {Q : Exit → Act → World → Prop} (x : Operand) (ho : op.op = .load 56 x)
    (b : Nat) (hx : a.eval x = .pointer (some ⟨b, 0, none⟩)) (l : List Nat) (hc : IdR w b l) (hl : l.length = 20)
    (h : K (a.put op.dst (idv l)) w) : op.wp Try.prog a w K Q :=
  wp_load_mid 56 x ho b 0 hx (idc l) _ (idR_range hc) Try.underlying56 rfl (by rw [info56, idc_len, hl]) h
theorem wp_store_r {op : Oper} {a : Act} {w : World} {K : Act → World → Prop} {Q : Exit → Act → World → Prop} (x y : Operand) (ho : op.op = .store 56 x y)
    (b : Nat) (hx : a.eval x = .pointer (some ⟨b, 0, none⟩)) (l l' : List Nat) (hy : a.eval y = idv l') (hc : IdR w b l) (hl : l.length = 20) (hl' : l'.length = 20)
    (h : ∀ w', IdR w' b l' → w.grownBy w' (some b) → K (a.put op.dst undef) w') : op.wp Try.prog a w K Q := by
  unfold Oper.wp execOp
  simp only [ho, hx, hy, Instr.storeAt, Instr.sureAddr, Sem.run_bind, Sem.run_pure, Result.andThen_ok, storeVar_r hc hl hl']
  exact h _ (r_setRow l' hc) (grown_setRow _ _ _)
theorem idR_lt {w : World} {b : Nat} {l : List Nat} (h : IdR w b l) : b < w.heap.size := by
  have h' : w.heap[b]? = _ := h
  rcases Nat.lt_or_ge b w.heap.size with h2 | h2
  · exact h2
  · rw [Array.getElem?_eq_none h2] at h'; cases h'
theorem idR_grown {w w' : World} {b g : Nat} {l : List Nat} (h : IdR w b l) (hg : w.grownBy w' (some g)) (hn : b ≠ g) : IdR w' b l :=
  (hg.block b (idR_lt h) (fun e => hn (by cases e; rfl))).trans h
theorem eq_r {a b : List Nat} (W : World) (ha : a.length = 20) (hb : b.length = 20) : (Op.equalIn 10000 56 (idv a) (idv b)).run Try.prog W = .ok (decide (a = b)) W := by
  obtain ⟨i, hi⟩ := isInfo5
  have := run_equalIn_array (P := Try.prog) (w := W) 9999 (t := 56) (e := 5) (n := 20) (idc a).toArray (idc b).toArray Try.underlying56 hi
  unfold idv
  rw [this, eq_items a b W 9998 (List.range 20) (fun j hj => by have := List.mem_range.1 hj; omega)]
  have : (∀ i ∈ List.range 20, a.getD i 0 = b.getD i 0) ↔ a = b := by
    constructor
    · intro h
      apply List.ext_getElem (by omega)
      intro j h1 h2
      have := h j (List.mem_range.2 (by omega))
      simpa [List.getD, h1, h2] using this
    · rintro rfl i _; rfl
  simp only [this]
theorem eq_rs {a b : List Nat} (W : World) (ha : a.length = 20) (hb : b.length = 20) : (binOp .eql 56 (idv a) (idv b)).run Try.prog W = .ok (.bool (decide (a = b))) W := by
  have h := run_eql_struct (P := Try.prog) (w := W) 56 (idc a).toArray (idc b).toArray
  have e := eq_r W ha hb
  unfold idv at e ⊢
  rw [h, e]
  rfl
theorem below_stepr {w w1 w4 : World} {B : Nat} (h : Below B w w1) (hB : B ≤ w1.heap.size) (hg : (w1.alloc Z56).grownBy w4 (some w1.heap.size)) : Below B w w4 :=
  (h.alloc hB Z56).grown hg (by simp; omega) (fun k e => by cases e; exact hB)
theorem zero_newr {B : Nat} {w0 w : World} (h : Below B w0 w) : IdR (w.alloc Z56) w.heap.size zero20 := idR_zero w
theorem seed_r {w : World} {b : Nat} {l : List Nat} (h : IdR w b l) (hl : Id l) : Seed w (some ⟨b, 0, none⟩) l :=
  ⟨hl.2, fun _ => ⟨_, rfl, fun j x hx => by
    have hj : j < l.length := by
      rcases Nat.lt_or_ge j l.length with h1 | h1
      · exact h1
      · simp [List.getElem?_eq_none h1] at hx
    have hadd : (⟨b, 0, none⟩ : Addr).add j = ⟨b, j, none⟩ := by unfold Addr.add; split <;> simp_all
    rw [hadd, (idR_cell h j hj).1]
    simp [List.getD, hx]⟩⟩
theorem r2_new (w : World) (a b : List Nat) : IdR ((w.alloc (.cells (idc a).toArray 56)).alloc (.cells (idc b).toArray 56)) w.heap.size a ∧ IdR ((w.alloc (.cells (idc a).toArray 56)).alloc (.cells (idc b).toArray 56)) (w.heap.size + 1) b ∧ Below w.heap.size w ((w.alloc (.cells (idc a).toArray 56)).alloc (.cells (idc b).toArray 56)) :=
  ⟨idR_below (idR_new w a) ((Below.refl _ _).alloc (Nat.le_refl _) _), by simpa using idR_new (w.alloc (.cells (idc a).toArray 56)) b, ((Below.refl _ w).alloc (Nat.le_refl _) _).alloc (by simp) _⟩
theorem index_r (l : List Nat) (k : Nat) (W : World) (hl : l.length = 20) (hk : k < 20) : (Instr.index 56 (.agg (idc l).toArray) (.int .i64 (k : Int))).run Try.prog W = .ok (.int .u8 (l.getD k 0 : Nat)) W := by
  obtain ⟨i, hi⟩ := isInfo5
  have p1 : (Go.part 5 (idc l).toArray (k * Try.prog.cellsOf 5)).run Try.prog W = .ok (.int .u8 (l.getD k 0 : Nat)) W := run_part_plain W plain5 (by simp [cells5, idc, hl, hk])
  have hs : (sizeOf 5).run Try.prog W = .ok (Try.prog.cellsOf 5) W := by simp [sizeOf, typeInfo, hi, Program.cellsOf, go_sem]
  have hc : (idc l)[k * Try.prog.cellsOf 5]? = some (.int .u8 (l.getD k 0 : Nat)) := by
    rw [show Try.prog.cellsOf 5 = 1 from cells5, Nat.mul_one]; simp [idc, List.getD, hl, hk]
  simp [Instr.index, run_underlying Try.underlying56, asIntOf, hk, go_sem, hs, hc]
section
variable {ops : Array Oper} {rest : List Oper} {op : Oper} {a : Act} {w : World} {Q : Exit → Act → World → Prop}
theorem wl_loadr (hw : Region.wanted op (yielded ops a.tmps) = true) (x : Operand) (ho : op.op = .load 56 x)
    (b : Nat) (hx : a.eval x = .pointer (some ⟨b, 0, none⟩)) (l : List Nat) (hc : IdR w b l) (hl : l.length = 20)
    (h : wpList Try.prog ops Q rest (a.put op.dst (idv l)) w) : wpList Try.prog ops Q (op :: rest) a w :=
  wpList_wanted hw fun K hK => wp_load_r x ho b hx l hc hl (hK _ _ h)
theorem wl_eqr (hw : Region.wanted op (yielded ops a.tmps) = true) (x y : Operand) (ho : op.op = .binOp .eql 56 x y 56)
    (l l' : List Nat) (hx : a.eval x = idv l) (hy : a.eval y = idv l') (hl : l.length = 20) (hl' : l'.length = 20)
    (h : wpList Try.prog ops Q rest (a.put op.dst (.bool (decide (l = l')))) w) : wpList Try.prog ops Q (op :: rest) a w :=
  wpList_wanted hw fun K hK => by
    have hg : (eqGuard .eql 56 x y (idv l) (idv l')).run Try.prog w = .ok () w := run_eqGuard_agg (P := Try.prog) w .eql 56 x y _ _ (by kernel_rfl)
    unfold Oper.wp execOp
    have he := eq_rs w hl hl'
    simp only [ho, hx, hy, Sem.run_bind, Sem.run_pure, hg, he, Result.andThen_ok]
    exact hK _ _ h
theorem wl_samer (hw : Region.wanted op (yielded ops a.tmps) = true) (x y : Operand) (ho : op.op = .binOp .eql 56 x y 56)
    (l l' : List Nat) (hx : a.eval x = idv l) (hy : a.eval y = idv l') (hl : l.length = 20) (he : l = l')
    (h : wpList Try.prog ops Q rest (a.put op.dst (.bool true)) w) : wpList Try.prog ops Q (op :: rest) a w :=
  wl_eqr hw x y ho l l' hx hy hl (by rw [← he]; exact hl) (by rw [decide_eq_true he]; exact h)
end
end Go.Proofs.Ytcgfednoolkhkaa
