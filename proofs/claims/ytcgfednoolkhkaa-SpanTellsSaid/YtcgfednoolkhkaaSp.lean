/-
  ident: bits of ids. Ids are lists of twenty bytes.
-/
import Derived.Test.YtcgfednoolkhkaaKit
import Derived.Test.YtcgfednoolkhkaaRows
import Derived.Laws.BitsAllLaws
import Derived.IntWalk
import Derived.Deep.MidRow
import Derived.Deep.RegionHeld3
import Derived.BigRegion
import Derived.Laws.CopyRow
import Derived.Deep.RegionLaw
import Derived.Laws.CopyOwn
namespace Go.Proofs.Ytcgfednoolkhkaa
open Go.RowKit
set_option linter.unusedVariables false
set_option linter.unusedSimpArgs false
theorem cell_below {w w' : World} {p : Addr} {v : Value} (hb : Below w.heap.size w w') (h : w.cell? p = some v) : w'.cell? p = some v := (hb.cell (p := p) (World.block_lt_of_cell? _ _ h)).trans h
theorem rmay_yes (i : Nat) (w : World) (hi : i < 160) : Calls Try.prog 53 #[.int .i64 i] w fun e w' => e = .returned (.bool true) ∧ w = w' := by
  have h1 : (0 : Int) ≤ (i : Int) := by omega
  have h2 : (i : Int) < 160 := by omega
  go_enter Try.func53, Try.ntmps53
  go_wp2
  go_ret
  exact ⟨rfl, rfl⟩
theorem rmay_no (i : Int) (w : World) (hi : i < 0 ∨ 160 ≤ i) : Calls Try.prog 53 #[.int .i64 i] w fun e w' => e = .returned (.bool false) ∧ w = w' := by
  by_cases h : i < 0
  · clear hi
    go_enter Try.func53, Try.ntmps53
    go_wp2
    go_ret
    exact ⟨rfl, rfl⟩
  · have h2 : 160 ≤ i := by omega
    clear hi
    go_enter Try.func53, Try.ntmps53
    go_wp2
    go_ret
    exact ⟨ret_val (by simp; omega), rfl⟩
/-- The bit of a place in its byte. -/
def sh (i : Nat) : Nat := 7 - i % 8
theorem sh_lt (i : Nat) : sh i < 8 := by unfold sh; omega
theorem rmask (i : Nat) (w : World) (hi : i < 160) : Calls Try.prog 54 #[.int .i64 i] w fun e w' => e = .returned (.int .u8 ((2 ^ sh i : Nat) : Int)) ∧ w = w' := by
  have h1 : Int.tmod (i : Int) 8 = ((i % 8 : Nat) : Int) := by rw [Int.tmod_eq_emod_of_nonneg (by omega)]; simp
  have h2 : i % 8 < 8 := Nat.mod_lt _ (by decide)
  have h3 : sh i = 7 - i % 8 := rfl
  generalize i % 8 = m at *
  generalize sh i = s at *
  have hs : (7 : Int) - (m : Int) = (s : Int) := by omega
  have hs8 : s < 8 := by omega
  have hp : ∀ k, k < 8 → IntKind.u8.wrap (1 * 2 ^ k) = ((2 ^ k : Nat) : Int) := by decide
  have hps := hp s hs8
  go_enter Try.func54, Try.ntmps54
  go_wp2
  go_ret
  have hq : ∀ m, m < 8 → ((2 : Int) ^ (7 - m) % 256) = ((2 ^ (7 - m) : Nat) : Int) := by decide
  exact ⟨ret_int (by rw [h3]; exact hq m h2), rfl⟩
/-- Ids. -/
def idc (l : List Nat) : List Value := l.map fun (b : Nat) => Value.int .u8 (b : Int)
def idv (l : List Nat) : Value := .agg (idc l).toArray
def Id (l : List Nat) : Prop := l.length = 20 ∧ ∀ b ∈ l, b < 256
theorem idc_len (l : List Nat) : (idc l).length = l.length := by simp [idc]
theorem id_lt {l : List Nat} (h : Id l) (k : Nat) : l.getD k 0 < 256 := by
  simp only [List.getD]
  rcases Nat.lt_or_ge k l.length with hk | hk
  · rw [List.getElem?_eq_getElem hk]; exact h.2 _ (List.getElem_mem hk)
  · rw [List.getElem?_eq_none hk]; decide
/-- An id lies in block b. -/
def IdAt (w : World) (b : Nat) (l : List Nat) : Prop := w.heap[b]? = some (.cells (idc l).toArray 41 (0, 0))
theorem idAt_cell {w : World} {b : Nat} {l : List Nat} (h : IdAt w b l) (k : Nat) (hk : k < l.length) : w.cell? ⟨b, k, none⟩ = some (.int .u8 (l.getD k 0 : Nat)) ∧ w.frozen? ⟨b, k, none⟩ = false := by
  constructor
  · have h' : w.heap[b]? = some (.cells (idc l).toArray 41 (0, 0)) := h
    simp [World.cell?, h', idc, hk]
  · have h' : w.heap[b]? = some (.cells (idc l).toArray 41 (0, 0)) := h
    simp [World.frozen?, h']
theorem idAt_new (w : World) (l : List Nat) : IdAt (w.alloc (.cells (idc l).toArray 41)) w.heap.size l := heap_alloc_new w _
theorem idAt_below {w w' : World} {b : Nat} {l : List Nat} (h : IdAt w b l) (hb : Below w.heap.size w w') : IdAt w' b l := by
  have hlt : b < w.heap.size := by
    rcases Nat.lt_or_ge b w.heap.size with h2 | h2
    · exact h2
    · have h' : w.heap[b]? = _ := h
      rw [Array.getElem?_eq_none h2] at h'; cases h'
  exact (hb.block b hlt).trans h
theorem info41 : (Try.prog.info? 41).map (·.size) = some 20 := by kernel_rfl
theorem idAt_range {w : World} {b : Nat} {l : List Nat} (h : IdAt w b l) : w.rangeAt b 0 (idc l) := fun j v hv => by
  have h' : w.heap[b]? = some (.cells (idc l).toArray 41 (0, 0)) := h
  simp only [World.cell?, h', Nat.zero_add]
  simpa using hv
theorem load_id {w : World} {b : Nat} {l : List Nat} (h : IdAt w b l) (hl : l.length = 20) : (loadVar 41 ⟨b, 0, none⟩).run Try.prog w = .ok (idv l) w :=
  run_loadVar_mid w b 0 41 (idc l) _ (idAt_range h) Try.underlying41 rfl (by rw [info41, idc_len, hl])
theorem wpList_load_id {ops : Array Oper} {rest : List Oper} {op : Oper} {a : Act} {w : World} {Q : Exit → Act → World → Prop} (hgd : op.guard = none) (x : Operand) (ho : op.op = .load 41 x)
    (b : Nat) (hx : a.eval x = .pointer (some ⟨b, 0, none⟩)) (l : List Nat) (hc : IdAt w b l) (hl : l.length = 20)
    (h : wpList Try.prog ops Q rest (a.put op.dst (idv l)) w) : wpList Try.prog ops Q (op :: rest) a w :=
  wpList_load_mid hgd 41 x ho b 0 hx (idc l) _ (idAt_range hc) Try.underlying41 rfl (by rw [info41, idc_len, hl]) h
theorem storeVar_id {w : World} {b : Nat} {l l' : List Nat} (h : IdAt w b l) (hl : l.length = 20) (hl' : l'.length = 20) :
    (storeVar 41 ⟨b, 0, none⟩ (idv l')).run Try.prog w = .ok () (w.setRow b (idc l').toArray) := by
  have h' : w.heap[b]? = some (.cells (idc l).toArray 41 (0, 0)) := h
  have := run_storeCells_at Try.prog b 0 41 (idc l') 0 (idc l).toArray w h' (by simp [idc_len, hl, hl']) (by intro v hv; obtain ⟨x, _, rfl⟩ := List.mem_map.1 hv; rfl)
  have hd : (idc l).drop (idc l').length = [] := List.drop_eq_nil_of_le (by simp [idc_len, hl, hl'])
  cases hq : Try.prog.info? 41 with
  | none => have := info41; simp [hq] at this
  | some i =>
    have hs : i.size = 20 := by have := info41; simpa [hq] using this
    simp only [List.take_zero, List.nil_append, Nat.zero_add, List.append_nil, hd] at this
    simp [storeVar, sizeOf, typeInfo, hq, Value.cells, idv, hs, idc_len, hl', this]
theorem id_setRow {w : World} {b : Nat} {l : List Nat} (l' : List Nat) (h : IdAt w b l) : IdAt (w.setRow b (idc l').toArray) b l' := setRow_heap w b _ _ 41 _ h
theorem grown_setRow (w : World) (b : Nat) (cs : Array Value) : w.grownBy (w.setRow b cs) (some b) :=
  ⟨rfl, rfl, rfl, by simp [World.setRow], fun k _ hk => setRow_other w b k cs (fun e => hk (by rw [e]))⟩
theorem wpList_store_id {ops : Array Oper} {rest : List Oper} {op : Oper} {a : Act} {w : World} {Q : Exit → Act → World → Prop} (hgd : op.guard = none) (x y : Operand) (ho : op.op = .store 41 x y)
    (b : Nat) (hx : a.eval x = .pointer (some ⟨b, 0, none⟩)) (l l' : List Nat) (hy : a.eval y = idv l') (hc : IdAt w b l) (hl : l.length = 20) (hl' : l'.length = 20)
    (h : ∀ w', IdAt w' b l' → w.grownBy w' (some b) → wpList Try.prog ops Q rest (a.put op.dst undef) w') : wpList Try.prog ops Q (op :: rest) a w := by
  refine wpList_plain hgd fun K hK => ?_
  unfold Oper.wp execOp
  simp only [ho, hx, hy, Instr.storeAt, Instr.sureAddr, Sem.run_bind, Sem.run_pure, Result.andThen_ok, storeVar_id hc hl hl']
  exact hK _ _ (h _ (id_setRow l' hc) (grown_setRow _ _ _))
theorem results_id {fn : Func} {u : Tmp} (hr : fn.results = #[.cell u 41]) (tmps : Array Value) (w : World) (b : Nat) (l : List Nat) (hx : tmps.getD u undef = .pointer (some ⟨b, 0, none⟩)) (h : IdAt w b l) (hl : l.length = 20) :
    (results fn tmps).run Try.prog w = .ok (idv l) w := by
  have hx' : tmps[u]?.getD undef = .pointer (some ⟨b, 0, none⟩) := by simpa using hx
  simp [results, hr, hx', asAddr, load_id h hl]
theorem results_id2 {fn : Func} {u v : Tmp} (hr : fn.results = #[.cell u 41, .tmp v]) (tmps : Array Value) (w : World) (b : Nat) (l : List Nat) (hx : tmps.getD u undef = .pointer (some ⟨b, 0, none⟩)) (h : IdAt w b l) (hl : l.length = 20) :
    (results fn tmps).run Try.prog w = .ok (.tuple #[idv l, tmps.getD v undef]) w := by
  have hx' : tmps[u]?.getD undef = .pointer (some ⟨b, 0, none⟩) := by simpa using hx
  simp [results, hr, hx', asAddr, load_id h hl]
theorem and_shl (f m k : Nat) : f &&& (m <<< k) = ((f >>> k) &&& m) <<< k := by
  apply Nat.eq_of_testBit_eq
  intro i
  simp only [Nat.testBit_and, Nat.testBit_shiftLeft, Nat.testBit_shiftRight]
  by_cases h : k ≤ i
  · simp [h, show k + (i - k) = i from by omega]
  · simp [h]
theorem and_bit_nat (x i : Nat) : x &&& 2 ^ i = x / 2 ^ i % 2 * 2 ^ i := by
  have h := and_shl x 1 i
  rw [Nat.shiftLeft_eq, Nat.shiftLeft_eq, Nat.one_mul, Nat.shiftRight_eq_div_pow, Nat.and_one_is_mod] at h
  exact h
theorem and_pow (x s : Nat) (hx : x < 256) (hs : s < 8) : Go.bits .and .u8 (x : Int) ((2 ^ s : Nat) : Int) = if x.testBit s = true then ((2 ^ s : Nat) : Int) else 0 := by
  have hp : 2 ^ s < 256 := by
    have : s = 0 ∨ s = 1 ∨ s = 2 ∨ s = 3 ∨ s = 4 ∨ s = 5 ∨ s = 6 ∨ s = 7 := by omega
    rcases this with rfl | rfl | rfl | rfl | rfl | rfl | rfl | rfl <;> decide
  rw [u8_and_nat x (2 ^ s) hx hp, and_bit_nat, Nat.testBit_eq_decide_div_mod_eq]
  have h : x / 2 ^ s % 2 < 2 := Nat.mod_lt _ (by decide)
  by_cases h1 : x / 2 ^ s % 2 = 1
  · simp [h1]
  · have h0 : x / 2 ^ s % 2 = 0 := by omega
    simp [h0]
def bit (l : List Nat) (i : Nat) : Nat := if (l.getD (i / 8) 0).testBit (sh i) = true then 1 else 0
def bitI (l : List Nat) (i : Int) : Int := if 0 ≤ i ∧ i < 160 then (bit l i.toNat : Nat) else 0
theorem rbit_yes (l : List Nat) (i : Nat) (w : World) (h : Id l) (hi : i < 160) :
    Calls Try.prog 43 #[idv l, .int .i64 i] w fun e w' => e = .returned (.int .i64 (bit l i : Nat)) ∧ Below w.heap.size w w' := by
  have hl := h.1
  have hx := id_lt h (i / 8)
  have hq : i / 8 < 20 := by omega
  have hcell := idAt_cell (idAt_new w l) (i / 8) (by omega)
  have hqd : Int.tdiv (i : Int) 8 = ((i / 8 : Nat) : Int) := by rw [Int.tdiv_eq_ediv_of_nonneg (by omega)]; simp
  have H1 := Lib.hid (fun W => rmay_yes i W hi)
  have H2 := Lib.hid (fun W => rmask i W hi)
  have hand := and_pow (l.getD (i / 8) 0) (sh i) hx (sh_lt i)
  have hbit : bit l i = if (l.getD (i / 8) 0).testBit (sh i) = true then 1 else 0 := rfl
  have hp0 : ((2 ^ sh i : Nat) : Int) ≠ 0 := by have := Nat.two_pow_pos (sh i); omega
  have hnew : Below w.heap.size w (w.alloc (.cells (idc l).toArray 41)) := (Below.refl _ w).alloc (Nat.le_refl _) _
  have HNEW := Lib.hid hnew
  have hcell1 := hcell.1
  unfold idv
  generalize hC : (idc l).toArray = C at *
  generalize l.getD (i / 8) 0 = x at *
  generalize hqq : i / 8 = q at *
  generalize (2 ^ sh i : Nat) = p2 at *
  generalize sh i = s at *
  clear hcell hnew h hC hl
  have hq2 : (q : Int) < 20 := by omega
  cases htb : x.testBit s with
  | true =>
    rw [htb] at hand hbit
    simp only [if_true] at hand hbit
    rw [hbit]
    have hne : ((p2 : Int) == 0) = false := by simpa using hp0
    clear htb hbit
    go_enter Try.func43, Try.ntmps43
    go_wp2
    have hq0 : (0 : Int) ≤ (q : Int) := by omega
    have hwq : IntKind.i64.wrap (q : Int) = (q : Int) := by rw [IntKind.wrap_i64]; omega
    go_region_held3 (fun w' => w'.cell? ⟨w.heap.size, q, none⟩ = some (.int .u8 x)) (first | with_reducible assumption | go_keep) (first
      | (go_at_call 53; refine (H1.out _).mono ?_; rintro e w1 ⟨rfl, rfl⟩)
      | (go_at_call 54; refine (H2.out _).mono ?_; rintro e w1 ⟨rfl, rfl⟩))
    go_wp2
    go_ret
    exact ⟨rfl, HNEW.out.drew⟩
  | false =>
    rw [htb] at hand hbit
    simp only [Bool.false_eq_true, if_false] at hand hbit
    rw [hbit]
    clear htb hbit
    go_enter Try.func43, Try.ntmps43
    go_wp2
    have hq0 : (0 : Int) ≤ (q : Int) := by omega
    have hwq : IntKind.i64.wrap (q : Int) = (q : Int) := by rw [IntKind.wrap_i64]; omega
    go_region_held3 (fun w' => w'.cell? ⟨w.heap.size, q, none⟩ = some (.int .u8 x)) (first | with_reducible assumption | go_keep) (first
      | (go_at_call 53; refine (H1.out _).mono ?_; rintro e w1 ⟨rfl, rfl⟩)
      | (go_at_call 54; refine (H2.out _).mono ?_; rintro e w1 ⟨rfl, rfl⟩))
    go_wp2
    go_ret
    exact ⟨rfl, HNEW.out.drew⟩
end Go.Proofs.Ytcgfednoolkhkaa
