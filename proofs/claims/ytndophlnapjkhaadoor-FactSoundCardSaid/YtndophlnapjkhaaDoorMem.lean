/- Operations that read memory, write it, or make it: their runs as equations, and what certain blocks are behind them. For any program whose types are as the premises say. -/
import Derived.Test.YtndophlnapjkhaaDoorOps
namespace Go.Proofs.YtndophlnapjkhaaDoor.Vc
open Go Go.RowKit
set_option linter.unusedSimpArgs false
section
variable {P : Program} {w : World} {ρ : Operand → Value} {o : Oper}
/-- How many cells a type takes; whether it is an aggregate. -/
def Sized (P : Program) (t : TypeId) (n : Nat) : Prop := ∀ w, (sizeOf t).run P w = .ok n w
def Agg (P : Program) (t : TypeId) (b : Bool) : Prop := ∀ w, (isAgg t).run P w = .ok b w

/-! ### Addresses -/
theorem r_fieldAddr {s : TypeId} {x : Operand} {i : Nat} {fs : Array Field} {f : Field} {a : Addr} {n : Nat} (h : o.op = .fieldAddr s x i) (hu : P.underlying s = some (.struct fs)) (hf : fs[i]? = some f) (hs : Sized P f.type (n + 1)) (hx : ρ x = .pointer (some a)) :
    (execOp ρ o).run P w = .ok (.value (.pointer (some (a.add f.offset)))) w := by
  simp [execOp, h, Instr.fieldAt, run_underlying hu, hf, Instr.sureAddr, hx, fieldPlace, hs w]
theorem r_indexAddr {t el : TypeId} {x ix : Operand} {k : IntKind} {i : Int} {a : Addr} {len cap n : Nat} (h : o.op = .indexAddr t x ix) (hu : P.underlying t = some (.slice el)) (hs : Sized P el n) (hx : ρ x = .slice (some a) len cap) (hi : ρ ix = .int k i) (h0 : 0 ≤ i) (h1 : i < len) :
    (execOp ρ o).run P w = .ok (.value (.pointer (some (a.add (i.toNat * n))))) w := by
  simp [execOp, h, Instr.indexAt, run_underlying hu, hx, hi, asIntOf, h0, h1, hs w]
theorem r_indexAddr_arr {t el : TypeId} {x ix : Operand} {k : IntKind} {i : Int} {a : Addr} {len n : Nat} (h : o.op = .indexAddr t x ix) (hu : P.underlying t = some (.array len el)) (hs : Sized P el n) (hx : ρ x = .pointer (some a)) (hi : ρ ix = .int k i) (h0 : 0 ≤ i) (h1 : i < len) :
    (execOp ρ o).run P w = .ok (.value (.pointer (some (a.add (i.toNat * n))))) w := by
  simp [execOp, h, Instr.indexAt, run_underlying hu, hx, hi, asIntOf, h0, h1, hs w, Instr.sureAddr]
theorem r_index_arr {t el : TypeId} {x ix : Operand} {k : IntKind} {i : Int} {cs : Array Value} {len : Nat} {v : Value} (h : o.op = .index t x ix) (hu : P.underlying t = some (.array len el)) (hs : Sized P el 1) (ha : Agg P el false) (hx : ρ x = .agg cs) (hi : ρ ix = .int k i) (h0 : 0 ≤ i) (h1 : i < len) (hv : cs[i.toNat]? = some v) :
    (execOp ρ o).run P w = .ok (.value v) w := by
  simp [execOp, h, Instr.index, run_underlying hu, hx, hi, asIntOf, h0, h1, hs w, part, ha w, hv]
theorem r_index_str {t : TypeId} {x ix : Operand} {k : IntKind} {i : Int} {s : ByteArray} {c : UInt8} (h : o.op = .index t x ix) (hu : P.underlying t = some .string) (hx : ρ x = .string s) (hi : ρ ix = .int k i) (h0 : 0 ≤ i) (hc : s[i.toNat]? = some c) :
    (execOp ρ o).run P w = .ok (.value (.int .u8 c.toNat)) w := by
  simp [execOp, h, Instr.index, run_underlying hu, hx, hi, asIntOf, h0, hc]
theorem r_field {t : TypeId} {x : Operand} {i : Nat} {fs : Array Field} {f : Field} {cs : Array Value} {v : Value} (h : o.op = .field t x i) (hu : P.underlying t = some (.struct fs)) (hf : fs[i]? = some f) (ha : Agg P f.type false) (hx : ρ x = .agg cs) (hv : cs[f.offset]? = some v) :
    (execOp ρ o).run P w = .ok (.value v) w := by
  simp [execOp, h, Instr.field, run_underlying hu, hf, hx, asAgg, part, ha w, hv]
theorem r_field_agg {t : TypeId} {x : Operand} {i n : Nat} {fs : Array Field} {f : Field} {cs : Array Value} (h : o.op = .field t x i) (hu : P.underlying t = some (.struct fs)) (hf : fs[i]? = some f) (ha : Agg P f.type true) (hn : Sized P f.type n) (hx : ρ x = .agg cs) :
    (execOp ρ o).run P w = .ok (.value (.agg (cs.extract f.offset (f.offset + n)))) w := by
  simp [execOp, h, Instr.field, run_underlying hu, hf, hx, asAgg, part, ha w, hn w]

/-! ### Loads -/
theorem r_load {t : TypeId} {x : Operand} {a : Addr} {v : Value} (h : o.op = .load t x) (ha : Agg P t false) (hx : ρ x = .pointer (some a)) (hc : w.cell? a = some v) : (execOp ρ o).run P w = .ok (.value v) w := by
  simp [execOp, h, Instr.loadAt, Instr.sureAddr, hx, loadVar, ha w, run_load, hc]
theorem r_load_agg {t : TypeId} {x : Operand} {a : Addr} {vs : List Value} (h : o.op = .load t x) (ha : Agg P t true) (hn : Sized P t vs.length) (hx : ρ x = .pointer (some a)) (hc : ∀ j v, vs[j]? = some v → w.cell? (a.add j) = some v) : (execOp ρ o).run P w = .ok (.value (.agg vs.toArray)) w := by
  simp [execOp, h, Instr.loadAt, Instr.sureAddr, hx, loadVar, ha w, hn w, run_loadCells_list (P := P) (w := w) a vs hc]
/-- Cells of a block that is known. -/
theorem blk_cell {b : Nat} {cs : Array Value} {t : TypeId} {fr : Nat × Nat} (h : w.heap[b]? = some (.cells cs t fr)) (i : Nat) : w.cell? ⟨b, i, none⟩ = cs[i]? := by
  simp [World.cell?, h]
theorem blk_add (b off j : Nat) : (⟨b, off, none⟩ : Addr).add j = ⟨b, off + j, none⟩ := by
  unfold Addr.add
  split
  · rename_i hj; subst hj; rfl
  · rfl
theorem r_load_blk {t : TypeId} {x : Operand} {b off : Nat} {cs : Array Value} {u : TypeId} {fr : Nat × Nat} {v : Value} (h : o.op = .load t x) (ha : Agg P t false) (hx : ρ x = .pointer (some ⟨b, off, none⟩)) (hb : w.heap[b]? = some (.cells cs u fr)) (hv : cs[off]? = some v) : (execOp ρ o).run P w = .ok (.value v) w :=
  r_load h ha hx (by rw [blk_cell hb]; exact hv)
theorem r_load_blk_agg {t : TypeId} {x : Operand} {b off n : Nat} {cs : Array Value} {u : TypeId} {fr : Nat × Nat} (h : o.op = .load t x) (ha : Agg P t true) (hn : Sized P t n) (hx : ρ x = .pointer (some ⟨b, off, none⟩)) (hb : w.heap[b]? = some (.cells cs u fr)) (hv : Nat.ble (off + n) cs.size = true) : (execOp ρ o).run P w = .ok (.value (.agg (cs.extract off (off + n)))) w := by
  have hv' : off + n ≤ cs.size := Nat.le_of_ble_eq_true hv
  have hl : (cs.extract off (off + n)).toList.length = n := by simp; omega
  have := r_load_agg (P := P) (w := w) (ρ := ρ) (vs := (cs.extract off (off + n)).toList) h ha (by rw [hl]; exact hn) hx (fun j v hj => by
    rw [blk_add, blk_cell hb]
    have hjn : j < n := by have := (List.getElem?_eq_some_iff.1 hj).1; omega
    rw [Array.getElem?_toList, Array.getElem?_extract] at hj
    split at hj
    · exact hj
    · cases hj)
  rw [this, Array.toArray_toList]

/-! ### Stores -/
def putAt (cs : Array Value) (i : Nat) : List Value → Array Value
  | [] => cs
  | v :: r => putAt (cs.setIfInBounds i v) (i + 1) r
theorem size_putAt (cs : Array Value) (i : Nat) (l : List Value) : (putAt cs i l).size = cs.size := by
  induction l generalizing cs i with
  | nil => rfl
  | cons v r ih => simp [putAt, ih]
theorem run_storeCells {b : Nat} {t : TypeId} : ∀ (l : List Value) (w : World) (cs : Array Value) (off i : Nat), w.heap[b]? = some (.cells cs t (0, 0)) → off + i + l.length ≤ cs.size → (∀ v ∈ l, v.oneCell' = true) →
    ∃ w', (storeCells ⟨b, off, none⟩ l i).run P w = .ok () w' ∧ w'.heap[b]? = some (.cells (putAt cs (off + i) l) t (0, 0)) ∧ (∀ k, k ≠ b → w'.heap[k]? = w.heap[k]?) ∧ w'.os = w.os ∧ w'.tape = w.tape ∧ w'.output = w.output ∧ w'.heap.size = w.heap.size
  | [], w, cs, off, i, hb, _, _ => ⟨w, by simp [storeCells], hb, fun _ _ => rfl, rfl, rfl, rfl, rfl⟩
  | v :: r, w, cs, off, i, hb, hl, h1 => by
    have hc : w.cell? ⟨b, off + i, none⟩ = cs[off + i]? := blk_cell hb _
    have hlt : off + i < cs.size := by simp at hl; omega
    have hf : w.frozen? ⟨b, off + i, none⟩ = false := by simp [World.frozen?, hb]
    have hset : (w.setCell ⟨b, off + i, none⟩ v).heap[b]? = some (.cells (cs.setIfInBounds (off + i) v) t (0, 0)) := by simp [World.setCell, Array.getElem?_modify, hb]
    obtain ⟨w', hr, hb', hk, h2, h3, h4, h5⟩ := run_storeCells r (w.setCell ⟨b, off + i, none⟩ v) (cs.setIfInBounds (off + i) v) off (i + 1) hset (by simp at hl ⊢; omega) (fun u hu => h1 u (List.mem_cons_of_mem _ hu))
    refine ⟨w', ?_, hb', fun k hkb => (hk k hkb).trans (Below.heap_setCell _ _ _ _ hkb), h2, h3, h4, by rw [h5]; simp⟩
    have hst := run_store P w ⟨b, off + i, none⟩ v .plain (h1 v List.mem_cons_self)
    rw [hc, Array.getElem?_eq_getElem hlt] at hst
    simp only [hf] at hst
    rw [storeCells, blk_add]
    simp only [Sem.run_bind]
    rw [show (store ⟨b, off + i, none⟩ v).run P w = .ok () (w.setCell ⟨b, off + i, none⟩ v) from by simpa using hst]
    exact hr
theorem r_store {t : TypeId} {x y : Operand} {b off n : Nat} {cs : Array Value} {u : TypeId} {S : Nat → Prop} {w0 : World} {L : List Res} (i : Nat) (h : o.op = .store t x y) (hn : Sized P t n) (hx : ρ x = .pointer (some ⟨b, off, none⟩))
    (hL : Has w L) (hE : Ext S w0 w) (hi : L[i]? = some (.blk b (.cells cs u (0, 0)))) (hv : Nat.beq (ρ y).cells.size n = true) (h1 : (ρ y).cells.toList.all Value.oneCell' = true) (hl : Nat.ble (off + n) cs.size = true) (hS : b < w0.heap.size → S b) :
    ∃ w', (execOp ρ o).run P w = .ok .skip w' ∧ Has w' (L.set i (.blk b (.cells (putAt cs off (ρ y).cells.toList) u (0, 0)))) ∧ Ext S w0 w' ∧ w'.heap.size = w.heap.size ∧ (∀ k, k ≠ b → w'.heap[k]? = w.heap[k]?) := by
  have hv' : (ρ y).cells.size = n := Nat.eq_of_beq_eq_true hv
  have hl' : off + n ≤ cs.size := Nat.le_of_ble_eq_true hl
  obtain ⟨w', hr, hb', hk, h2, h3, h4, h5⟩ := run_storeCells (P := P) (b := b) (t := u) (ρ y).cells.toList w cs off 0 (hL.get i hi) (by simp; omega) (List.all_eq_true.1 h1)
  refine ⟨w', ?_, hL.setAt (r' := .blk b _) i hi (by rw [Nat.add_zero] at hb'; exact hb') (fun c hc => .inl hc) (fun k _ hne => hk k (fun e => hne (by rw [e]; rfl))), ⟨h2.trans hE.os, h3.trans hE.tape, h4.trans hE.output, by rw [h5]; exact hE.size, fun k hk0 hs => ?_⟩, h5, hk⟩
  · simp [execOp, h, Instr.storeAt, Instr.sureAddr, hx, storeVar, hn w, hv', hr]
  · have hkb : k ≠ b := fun e => hs (by subst e; exact hS hk0)
    rw [hk k hkb]
    exact hE.block k hk0 hs

/-! ### New blocks -/
theorem r_box {t : TypeId} {x : Operand} (h : o.op = .box t x) : (execOp ρ o).run P w = .ok (.value (.pointer (some ⟨w.heap.size, 0, none⟩))) (w.alloc (.cells (ρ x).cells t)) := by
  simp [execOp, h, Instr.box, newVar, newRow]
theorem r_alloc {t : TypeId} {z : Value} (h : o.op = .alloc t) (hz : ∀ w, (zeroValue t).run P w = .ok z w) : (execOp ρ o).run P w = .ok (.value (.pointer (some ⟨w.heap.size, 0, none⟩))) (w.alloc (.cells z.cells t)) := by
  simp [execOp, h, Instr.alloc, hz w, newVar, newRow]
theorem r_makeMap {t : TypeId} (h : o.op = .makeMap t none) : (execOp ρ o).run P w = .ok (.value (.map (some w.heap.size))) (w.alloc (.map #[] 0)) := by
  simp [execOp, h, Instr.makeMap]
theorem r_buildSlice {t el : TypeId} {n sz : Nat} {ps : Array (Nat × Operand)} {z : Value} {cells : Array Value} (h : o.op = .buildSlice t n ps) (hu : P.underlying t = some (.slice el)) (hs : Sized P el sz) (hz : ∀ w, (zeroValue el).run P w = .ok z w) (hn0 : Nat.blt 0 (n * sz) = true) (hn : Nat.ble (n * sz) 16777216 = true)
    (hf : Instr.fill (fun i => some (i * sz, sz)) ((List.range (n * sz)).map (z.cells[· % z.cells.size]!)).toArray (ps.toList.map fun (i, x) => (i, ρ x)) = some cells) : (execOp ρ o).run P w = .ok (.value (.slice (some ⟨w.heap.size, 0, none⟩) n n)) (w.alloc (.cells cells el)) := by
  have h0 : ¬ n * sz = 0 := by have := Nat.le_of_ble_eq_true hn0; omega
  have h1 : ¬ n * sz > 2 ^ 24 := by have := Nat.le_of_ble_eq_true hn; omega
  have hr : (Array.range (n * sz)).map (z.cells[· % z.cells.size]!) = ((List.range (n * sz)).map (z.cells[· % z.cells.size]!)).toArray := by
    apply Array.ext'
    simp
  rw [← hr] at hf
  have hp : ps.toList.map (fun (i, x) => (i, ρ x)) = (ps.map fun (i, x) => (i, ρ x)).toList := by simp
  rw [hp] at hf
  simp only [execOp, h, Instr.buildSlice, Sem.run_bind, run_underlying hu, hs w, Result.andThen_ok, if_neg h1, if_neg h0, Sem.run_pure, hz w, hf]
  simp [newRow]
theorem r_buildSlice0 {t el : TypeId} {sz : Nat} (h : o.op = .buildSlice t 0 #[]) (hu : P.underlying t = some (.slice el)) (hs : Sized P el sz) : (execOp ρ o).run P w = .ok (.value (.slice (some ⟨w.heap.size, 0, none⟩) 0 0)) (w.alloc (.cells #[] el)) := by
  have hr : (Array.range 0).map (fun _ => (default : Value)) = #[] := by simp
  simp [execOp, h, Instr.buildSlice, run_underlying hu, hs w, Instr.fill, newRow, hr]
end
end Go.Proofs.YtndophlnapjkhaaDoor.Vc
