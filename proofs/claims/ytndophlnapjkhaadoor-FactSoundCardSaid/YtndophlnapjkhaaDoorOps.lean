/- Each operation's run as an equation: what it gives, and what it makes of the world, for any program whose types are as the premises say. Conditions: those of each statement. -/
import Derived.Test.YtndophlnapjkhaaDoorVc
namespace Go.Proofs.YtndophlnapjkhaaDoor.Vc
open Go Go.RowKit
set_option linter.unusedSimpArgs false

section
variable {P : Program} {w : World} {ρ : Operand → Value} {o : Oper}

/-! ### Values alone -/
theorem r_move {x : Operand} (h : o.op = .move x) : (execOp ρ o).run P w = .ok (.value (ρ x)) w := by simp [execOp, h]
theorem r_assign {x : Operand} (h : o.op = .assign x) : (execOp ρ o).run P w = .ok (.value (ρ x)) w := by simp [execOp, h]
theorem r_pick {c x y : Operand} {b : Bool} (h : o.op = .pick c x y) (hc : ρ c = .bool b) : (execOp ρ o).run P w = .ok (.value (if b then ρ x else ρ y)) w := by simp [execOp, h, hc, asBool]
theorem r_not {x : Operand} {t : TypeId} {b : Bool} (h : o.op = .unOp .not t x) (hx : ρ x = .bool b) : (execOp ρ o).run P w = .ok (.value (.bool (!b))) w := by simp [execOp, h, hx, Op.unary]
theorem r_nilCheck {x : Operand} {a : Addr} (h : o.op = .nilCheck x) (hx : ρ x = .pointer (some a)) : (execOp ρ o).run P w = .ok (.value (.pointer (some a))) w := by simp [execOp, h, hx]
theorem r_nilCheck_func {x : Operand} {f : FuncId} {u c : Array Value} (h : o.op = .nilCheck x) (hx : ρ x = .func (.func f) u c) : (execOp ρ o).run P w = .ok (.value (.func (.func f) u c)) w := by simp [execOp, h, hx]
theorem r_extract {x : Operand} {i : Nat} {vs : Array Value} {v : Value} (h : o.op = .extract x i) (hx : ρ x = .tuple vs) (hv : vs[i]? = some v) : (execOp ρ o).run P w = .ok (.value v) w := by simp [execOp, h, hx, Instr.extract, hv]
theorem r_makeFunc {f : Fn} {fs cs : Array Operand} (h : o.op = .makeFunc f fs cs) : (execOp ρ o).run P w = .ok (.value (.func f (fs.toList.map ρ).toArray (cs.toList.map ρ).toArray)) w := by
  have hm : ∀ xs : Array Operand, (xs.toList.map ρ).toArray = xs.map ρ := fun xs => by apply Array.ext'; simp
  rw [hm, hm]
  simp [execOp, h, Instr.makeFunc]

/-! ### Whole numbers -/
section
variable {x y : Operand} {t t' : TypeId} {k : IntKind} {a b : Int}
theorem r_add (h : o.op = .binOp .add t x y t') (hx : ρ x = .int k a) (hy : ρ y = .int k b) : (execOp ρ o).run P w = .ok (.value (.int k (k.wrap (a + b)))) w := by simp [execOp, h, hx, hy, eqGuard, binOp, Op.intArith]
theorem r_sub (h : o.op = .binOp .sub t x y t') (hx : ρ x = .int k a) (hy : ρ y = .int k b) : (execOp ρ o).run P w = .ok (.value (.int k (k.wrap (a - b)))) w := by simp [execOp, h, hx, hy, eqGuard, binOp, Op.intArith]
theorem r_mul (h : o.op = .binOp .mul t x y t') (hx : ρ x = .int k a) (hy : ρ y = .int k b) : (execOp ρ o).run P w = .ok (.value (.int k (k.wrap (a * b)))) w := by simp [execOp, h, hx, hy, eqGuard, binOp, Op.intArith]
theorem r_rem (h : o.op = .binOp .rem t x y t') (hx : ρ x = .int k a) (hy : ρ y = .int k b) (hb : b ≠ 0) : (execOp ρ o).run P w = .ok (.value (.int k (a.tmod b))) w := by simp [execOp, h, hx, hy, eqGuard, binOp, Op.intDiv, hb]
theorem r_quo (h : o.op = .binOp .quo t x y t') (hx : ρ x = .int k a) (hy : ρ y = .int k b) (hb : b ≠ 0) : (execOp ρ o).run P w = .ok (.value (.int k (k.wrap (a.tdiv b)))) w := by simp [execOp, h, hx, hy, eqGuard, binOp, Op.intDiv, hb]
theorem r_eql (h : o.op = .binOp .eql t x y t') (hx : ρ x = .int k a) (hy : ρ y = .int k b) : (execOp ρ o).run P w = .ok (.value (.bool (decide (a = b)))) w := by
  have : (a == b) = decide (a = b) := rfl
  simp [execOp, h, hx, hy, eqGuard, binOp, Op.intCmp, this]
theorem r_neq (h : o.op = .binOp .neq t x y t') (hx : ρ x = .int k a) (hy : ρ y = .int k b) : (execOp ρ o).run P w = .ok (.value (.bool (!decide (a = b)))) w := by
  have : (a != b) = !decide (a = b) := rfl
  simp [execOp, h, hx, hy, eqGuard, binOp, Op.intCmp, this]
theorem r_lss (h : o.op = .binOp .lss t x y t') (hx : ρ x = .int k a) (hy : ρ y = .int k b) : (execOp ρ o).run P w = .ok (.value (.bool (decide (a < b)))) w := by simp [execOp, h, hx, hy, eqGuard, binOp, Op.intCmp]
theorem r_leq (h : o.op = .binOp .leq t x y t') (hx : ρ x = .int k a) (hy : ρ y = .int k b) : (execOp ρ o).run P w = .ok (.value (.bool (decide (a ≤ b)))) w := by simp [execOp, h, hx, hy, eqGuard, binOp, Op.intCmp]
theorem r_gtr (h : o.op = .binOp .gtr t x y t') (hx : ρ x = .int k a) (hy : ρ y = .int k b) : (execOp ρ o).run P w = .ok (.value (.bool (decide (b < a)))) w := by simp [execOp, h, hx, hy, eqGuard, binOp, Op.intCmp]
theorem r_geq (h : o.op = .binOp .geq t x y t') (hx : ρ x = .int k a) (hy : ρ y = .int k b) : (execOp ρ o).run P w = .ok (.value (.bool (decide (b ≤ a)))) w := by simp [execOp, h, hx, hy, eqGuard, binOp, Op.intCmp]
end
/-! ### Strings, compared -/
theorem str_beq (a b : ByteArray) : (a.toList == b.toList) = decide (a = b) := by
  rw [Bool.eq_iff_iff, beq_iff_eq, decide_eq_true_iff]
  constructor
  · intro h
    rw [ByteArray.toList_eq, ByteArray.toList_eq] at h
    exact ByteArray.ext (Array.toList_inj.1 h)
  · rintro rfl; rfl
section
variable {x y : Operand} {t t' : TypeId} {a b : ByteArray}
theorem r_seql (h : o.op = .binOp .eql t x y t') (hx : ρ x = .string a) (hy : ρ y = .string b) : (execOp ρ o).run P w = .ok (.value (.bool (decide (a = b)))) w := by
  simp only [execOp, h, hx, hy, eqGuard, binOp, Op.stringOp, str_beq]; rfl
theorem r_sneq (h : o.op = .binOp .neq t x y t') (hx : ρ x = .string a) (hy : ρ y = .string b) : (execOp ρ o).run P w = .ok (.value (.bool (!decide (a = b)))) w := by
  simp only [execOp, h, hx, hy, eqGuard, binOp, Op.stringOp, str_beq]; rfl
theorem r_slss (h : o.op = .binOp .lss t x y t') (hx : ρ x = .string a) (hy : ρ y = .string b) : (execOp ρ o).run P w = .ok (.value (.bool (Op.bytesLess a.toList b.toList))) w := by
  simp only [execOp, h, hx, hy, eqGuard, binOp, Op.stringOp]; rfl
theorem r_sgtr (h : o.op = .binOp .gtr t x y t') (hx : ρ x = .string a) (hy : ρ y = .string b) : (execOp ρ o).run P w = .ok (.value (.bool (!(Op.bytesLess a.toList b.toList || decide (a = b))))) w := by
  simp only [execOp, h, hx, hy, eqGuard, binOp, Op.stringOp, str_beq]; rfl
theorem r_sgeq (h : o.op = .binOp .geq t x y t') (hx : ρ x = .string a) (hy : ρ y = .string b) : (execOp ρ o).run P w = .ok (.value (.bool (!Op.bytesLess a.toList b.toList))) w := by
  simp only [execOp, h, hx, hy, eqGuard, binOp, Op.stringOp]; rfl
theorem r_sadd (h : o.op = .binOp .add t x y t') (hx : ρ x = .string a) (hy : ρ y = .string b) (hl : a.size + b.size ≤ 9223372036854775807) : (execOp ρ o).run P w = .ok (.value (.string (a ++ b))) w := by
  have : ¬ ((a.size + b.size : Nat) : Int) > IntKind.i64.max := by simp [IntKind.max, IntKind.signed, IntKind.bits]; omega
  simp only [execOp, h, hx, hy, eqGuard, binOp, Op.stringOp, if_neg this]; rfl
end

/-! ### The world: what has not turned; what certain blocks are -/
/-- Of the blocks that were there none has turned but those of S; nor have the streams. -/
structure Ext (S : Nat → Prop) (w w' : World) : Prop where
  os : w'.os = w.os
  tape : w'.tape = w.tape
  output : w'.output = w.output
  size : w.heap.size ≤ w'.heap.size
  block : ∀ k, k < w.heap.size → ¬ S k → w'.heap[k]? = w.heap[k]?
abbrev Ext0 : World → World → Prop := Ext fun _ => False
section
variable {S T : Nat → Prop} {w w1 w2 : World}
theorem Ext.refl (S : Nat → Prop) (w : World) : Ext S w w := ⟨rfl, rfl, rfl, Nat.le_refl _, fun _ _ _ => rfl⟩
theorem Ext.trans (h : Ext S w w1) (k : Ext S w1 w2) : Ext S w w2 := ⟨k.os.trans h.os, k.tape.trans h.tape, k.output.trans h.output, Nat.le_trans h.size k.size, fun i hi hs => (k.block i (Nat.lt_of_lt_of_le hi h.size) hs).trans (h.block i hi hs)⟩
theorem Ext.mono (h : Ext S w w1) (hs : ∀ k, S k → T k) : Ext T w w1 := ⟨h.os, h.tape, h.output, h.size, fun i hi ht => h.block i hi (fun hk => ht (hs i hk))⟩
/-- What the second step turns of the first world's blocks is of S. -/
theorem Ext.step (h : Ext S w w1) (k : Ext T w1 w2) (hs : ∀ i, i < w.heap.size → T i → S i) : Ext S w w2 := ⟨k.os.trans h.os, k.tape.trans h.tape, k.output.trans h.output, Nat.le_trans h.size k.size, fun i hi hn => (k.block i (Nat.lt_of_lt_of_le hi h.size) (fun ht => hn (hs i hi ht))).trans (h.block i hi hn)⟩
theorem Ext.step0 (h : Ext S w w1) (k : Ext0 w1 w2) : Ext S w w2 := h.step k (fun _ _ hf => hf.elim)
theorem Ext.alloc (h : Ext S w w1) (o : Obj) : Ext S w (w1.alloc o) := ⟨h.os, h.tape, h.output, by have := h.size; simp; omega, fun k hk hs => by rw [Below.heap_alloc _ _ _ (Nat.lt_of_lt_of_le hk h.size)]; exact h.block k hk hs⟩
theorem Ext.drew (h : Ext S w w1) : Ext S w w1.drew := ⟨h.os, h.tape, h.output, h.size, h.block⟩
theorem Ext.set (h : Ext S w w1) (b off : Nat) (v : Value) (hb : b < w.heap.size → S b) : Ext S w (w1.setCell ⟨b, off, none⟩ v) := ⟨h.os, h.tape, h.output, by have := h.size; simpa [World.setCell] using this, fun k hk hs => by
  rw [Below.heap_setCell _ _ _ _ (fun e => hs (by rw [e]; exact hb (by rw [← show k = b from e]; exact hk)))]; exact h.block k hk hs⟩
theorem Ext.below (h : Ext S w w1) (hs : ∀ k, S k → w.heap.size ≤ k) : Below w.heap.size w w1 := ⟨h.os, h.tape, h.output, h.size, fun k hk => h.block k hk (fun hS => by have := hs k hS; omega)⟩
theorem Ext.below0 (h : Ext0 w w1) : Below w.heap.size w w1 := h.below (fun _ hf => hf.elim)
theorem Ext0.of_below (h : Below w.heap.size w w1) : Ext0 w w1 := ⟨h.os, h.tape, h.output, h.size, fun k hk _ => h.block k hk⟩
theorem Ext.cell (h : Ext S w w1) {a : Addr} {v : Value} (hc : w.cell? a = some v) (hs : ¬ S a.block) : w1.cell? a = some v := by
  rw [World.cell?_of_block (w := w) (h.block a.block (World.block_lt_of_cell? w a hc) hs)]; exact hc
/-- Cells are in blocks of cells: they stay where S has maps alone. -/
theorem Ext.cell_map (h : Ext S w w1) (hs : ∀ k, S k → ∀ c t f, w.heap[k]? ≠ some (.cells c t f)) {a : Addr} {v : Value} (hc : w.cell? a = some v) : w1.cell? a = some v := by
  refine h.cell hc fun hk => ?_
  unfold World.cell? at hc
  split at hc
  · rename_i c t f hb
    exact hs _ hk _ _ _ hb
  · cases hc
end

/-- What one holds: a block, and what it is; a row of one's own (its block's number is at least base; nil has none). -/
inductive Res where
  | blk (b : Nat) (o : Obj)
  | row (base e sz : Nat) (v : Value) (n : Nat) (xs : List Value)
def Res.foot : Res → Option Nat
  | .blk b _ => some b
  | .row _ _ _ v _ _ => v.ownBlock
def Res.holds (w : World) : Res → Prop
  | .blk b o => w.heap[b]? = some o
  | .row base e sz v n xs => w.ownsRow base e sz v n xs
/-- Certain things that are held, all of them apart. -/
def Has (w : World) : List Res → Prop
  | [] => True
  | r :: L => r.holds w ∧ (∀ q ∈ L, ∀ b, r.foot = some b → q.foot ≠ some b) ∧ Has w L
section
variable {S : Nat → Prop} {w w1 : World} {L : List Res}
theorem Has.mem : ∀ {L : List Res}, Has w L → ∀ r ∈ L, r.holds w
  | _ :: _, h, r, hr => by
    rcases List.mem_cons.1 hr with rfl | hr
    · exact h.1
    · exact Has.mem h.2.2 r hr
theorem Has.get (h : Has w L) (i : Nat) {b : Nat} {o : Obj} (hi : L[i]? = some (.blk b o)) : w.heap[b]? = some o := h.mem (.blk b o) (List.mem_of_getElem? hi)
theorem Has.row (h : Has w L) (i : Nat) {base e sz n : Nat} {v : Value} {xs : List Value} (hi : L[i]? = some (.row base e sz v n xs)) : w.ownsRow base e sz v n xs := h.mem (.row base e sz v n xs) (List.mem_of_getElem? hi)
theorem ownsRow_lt {base e sz n : Nat} {v : Value} {xs : List Value} (h : w.ownsRow base e sz v n xs) {b : Nat} (hb : v.ownBlock = some b) : b < w.heap.size ∧ base ≤ b := by
  rcases h.2 with ⟨rfl, _⟩ | ⟨g, cap, cur, rfl, hg, hh, _⟩
  · simp [Value.ownBlock] at hb
  · have : g = b := by simpa [Value.ownBlock] using hb
    subst this
    exact ⟨(Array.getElem?_eq_some_iff.1 hh).1, hg⟩
theorem ownsRow_keep {base e sz n : Nat} {v : Value} {xs : List Value} (h : w.ownsRow base e sz v n xs) (hk : ∀ b, v.ownBlock = some b → w1.heap[b]? = w.heap[b]?) : w1.ownsRow base e sz v n xs := by
  obtain ⟨h1, h2⟩ := h
  refine ⟨h1, ?_⟩
  rcases h2 with h2 | ⟨g, cap, cur, rfl, hg, hh, r⟩
  · exact .inl h2
  · exact .inr ⟨g, cap, cur, rfl, hg, (hk g (by simp [Value.ownBlock])).trans hh, r⟩
theorem Res.lt {r : Res} (h : r.holds w) {b : Nat} (hb : r.foot = some b) : b < w.heap.size := by
  cases r with
  | blk c o =>
    have : c = b := by simpa [Res.foot] using hb
    subst this
    exact (Array.getElem?_eq_some_iff.1 (show w.heap[c]? = some o from h)).1
  | row base e sz v n xs => exact (ownsRow_lt (show w.ownsRow base e sz v n xs from h) hb).1
theorem Res.keep {r : Res} (h : r.holds w) (hk : ∀ b, r.foot = some b → w1.heap[b]? = w.heap[b]?) : r.holds w1 := by
  cases r with
  | blk c o => exact (hk c rfl).trans h
  | row base e sz v n xs => exact ownsRow_keep h hk
theorem Has.keep : ∀ {L : List Res}, Has w L → (∀ r ∈ L, ∀ b, r.foot = some b → w1.heap[b]? = w.heap[b]?) → Has w1 L
  | [], _, _ => trivial
  | r :: _, h, hk => ⟨Res.keep h.1 (hk r List.mem_cons_self), h.2.1, Has.keep h.2.2 (fun q hq => hk q (List.mem_cons_of_mem _ hq))⟩
theorem Has.lt (h : Has w L) : ∀ r ∈ L, ∀ b, r.foot = some b → b < w.heap.size := fun r hr _ hb => Res.lt (h.mem r hr) hb
theorem Has.ext (h : Has w L) (he : Ext S w w1) (hs : ∀ r ∈ L, ∀ b, r.foot = some b → ¬ S b) : Has w1 L := h.keep fun r hr b hb => he.block b (h.lt r hr b hb) (hs r hr b hb)
theorem Has.ext0 (h : Has w L) (he : Ext0 w w1) : Has w1 L := h.ext he (fun _ _ _ _ hf => hf)
theorem Has.drew (h : Has w L) : Has w.drew L := h.keep (fun _ _ _ _ => rfl)
theorem Has.cons (h : Has w L) (he : Ext0 w w1) {r : Res} (hr : r.holds w1) (hn : ∀ b, r.foot = some b → w.heap.size ≤ b) : Has w1 (r :: L) :=
  ⟨hr, fun q hq b hb hqb => by have := h.lt q hq b hqb; have := hn b hb; omega, h.ext0 he⟩
theorem Has.alloc (h : Has w L) (o : Obj) : Has (w.alloc o) (.blk w.heap.size o :: L) :=
  h.cons ((Ext.refl _ w).alloc o) (r := .blk w.heap.size o) (MapKept.heap_alloc w o).1 (fun b hb => by simp [Res.foot] at hb; omega)
theorem Has.nilRow (h : Has w L) (base e sz : Nat) : Has w (.row base e sz (.slice none 0 0) 0 [] :: L) :=
  ⟨⟨by simp, .inl ⟨rfl, rfl⟩⟩, fun q _ b hb => by simp [Res.foot, Value.ownBlock] at hb, h⟩
theorem Has.setAt : ∀ {L : List Res} (_ : Has w L) (i : Nat) {r r' : Res}, L[i]? = some r → r'.holds w1 → (∀ b, r'.foot = some b → r.foot = some b ∨ w.heap.size ≤ b) → (∀ k, k < w.heap.size → r.foot ≠ some k → w1.heap[k]? = w.heap[k]?) → Has w1 (L.set i r')
  | p :: L, h, 0, r, r', hi, h1, hf, hk => by
    have hp : p = r := by simpa using hi
    subst hp
    refine ⟨h1, fun q hq b hb hqb => ?_, h.2.2.keep fun q hq b hqb => hk b (h.2.2.lt q hq b hqb) (fun e => h.2.1 q hq b e hqb)⟩
    rcases hf b hb with h2 | h2
    · exact h.2.1 q hq b h2 hqb
    · have := h.2.2.lt q hq b hqb
      omega
  | p :: L, h, i + 1, r, r', hi, h1, hf, hk => by
    have hi' : L[i]? = some r := by simpa using hi
    have hr : r ∈ L := List.mem_of_getElem? hi'
    refine ⟨Res.keep h.1 fun b hb => hk b (Res.lt h.1 hb) (fun e => h.2.1 r hr b hb e), fun q hq b hb hqb => ?_, Has.setAt h.2.2 i hi' h1 hf hk⟩
    rcases List.mem_or_eq_of_mem_set hq with hq | rfl
    · exact h.2.1 q hq b hb hqb
    · rcases hf b hqb with h2 | h2
      · exact h.2.1 r hr b hb h2
      · have := Res.lt h.1 hb
        omega
theorem Has.sub : ∀ {L L' : List Res}, L'.Sublist L → Has w L → Has w L'
  | _, _, .slnil, _ => trivial
  | _, _, .cons _ hs, h => Has.sub hs h.2.2
  | _, _, .cons_cons _ hs, h => ⟨h.1, fun q hq => h.2.1 q (hs.subset hq), Has.sub hs h.2.2⟩
theorem Has.tail {r : Res} (h : Has w (r :: L)) : Has w L := h.2.2
theorem Has.erase : ∀ {L : List Res} (_ : Has w L) (i : Nat), Has w (L.eraseIdx i)
  | [], _, _ => trivial
  | _ :: _, h, 0 => h.2.2
  | _ :: _, h, i + 1 => ⟨h.1, fun q hq => h.2.1 q (List.mem_of_mem_eraseIdx hq), Has.erase h.2.2 i⟩
end
end
end Go.Proofs.YtndophlnapjkhaaDoor.Vc
