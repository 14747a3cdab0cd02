/- Operations that turn the world, as steps of a walk: what is held behind them. For any program whose types are as the premises say. -/
import Derived.Test.YtndophlnapjkhaaDoorCall
namespace Go.Proofs.YtndophlnapjkhaaDoor.Vc
open Go Go.RowKit
set_option linter.unusedSimpArgs false
set_option linter.unusedSectionVars false
section
variable {P : Program} {n : Nat} {Q : Post} {e : Env} {w : World} {ops : Array Oper} {rest : List Oper} {o : Oper}
theorem l_new {R : Value → World → Prop} {t : Nat} (hd : o.dst = some t) (ht : Nat.blt t n = true) (hw : Region.wanted o (yieldedE ops e) = true) (h : ∃ v w1, (execOp (ev e) o).run P w = .ok (.value v) w1 ∧ R v w1) (k : ∀ v w1, R v w1 → lwp P n ops Q rest (e.put t v) w1) : lwp P n ops Q (o :: rest) e w := by
  obtain ⟨v, w1, hr, hR⟩ := h
  exact l_val hd ht hw hr (k v w1 hR)
theorem l_new_do {R : World → Prop} (hd : o.dst = none) (hw : Region.wanted o (yieldedE ops e) = true) (h : ∃ w1, (execOp (ev e) o).run P w = .ok .skip w1 ∧ R w1) (k : ∀ w1, R w1 → lwp P n ops Q rest e w1) : lwp P n ops Q (o :: rest) e w := by
  obtain ⟨w1, hr, hR⟩ := h
  exact l_do hd hw hr (k w1 hR)
/-- A call by its contract. -/
theorem l_by {f : FuncId} {args : List Value} {R : Ending → World → Prop} {t : Nat} (hd : o.dst = some t) (ht : Nat.blt t n = true) (hw : Region.wanted o (yieldedE ops e) = true) (h : (execOp (ev e) o).run P w = .ok (.enter f args.toArray) w) (hc : Calls P f args.toArray w R)
    (k : ∀ en w', R en w' → ∃ v, en = .returned v ∧ lwp P n ops Q rest (e.put t v) w') : lwp P n ops Q (o :: rest) e w := l_call hd ht hw h (hc.mono k)
variable {S : World → Prop} {fuel : Nat} {listed : Array Bool}
/-- What is kept while a row of operations runs in an open order. -/
def Keep (L : List Res) (T : Nat → Prop) (w0 : World) : World → Prop := fun W => Has W L ∧ Ext T w0 W
theorem c_draw {id : Nat} {l : List Oper} {L : List Res} {T : Nat → Prop} {w0 : World} (hm : P.follows .mixedOrders = true) (_ : Has w L) (_ : Ext T w0 w) (h : hwp P n l.toArray Q (Keep L T w0) l.toArray.size (Array.replicate l.toArray.size false) e w.drew) : cwp P n (.region id l.toArray true) Q e w :=
  c_any (Keep L T w0) hm h
theorem h_new (i : Nat) {R : Value → World → Prop} {t : Nat} (hi : ops[i]? = some o) (hd : o.dst = some t) (hb : oneB n ops listed i t = true) (hw : Region.wanted o (yieldedE ops e) = true) (h : ∃ v w1, (execOp (ev e) o).run P w = .ok (.value v) w1 ∧ R v w1)
    (k : ∀ v w1, R v w1 → S w1 ∧ hwp P n ops Q S fuel (listed.setIfInBounds i true) (e.put t v) w1) : hwp P n ops Q S (fuel + 1) listed e w := by
  obtain ⟨v, w1, hr1, hR⟩ := h
  exact h_one i hi hd hb hw hr1 (k v w1 hR).1 (k v w1 hR).2
theorem h_new_do (i : Nat) {R : World → Prop} (hi : ops[i]? = some o) (hd : o.dst = none) (hb : oneB (n + 1) ops listed i 0 = true) (hw : Region.wanted o (yieldedE ops e) = true) (h : ∃ w1, (execOp (ev e) o).run P w = .ok .skip w1 ∧ R w1)
    (k : ∀ w1, R w1 → S w1 ∧ hwp P n ops Q S fuel (listed.setIfInBounds i true) e w1) : hwp P n ops Q S (fuel + 1) listed e w := by
  obtain ⟨w1, hr1, hR⟩ := h
  exact h_one_do i hi hd hb hw hr1 (k w1 hR).1 (k w1 hR).2
theorem h_by (i : Nat) {f : FuncId} {args : List Value} {R : Ending → World → Prop} {t : Nat} (hi : ops[i]? = some o) (hd : o.dst = some t) (hb : oneB n ops listed i t = true) (hw : Region.wanted o (yieldedE ops e) = true) (h : (execOp (ev e) o).run P w = .ok (.enter f args.toArray) w) (hc : Calls P f args.toArray w R)
    (k : ∀ en w', R en w' → ∃ v, en = .returned v ∧ S w' ∧ hwp P n ops Q S fuel (listed.setIfInBounds i true) (e.put t v) w') : hwp P n ops Q S (fuel + 1) listed e w := h_one_call i hi hd hb hw h (hc.mono k)
end
section
variable {P : Program} {w w0 : World} {ρ : Operand → Value} {o : Oper} {S : Nat → Prop} {L : List Res}
theorem n_box {t : TypeId} {x : Operand} (h : o.op = .box t x) (hL : Has w L) (hE : Ext S w0 w) :
    ∃ v w1, (execOp ρ o).run P w = .ok (.value v) w1 ∧ ∃ b, v = .pointer (some ⟨b, 0, none⟩) ∧ w0.heap.size ≤ b ∧ Has w1 (.blk b (.cells (ρ x).cells t (0, 0)) :: L) ∧ Ext S w0 w1 ∧ Ext0 w w1 :=
  ⟨_, _, r_box h, _, rfl, hE.size, hL.alloc _, hE.alloc _, (Ext.refl _ w).alloc _⟩
theorem n_alloc {t : TypeId} {z : Value} (h : o.op = .alloc t) (hz : ∀ w, (zeroValue t).run P w = .ok z w) (hL : Has w L) (hE : Ext S w0 w) :
    ∃ v w1, (execOp ρ o).run P w = .ok (.value v) w1 ∧ ∃ b, v = .pointer (some ⟨b, 0, none⟩) ∧ w0.heap.size ≤ b ∧ Has w1 (.blk b (.cells z.cells t (0, 0)) :: L) ∧ Ext S w0 w1 ∧ Ext0 w w1 :=
  ⟨_, _, r_alloc h hz, _, rfl, hE.size, hL.alloc _, hE.alloc _, (Ext.refl _ w).alloc _⟩
theorem n_makeMap {t : TypeId} (h : o.op = .makeMap t none) (hL : Has w L) (hE : Ext S w0 w) :
    ∃ v w1, (execOp ρ o).run P w = .ok (.value v) w1 ∧ ∃ b, v = .map (some b) ∧ w0.heap.size ≤ b ∧ Has w1 (.blk b (.map #[] 0) :: L) ∧ Ext S w0 w1 ∧ Ext0 w w1 :=
  ⟨_, _, r_makeMap h, _, rfl, hE.size, hL.alloc _, hE.alloc _, (Ext.refl _ w).alloc _⟩
/-- A slice written out, as a block. -/
theorem n_slice {t el : TypeId} {n sz : Nat} {ps : Array (Nat × Operand)} {z : Value} {cells : Array Value} (h : o.op = .buildSlice t n ps) (hu : P.underlying t = some (.slice el)) (hs : Sized P el sz) (hz : ∀ w, (zeroValue el).run P w = .ok z w) (hn0 : Nat.blt 0 (n * sz) = true) (hn : Nat.ble (n * sz) 16777216 = true)
    (hf : Instr.fill (fun i => some (i * sz, sz)) ((List.range (n * sz)).map (z.cells[· % z.cells.size]!)).toArray (ps.toList.map fun (i, x) => (i, ρ x)) = some cells) (hL : Has w L) (hE : Ext S w0 w) :
    ∃ v w1, (execOp ρ o).run P w = .ok (.value v) w1 ∧ ∃ b, v = .slice (some ⟨b, 0, none⟩) n n ∧ w0.heap.size ≤ b ∧ Has w1 (.blk b (.cells cells el (0, 0)) :: L) ∧ Ext S w0 w1 ∧ Ext0 w w1 :=
  ⟨_, _, r_buildSlice h hu hs hz hn0 hn hf, _, rfl, hE.size, hL.alloc _, hE.alloc _, (Ext.refl _ w).alloc _⟩
theorem n_slice0 {t el : TypeId} {sz : Nat} (h : o.op = .buildSlice t 0 #[]) (hu : P.underlying t = some (.slice el)) (hs : Sized P el sz) (hL : Has w L) (hE : Ext S w0 w) :
    ∃ v w1, (execOp ρ o).run P w = .ok (.value v) w1 ∧ ∃ b, v = .slice (some ⟨b, 0, none⟩) 0 0 ∧ w0.heap.size ≤ b ∧ Has w1 (.row w0.heap.size el sz v 0 [] :: L) ∧ Ext S w0 w1 ∧ Ext0 w w1 := by
  refine ⟨_, _, r_buildSlice0 h hu hs, _, rfl, hE.size, ?_, hE.alloc _, (Ext.refl _ w).alloc _⟩
  have hown : World.ownsRow (w.alloc (.cells #[] el)) w0.heap.size el sz (.slice (some ⟨w.heap.size, 0, none⟩) 0 0) 0 [] := ⟨by rw [Nat.zero_mul]; rfl, .inr ⟨w.heap.size, 0, #[], rfl, hE.size, (MapKept.heap_alloc w _).1, Nat.le_refl _, Nat.zero_le _, by rw [Nat.zero_mul]; rfl, by simp⟩⟩
  refine hL.cons ((Ext.refl _ w).alloc _) (r := .row w0.heap.size el sz (.slice (some ⟨w.heap.size, 0, none⟩) 0 0) 0 []) hown (fun b hb => ?_)
  simp [Res.foot, Value.ownBlock] at hb
  omega
/-- A block made by this call that is a slice's, seen as a row of one's own. -/
theorem Has.asRow {w : World} {L : List Res} {b el sz n : Nat} {cs : Array Value} (h : Has w (.blk b (.cells cs el (0, 0)) :: L)) {base : Nat} (hb : base ≤ b) (hn : cs.size = n * sz) (hm : n ≤ 9223372036854775807) : Has w (.row base el sz (.slice (some ⟨b, 0, none⟩) n n) n cs.toList :: L) := by
  have hown : w.ownsRow base el sz (.slice (some ⟨b, 0, none⟩) n n) n cs.toList := ⟨hn, .inr ⟨b, n, cs, rfl, hb, h.1, Nat.le_refl _, by unfold maxLen; omega, hn, by rw [← hn]; exact List.take_length⟩⟩
  refine ⟨hown, fun q hq c hc => h.2.1 q hq c ?_, h.2.2⟩
  simpa [Res.foot, Value.ownBlock] using hc
end
end Go.Proofs.YtndophlnapjkhaaDoor.Vc
