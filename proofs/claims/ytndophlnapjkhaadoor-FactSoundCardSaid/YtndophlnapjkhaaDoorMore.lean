/- More steps of walks: scopes, labels, slices made, maps gone through. Conditions: those of each statement. -/
import Derived.Test.YtndophlnapjkhaaDoorFrame
import Derived.Scope
import Derived.Laws.MakeOwn
import Derived.Laws.OwnMore
namespace Go.Proofs.YtndophlnapjkhaaDoor.Vc
open Go Go.RowKit
set_option linter.unusedVariables false
set_option linter.unusedSimpArgs false
@[reducible] def Post.scope (Q : Post) : Post
  | .goto _, _, _ => False
  | x, e, w => Q x e w
theorem c_scope {P : Program} {n : Nat} {Q : Post} {e : Env} {w : World} {c : Code} (h : cwp P n c (Post.scope Q) e w) : cwp P n (.scope c) Q e w := fun a ha =>
  wp_scope_straight (wp_mono (h a ha) fun x a w hq => by
    obtain ⟨e1, ha1, hq⟩ := hq
    cases x <;> first | exact ⟨e1, ha1, hq⟩ | exact hq.elim)
theorem Post.scope_panic {Q : Post} (h : ∀ c e w, ¬ Q (.panic c) e w) : ∀ c e w, ¬ Post.scope Q (.panic c) e w := h
section
variable {P : Program} {w w0 : World} {ρ : Operand → Value} {o : Oper} {S : Nat → Prop} {L : List Res}
theorem ext0_grown {w w' : World} (h : w.grownBy w' none) : Ext0 w w' := ⟨h.os, h.tape, h.output, h.size, fun k hk _ => h.block k hk (by simp)⟩
/-- 'make([]T, 0, c)', as a row of one's own. -/
theorem n_make0 {t el : TypeId} {x y : Operand} {z : Value} {sz bytes c : Nat} {kl kc : IntKind} (h : o.op = .makeSlice t x y) (hu : P.underlying t = some (.slice el)) (hinfo : (P.info? el).map (fun i => (i.zero, i.size, i.bytes)) = some (some z, sz, bytes))
    (hx : ρ x = .int kl 0) (hy : ρ y = .int kc (c : Nat)) (hL : Has w L) (hE : Ext S w0 w) (hb : bytes * c ≤ 281474976710656) (h63 : c ≤ 9223372036854775807) :
    ∃ v w1, (execOp ρ o).run P w = .ok (.value v) w1 ∧ ∃ b, v = .slice (some ⟨b, 0, none⟩) 0 c ∧ w0.heap.size ≤ b ∧ Has w1 (.row w0.heap.size el sz v 0 [] :: L) ∧ Ext S w0 w1 ∧ Ext0 w w1 := by
  obtain ⟨i0, hinf, hzz⟩ := Option.map_eq_some_iff.1 hinfo
  simp only [Prod.mk.injEq] at hzz
  obtain ⟨hz0, hz1, hz2⟩ := hzz
  obtain ⟨w', hr, hown, hg⟩ := run_make_own (P := P) (w := w) w0.heap.size t el i0 z sz hu hinf hz0 hz1 kl kc c (by rw [hz2]; exact hb) (by unfold maxLen; omega) hE.size
  have h0 := ext0_grown hg
  refine ⟨_, w', by simp [execOp, h, hx, hy, hr], w.heap.size, rfl, hE.size, hL.cons h0 (r := .row w0.heap.size el sz _ 0 []) hown (fun b hb => ?_), hE.step0 h0, h0⟩
  simp [Res.foot, Value.ownBlock] at hb
  omega
theorem n_make {t el : TypeId} {x y : Operand} {z : Value} {sz bytes c : Nat} {kl kc : IntKind} (h : o.op = .makeSlice t x y) (hu : P.underlying t = some (.slice el)) (hinfo : (P.info? el).map (fun i => (i.zero, i.size, i.bytes)) = some (some z, sz, bytes))
    (hx : ρ x = .int kl (c : Nat)) (hy : ρ y = .int kc (c : Nat)) (hL : Has w L) (hE : Ext S w0 w) (hb : bytes * c ≤ 281474976710656) (h63 : c ≤ 9223372036854775807) :
    ∃ v w1, (execOp ρ o).run P w = .ok (.value v) w1 ∧ ∃ b, v = .slice (some ⟨b, 0, none⟩) c c ∧ w0.heap.size ≤ b ∧ Has w1 (.blk b (.cells (madeCells z.cells (c * sz)) el (0, 0)) :: L) ∧ Ext S w0 w1 ∧ Ext0 w w1 := by
  obtain ⟨i0, hinf, hzz⟩ := Option.map_eq_some_iff.1 hinfo
  simp only [Prod.mk.injEq] at hzz
  obtain ⟨hz0, hz1, hz2⟩ := hzz
  subst hz1
  have hb2 : (i0.bytes : Int) * (c : Int) ≤ 281474976710656 := by
    have h : ((bytes * c : Nat) : Int) ≤ 281474976710656 := by omega
    rw [hz2]
    rwa [Int.natCast_mul] at h
  have hr := run_make (P := P) w t el i0 z hu hinf hz0 kl kc (c : Nat) (c : Nat) (by omega) (by omega) hb2 (by omega)
  simp only [Int.toNat_natCast] at hr
  exact ⟨_, _, by simp [execOp, h, hx, hy, hr], w.heap.size, rfl, hE.size, hL.alloc _, hE.alloc _, (Ext.refl _ w).alloc _⟩
end
section
variable {κ ν : Type} [DecidableEq κ] {P : Program} {w w0 : World} {ρ : Operand → Value} {o : Oper} {kt et t : TypeId} {enc : κ → Value} {venc : ν → Value} {m : List (κ × ν)} {b : Nat} {S : Nat → Prop} {L : List Res}
theorem n_range {x : Operand} (h : o.op = .range t x) (hu : P.underlying t = some (.map kt et)) (hx : ρ x = .map (some b)) (hb : w.heap[b]? = some (mapObj enc venc m)) (hL : Has w L) (hE : Ext S w0 w) :
    ∃ v w1, (execOp ρ o).run P w = .ok (.value v) w1 ∧ ∃ it, v = .pointer (some ⟨it, 0, none⟩) ∧ w0.heap.size ≤ it ∧ Has w1 (.blk it (.mapIter (some b) m.length #[] m.length) :: L) ∧ Ext S w0 w1 ∧ Ext0 w w1 :=
  ⟨_, _, r_range h hu hx hb, _, rfl, hE.size, hL.alloc _, hE.alloc _, (Ext.refl _ w).alloc _⟩
theorem n_next {x : Operand} {it : Nat} {seen : Array Nat} (i : Nat) (h : o.op = .next x false) (hx : ρ x = .pointer (some ⟨it, 0, none⟩)) (hb : w.heap[b]? = some (mapObj enc venc m))
    (hL : Has w L) (hE : Ext S w0 w) (hi : L[i]? = some (.blk it (.mapIter (some b) m.length seen m.length))) (hS : it < w0.heap.size → S it) :
    ∃ v w1, (execOp ρ o).run P w = .ok (.value v) w1 ∧ ((v = .tuple #[.bool false] ∧ (∀ j, j < m.length → j ∈ seen) ∧ Has w1 L ∧ Ext S w0 w1) ∨
      (∃ (j : Nat) (q : κ × ν), v = .tuple #[.bool true, enc q.1, venc q.2] ∧ m[j]? = some q ∧ j ∉ seen ∧ Has w1 (L.set i (.blk it (.mapIter (some b) m.length (seen.push j) m.length))) ∧ Ext S w0 w1)) := by
  rcases r_next (P := P) i h hx hb hL hE hi hS with ⟨h1, w', h2, h3, h4, _⟩ | ⟨j, q, w', h1, h2, h3, h4, h5, _⟩
  · exact ⟨_, w', h2, .inl ⟨rfl, h1, h3, h4⟩⟩
  · exact ⟨_, w', h3, .inr ⟨j, q, rfl, h1, h2, h4, h5⟩⟩
end
/-! ### A loop, round by round -/
section
variable {P : Program} {n : Nat} {Q : Post} {e : Env} {w : World} {c : Code}
def unroll (P : Program) (n : Nat) (c : Code) (Q : Post) : Nat → Env → World → Prop
  | 0 => fun _ _ => False
  | m + 1 => fun e w => cwp P n c (Post.then (unroll P n c Q m) Q) e w
theorem u_succ {m : Nat} (h : cwp P n c (Post.then (unroll P n c Q m) Q) e w) : unroll P n c Q (m + 1) e w := h
theorem c_unroll (m : Nat) (h : unroll P n c Q m e w) : cwp P n (.loop c) Q e w := by
  intro a ha b k cs
  have key : ∀ m a e w, Agrees n a e → unroll P n c Q m e w →
      ∃ x a' w', lift n Q x a' w' ∧ Arrives P (lone (b.at a (.code c :: .inLoop c :: k)) cs w) b k cs x a' w' := by
    intro m
    induction m with
    | zero => intro a e w _ h; exact h.elim
    | succ m ih =>
      intro a e w ha h
      obtain ⟨x, a₁, w₁, ⟨e₁, ha₁, hq⟩, harr⟩ := h a ha b (.inLoop c :: k) cs
      cases x with
      | normal =>
        obtain ⟨x₂, a₂, w₂, hq₂, harr₂⟩ := ih a₁ e₁ w₁ ha₁ hq
        exact ⟨x₂, a₂, w₂, hq₂, .of_steps (Steps.trans harr (.one step_inLoop)) harr₂⟩
      | exit id => exact ⟨_, a₁, w₁, ⟨e₁, ha₁, hq⟩, .pass (x := .inLoop c) rfl (fun _ _ => .inl (by simp)) harr⟩
      | goto l => exact ⟨_, a₁, w₁, ⟨e₁, ha₁, hq⟩, .pass (x := .inLoop c) rfl (fun _ _ => .inl (by simp)) harr⟩
      | ret => exact ⟨_, a₁, w₁, ⟨e₁, ha₁, hq⟩, .pass (x := .inLoop c) rfl (fun _ _ => .inl (by simp)) harr⟩
      | panic ch => exact ⟨_, a₁, w₁, ⟨e₁, ha₁, hq⟩, .pass (x := .inLoop c) rfl (fun _ _ => .inl (by simp)) harr⟩
      | outgrown => exact ⟨_, a₁, w₁, ⟨e₁, ha₁, hq⟩, .pass (x := .inLoop c) rfl (fun _ _ => .inl (by simp)) harr⟩
  obtain ⟨x, a', w', hq, harr⟩ := key m a e w ha h
  exact ⟨x, a', w', hq, .of_steps (.one step_loop) harr⟩
end
theorem ownsRow_base {w : World} {base base' e sz n : Nat} {v : Value} {xs : List Value} (h : w.ownsRow base e sz v n xs) (hb : base' ≤ base) : w.ownsRow base' e sz v n xs := by
  refine ⟨h.1, ?_⟩
  rcases h.2 with h2 | ⟨g, cap, cur, h1, h2, h3⟩
  · exact .inl h2
  · exact .inr ⟨g, cap, cur, h1, Nat.le_trans hb h2, h3⟩
/-! ### More than one operation may come up -/
section
variable {P : Program} {n : Nat} {ops : Array Oper} {Q : Post} {S : World → Prop} {fuel : Nat} {listed : Array Bool} {e : Env} {w : World} {o : Oper}
def hop (P : Program) (n : Nat) (ops : Array Oper) (Q : Post) (S : World → Prop) (fuel : Nat) (listed : Array Bool) (e : Env) (w : World) (i : Nat) : Prop :=
  ∀ a, Agrees n a e → wpOp P ops (lift n Q) i (fun a' w' => S w' ∧ wpAnyH P .any ops (lift n Q) S fuel (listed.setIfInBounds i true) a' w') a w
def allHop (P : Program) (n : Nat) (ops : Array Oper) (Q : Post) (S : World → Prop) (fuel : Nat) (listed : Array Bool) (e : Env) (w : World) : List Nat → Prop
  | [] => True
  | i :: r => hop P n ops Q S fuel listed e w i ∧ allHop P n ops Q S fuel listed e w r
theorem allHop_mem : ∀ {l : List Nat}, allHop P n ops Q S fuel listed e w l → ∀ i ∈ l, hop P n ops Q S fuel listed e w i
  | _ :: _, h, i, hi => by
    rcases List.mem_cons.1 hi with rfl | hi
    · exact h.1
    · exact allHop_mem h.2 i hi
theorem h_many (l : List Nat) (hr : ((Region.ready .any ops listed == l) && !l.isEmpty) = true) (h : allHop P n ops Q S fuel listed e w l) : hwp P n ops Q S (fuel + 1) listed e w := by
  rw [Bool.and_eq_true, beq_iff_eq] at hr
  intro a ha
  refine wpAnyH_all hr.1 (fun hl => ?_) fun j hj => allHop_mem h j hj a ha
  rw [hl] at hr
  exact absurd hr.2 (by decide)
theorem o_new (i : Nat) {R : Value → World → Prop} {t : Nat} (hi : ops[i]? = some o) (hd : o.dst = some t) (ht : Nat.blt t n = true) (hw : Region.wanted o (yieldedE ops e) = true) (h : ∃ v w1, (execOp (ev e) o).run P w = .ok (.value v) w1 ∧ R v w1)
    (k : ∀ v w1, R v w1 → S w1 ∧ hwp P n ops Q S fuel (listed.setIfInBounds i true) (e.put t v) w1) : hop P n ops Q S fuel listed e w i := by
  obtain ⟨v, w1, hr1, hR⟩ := h
  intro a ha
  unfold wpOp
  simp only [hi]
  rw [if_pos (by rw [wanted_eq ha]; exact hw)]
  refine .inl ?_
  simp only [Oper.wp, ha.eval, hr1, Oper.upon, hd]
  exact ⟨(k v w1 hR).1, (k v w1 hR).2 _ (ha.put t (Nat.le_of_ble_eq_true ht) v)⟩
theorem o_new_do (i : Nat) {R : World → Prop} (hi : ops[i]? = some o) (hd : o.dst = none) (hw : Region.wanted o (yieldedE ops e) = true) (h : ∃ w1, (execOp (ev e) o).run P w = .ok .skip w1 ∧ R w1)
    (k : ∀ w1, R w1 → S w1 ∧ hwp P n ops Q S fuel (listed.setIfInBounds i true) e w1) : hop P n ops Q S fuel listed e w i := by
  obtain ⟨w1, hr1, hR⟩ := h
  intro a ha
  unfold wpOp
  simp only [hi]
  rw [if_pos (by rw [wanted_eq ha]; exact hw)]
  refine .inl ?_
  simp only [Oper.wp, ha.eval, hr1, Oper.upon, hd]
  exact ⟨(k w1 hR).1, (k w1 hR).2 _ ha⟩
theorem o_by (i : Nat) {f : FuncId} {args : List Value} {R : Ending → World → Prop} {t : Nat} (hi : ops[i]? = some o) (hd : o.dst = some t) (ht : Nat.blt t n = true) (hw : Region.wanted o (yieldedE ops e) = true) (h : (execOp (ev e) o).run P w = .ok (.enter f args.toArray) w) (hc : Calls P f args.toArray w R)
    (k : ∀ en w', R en w' → ∃ v, en = .returned v ∧ S w' ∧ hwp P n ops Q S fuel (listed.setIfInBounds i true) (e.put t v) w') : hop P n ops Q S fuel listed e w i := by
  intro a ha
  unfold wpOp
  simp only [hi]
  rw [if_pos (by rw [wanted_eq ha]; exact hw)]
  refine .inl ?_
  simp only [Oper.wp, ha.eval, h, Oper.upon, hd]
  refine Calls.mono hc fun en w' he => ?_
  obtain ⟨v, rfl, hs, hk⟩ := k en w' he
  exact ⟨hs, hk _ (ha.put t (Nat.le_of_ble_eq_true ht) v)⟩
theorem Has.front {w : World} : ∀ {L : List Res} (_ : Has w L) (i : Nat) {r : Res}, L[i]? = some r → Has w (r :: L.eraseIdx i)
  | p :: L, h, 0, r, hi => by
    have : p = r := by simpa using hi
    subst this
    exact h
  | p :: L, h, i + 1, r, hi => by
    have hi' : L[i]? = some r := by simpa using hi
    have ih := Has.front h.2.2 i hi'
    refine ⟨ih.1, fun q hq b hb hqb => ?_, h.1, fun q hq => h.2.1 q (List.mem_of_mem_eraseIdx hq), ih.2.2⟩
    rcases List.mem_cons.1 hq with rfl | hq
    · exact h.2.1 r (List.mem_of_getElem? hi') b hqb hb
    · exact ih.2.1 q hq b hb hqb
end
/-! ### A result that stands in memory -/
@[reducible] def BackC (t : Nat) (R : Addr → World → Prop) : Post
  | .normal, e, w | .ret, e, w => ∃ a, e t = .pointer (some a) ∧ R a w
  | _, _, _ => False
theorem calls_cell {P : Program} {w : World} {f : FuncId} {fn : Func} {c : Code} (t : Nat) (ty : TypeId) {n : Nat} {args : List Value} {R : Ending → World → Prop} (hf : P.funcs[f]? = some fn) (hb : fn.body = some c) (hn : Nat.ble args.length fn.ntmps = true)
    (hr : fn.results = #[.cell t ty]) (ha : Agg P ty true) (hs : Sized P ty n) (h : cwp P fn.ntmps c (BackC t fun a w' => ∃ vs : List Value, vs.length = n ∧ (∀ j v, vs[j]? = some v → w'.cell? (a.add j) = some v) ∧ R (.returned (.agg vs.toArray)) w') (Env.of args) w) : Calls P f args.toArray w R := by
  refine calls_of_wp hf hb ?_
  refine wp_mono (h _ (agrees_start args (Nat.le_of_ble_eq_true hn))) fun x a w' hq => ?_
  obtain ⟨e, hag, hq⟩ := hq
  have key : ∀ {w'}, (∃ a, e t = .pointer (some a) ∧ ∃ vs : List Value, vs.length = n ∧ (∀ j v, vs[j]? = some v → w'.cell? (a.add j) = some v) ∧ R (.returned (.agg vs.toArray)) w') → ∃ v, (results fn a.tmps).run P w' = .ok v w' ∧ R (.returned v) w' := by
    rintro w' ⟨ad, he, vs, hl, hc, hR⟩
    have h1 := hag.get t
    have hload : (loadVar ty ad).run P w' = .ok (.agg vs.toArray) w' := by
      subst hl
      simp [loadVar, ha w', hs w', run_loadCells_list (P := P) (w := w') ad vs hc]
    refine ⟨.agg vs.toArray, ?_, hR⟩
    rw [he, Array.getD_eq_getD_getElem?] at h1
    simp [results, hr, h1, asAddr, hload]
  cases x with
  | normal => exact ⟨hag.defers, key hq⟩
  | ret => exact ⟨hag.defers, key hq⟩
  | _ => exact hq.elim
theorem blk_raw {w : World} {b : Nat} {cs : Array Value} {t : TypeId} {fr : Nat × Nat} {ys : List Value} (hb : w.heap[b]? = some (.cells cs t fr)) (h : cs.toList = ys) (j : Nat) (u : Value) (hj : ys[j]? = some u) : w.cell? ((⟨b, 0, none⟩ : Addr).add j) = some u := by
  rw [blk_add, blk_cell hb, Nat.zero_add]
  rw [← h] at hj
  simpa using hj
/-- Pairs as cells. -/
def cells2 (p : Int × Int) : List Value := [.int .i64 p.1, .int .i64 p.2]
theorem Els.pairs (w : World) (l : List (Int × Int)) : Els w 2 RPair l (l.map cells2) := by
  refine ⟨by simp, fun i x cs h1 h2 => ?_⟩
  rw [List.getElem?_map, h1] at h2
  cases h2
  exact ⟨rfl, rfl⟩
theorem Sl.pairs_at {w : World} {base e n n' c : Nat} {A : Option Addr} {l : List (Int × Int)} (h : w.ownsRow base e 2 (.slice A n' c) n (l.map cells2).flatten) : Sl w 2 RPair A n' c l := by
  have hn : l.length = n := by
    have := h.1
    rw [List.length_flatten, List.map_map] at this
    have h2 : (List.map (List.length ∘ cells2) l).sum = l.length * 2 := by
      clear h this
      induction l with
      | nil => rfl
      | cons x r ih => simp only [List.map_cons, List.sum_cons, ih, List.length_cons, Function.comp_apply, cells2, List.length_nil]; omega
    omega
  obtain ⟨A', c', hv, hs, _⟩ := Sl.ofRow h (Els.pairs w l) hn
  injection hv with h1 h2 h3
  subst h1; subst h2; subst h3
  exact hs
theorem fill_pair (a b : Int) : Instr.fill (fun i => some (i * 2, 2)) ((List.range (1 * 2)).map ((Value.agg #[.int .i64 0, .int .i64 0]).cells[· % (Value.agg #[.int .i64 0, .int .i64 0]).cells.size]!)).toArray [(0, .agg #[.int .i64 a, .int .i64 b])] = some #[.int .i64 a, .int .i64 b] := by rfl
theorem pairs_snoc (l : List (Int × Int)) (q : Int × Int) : (l.map cells2).flatten ++ cells2 q = ((l ++ [q]).map cells2).flatten := by simp
end Go.Proofs.YtndophlnapjkhaaDoor.Vc
