/- A row that is held on: grown in a callee, an element of it stored; rows of facts, each with its own numbers. Conditions: those of each statement. -/
import Derived.Test.YtndophlnapjkhaaDoorFind2
namespace Go.Proofs.YtndophlnapjkhaaDoor.Vc
open Go Go.RowKit
set_option linter.unusedVariables false
set_option linter.unusedSimpArgs false
section
variable {P : Program} {w : World} {ρ : Operand → Value} {o : Oper}
/-- 'append(v, ys...)', v a row that is held, which the caller may have made. -/
theorem r_append_own {x y : Operand} {t el : TypeId} {base sz n m c bytes : Nat} {v z : Value} {a : Addr} {xs ys : List Value} {S : Nat → Prop} {w0 : World} {L : List Res} (i : Nat) (h : o.op = .call { callee := .builtin .append, args := #[x, y], argTypes := #[t, t] })
    (hu : P.underlying t = some (.slice el)) (hinfo : (P.info? el).map (fun i => (i.zero, i.size, i.bytes)) = some (some z, sz, bytes)) (hz : z.cells.size = sz) (hsz : 0 < sz) (hx : ρ x = v) (hy : ρ y = .slice (some a) m c)
    (hL : Has w L) (hE : Ext S w0 w) (hi : L[i]? = some (.row base el sz v n xs)) (hlen : ys.length = m * sz) (hys : ∀ j u, ys[j]? = some u → w.cell? (a.add j) = some u) (h1 : ∀ u ∈ ys, u.oneCell' = true) (hbytes : (n + m) * bytes ≤ 140737488355328) (h63 : n + m ≤ 9223372036854775807) (hS : ∀ b, v.ownBlock = some b → b < w0.heap.size → S b) (hbw : base ≤ w.heap.size) :
    ∃ v' w', (execOp ρ o).run P w = .ok (.value v') w' ∧ Has w' (L.set i (.row base el sz v' (n + m) (xs ++ ys))) ∧ Ext S w0 w' ∧ (∀ b, v'.ownBlock = some b → b < w0.heap.size → S b) ∧ (∀ b, v'.ownBlock = some b → v.ownBlock = some b ∨ w.heap.size ≤ b) := by
  obtain ⟨i0, hinf, hzz⟩ := Option.map_eq_some_iff.1 hinfo
  simp only [Prod.mk.injEq] at hzz
  obtain ⟨hz0, hz1, hz2⟩ := hzz
  have hrow := hL.row i hi
  obtain ⟨v', w', hr, hown, hg, _, hat⟩ := run_append_own_at (P := P) w base t o.type el i0 z sz bytes hu hinf hz0 hz1 hz2 hz hsz v n xs hrow a m c ys hlen hys h1 (by simp only [maxLen]; omega) hbytes hbw
  have hat' : ∀ b, v'.ownBlock = some b → v.ownBlock = some b ∨ w.heap.size ≤ b := fun b hb => by
    rcases hat with hat | hat
    · exact .inl (by rw [← hat]; exact hb)
    · rw [hat] at hb
      injection hb with hb
      exact .inr (by omega)
  refine ⟨v', w', ?_, hL.setAt (r' := .row base el sz v' (n + m) (xs ++ ys)) i hi hown (fun b hb => hat' b hb) (fun k hk hne => hg.block k hk (fun e => hne (show v.ownBlock = some k from e.symm))), ⟨hg.os.trans hE.os, hg.tape.trans hE.tape, hg.output.trans hE.output, Nat.le_trans hE.size hg.size, fun k hk hs => ?_⟩, fun b hb hlt => ?_, hat'⟩
  · simp [execOp, h, resolve, invoke, builtin, hx, hy, hr]
  · rw [hg.block k (Nat.lt_of_lt_of_le hk hE.size) (fun e => hs (hS k e.symm hk))]
    exact hE.block k hk hs
  · rcases hat' b hb with h2 | h2
    · exact hS b h2 hlt
    · have := hE.size
      omega
end
theorem toList_putAt : ∀ (vs : List Value) (cs : Array Value) (i : Nat), i + vs.length ≤ cs.size → (putAt cs i vs).toList = cs.toList.take i ++ vs ++ cs.toList.drop (i + vs.length)
  | [], cs, i, _ => by simp [putAt]
  | v :: r, cs, i, h => by
    simp only [List.length_cons] at h
    rw [putAt, toList_putAt r _ (i + 1) (by simp; omega), Array.toList_setIfInBounds]
    have hlt : i < cs.toList.length := by simp; omega
    rw [List.take_add_one, List.getElem?_set, if_pos rfl, if_pos hlt, List.take_set_of_le (Nat.le_refl _), List.drop_set_of_lt (by omega)]
    simp only [Option.toList_some, List.append_assoc, List.cons_append, List.nil_append, List.length_cons]
    rw [show i + 1 + r.length = i + (r.length + 1) by omega]
section
variable {P : Program} {w w0 : World} {ρ : Operand → Value} {o : Oper} {S : Nat → Prop} {L : List Res}
/-- An element of a row that is held is stored. -/
theorem r_setRow {t : TypeId} {x y : Operand} {base el sz n cap g k : Nat} {xs vs : List Value} (i : Nat) (h : o.op = .store t x y) (hn : Sized P t sz) (hx : ρ x = .pointer (some ⟨g, k * sz, none⟩)) (hy : (ρ y).cells.toList = vs) (hvs : vs.length = sz) (h1 : vs.all Value.oneCell' = true)
    (hL : Has w L) (hE : Ext S w0 w) (hi : L[i]? = some (.row base el sz (.slice (some ⟨g, 0, none⟩) n cap) n xs)) (hk : k < n) (hS : g < w0.heap.size → S g) :
    ∃ w', (execOp ρ o).run P w = .ok .skip w' ∧ Has w' (L.set i (.row base el sz (.slice (some ⟨g, 0, none⟩) n cap) n (xs.take (k * sz) ++ vs ++ xs.drop (k * sz + sz)))) ∧ Ext S w0 w' ∧ w'.heap.size = w.heap.size ∧ (∀ c, c ≠ g → w'.heap[c]? = w.heap[c]?) := by
  have hrow := hL.row i hi
  rcases hrow.2 with ⟨h0, _⟩ | ⟨g', cap', cur, hv, hb, hh, hc, hm, hs, ht⟩
  · cases h0
  · injection hv with e1 e2 e3
    injection e1 with e1
    injection e1 with e1
    subst e1; subst e3
    have hil : i < L.length := (List.getElem?_eq_some_iff.1 hi).1
    have hL2 : Has w (L.set i (.blk g (.cells cur el (0, 0)))) := hL.setAt (r' := .blk g (.cells cur el (0, 0))) i hi hh (fun b hb => .inl (by rw [← hb]; rfl)) (fun _ _ _ => rfl)
    have hksz : k * sz + sz ≤ n * sz := by rw [← Nat.succ_mul]; exact Nat.mul_le_mul_right _ hk
    have hncap : n * sz ≤ cap * sz := Nat.mul_le_mul_right _ hc
    have hvl : (ρ y).cells.size = sz := by rw [← hvs, ← hy]; simp
    obtain ⟨w', hr, hL3, hE3, hz3, hk3⟩ := r_store (P := P) (w := w) (ρ := ρ) (o := o) (n := sz) (u := el) (cs := cur) i h hn hx hL2 hE (by simp [hil]) (by rw [hvl]; exact Nat.beq_refl _) (by rw [hy]; exact h1) (Nat.ble_eq_true_of_le (by omega)) hS
    rw [List.set_set] at hL3
    refine ⟨w', hr, ?_, hE3, hz3, hk3⟩
    have hbl := hL3.get i (by rw [List.getElem?_set, if_pos rfl, if_pos hil])
    have h4 := hL3.setAt (w1 := w') (r' := .row base el sz (.slice (some ⟨g, 0, none⟩) n cap) n (xs.take (k * sz) ++ vs ++ xs.drop (k * sz + sz))) i (by rw [List.getElem?_set, if_pos rfl, if_pos hil]) (by
      refine ⟨?_, .inr ⟨g, cap, _, rfl, hb, hbl, hc, hm, by rw [size_putAt]; exact hs, ?_⟩⟩
      · have := hrow.1
        simp [hvs]
        omega
      · rw [hy, toList_putAt _ _ _ (by omega), ← ht, hvs]
        have hcl : cur.toList.length = cap * sz := by simp [hs]
        rw [List.take_append, List.take_of_length_le (by simp; omega)]
        rw [List.length_append, List.length_take, hcl, Nat.min_eq_left (by omega), hvs, List.take_take, Nat.min_eq_left (by omega), List.drop_take, List.append_assoc]) (fun b hb => .inl (by rw [← hb]; rfl)) (fun _ _ _ => rfl)
    rw [List.set_set] at h4
    exact h4
end
theorem Has.perm {w : World} {L L' : List Res} (hp : L.Perm L') (h : Has w L) : Has w L' := by
  induction hp with
  | nil => exact h
  | cons x hp ih => exact ⟨h.1, fun q hq => h.2.1 q (hp.mem_iff.2 hq), ih h.2.2⟩
  | swap x y l => exact ⟨h.2.2.1, fun q hq b hb hqb => (by
      rcases List.mem_cons.1 hq with rfl | hq
      · exact h.2.1 x List.mem_cons_self b hqb hb
      · exact h.2.2.2.1 q hq b hb hqb), h.1, fun q hq => h.2.1 q (List.mem_cons_of_mem _ hq), h.2.2.2.2⟩
  | trans _ _ ih1 ih2 => exact ih2 (ih1 h)
/-- A callee has turned X, and made N. -/
theorem Has.callX {w w' : World} {A X X' T N : List Res} {S : Nat → Prop} (h : Has w (A ++ (X ++ T))) (hE : Ext S w w') (h2 : Has w' (X' ++ N)) (hS : ∀ k, S k → ∃ r ∈ X, r.foot = some k) (hf : ∀ r ∈ X' ++ N, ∀ b, r.foot = some b → (∃ q ∈ X, q.foot = some b) ∨ w.heap.size ≤ b) : Has w' (A ++ (X' ++ (T ++ N))) := by
  have h1 : Has w ((A ++ T) ++ X) := h.perm (by rw [List.append_assoc]; exact List.Perm.append_left A List.perm_append_comm)
  have h3 := h1.frame hE h2 hS hf
  refine h3.perm ?_
  rw [List.append_assoc]
  refine List.Perm.append_left A ?_
  rw [← List.append_assoc, ← List.append_assoc]
  exact List.Perm.append_right N List.perm_append_comm
section
variable {P : Program} {n : Nat} {ops : Array Oper} {Q : Post} {S : World → Prop} {fuel : Nat} {listed : Array Bool} {e : Env} {w : World} {o : Oper}
theorem o_val (i : Nat) {t : Nat} {v : Value} {w' : World} (hi : ops[i]? = some o) (hd : o.dst = some t) (ht : Nat.blt t n = true) (hw : Region.wanted o (yieldedE ops e) = true) (h : (execOp (ev e) o).run P w = .ok (.value v) w') (hS : S w') (k : hwp P n ops Q S fuel (listed.setIfInBounds i true) (e.put t v) w') : hop P n ops Q S fuel listed e w i :=
  o_new i hi hd ht hw ⟨v, w', h, (⟨rfl, rfl⟩ : v = v ∧ w' = w')⟩ (R := fun v' w1 => v' = v ∧ w1 = w') (fun v' w1 hR => by
    obtain ⟨rfl, rfl⟩ := hR
    exact ⟨hS, k⟩)
end
theorem res_snoc (b e : Nat) (v : Value) (l : List Int) (k : Int) : Res.row b e 1 v (l.length + 1) (l.map (Value.int .i64) ++ [.int .i64 k]) = .row b e 1 v (l ++ [k]).length ((l ++ [k]).map (Value.int .i64)) := by simp
theorem row_pos {w : World} {base e sz n : Nat} {v : Value} {xs : List Value} (h : w.ownsRow base e sz v n xs) (hn : 0 < n) : ∃ g cap, v = .slice (some ⟨g, 0, none⟩) n cap := by
  rcases h.2 with ⟨_, h0⟩ | ⟨g, cap, cur, hv, _⟩
  · omega
  · exact ⟨g, cap, hv⟩
theorem r_indexAddr_row {P : Program} {w : World} {ρ : Operand → Value} {o : Oper} {t el : TypeId} {x ix : Operand} {k : IntKind} {i g len cap n : Nat} (h : o.op = .indexAddr t x ix) (hu : P.underlying t = some (.slice el)) (hs : Sized P el n) (hx : ρ x = .slice (some ⟨g, 0, none⟩) len cap) (hi : ρ ix = .int k (i : Nat)) (h1 : i < len) :
    (execOp ρ o).run P w = .ok (.value (.pointer (some ⟨g, i * n, none⟩))) w := by
  have := r_indexAddr (P := P) (w := w) h hu hs hx hi (by omega) (by omega)
  rw [blk_add, Nat.zero_add, Int.toNat_natCast] at this
  exact this
/-! ### Rows of facts -/
/-- A fact and the slice that is its numbers. -/
abbrev FV : Type := Fact × Value
def fcell (x : FV) : List Value := [.int .i64 x.1.a, .int .i64 x.1.b, x.2]
def fres (ie : TypeId) (base : Nat) (x : FV) : Res := .row base ie 1 x.2 x.1.why.length (x.1.why.map (Value.int .i64))
theorem fcells_length (fv : List FV) : (fv.map fcell).flatten.length = fv.length * 3 := by
  induction fv with
  | nil => rfl
  | cons x r ih => simp only [List.map_cons, List.flatten_cons, List.length_append, ih, List.length_cons]; simp only [fcell, List.length_cons, List.length_nil]; omega
theorem fcells_snoc (fv : List FV) (x : FV) : (fv.map fcell).flatten ++ fcell x = ((fv ++ [x]).map fcell).flatten := by simp
theorem fcells_take (fv : List FV) (k : Nat) : (fv.map fcell).flatten.take (k * 3) = ((fv.take k).map fcell).flatten := by
  induction fv generalizing k with
  | nil => simp
  | cons x r ih =>
    cases k with
    | zero => simp
    | succ k =>
      simp only [List.map_cons, List.flatten_cons, List.take_succ_cons]
      rw [List.take_append, List.take_of_length_le (by simp [fcell]; omega), show (k + 1) * 3 - (fcell x).length = k * 3 by simp [fcell]; omega, ih]
theorem fcells_drop (fv : List FV) (k : Nat) : (fv.map fcell).flatten.drop (k * 3) = ((fv.drop k).map fcell).flatten := by
  induction fv generalizing k with
  | nil => simp
  | cons x r ih =>
    cases k with
    | zero => simp
    | succ k =>
      simp only [List.map_cons, List.flatten_cons, List.drop_succ_cons]
      rw [List.drop_append, List.drop_of_length_le (by simp [fcell]; omega), show (k + 1) * 3 - (fcell x).length = k * 3 by simp [fcell]; omega, ih]
      rfl
theorem fcells_set (fv : List FV) (k : Nat) (x : FV) (hk : k < fv.length) : (fv.map fcell).flatten.take (k * 3) ++ fcell x ++ (fv.map fcell).flatten.drop (k * 3 + 3) = ((fv.set k x).map fcell).flatten := by
  rw [show k * 3 + 3 = (k + 1) * 3 by omega, fcells_take, fcells_drop, List.set_eq_take_append_cons_drop, if_pos hk]
  simp
theorem Has.mem_row {w : World} {L : List Res} (h : Has w L) {r : Res} (hr : r ∈ L) : r.holds w := h.mem r hr
/-- What a row of facts reads as. -/
theorem Els.facts {w : World} {ie base : Nat} {L : List Res} {fv : List FV} (h : Has w L) (hs : ∀ x ∈ fv, fres ie base x ∈ L) : Els w 3 RFact (fv.map (·.1)) (fv.map fcell) := by
  refine ⟨by simp, fun i x cs h1 h2 => ?_⟩
  rw [List.getElem?_map, Option.map_eq_some_iff] at h1 h2
  obtain ⟨y, hy, rfl⟩ := h1
  obtain ⟨y', hy', rfl⟩ := h2
  rw [hy] at hy'
  cases hy'
  have hrow : w.ownsRow base ie 1 y.2 y.1.why.length (y.1.why.map (Value.int .i64)) := h.mem _ (hs y (List.mem_of_getElem? hy))
  obtain ⟨A, c, hv, hsl, _⟩ := Sl.ofInts hrow
  exact ⟨rfl, A, c, by simp only [fcell, hv], hsl⟩
theorem facts_at {w : World} {ie base base' e n n' c : Nat} {A : Option Addr} {L : List Res} {fv : List FV} (h : Has w L) (hs : ∀ x ∈ fv, fres ie base x ∈ L) (hr : w.ownsRow base' e 3 (.slice A n' c) n (fv.map fcell).flatten) (hn : fv.length = n) : FactsAt w A c (fv.map (·.1)) ∧ n' = n := by
  obtain ⟨A', c', hv, hsl, _⟩ := Sl.ofRow hr (Els.facts h hs) (by simpa using hn)
  injection hv with h1 h2 h3
  subst h1; subst h2; subst h3
  refine ⟨?_, rfl⟩
  have hl : (fv.map (·.1)).length = n' := by simpa using hn
  unfold FactsAt
  rw [hl]
  exact hsl
theorem info_fact : (Tryd.prog.info? 37).map (fun i => (i.zero, i.size, i.bytes)) = some (some (.agg #[.int .i64 0, .int .i64 0, .slice none 0 0]), 3, 40) := by kernel_rfl
theorem key_fpair : KeyLaw Tryd.prog 72 enc2 := KeyLaw.pair (fun a b c d w => eq_fpair a b c d w) (by
  intro e a b w
  have u3 := Tryd.underlying3
  have a3 := Tryd.isAgg3
  have z3 := Tryd.sizeOf3
  have hint : ∀ d v w, (Instr.checkKey e (d + 1) 3 (.int .i64 v)).run Tryd.prog w = .ok () w := fun d v w => by
    rw [Instr.checkKey]
    simp [run_underlying u3]
  have hall : ∀ d, (Instr.checkKey e (d + 1 + 1) 72 (.agg #[.int .i64 a, .int .i64 b])).run Tryd.prog w = .ok () w := fun d => by
    rw [Instr.checkKey]
    simp only [Sem.run_bind, run_underlying Tryd.underlying72, Result.andThen_ok]
    go_simp
    all_goals simp [hint]
  exact hall 9998) Tryd.underlying72
end Go.Proofs.YtndophlnapjkhaaDoor.Vc
