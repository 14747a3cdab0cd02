/- FactTurned gives true. Conditions: those of each statement. -/
import Derived.Test.YtndophlnapjkhaaDoorLaw5
namespace Go.Proofs.YtndophlnapjkhaaDoor.Vc
open Go Go.RowKit
set_option linter.unusedVariables false
set_option linter.unusedSimpArgs false

theorem row_fact {w : World} {base e n cap gb : Nat} {fv : List FV} (h : w.ownsRow base e 3 (.slice (some ⟨gb, 0, none⟩) n cap) n (fv.map fcell).flatten) {k : Nat} {x : FV} (hk : fv[k]? = some x) : ∀ j v, (fcell x)[j]? = some v → w.cell? ((⟨gb, k * 3, none⟩ : Addr).add j) = some v := by
  intro j v hj
  rcases h.2 with ⟨h0, _⟩ | ⟨g', cap', cur, hv, hb, hh, hc, hm, hs, ht⟩
  · cases h0
  · injection hv with e1 e2 e3
    injection e1 with e1
    injection e1 with e1
    subst e1
    have hjl : j < 3 := by have := (List.getElem?_eq_some_iff.1 hj).1; simpa [fcell] using this
    have hf := flat_get (css := fv.map fcell) (sz := 3) (fun cs hcs => by obtain ⟨y, _, rfl⟩ := List.mem_map.1 hcs; rfl) k j (fcell x) (by rw [List.getElem?_map, hk]; rfl) hjl
    rw [hj, ← ht, List.getElem?_take] at hf
    split at hf
    · rw [blk_add, blk_cell hh]
      simpa using hf
    · cases hf
theorem split_at {α : Type} {l : List α} {k : Nat} {x : α} (h : l[k]? = some x) : l = l.take k ++ x :: l.drop (k + 1) := by
  obtain ⟨hi, e⟩ := List.getElem?_eq_some_iff.1 h
  rw [← e, ← List.drop_eq_getElem_cons hi, List.take_append_drop]
theorem set_at {α : Type} {l : List α} {k : Nat} {x : α} (h : l[k]? = some x) (y : α) : l.set k y = l.take k ++ y :: l.drop (k + 1) := by
  rw [List.set_eq_take_append_cons_drop, if_pos (List.getElem?_eq_some_iff.1 h).1]
theorem why_set (l : List Int) (j : Nat) (v : Int) (hj : j < l.length) : (l.map (Value.int .i64)).take (j * 1) ++ [Value.int .i64 v] ++ (l.map (Value.int .i64)).drop (j * 1 + 1) = (l.set j v).map (Value.int .i64) := by
  rw [Nat.mul_one, List.map_set, List.set_eq_take_append_cons_drop, if_pos (by simpa using hj)]
  simp
theorem fres_same {ie B : Nat} {fv : List FV} {k : Nat} {f f2 : Fact} {v : Value} (h : fv[k]? = some (f, v)) (hw : f2.why = f.why) : (fv.set k (f2, v)).map (fres ie B) = fv.map (fres ie B) := by
  rw [set_at h]
  conv => rhs; rw [split_at h]
  simp [fres, hw]
theorem cutF_small (g : List GNode) : ∀ x ∈ fineF g, x.l.length ≤ 12 := by
  unfold fineF
  split
  · intro x hx
    obtain ⟨y, _, rfl⟩ := List.mem_map.1 hx
    simp [cutN]
    omega
  · intro x hx
    simp at hx
theorem why_small {g : List GNode} {nl : Nat} {f : Fact} (hok : GraphOk g) (hs : ∀ x ∈ g, x.l.length ≤ 12) (h : formedF g nl f = true) : f.why.length ≤ 13 := by
  have hfo := (formed_ok h).1
  unfold formedF at h
  rw [Bool.and_eq_true] at h
  have hm := h.2
  cases hmm : manyF g f with
  | none => rw [hmm] at hm; cases hm
  | some m =>
    rw [hmm] at hm
    rw [Bool.and_eq_true] at hm
    have hlen : (f.why.length : Int) = m := of_decide_eq_true hm.1
    unfold manyF at hmm
    split at hmm
    · have := hs _ (gat_inn hfo.a.1 hfo.a.2)
      injection hmm with hmm
      omega
    · split at hmm
      · cases hmm
      · split at hmm
        · injection hmm with hmm
          omega
        · split at hmm
          · cases hmm
          · rename_i hidx
            split at hmm
            · rename_i h7
              have hch := chosen_in hok (f := f) (by omega)
              have hcg := gat_inn hch.1 hch.2.1
              have := hs _ hcg
              have hr := (SideOk.of hok hcg hch.2.2).rcd h7.2
              injection hmm with hmm
              unfold chosenF at hmm
              omega
            · split at hmm
              · injection hmm with hmm
                omega
              · injection hmm with hmm
                omega
theorem check_two {g : List GNode} {l : List Fact} (hck : checkG g = 0) (hl : l.length ≤ 8000) : checkF g l = 0 ∨ checkF g l = 2 := by
  unfold checkF
  rw [if_pos hck, if_neg (by omega)]
  split
  · exact .inr rfl
  · exact .inl rfl
theorem first_spec {g : List GNode} {l : List Fact} : ∀ (l' : List Fact) (k : Nat), (∃ j, (findS (fun (_ : Unit) f => (!holdsF g l f, ())) k () l').1 = some j ∧ k ≤ j ∧ (∃ f, l'[j - k]? = some f ∧ holdsF g l f = false) ∧ ∀ n f, l'[n]? = some f → k + n < j → holdsF g l f = true) ∨ ((findS (fun (_ : Unit) f => (!holdsF g l f, ())) k () l').1 = none ∧ ∀ f ∈ l', holdsF g l f = true)
  | [], k => .inr ⟨rfl, fun f h => by simp at h⟩
  | x :: r, k => by
    cases hx : holdsF g l x with
    | false =>
      refine .inl ⟨k, ?_, Nat.le_refl _, ⟨x, by simp, hx⟩, fun n f _ h => by omega⟩
      unfold findS
      simp [hx]
    | true =>
      have hs : (findS (fun (_ : Unit) f => (!holdsF g l f, ())) k () (x :: r)) = findS (fun (_ : Unit) f => (!holdsF g l f, ())) (k + 1) () r := by
        conv => lhs; unfold findS
        simp [hx]
      rw [hs]
      rcases first_spec r (k + 1) with ⟨j, h1, h2, ⟨f, h3, h4⟩, h5⟩ | ⟨h1, h2⟩
      · refine .inl ⟨j, h1, by omega, ⟨f, by rw [show j - k = (j - (k + 1)) + 1 by omega]; simpa using h3, h4⟩, fun n f' hn hlt => ?_⟩
        cases n with
        | zero =>
          have : x = f' := by simpa using hn
          rw [← this]; exact hx
        | succ n => exact h5 n f' (by simpa using hn) (by omega)
      · refine .inr ⟨h1, fun f hf => ?_⟩
        rcases List.mem_cons.1 hf with rfl | hf
        · exact hx
        · exact h2 f hf
theorem first_is (g : List GNode) (l : List Fact) : (firstF g l = -1 ∧ ∀ f ∈ l, holdsF g l f = true) ∨ (∃ j : Nat, firstF g l = (j : Int) ∧ j < l.length ∧ holdsF g l (fat l j) = false ∧ ∀ n : Nat, n < j → holdsF g l (fat l n) = true) := by
  rcases first_spec (g := g) (l := l) l 0 with ⟨j, h1, _, ⟨f, h3, h4⟩, h5⟩ | ⟨h1, h2⟩
  · rw [Nat.sub_zero] at h3
    have hj := (List.getElem?_eq_some_iff.1 h3).1
    have hf : f = fat l j := by
      have := fat_nat hj
      rw [h3] at this
      injection this
    refine .inr ⟨j, by unfold firstF; rw [h1]; rfl, hj, by rw [← hf]; exact h4, fun n hn => h5 n _ (fat_nat (by omega)) (by omega)⟩
  · exact .inl ⟨by unfold firstF; rw [h1]; rfl, h2⟩
theorem holds_no {g : List GNode} {l : List Fact} {k : Int} (h : ¬ checkF g l = 0) : holdsAt g l k = false := by
  unfold holdsAt
  simp [h]
theorem holds_at {g : List GNode} {l : List Fact} {n : Nat} (hc : checkF g l = 0) (hn : n < l.length) : holdsAt g l n = holdsF g l (fat l n) := by
  unfold holdsAt
  simp [hc]
  omega
theorem copy_foot {w : World} {B e ie n : Nat} {v : Value} {xs : List Value} {fv : List FV} (h : Has w (.row B e 3 v n xs :: fv.map (fres ie B))) : ∀ r ∈ (Res.row B e 3 v n xs :: fv.map (fres ie B)), ∀ b, r.foot = some b → B ≤ b := by
  intro r hr b hb
  have hm := h.mem r hr
  rcases List.mem_cons.1 hr with rfl | hr
  · exact (ownsRow_lt (show w.ownsRow B e 3 v n xs from hm) hb).2
  · obtain ⟨x, _, rfl⟩ := List.mem_map.1 hr
    exact (ownsRow_lt (show w.ownsRow B ie 1 x.2 x.1.why.length (x.1.why.map (Value.int .i64)) from hm) hb).2
theorem turned_has {w : World} {ie B k j : Nat} {a b c : Res} {fv : List FV} {f : Fact} {v : Value} {z : Int} (hk : fv[k]? = some (f, v)) (hj : j < f.why.length) (h : Has w (.row B ie 1 v f.why.length ((f.why.map (Value.int .i64)).take (j * 1) ++ [Value.int .i64 z] ++ (f.why.map (Value.int .i64)).drop (j * 1 + 1)) :: a :: b :: c :: ((fv.take k).map (fres ie B) ++ (fv.drop (k + 1)).map (fres ie B)))) :
    Has w (a :: b :: c :: (fv.set k (⟨f.a, f.b, f.why.set j z⟩, v)).map (fres ie B)) := by
  rw [why_set _ _ _ hj] at h
  rw [set_at hk, List.map_append, List.map_cons]
  have h2 : Has w (fres ie B (⟨f.a, f.b, f.why.set j z⟩, v) :: a :: b :: c :: ((fv.take k).map (fres ie B) ++ (fv.drop (k + 1)).map (fres ie B))) := by
    unfold fres
    simp only [List.length_set]
    exact h
  exact Has.perm (List.perm_middle (l₁ := a :: b :: c :: (fv.take k).map (fres ie B))).symm h2
theorem r_addv {P : Program} {w : World} {ρ : Operand → Value} {o : Oper} {t t' : TypeId} {x y : Operand} {k : IntKind} {a b v : Int} (h : o.op = .binOp .add t x y t') (hx : ρ x = .int k a) (hy : ρ y = .int k b) (hv : k.wrap (a + b) = v) : (execOp ρ o).run P w = .ok (.value (.int k v)) w := hv ▸ r_add h hx hy
theorem r_subv {P : Program} {w : World} {ρ : Operand → Value} {o : Oper} {t t' : TypeId} {x y : Operand} {k : IntKind} {a b v : Int} (h : o.op = .binOp .sub t x y t') (hx : ρ x = .int k a) (hy : ρ y = .int k b) (hv : k.wrap (a - b) = v) : (execOp ρ o).run P w = .ok (.value (.int k v)) w := hv ▸ r_sub h hx hy
theorem first_holds {g : List GNode} {l : List Fact} {fi : Int} (hc : checkF g l = 0) (h : (fi = -1 ∧ ∀ f ∈ l, holdsF g l f = true) ∨ (∃ j : Nat, fi = (j : Int) ∧ j < l.length ∧ holdsF g l (fat l j) = false ∧ ∀ n : Nat, n < j → holdsF g l (fat l n) = true)) {n : Nat} (hn : n < l.length) (hor : fi = -1 ∨ (n : Int) < fi) : holdsAt g l n = true := by
  rw [holds_at hc hn]
  rcases h with ⟨_, h⟩ | ⟨j, h1, _, _, h2⟩
  · exact h _ (List.mem_of_getElem? (fat_nat hn))
  · exact h2 n (by omega)
theorem first_no {g : List GNode} {l : List Fact} {fi : Int} (h : (fi = -1 ∧ ∀ f ∈ l, holdsF g l f = true) ∨ (∃ j : Nat, fi = (j : Int) ∧ j < l.length ∧ holdsF g l (fat l j) = false ∧ ∀ n : Nat, n < j → holdsF g l (fat l n) = true)) (hne : ¬ fi = -1) : holdsAt g l fi = false := by
  rcases h with ⟨h, _⟩ | ⟨j, h1, _, h2, _⟩
  · exact absurd h hne
  · unfold holdsAt
    rw [h1, h2]
    simp
set_option maxHeartbeats 20000000 in
theorem Turned_calls (w0 : World) (hk0 : KeysLaid w0) (A : Option Addr) (c : Nat) (g : List GNode) (hg : Nodes w0 A c g) (Ap : Option Addr) (cp : Nat) (ps0 : FP) (hp0 : PairsAt w0 Ap cp ps0) (x0 x1 x2 : Int) :
    Calls Tryd.prog 6 [.slice A g.length c, .slice Ap ps0.length cp, .agg #[.int .i64 x0, .int .i64 x1, .int .i64 x2]].toArray w0 fun en w' => en = .returned (.bool true) ∧ Ext0 w0 w' := by
  have hE : Ext0 w0 w0 := Ext.refl _ _
  have hL : Has w0 [] := trivial
  refine calls [6] Tryd.func6 rfl rfl rfl rfl ?_
  refine c_seq ?_
  -- region 0
  refine c_ops ?_
  refine l_new rfl rfl rfl (n_box rfl hL hE) ?_
  rintro _ w ⟨b5, rfl, hb5, hL, hE, hX⟩
  refine l_val rfl rfl rfl (r_assign rfl) ?_
  refine l_nil ?_
  refine c_seq ?_
  -- region 1
  refine c_ops ?_
  refine l_val rfl rfl rfl (r_move rfl) ?_
  refine l_by rfl rfl rfl (r_call rfl rfl Tryd.func8 rfl rfl) (fine_calls _ (hk0.keep (Ext0.cells hE)) A c g (hg.keep RNode.kept (Ext0.cells hE))) ?_   -- outright.go:194 slot 18 := (call {callee=(value (func 8)), args=[(tmp 17)], argTypes=[22]})
  rintro _ w ⟨A1, c1, hen, hn, hX⟩
  replace hL := hL.ext0 hX
  obtain ⟨gg, hgg⟩ : ∃ x, x = fineF g := ⟨_, rfl⟩
  have hlen := fineF_len g
  have hfit := fineF_fits g
  have hchk := @fineF_check g
  rw [← hgg] at hen hn hlen hfit hchk
  subst hen
  replace hE := hE.trans hX
  obtain ⟨wa, hwa⟩ : ∃ x, x = w := ⟨_, rfl⟩
  rw [← hwa] at hn hE
  have hE0 := hE
  replace hE : Ext0 wa w := hwa ▸ Ext.refl _ _
  refine ⟨_, rfl, ?_⟩
  refine l_val rfl rfl rfl (r_assign rfl) ?_
  refine l_nil ?_
  refine c_seq ?_
  refine c_seq ?_
  -- region 2
  refine c_ops ?_
  refine l_val rfl rfl rfl (r_move rfl) ?_
  refine l_val rfl rfl rfl (r_len rfl Tryd.underlying22 rfl) ?_
  refine l_val rfl rfl rfl (r_eql rfl rfl rfl) ?_
  refine l_nil ?_
  refine c_cond rfl (fun hb => ?_) (fun hb => ?_)
  · -- True
    have hr21 := hb
    replace hb := of_decide_eq_true hb
    refine c_seq ?_
    -- region 3
    refine c_ops ?_
    refine l_by rfl rfl rfl (r_call rfl rfl Tryd.func9 rfl rfl) (works_calls _ (hk0.keep (Ext0.cells (hE0.trans hE)))) ?_   -- outright.go:196 slot 22 := (call {callee=(value (func 9)), args=[], argTypes=[]})
    rintro _ w ⟨rfl, hX⟩
    replace hL := hL.ext0 hX
    replace hE := hE.trans hX
    refine ⟨_, rfl, ?_⟩
    refine l_val rfl rfl rfl (r_assign rfl) ?_
    refine l_nil ?_
    refine c_ret ?_
    exact ⟨rfl, hE0.trans hE⟩
  · -- False
    have hr21 := hb
    replace hb := of_decide_eq_false hb
    have hne : gg ≠ [] := fun h => hb (by rw [h]; rfl)
    have hck := hchk hne
    obtain ⟨hok, _⟩ := ok_of hfit hck
    have hgpos : 0 < gg.length := List.length_pos_iff.2 hne
    refine c_skip ?_
    refine c_seq ?_
    -- region 4
    refine c_ops ?_
    refine l_val rfl rfl rfl (r_move rfl) ?_
    refine l_val rfl rfl rfl (r_move rfl) ?_
    refine l_val rfl rfl rfl (r_move rfl) ?_
    refine l_by rfl rfl rfl (r_call rfl rfl Tryd.func10 rfl rfl) (pairsOf_calls _ A1 gg.length c1 (by omega) hlen Ap cp ps0 (hp0.keep RPair.kept (Ext0.cells (hE0.trans hE)))) ?_   -- outright.go:198 slot 27 := (call {callee=(value (func 10)), args=[(tmp 25), (tmp 26)], argTypes=[22, 23]})
    rintro _ w ⟨ps, A2, c2, rfl, hps, hps8, hpin, hX⟩
    replace hL := hL.ext0 hX
    replace hE := hE.trans hX
    replace hn := hn.keep RNode.kept (Ext0.cells hE)
    obtain ⟨wb, hwb⟩ : ∃ x, x = w := ⟨_, rfl⟩
    rw [← hwb] at hn hps hE
    replace hE0 := hE0.trans hE
    replace hE : Ext0 wb w := hwb ▸ Ext.refl _ _
    refine ⟨_, rfl, ?_⟩
    refine l_by rfl rfl rfl (r_call rfl rfl Tryd.func12 rfl rfl) (Find_calls _ A1 c1 gg (hn.keep RNode.kept (Ext0.cells hE)) hfit hlen (hk0.keep (Ext0.cells (hE0.trans hE))) A2 c2 ps (hps.keep RPair.kept (Ext0.cells hE)) (by omega)) ?_   -- outright.go:198 slot 28 := (call {callee=(value (func 12)), args=[(tmp 24), (tmp 27)], argTypes=[22, 23]})
    rintro _ w ⟨A3, c3, A4, c4, rfl, hf3, hi4, hX⟩
    replace hL := hL.ext0 hX
    replace hE := hE.trans hX
    replace hn := hn.keep RNode.kept (Ext0.cells hE)
    replace hps := hps.keep RPair.kept (Ext0.cells hE)
    obtain ⟨wc, hwc⟩ : ∃ x, x = w := ⟨_, rfl⟩
    rw [← hwc] at hn hps hf3 hi4 hE
    replace hE0 := hE0.trans hE
    replace hE : Ext0 wc w := hwc ▸ Ext.refl _ _
    refine ⟨_, rfl, ?_⟩
    refine l_val rfl rfl rfl (r_move rfl) ?_
    refine l_val rfl rfl rfl (r_extract rfl rfl rfl) ?_
    refine l_val rfl rfl rfl (r_extract rfl rfl rfl) ?_
    refine l_val rfl rfl rfl (r_extract rfl rfl rfl) ?_
    refine l_val rfl rfl rfl (r_assign rfl) ?_
    refine l_val rfl rfl rfl (r_assign rfl) ?_
    refine l_val rfl rfl rfl (r_assign rfl) ?_
    refine l_nil ?_
    refine c_seq ?_
    refine c_seq ?_
    -- region 5
    refine c_ops ?_
    refine l_val rfl rfl rfl (r_move rfl) ?_
    refine l_val rfl rfl rfl (r_neq rfl rfl rfl) ?_
    refine l_val rfl rfl rfl (r_move rfl) ?_
    refine l_case 34 rfl (fun hb => ?_) (fun hb => ?_)
    · -- slot 34 is True
      have hr34 := hb
      replace hb := of_decide_eq_false (by simpa using hb)
      refine l_not rfl rfl rfl ?_
      refine l_not rfl rfl rfl ?_
      refine l_not rfl rfl rfl ?_
      refine l_val rfl rfl rfl (r_pick rfl rfl) ?_
      refine l_nil ?_
      refine c_yes rfl ?_
      refine c_seq ?_
      -- region 6
      refine c_ops ?_
      refine l_by rfl rfl rfl (r_call rfl rfl Tryd.func9 rfl rfl) (works_calls _ (hk0.keep (Ext0.cells (hE0.trans hE)))) ?_   -- outright.go:200 slot 39 := (call {callee=(value (func 9)), args=[], argTypes=[]})
      rintro _ w ⟨rfl, hX⟩
      replace hL := hL.ext0 hX
      replace hE := hE.trans hX
      refine ⟨_, rfl, ?_⟩
      refine l_val rfl rfl rfl (r_assign rfl) ?_
      refine l_nil ?_
      refine c_ret ?_
      exact ⟨rfl, hE0.trans hE⟩
    · -- slot 34 is False
      have hr34 := hb
      replace hb := of_decide_eq_true (by simpa using hb)
      have hallin := all_in hpin
      have hall : ps.all (mayX gg false) = true := (err_two hck hallin).elim (fun h => by rw [h.1] at hb; cases hb) (fun h => h.2)
      clear hb hr34
      obtain ⟨herr, hfo⟩ := err_ok hck hallin hall
      have hqall : ∀ q ∈ ps, InG gg.length q ∧ mayX gg false q = true := fun q hq => ⟨hpin q hq, all_at hall hq⟩
      have hfd := allF_found hok hqall
      obtain ⟨at_, l, hal⟩ : ∃ a l, allF gg ps = (a, l) := ⟨_, _, rfl⟩
      rw [hal] at hfd hfo
      rw [hfo] at hf3 hi4
      replace hf3 : FactsAt wc A3 c3 l := hf3
      replace hi4 : Ints wc A4 c4 at_ := hi4
      replace hfd : Found gg ps at_ l := hfd
      refine l_know (t := 9) (v := .int .i64 0) (congrArg (Value.int .i64) herr) ?_
      refine l_know (t := 7) (v := .slice A3 l.length c3) (congrArg (fun (x : List Int × List Fact) => Value.slice A3 x.2.length c3) hfo) ?_
      obtain ⟨hl256, hcl⟩ := found_check hfd hok hck hlen
      have hfst := found_first hfd hok
      clear hfst herr hchk hcl
      refine l_val rfl rfl rfl (r_move rfl) ?_
      refine l_val rfl rfl rfl (r_len rfl Tryd.underlying29 rfl) ?_
      refine l_val rfl rfl rfl (r_eql rfl rfl rfl) ?_
      refine l_val rfl rfl rfl (r_pick rfl rfl) ?_
      refine l_nil ?_
      refine c_cond rfl (fun hb => ?_) (fun hb => ?_)
      · -- True
        have hr38 := hb
        replace hb := of_decide_eq_true hb
        refine c_seq ?_
        -- region 6
        refine c_ops ?_
        refine l_by rfl rfl rfl (r_call rfl rfl Tryd.func9 rfl rfl) (works_calls _ (hk0.keep (Ext0.cells (hE0.trans hE)))) ?_   -- outright.go:200 slot 39 := (call {callee=(value (func 9)), args=[], argTypes=[]})
        rintro _ w ⟨rfl, hX⟩
        replace hL := hL.ext0 hX
        replace hE := hE.trans hX
        refine ⟨_, rfl, ?_⟩
        refine l_val rfl rfl rfl (r_assign rfl) ?_
        refine l_nil ?_
        refine c_ret ?_
        exact ⟨rfl, hE0.trans hE⟩
      · -- False
        have hr38 := hb
        replace hb := of_decide_eq_false hb
        have hlpos : 0 < l.length := by omega
        have hsm : ∀ x ∈ gg, x.l.length ≤ 12 := by rw [hgg]; exact cutF_small g
        have hwy : ∀ f ∈ l, f.why.length ≤ 13 := fun f hf => why_small hok hsm (hfd.holds hok hf).1
        refine c_skip ?_
        refine c_fresh (fun e => e 0 = .slice A1 gg.length c1 ∧ e 5 = .pointer (some ⟨b5, 0, none⟩) ∧ e 7 = .slice A3 l.length c3) ⟨rfl, rfl, rfl⟩ ?_
        rintro e ⟨hq0, hq5, hq7⟩
        refine c_know (t := 0) (by exact hq0) ?_
        refine c_know (t := 5) (by exact hq5) ?_
        refine c_know (t := 7) (by exact hq7) ?_
        clear hq0 hq5 hq7
        refine c_seq ?_
        -- region 7
        refine c_ops ?_
        refine l_val rfl rfl rfl (r_move rfl) ?_
        obtain ⟨wm, hwm⟩ : ∃ x, x = w := ⟨_, rfl⟩
        refine l_by rfl rfl rfl (r_call rfl rfl Tryd.func20 rfl rfl) (Copy_calls _ A3 c3 l (hf3.keep RFact.kept (Ext0.cells hE)) (by omega) (fun f hf => by have := hwy f hf; omega)) ?_   -- outright.go:202 slot 41 := (call {callee=(value (func 20)), args=[(tmp 40)], argTypes=[29]})
        rintro _ w ⟨v, fv, rfl, hfv, hLm, hX⟩
        rw [← hwm] at hLm hX hL hE
        have hwcm := hE.size
        have hfvl : fv.length = l.length := by rw [← hfv, List.length_map]
        replace hL : Has w (.blk b5 (.cells #[.int .i64 x0, .int .i64 x1, .int .i64 x2] 49 (0, 0)) :: .row wm.heap.size 37 3 v fv.length (fv.map fcell).flatten :: (fv).map (fres 3 wm.heap.size)) := Has.frame (L1 := [_]) (L2 := []) (S := fun _ => False) hL hX hLm (fun k h => h.elim) (fun r hr b hb => .inr (copy_foot hLm r hr b hb))
        replace hE := hE.trans hX
        obtain ⟨gb, cap, rfl⟩ := row_pos (hL.row 1 rfl) (by omega)
        refine ⟨_, rfl, ?_⟩
        refine l_val rfl rfl rfl (r_assign rfl) ?_
        refine l_nil ?_
        refine c_seq ?_
        -- region 8
        refine c_ops ?_
        refine l_val rfl rfl rfl (r_indexAddr_arr rfl Tryd.underlying49 Tryd.sizeOf3 rfl rfl (by decide) (by decide)) ?_
        refine l_val rfl rfl rfl (r_load_blk rfl Tryd.isAgg3 rfl (hL.get 0 rfl) rfl) ?_
        refine l_val rfl rfl rfl (r_move rfl) ?_
        refine l_val rfl rfl rfl (r_len rfl Tryd.underlying29 rfl) ?_
        refine l_by rfl rfl rfl (r_call rfl rfl Tryd.func14 rfl rfl) (Bring_calls _ x0 (fv.length : Int) (by omega) (by omega)) ?_   -- outright.go:203 slot 46 := (call {callee=(value (func 14)), args=[(tmp 43), (tmp 45)], argTypes=[3, 3]})
        rintro _ w ⟨kb, rfl, hkb0, hkb1, hX⟩
        replace hL := hL.ext0 hX
        replace hE := hE.step0 hX
        obtain ⟨kn, rfl⟩ := Int.eq_ofNat_of_zero_le hkb0
        have hkn : kn < fv.length := by omega
        obtain ⟨⟨fk, vk⟩, hfk⟩ : ∃ x, fv[kn]? = some x := ⟨_, List.getElem?_eq_getElem hkn⟩
        obtain ⟨Ak, ck, hvk⟩ := ownsRow_slice (show w.ownsRow wm.heap.size 3 1 vk fk.why.length (fk.why.map (Value.int .i64)) from hL.mem (fres 3 wm.heap.size (fk, vk)) (List.mem_cons_of_mem _ (List.mem_cons_of_mem _ (List.mem_map.2 ⟨(fk, vk), List.mem_of_getElem? hfk, rfl⟩))))
        subst hvk
        have hw13 := hwy fk (by rw [← hfv]; exact List.mem_map.2 ⟨_, List.mem_of_getElem? hfk, rfl⟩)
        refine ⟨_, rfl, ?_⟩
        refine l_val rfl rfl rfl (r_assign rfl) ?_
        refine l_nil ?_
        refine c_seq ?_
        -- region 9
        refine c_ops ?_
        refine l_val rfl rfl rfl (r_move rfl) ?_
        refine l_val rfl rfl rfl (r_move rfl) ?_
        refine l_val rfl rfl rfl (r_indexAddr_row rfl Tryd.underlying29 Tryd.sizeOf37 rfl rfl hkn) ?_
        refine l_val rfl rfl rfl (r_load_agg (vs := fcell (fk, (Value.slice Ak fk.why.length ck))) rfl Tryd.isAgg37 Tryd.sizeOf37 rfl (row_fact (hL.row 1 rfl) hfk)) ?_
        refine l_new rfl rfl rfl (n_alloc rfl Tryd.zeroValue37 hL hE) ?_
        rintro _ w ⟨b12, rfl, hb12, hL, hE, hX⟩
        refine l_new_do rfl rfl (r_store 0 rfl Tryd.sizeOf37 rfl hL hE rfl rfl rfl rfl (fun h => absurd h (Nat.not_lt.2 hb12))) ?_
        rintro w ⟨hL, hE, hz, hk⟩
        refine l_nil ?_
        refine c_fresh (fun e => e 0 = .slice A1 gg.length c1 ∧ e 5 = .pointer (some ⟨b5, 0, none⟩) ∧ e 7 = .slice A3 l.length c3 ∧ e 10 = .slice (some ⟨gb, 0, none⟩) fv.length cap ∧ e 11 = .int .i64 (kn : Int) ∧ e 12 = .pointer (some ⟨b12, 0, none⟩)) ⟨rfl, rfl, rfl, rfl, rfl, rfl⟩ ?_
        rintro e ⟨hq0, hq5, hq7, hq10, hq11, hq12⟩
        refine c_know (t := 0) (by exact hq0) ?_
        refine c_know (t := 5) (by exact hq5) ?_
        refine c_know (t := 7) (by exact hq7) ?_
        refine c_know (t := 10) (by exact hq10) ?_
        refine c_know (t := 11) (by exact hq11) ?_
        refine c_know (t := 12) (by exact hq12) ?_
        clear hq0 hq5 hq7 hq10 hq11 hq12
        refine c_cut (fun e w => (e 0 = .slice A1 gg.length c1 ∧ e 10 = .slice (some ⟨gb, 0, none⟩) fv.length cap ∧ e 11 = .int .i64 (kn : Int) ∧ e 12 = .pointer (some ⟨b12, 0, none⟩)) ∧ ∃ f2 : Fact, Has w (.blk b12 (.cells #[.int .i64 f2.a, .int .i64 f2.b, (Value.slice Ak fk.why.length ck)] 37 (0, 0)) :: .blk b5 (.cells #[.int .i64 x0, .int .i64 x1, .int .i64 x2] 49 (0, 0)) :: .row wm.heap.size 37 3 (.slice (some ⟨gb, 0, none⟩) fv.length cap) fv.length ((fv).map fcell).flatten :: (fv.set kn (f2, (Value.slice Ak fk.why.length ck))).map (fres 3 wm.heap.size)) ∧ Ext0 wc w) ?_ ?_
        · -- merged
          refine c_fresh (fun e => e 0 = .slice A1 gg.length c1 ∧ e 5 = .pointer (some ⟨b5, 0, none⟩) ∧ e 7 = .slice A3 l.length c3 ∧ e 10 = .slice (some ⟨gb, 0, none⟩) fv.length cap ∧ e 11 = .int .i64 (kn : Int) ∧ e 12 = .pointer (some ⟨b12, 0, none⟩)) ⟨rfl, rfl, rfl, rfl, rfl, rfl⟩ ?_
          rintro e ⟨hq0, hq5, hq7, hq10, hq11, hq12⟩
          refine c_know (t := 0) (by exact hq0) ?_
          refine c_know (t := 5) (by exact hq5) ?_
          refine c_know (t := 7) (by exact hq7) ?_
          refine c_know (t := 10) (by exact hq10) ?_
          refine c_know (t := 11) (by exact hq11) ?_
          refine c_know (t := 12) (by exact hq12) ?_
          clear hq0 hq5 hq7 hq10 hq11 hq12
          refine c_seq ?_
          -- region 10
          refine c_ops ?_
          replace hL : Has _ (.blk b12 (.cells #[.int .i64 fk.a, .int .i64 fk.b, (Value.slice Ak fk.why.length ck)] 37 (0, 0)) :: .blk b5 (.cells #[.int .i64 x0, .int .i64 x1, .int .i64 x2] 49 (0, 0)) :: .row wm.heap.size 37 3 (.slice (some ⟨gb, 0, none⟩) fv.length cap) fv.length ((fv).map fcell).flatten :: (fv).map (fres 3 wm.heap.size)) := hL
          refine l_val rfl rfl rfl (r_indexAddr_arr rfl Tryd.underlying49 Tryd.sizeOf3 rfl rfl (by decide) (by decide)) ?_
          refine l_val rfl rfl rfl (r_load_blk rfl Tryd.isAgg3 rfl (hL.get 1 rfl) rfl) ?_
          refine l_val rfl rfl rfl (r_fieldAddr (n := 0) rfl Tryd.underlying37 rfl Tryd.sizeOf30 rfl) ?_
          refine l_val rfl rfl rfl (r_load_blk rfl Tryd.isAgg30 rfl (hL.get 0 rfl) rfl) ?_
          refine l_val rfl rfl rfl (r_len rfl Tryd.underlying30 rfl) ?_
          refine l_val rfl rfl rfl (r_addv (v := ((fk.why.length : Int) + 2)) rfl rfl rfl ((wrap_small (by omega) (by omega)).trans (by omega))) ?_
          refine l_by rfl rfl rfl (r_call rfl rfl Tryd.func14 rfl rfl) (Bring_calls _ x1 ((fk.why.length : Int) + 2) (by omega) (by omega)) ?_   -- outright.go:205 slot 57 := (call {callee=(value (func 14)), args=[(tmp 52), (tmp 56)], argTypes=[3, 3]})
          rintro _ w ⟨wv, rfl, hwv0, hwv1, hX⟩
          replace hL := hL.ext0 hX
          replace hE := hE.step0 hX
          refine ⟨_, rfl, ?_⟩
          refine l_val rfl rfl rfl (r_assign rfl) ?_
          refine l_nil ?_
          refine c_seq ?_
          -- region 11
          refine c_ops ?_
          refine l_val rfl rfl rfl (r_move rfl) ?_
          refine l_nil ?_
          refine c_block ?_
          refine c_seq ?_
          -- region 13
          refine c_ops ?_
          refine l_val rfl rfl rfl (r_eql rfl rfl rfl) ?_
          refine l_val rfl rfl rfl (r_assign rfl) ?_
          refine l_nil ?_
          refine c_cond rfl (fun hb => ?_) (fun hb => ?_)
          · -- True
            have hr71 := hb
            replace hb := of_decide_eq_true hb
            -- region 14
            refine c_ops ?_
            refine l_val rfl rfl rfl (r_indexAddr_arr rfl Tryd.underlying49 Tryd.sizeOf3 rfl rfl (by decide) (by decide)) ?_
            refine l_val rfl rfl rfl (r_load_blk rfl Tryd.isAgg3 rfl (hL.get 1 rfl) rfl) ?_
            refine l_val rfl rfl rfl (r_move rfl) ?_
            refine l_val rfl rfl rfl (r_len rfl Tryd.underlying22 rfl) ?_
            refine l_by rfl rfl rfl (r_call rfl rfl Tryd.func14 rfl rfl) (Bring_calls _ x2 (gg.length : Int) (by omega) (by omega)) ?_   -- outright.go:207 slot 77 := (call {callee=(value (func 14)), args=[(tmp 74), (tmp 76)], argTypes=[3, 3]})
            rintro _ w ⟨av, rfl, hav0, hav1, hX⟩
            replace hL := hL.ext0 hX
            replace hE := hE.step0 hX
            refine ⟨_, rfl, ?_⟩
            refine l_val rfl rfl rfl (r_fieldAddr (n := 0) rfl Tryd.underlying37 rfl Tryd.sizeOf3 rfl) ?_
            refine l_new_do rfl rfl (r_store 0 rfl Tryd.sizeOf3 rfl hL hE rfl rfl rfl rfl (fun h => absurd h (Nat.not_lt.2 hb12))) ?_
            rintro w ⟨hL, hE, hz, hk⟩
            refine l_nil ?_
            refine ⟨⟨rfl, rfl, rfl, rfl⟩, ?_⟩
            first
              | exact ⟨⟨av, fk.b, fk.why⟩, by rw [fres_same (f2 := ⟨av, fk.b, fk.why⟩) hfk rfl]; exact hL, hE⟩
              | exact ⟨⟨fk.a, bv, fk.why⟩, by rw [fres_same (f2 := ⟨fk.a, bv, fk.why⟩) hfk rfl]; exact hL, hE⟩
              | exact ⟨⟨fk.a, fk.b, fk.why.set jn (rv - 1)⟩, turned_has hfk hjl hL, hE⟩
          · -- False
            have hr71 := hb
            replace hb := of_decide_eq_false hb
            refine c_seq ?_
            -- region 15
            refine c_ops ?_
            refine l_val rfl rfl rfl (r_eql rfl rfl rfl) ?_
            refine l_val rfl rfl rfl (r_assign rfl) ?_
            refine l_nil ?_
            refine c_cond rfl (fun hb => ?_) (fun hb => ?_)
            · -- True
              have hr79 := hb
              replace hb := of_decide_eq_true hb
              -- region 16
              refine c_ops ?_
              refine l_val rfl rfl rfl (r_indexAddr_arr rfl Tryd.underlying49 Tryd.sizeOf3 rfl rfl (by decide) (by decide)) ?_
              refine l_val rfl rfl rfl (r_load_blk rfl Tryd.isAgg3 rfl (hL.get 1 rfl) rfl) ?_
              refine l_val rfl rfl rfl (r_move rfl) ?_
              refine l_val rfl rfl rfl (r_len rfl Tryd.underlying22 rfl) ?_
              refine l_by rfl rfl rfl (r_call rfl rfl Tryd.func14 rfl rfl) (Bring_calls _ x2 (gg.length : Int) (by omega) (by omega)) ?_   -- outright.go:209 slot 85 := (call {callee=(value (func 14)), args=[(tmp 82), (tmp 84)], argTypes=[3, 3]})
              rintro _ w ⟨bv, rfl, hbv0, hbv1, hX⟩
              replace hL := hL.ext0 hX
              replace hE := hE.step0 hX
              refine ⟨_, rfl, ?_⟩
              refine l_val rfl rfl rfl (r_fieldAddr (n := 0) rfl Tryd.underlying37 rfl Tryd.sizeOf3 rfl) ?_
              refine l_new_do rfl rfl (r_store 0 rfl Tryd.sizeOf3 rfl hL hE rfl rfl rfl rfl (fun h => absurd h (Nat.not_lt.2 hb12))) ?_
              rintro w ⟨hL, hE, hz, hk⟩
              refine l_nil ?_
              refine ⟨⟨rfl, rfl, rfl, rfl⟩, ?_⟩
              first
                | exact ⟨⟨av, fk.b, fk.why⟩, by rw [fres_same (f2 := ⟨av, fk.b, fk.why⟩) hfk rfl]; exact hL, hE⟩
                | exact ⟨⟨fk.a, bv, fk.why⟩, by rw [fres_same (f2 := ⟨fk.a, bv, fk.why⟩) hfk rfl]; exact hL, hE⟩
                | exact ⟨⟨fk.a, fk.b, fk.why.set jn (rv - 1)⟩, turned_has hfk hjl hL, hE⟩
            · -- False
              have hr79 := hb
              replace hb := of_decide_eq_false hb
              obtain ⟨jn, hjn⟩ : ∃ jn : Nat, wv = (jn : Int) + 2 := ⟨(wv - 2).toNat, by omega⟩
              have hjl : jn < fk.why.length := by omega
              have hT : (fv).map (fres 3 wm.heap.size) = (fv.take kn).map (fres 3 wm.heap.size) ++ fres 3 wm.heap.size (fk, (Value.slice Ak fk.why.length ck)) :: (fv.drop (kn + 1)).map (fres 3 wm.heap.size) := by
                conv => lhs; rw [split_at hfk]
                rw [List.map_append, List.map_cons]
              rw [hT] at hL
              replace hL : Has w (.row wm.heap.size 3 1 (Value.slice Ak fk.why.length ck) fk.why.length (fk.why.map (Value.int .i64)) :: .blk b12 (.cells #[.int .i64 fk.a, .int .i64 fk.b, (Value.slice Ak fk.why.length ck)] 37 (0, 0)) :: .blk b5 (.cells #[.int .i64 x0, .int .i64 x1, .int .i64 x2] 49 (0, 0)) :: .row wm.heap.size 37 3 (.slice (some ⟨gb, 0, none⟩) fv.length cap) fv.length ((fv).map fcell).flatten :: ((fv.take kn).map (fres 3 wm.heap.size) ++ (fv.drop (kn + 1)).map (fres 3 wm.heap.size))) := Has.perm (List.perm_middle (l₁ := _ :: _ :: _ :: _)) hL
              obtain ⟨gk, capk, hvk2⟩ := row_pos (hL.row 0 rfl) (by omega)
              injection hvk2 with e1 _ e3
              subst e1
              subst e3
              -- region 12
              refine c_draw mixed (hL.sub (.cons _ (.cons_cons _ (.cons_cons _ (.cons_cons _ (.refl _)))))) hE ?_
              replace hL := hL.drew
              replace hE := hE.drew
              have hK := hL.sub (.cons _ (.cons_cons _ (.cons_cons _ (.cons_cons _ (.refl _)))))
              refine h_t 0 rfl rfl (by kernel_rfl) (fun _ _ _ h => h) ⟨hK, hE⟩ rfl (fun W hW => r_fieldAddr (n := 0) rfl Tryd.underlying37 rfl Tryd.sizeOf30 rfl) ?_
              refine h_listed (listed' := #[true, false, false, false, false, false, false, false, false, false, false, false, false]) (by kernel_rfl) ?_
              refine h_t 1 rfl rfl (by kernel_rfl) (fun _ _ _ h => h) ⟨hK, hE⟩ rfl (fun W hW => r_load_blk rfl Tryd.isAgg30 rfl (hW.1.get 0 rfl) rfl) ?_
              refine h_listed (listed' := #[true, true, false, false, false, false, false, false, false, false, false, false, false]) (by kernel_rfl) ?_
              refine h_t 2 rfl rfl (by kernel_rfl) (fun _ _ _ h => h) ⟨hK, hE⟩ rfl (fun W hW => r_move rfl) ?_
              refine h_listed (listed' := #[true, true, true, false, false, false, false, false, false, false, false, false, false]) (by kernel_rfl) ?_
              refine h_t 3 rfl rfl (by kernel_rfl) (fun _ _ _ h => h) ⟨hK, hE⟩ rfl (fun W hW => r_subv (v := (jn : Int)) rfl rfl rfl ((wrap_small (by omega) (by omega)).trans (by omega))) ?_
              refine h_listed (listed' := #[true, true, true, true, false, false, false, false, false, false, false, false, false]) (by kernel_rfl) ?_
              refine h_t 4 rfl rfl (by kernel_rfl) (fun _ _ _ h => h) ⟨hK, hE⟩ rfl (fun W hW => r_indexAddr_arr rfl Tryd.underlying49 Tryd.sizeOf3 rfl rfl (by decide) (by decide)) ?_
              refine h_listed (listed' := #[true, true, true, true, true, false, false, false, false, false, false, false, false]) (by kernel_rfl) ?_
              refine h_t 5 rfl rfl (by kernel_rfl) (fun _ _ _ h => h) ⟨hK, hE⟩ rfl (fun W hW => r_load_blk rfl Tryd.isAgg3 rfl (hW.1.get 1 rfl) rfl) ?_
              refine h_listed (listed' := #[true, true, true, true, true, true, false, false, false, false, false, false, false]) (by kernel_rfl) ?_
              refine h_t 6 rfl rfl (by kernel_rfl) (fun _ _ _ h => h) ⟨hK, hE⟩ rfl (fun W hW => r_move rfl) ?_
              refine h_listed (listed' := #[true, true, true, true, true, true, true, false, false, false, false, false, false]) (by kernel_rfl) ?_
              refine h_t 7 rfl rfl (by kernel_rfl) (fun _ _ _ h => h) ⟨hK, hE⟩ rfl (fun W hW => r_len rfl Tryd.underlying29 rfl) ?_
              refine h_listed (listed' := #[true, true, true, true, true, true, true, true, false, false, false, false, false]) (by kernel_rfl) ?_
              refine h_t 8 rfl rfl (by kernel_rfl) (fun _ _ _ h => h) ⟨hK, hE⟩ rfl (fun W hW => r_addv (v := ((l.length : Int) + 1)) rfl rfl rfl ((wrap_small (by omega) (by omega)).trans (by omega))) ?_
              refine h_listed (listed' := #[true, true, true, true, true, true, true, true, true, false, false, false, false]) (by kernel_rfl) ?_
              refine h_by 9 rfl rfl (by kernel_rfl) rfl (r_call rfl rfl Tryd.func14 rfl rfl) (Bring_calls _ x2 ((l.length : Int) + 1) (by omega) (by omega)) ?_   -- outright.go:211 slot 68 := (call {callee=(value (func 14)), args=[(tmp 64), (tmp 67)], argTypes=[3, 3]})
              rintro _ w ⟨rv, rfl, hrv0, hrv1, hX⟩
              replace hL := hL.ext0 hX
              replace hE := hE.step0 hX
              have hK := hL.sub (.cons _ (.cons_cons _ (.cons_cons _ (.cons_cons _ (.refl _)))))
              refine ⟨_, rfl, ⟨hK, hE⟩, ?_⟩
              refine h_listed (listed' := #[true, true, true, true, true, true, true, true, true, true, false, false, false]) (by kernel_rfl) ?_
              refine h_t 10 rfl rfl (by kernel_rfl) (fun _ _ _ h => h) ⟨hK, hE⟩ rfl (fun W hW => r_subv (v := rv - 1) rfl rfl rfl (wrap_small (by omega) (by omega))) ?_
              refine h_listed (listed' := #[true, true, true, true, true, true, true, true, true, true, true, false, false]) (by kernel_rfl) ?_
              refine h_t 11 rfl rfl (by kernel_rfl) (fun _ _ _ h => h) ⟨hK, hE⟩ rfl (fun W hW => r_indexAddr_row (i := jn) rfl Tryd.underlying30 Tryd.sizeOf3 rfl rfl hjl) ?_
              refine h_listed (listed' := #[true, true, true, true, true, true, true, true, true, true, true, true, false]) (by kernel_rfl) ?_
              refine h_new_do 12 rfl rfl (by kernel_rfl) rfl (r_setRow (vs := [.int .i64 (rv - 1)]) (k := jn) 0 rfl Tryd.sizeOf3 rfl rfl rfl rfl hL hE rfl hjl (fun h => absurd h (Nat.not_lt.2 (Nat.le_trans hwcm (ownsRow_lt (hL.row 0 rfl) rfl).2)))) ?_   -- outright.go:211 slot None := (store 3 (tmp 70) (tmp 69))
              rintro w ⟨hL, hE, hz, hk⟩
              have hK := hL.sub (.cons _ (.cons_cons _ (.cons_cons _ (.cons_cons _ (.refl _)))))
              refine ⟨⟨hK, hE⟩, ?_⟩
              refine h_listed (listed' := #[true, true, true, true, true, true, true, true, true, true, true, true, true]) (by kernel_rfl) ?_
              refine h_done (by kernel_rfl) ?_
              refine ⟨⟨rfl, rfl, rfl, rfl⟩, ?_⟩
              first
                | exact ⟨⟨av, fk.b, fk.why⟩, by rw [fres_same (f2 := ⟨av, fk.b, fk.why⟩) hfk rfl]; exact hL, hE⟩
                | exact ⟨⟨fk.a, bv, fk.why⟩, by rw [fres_same (f2 := ⟨fk.a, bv, fk.why⟩) hfk rfl]; exact hL, hE⟩
                | exact ⟨⟨fk.a, fk.b, fk.why.set jn (rv - 1)⟩, turned_has hfk hjl hL, hE⟩
        rintro e w ⟨⟨hq0, hq10, hq11, hq12⟩, hI⟩
        refine c_know (t := 0) (by exact hq0) ?_
        refine c_know (t := 10) (by exact hq10) ?_
        refine c_know (t := 11) (by exact hq11) ?_
        refine c_know (t := 12) (by exact hq12) ?_
        clear hq0 hq10 hq11 hq12
        obtain ⟨f2, hL, hE⟩ := hI
        refine c_cut (fun e w => (e 0 = .slice A1 gg.length c1 ∧ e 11 = .int .i64 (kn : Int)) ∧ ∃ l2 : List Fact, l2.length = fv.length ∧ e 10 = .slice (some ⟨gb, 0, none⟩) l2.length cap ∧ FactsAt w (some ⟨gb, 0, none⟩) cap l2 ∧ Ext0 wc w) ?_ ?_
        · -- merged
          -- region 17
          refine c_ops ?_
          refine l_val rfl rfl rfl (r_move rfl) ?_
          refine l_val rfl rfl rfl (r_move rfl) ?_
          refine l_val rfl rfl rfl (r_load_agg (vs := fcell (f2, (Value.slice Ak fk.why.length ck))) rfl Tryd.isAgg37 Tryd.sizeOf37 rfl (blk_raw (cs := #[.int .i64 f2.a, .int .i64 f2.b, (Value.slice Ak fk.why.length ck)]) (hL.get 0 rfl) rfl)) ?_
          refine l_val rfl rfl rfl (r_indexAddr_row rfl Tryd.underlying29 Tryd.sizeOf37 rfl rfl hkn) ?_
          refine l_new_do rfl rfl (r_setRow (vs := fcell (f2, (Value.slice Ak fk.why.length ck))) (k := kn) 2 rfl Tryd.sizeOf37 rfl rfl rfl (all3 rfl) hL hE rfl hkn (fun h => absurd h (Nat.not_lt.2 (Nat.le_trans hwcm (ownsRow_lt (hL.row 2 rfl) rfl).2)))) ?_   -- outright.go:213 slot None := (store 37 (tmp 90) (tmp 89))
          rintro w ⟨hL, hE, hz, hk⟩
          refine l_nil ?_
          refine ⟨⟨rfl, rfl⟩, ?_⟩
          have hset := fcells_set fv kn (f2, (Value.slice Ak fk.why.length ck)) hkn
          rw [hset] at hL
          have hfa := (facts_at (fv := fv.set kn (f2, (Value.slice Ak fk.why.length ck))) (hL.sub (.cons _ (.cons _ (.cons _ (.refl _))))) (fun x hx => List.mem_map.2 ⟨x, hx, rfl⟩) (hL.row 2 rfl) (by simp)).1
          have hl2n : ((fv.set kn (f2, (Value.slice Ak fk.why.length ck))).map (·.1)).length = fv.length := by simp
          exact ⟨_, hl2n, congrArg (fun n => Value.slice (some ⟨gb, 0, none⟩) n cap) hl2n.symm, hfa, hE⟩
        rintro e w ⟨⟨hq0, hq11⟩, hI⟩
        refine c_know (t := 0) (by exact hq0) ?_
        refine c_know (t := 11) (by exact hq11) ?_
        clear hq0 hq11
        obtain ⟨l2, hl2n, h10, hfa, hE⟩ := hI
        refine c_know (t := 10) (by exact h10) ?_
        clear h10
        replace hn := hn.keep RNode.kept (Ext0.cells hE)
        obtain ⟨wd, hwd⟩ : ∃ x, x = w := ⟨_, rfl⟩
        rw [← hwd] at hfa hn hE
        replace hE0 := hE0.trans hE
        replace hE : Ext0 wd w := hwd ▸ Ext.refl _ _
        have hL : Has w [] := trivial
        have hl2le : l2.length ≤ 8000 := by omega
        refine c_seq ?_
        -- region 18
        refine c_ops ?_
        refine l_val rfl rfl rfl (r_move rfl) ?_
        refine l_val rfl rfl rfl (r_move rfl) ?_
        refine l_by rfl rfl rfl (r_call rfl rfl Tryd.func13 rfl rfl) (First_calls _ A1 c1 gg (hn.keep RNode.kept (Ext0.cells hE)) hfit (hk0.keep (Ext0.cells (hE0.trans hE))) (some ⟨gb, 0, none⟩) cap l2 (hfa.keep RFact.kept (Ext0.cells hE))) ?_   -- outright.go:214 slot 94 := (call {callee=(value (func 13)), args=[(tmp 92), (tmp 93)], argTypes=[22, 29]})
        rintro _ w ⟨rfl, hX⟩
        replace hE := hE.trans hX
        refine ⟨_, rfl, ?_⟩
        refine l_val rfl rfl rfl (r_move rfl) ?_
        refine l_val rfl rfl rfl (r_extract rfl rfl rfl) ?_
        refine l_val rfl rfl rfl (r_extract rfl rfl rfl) ?_
        refine l_val rfl rfl rfl (r_assign rfl) ?_
        refine l_val rfl rfl rfl (r_assign rfl) ?_
        refine l_nil ?_
        refine c_seq ?_
        refine c_seq ?_
        -- region 19
        refine c_ops ?_
        refine l_val rfl rfl rfl (r_move rfl) ?_
        refine l_val rfl rfl rfl (r_neq rfl rfl rfl) ?_
        refine l_nil ?_
        refine c_cond rfl (fun hb => ?_) (fun hb => ?_)
        · -- True
          have hr98 := hb
          replace hb := of_decide_eq_false (by simpa using hb)
          refine c_seq ?_
          -- region 20
          refine c_ops ?_
          refine l_val rfl rfl rfl (r_move rfl) ?_
          refine l_val rfl rfl rfl (r_eql rfl rfl rfl) ?_
          refine l_know (t := 100) (v := .bool true) (congrArg Value.bool (decide_eq_true ((check_two hck hl2le).resolve_left hb))) ?_
          refine l_val rfl rfl rfl (r_move rfl) ?_
          refine l_val rfl rfl rfl (r_move rfl) ?_
          refine l_val rfl rfl rfl (r_move rfl) ?_
          refine l_val rfl rfl rfl (r_move rfl) ?_
          refine l_by rfl rfl rfl (r_call rfl rfl Tryd.func21 rfl rfl) (Holds_calls _ A1 c1 gg (hn.keep RNode.kept (Ext0.cells hE)) hfit (hk0.keep (Ext0.cells (hE0.trans hE))) (some ⟨gb, 0, none⟩) cap l2 (hfa.keep RFact.kept (Ext0.cells hE)) (kn : Int)) ?_   -- outright.go:216 slot 105 := (call {callee=(value (func 21)), args=[(tmp 102), (tmp 103), (tmp 104)], argTypes=[22, 29, 3]})
          rintro _ w ⟨hen, hX⟩
          rw [holds_no hb] at hen
          subst hen
          replace hE := hE.trans hX
          refine ⟨_, rfl, ?_⟩
          refine l_val rfl rfl rfl (r_not rfl rfl) ?_
          refine l_know (t := 106) (v := .bool true) rfl ?_
          refine l_val rfl rfl rfl (r_pick rfl rfl) ?_
          refine l_know (t := 107) (v := .bool true) rfl ?_
          refine l_val rfl rfl rfl (r_move rfl) ?_
          refine l_by rfl rfl rfl (r_call rfl rfl Tryd.func9 rfl rfl) (works_calls _ (hk0.keep (Ext0.cells (hE0.trans hE)))) ?_   -- outright.go:216 slot 109 := (call {callee=(value (func 9)), args=[], argTypes=[]})
          rintro _ w ⟨rfl, hX⟩
          replace hE := hE.trans hX
          refine ⟨_, rfl, ?_⟩
          refine l_val rfl rfl rfl (r_pick rfl rfl) ?_
          refine l_know (t := 110) (v := .bool true) rfl ?_
          refine l_val rfl rfl rfl (r_assign rfl) ?_
          refine l_nil ?_
          refine c_ret ?_
          exact ⟨rfl, hE0.trans hE⟩
        · -- False
          have hr98 := hb
          replace hb := of_decide_eq_true (by simpa using hb)
          have hcf := hb
          obtain ⟨fi, hfi⟩ : ∃ x, x = firstF gg l2 := ⟨_, rfl⟩
          have hfs := first_is gg l2
          rw [← hfi] at hfs
          refine c_know (t := 14) (v := .int .i64 fi) ((congrArg (Value.int .i64) (if_pos hb)).trans (congrArg (Value.int .i64) hfi.symm)) ?_
          refine c_skip ?_
          refine c_seq ?_
          refine c_seq ?_
          -- region 21
          refine c_ops ?_
          refine l_val rfl rfl rfl (r_assign rfl) ?_
          refine l_nil ?_
          refine c_block ?_
          -- loop 0: slots that it writes and that are read in it ahead of that: [16]
          refine c_loop0 (fun m1 e w => (e 0 = .slice A1 gg.length c1 ∧ e 10 = .slice (some ⟨gb, 0, none⟩) l2.length cap ∧ e 14 = .int .i64 fi) ∧ (∃ n : Nat, n ≤ l2.length ∧ m1 = l2.length - n ∧ e 16 = .int .i64 n ∧ Ext0 wd w)) l2.length ?_ ?_
          · exact ⟨⟨rfl, rfl, rfl⟩, 0, Nat.zero_le _, rfl, rfl, hE⟩
          rintro m1 e w ⟨⟨hq0, hq10, hq14⟩, hI⟩
          refine c_know (t := 0) (by exact hq0) ?_
          refine c_know (t := 10) (by exact hq10) ?_
          refine c_know (t := 14) (by exact hq14) ?_
          clear hq0 hq10 hq14
          obtain ⟨n, hnl, hmn, h16, hE⟩ := hI
          have hL : Has w [] := trivial
          refine c_know (t := 16) (by exact h16) ?_
          refine c_seq ?_
          refine c_seq ?_
          -- region 22
          refine c_ops ?_
          refine l_val rfl rfl rfl (r_move rfl) ?_
          refine l_val rfl rfl rfl (r_move rfl) ?_
          refine l_val rfl rfl rfl (r_len rfl Tryd.underlying29 rfl) ?_
          refine l_val rfl rfl rfl (r_lss rfl rfl rfl) ?_
          refine l_nil ?_
          refine c_cond rfl (fun hb => ?_) (fun hb => ?_)
          · -- True
            have hr114 := hb
            replace hb := of_decide_eq_true hb
            have hnlt : n < l2.length := by omega
            refine c_skip ?_
            refine c_seq ?_
            refine c_block ?_
            refine c_seq ?_
            -- region 24
            refine c_ops ?_
            refine l_val rfl rfl rfl (r_move rfl) ?_
            refine l_val rfl rfl rfl (r_eql rfl rfl rfl) ?_
            refine l_val rfl rfl rfl (r_move rfl) ?_
            refine l_case 119 rfl (fun hb => ?_) (fun hb => ?_)
            · -- slot 119 is True
              have hr119 := hb
              replace hb := of_decide_eq_true hb
              have hor : fi = -1 ∨ (n : Int) < fi := .inl hb
              refine l_not rfl rfl rfl ?_
              refine l_not rfl rfl rfl ?_
              refine l_not rfl rfl rfl ?_
              refine l_val rfl rfl rfl (r_pick rfl rfl) ?_
              refine l_nil ?_
              refine c_yes rfl ?_
              refine c_seq ?_
              -- region 25
              refine c_ops ?_
              refine l_val rfl rfl rfl (r_move rfl) ?_
              refine l_val rfl rfl rfl (r_move rfl) ?_
              refine l_val rfl rfl rfl (r_move rfl) ?_
              refine l_by rfl rfl rfl (r_call rfl rfl Tryd.func21 rfl rfl) (Holds_calls _ A1 c1 gg (hn.keep RNode.kept (Ext0.cells hE)) hfit (hk0.keep (Ext0.cells (hE0.trans hE))) (some ⟨gb, 0, none⟩) cap l2 (hfa.keep RFact.kept (Ext0.cells hE)) (n : Int)) ?_   -- outright.go:220 slot 127 := (call {callee=(value (func 21)), args=[(tmp 124), (tmp 125), (tmp 126)], argTypes=[22, 29, 3]})
              rintro _ w ⟨hen, hX⟩
              rw [first_holds hcf hfs hnlt hor] at hen
              subst hen
              replace hE := hE.trans hX
              refine ⟨_, rfl, ?_⟩
              refine l_val rfl rfl rfl (r_not rfl rfl) ?_
              refine l_know (t := 128) (v := .bool false) rfl ?_
              refine l_nil ?_
              refine c_no rfl ?_
              refine c_skip ?_
              -- region 23
              refine c_ops ?_
              refine l_val rfl rfl rfl (r_move rfl) ?_
              refine l_val rfl rfl rfl (r_add rfl rfl rfl) ?_
              refine l_val rfl rfl rfl (r_assign rfl) ?_
              refine l_nil ?_
              exact ⟨l2.length - (n + 1), by omega, ⟨rfl, rfl, rfl⟩, n + 1, by omega, rfl, by show Value.int .i64 (IntKind.i64.wrap ((n : Int) + 1)) = _; rw [wrap_succ hnlt (by omega)], hE⟩
            · -- slot 119 is False
              have hr119 := hb
              replace hb := of_decide_eq_false hb
              refine l_val rfl rfl rfl (r_move rfl) ?_
              refine l_val rfl rfl rfl (r_move rfl) ?_
              refine l_val rfl rfl rfl (r_lss rfl rfl rfl) ?_
              refine l_val rfl rfl rfl (r_pick rfl rfl) ?_
              refine l_nil ?_
              refine c_cond rfl (fun hb => ?_) (fun hb => ?_)
              · -- True
                have hr123 := hb
                replace hb := of_decide_eq_true hb
                have hor : fi = -1 ∨ (n : Int) < fi := .inr hb
                refine c_seq ?_
                -- region 25
                refine c_ops ?_
                refine l_val rfl rfl rfl (r_move rfl) ?_
                refine l_val rfl rfl rfl (r_move rfl) ?_
                refine l_val rfl rfl rfl (r_move rfl) ?_
                refine l_by rfl rfl rfl (r_call rfl rfl Tryd.func21 rfl rfl) (Holds_calls _ A1 c1 gg (hn.keep RNode.kept (Ext0.cells hE)) hfit (hk0.keep (Ext0.cells (hE0.trans hE))) (some ⟨gb, 0, none⟩) cap l2 (hfa.keep RFact.kept (Ext0.cells hE)) (n : Int)) ?_   -- outright.go:220 slot 127 := (call {callee=(value (func 21)), args=[(tmp 124), (tmp 125), (tmp 126)], argTypes=[22, 29, 3]})
                rintro _ w ⟨hen, hX⟩
                rw [first_holds hcf hfs hnlt hor] at hen
                subst hen
                replace hE := hE.trans hX
                refine ⟨_, rfl, ?_⟩
                refine l_val rfl rfl rfl (r_not rfl rfl) ?_
                refine l_know (t := 128) (v := .bool false) rfl ?_
                refine l_nil ?_
                refine c_no rfl ?_
                refine c_skip ?_
                -- region 23
                refine c_ops ?_
                refine l_val rfl rfl rfl (r_move rfl) ?_
                refine l_val rfl rfl rfl (r_add rfl rfl rfl) ?_
                refine l_val rfl rfl rfl (r_assign rfl) ?_
                refine l_nil ?_
                exact ⟨l2.length - (n + 1), by omega, ⟨rfl, rfl, rfl⟩, n + 1, by omega, rfl, by show Value.int .i64 (IntKind.i64.wrap ((n : Int) + 1)) = _; rw [wrap_succ hnlt (by omega)], hE⟩
              · -- False
                have hr123 := hb
                replace hb := of_decide_eq_false hb
                refine c_skip ?_
                -- region 23
                refine c_ops ?_
                refine l_val rfl rfl rfl (r_move rfl) ?_
                refine l_val rfl rfl rfl (r_add rfl rfl rfl) ?_
                refine l_val rfl rfl rfl (r_assign rfl) ?_
                refine l_nil ?_
                exact ⟨l2.length - (n + 1), by omega, ⟨rfl, rfl, rfl⟩, n + 1, by omega, rfl, by show Value.int .i64 (IntKind.i64.wrap ((n : Int) + 1)) = _; rw [wrap_succ hnlt (by omega)], hE⟩
          · -- False
            have hr114 := hb
            replace hb := of_decide_eq_false hb
            refine c_exit ?_
            refine c_seq ?_
            -- region 27
            refine c_ops ?_
            refine l_val rfl rfl rfl (r_move rfl) ?_
            refine l_val rfl rfl rfl (r_eql rfl rfl rfl) ?_
            refine l_val rfl rfl rfl (r_move rfl) ?_
            refine l_case 131 rfl (fun hb => ?_) (fun hb => ?_)
            · -- slot 131 is True
              have hr131 := hb
              replace hb := of_decide_eq_true hb
              refine l_not rfl rfl rfl ?_
              refine l_not rfl rfl rfl ?_
              refine l_not rfl rfl rfl ?_
              refine l_not rfl rfl rfl ?_
              refine l_not rfl rfl rfl ?_
              refine l_val rfl rfl rfl (r_pick rfl rfl) ?_
              refine l_know (t := 137) (v := .bool true) rfl ?_
              refine l_val rfl rfl rfl (r_move rfl) ?_
              refine l_by rfl rfl rfl (r_call rfl rfl Tryd.func9 rfl rfl) (works_calls _ (hk0.keep (Ext0.cells (hE0.trans hE)))) ?_   -- outright.go:225 slot 139 := (call {callee=(value (func 9)), args=[], argTypes=[]})
              rintro _ w ⟨rfl, hX⟩
              replace hE := hE.trans hX
              refine ⟨_, rfl, ?_⟩
              refine l_val rfl rfl rfl (r_pick rfl rfl) ?_
              refine l_know (t := 140) (v := .bool true) rfl ?_
              refine l_val rfl rfl rfl (r_assign rfl) ?_
              refine l_nil ?_
              refine c_ret ?_
              exact ⟨rfl, hE0.trans hE⟩
            · -- slot 131 is False
              have hr131 := hb
              replace hb := of_decide_eq_false hb
              have hne := hb
              refine l_val rfl rfl rfl (r_move rfl) ?_
              refine l_val rfl rfl rfl (r_move rfl) ?_
              refine l_val rfl rfl rfl (r_move rfl) ?_
              refine l_by rfl rfl rfl (r_call rfl rfl Tryd.func21 rfl rfl) (Holds_calls _ A1 c1 gg (hn.keep RNode.kept (Ext0.cells hE)) hfit (hk0.keep (Ext0.cells (hE0.trans hE))) (some ⟨gb, 0, none⟩) cap l2 (hfa.keep RFact.kept (Ext0.cells hE)) fi) ?_   -- outright.go:225 slot 135 := (call {callee=(value (func 21)), args=[(tmp 132), (tmp 133), (tmp 134)], argTypes=[22, 29, 3]})
              rintro _ w ⟨hen, hX⟩
              rw [first_no hfs hne] at hen
              subst hen
              replace hE := hE.trans hX
              refine ⟨_, rfl, ?_⟩
              refine l_val rfl rfl rfl (r_not rfl rfl) ?_
              refine l_know (t := 136) (v := .bool true) rfl ?_
              refine l_val rfl rfl rfl (r_pick rfl rfl) ?_
              refine l_know (t := 137) (v := .bool true) rfl ?_
              refine l_val rfl rfl rfl (r_move rfl) ?_
              refine l_by rfl rfl rfl (r_call rfl rfl Tryd.func9 rfl rfl) (works_calls _ (hk0.keep (Ext0.cells (hE0.trans hE)))) ?_   -- outright.go:225 slot 139 := (call {callee=(value (func 9)), args=[], argTypes=[]})
              rintro _ w ⟨rfl, hX⟩
              replace hE := hE.trans hX
              refine ⟨_, rfl, ?_⟩
              refine l_val rfl rfl rfl (r_pick rfl rfl) ?_
              refine l_know (t := 140) (v := .bool true) rfl ?_
              refine l_val rfl rfl rfl (r_assign rfl) ?_
              refine l_nil ?_
              refine c_ret ?_
              exact ⟨rfl, hE0.trans hE⟩
end Go.Proofs.YtndophlnapjkhaaDoor.Vc
