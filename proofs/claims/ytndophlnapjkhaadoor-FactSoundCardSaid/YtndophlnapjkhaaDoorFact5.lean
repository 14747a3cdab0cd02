/- Why a type may stand for another one: what a fact's rule says. Conditions: those of each statement. -/
import Derived.Test.YtndophlnapjkhaaDoorFact4
namespace Go.Proofs.YtndophlnapjkhaaDoor.Vc
open Go Go.RowKit
set_option linter.unusedVariables false
set_option linter.unusedSimpArgs false

theorem built_frules (xb : Nat) : Tryd.prog.built 105 [(0, .func (.func 72) #[.pointer (some ⟨xb, 0, none⟩)] #[]), (1, .func (.func 73) #[.pointer (some ⟨xb, 0, none⟩)] #[]), (2, .func (.func 74) #[.pointer (some ⟨xb, 0, none⟩)] #[]), (3, .func (.func 75) #[.pointer (some ⟨xb, 0, none⟩)] #[])] = some #[.func (.func 72) #[.pointer (some ⟨xb, 0, none⟩)] #[], .func (.func 73) #[.pointer (some ⟨xb, 0, none⟩)] #[], .func (.func 74) #[.pointer (some ⟨xb, 0, none⟩)] #[], .func (.func 75) #[.pointer (some ⟨xb, 0, none⟩)] #[]] := by kernel_rfl
theorem rules_calls (w0 : World) (xb : Nat) : Calls Tryd.prog 64 [.pointer (some ⟨xb, 0, none⟩)].toArray w0 fun en w' => en = .returned (.agg #[.func (.func 72) #[.pointer (some ⟨xb, 0, none⟩)] #[], .func (.func 73) #[.pointer (some ⟨xb, 0, none⟩)] #[], .func (.func 74) #[.pointer (some ⟨xb, 0, none⟩)] #[], .func (.func 75) #[.pointer (some ⟨xb, 0, none⟩)] #[]]) ∧ Ext0 w0 w' := by
  have hE : Ext0 w0 w0 := Ext.refl _ _
  have hL : Has w0 [] := trivial
  refine calls_cell 2 105 Tryd.func64 rfl rfl rfl Tryd.isAgg105 Tryd.sizeOf105 ?_
  refine c_seq ?_
  -- region 0
  refine c_ops ?_
  refine l_new rfl rfl rfl (n_alloc rfl Tryd.zeroValue105 hL hE) ?_
  rintro _ w ⟨b2, rfl, hb2, hL, hE, hX⟩
  refine l_nil ?_
  refine c_seq ?_
  -- region 1
  refine c_ops ?_
  refine l_val rfl rfl rfl (r_move rfl) ?_
  refine l_val rfl rfl rfl (r_makeFunc rfl) ?_
  refine l_val rfl rfl rfl (r_move rfl) ?_
  refine l_val rfl rfl rfl (r_makeFunc rfl) ?_
  refine l_val rfl rfl rfl (r_move rfl) ?_
  refine l_val rfl rfl rfl (r_makeFunc rfl) ?_
  refine l_val rfl rfl rfl (r_move rfl) ?_
  refine l_val rfl rfl rfl (r_makeFunc rfl) ?_
  refine l_val rfl rfl rfl (r_build rfl rfl (built_frules xb)) ?_   -- fact.go:24 slot 11 := (build 105 [(0, (tmp 4)), (1, (tmp 6)), (2, (tmp 8)), (3, (tmp 10))])
  refine l_new_do rfl rfl (r_store 0 rfl Tryd.sizeOf105 rfl hL hE rfl rfl rfl rfl (fun h => absurd h (Nat.not_lt.2 hb2))) ?_
  rintro w ⟨hL, hE, hz, hk⟩
  refine l_nil ?_
  refine c_ret ?_
  exact ⟨_, rfl, [.func (.func 72) #[.pointer (some ⟨xb, 0, none⟩)] #[], .func (.func 73) #[.pointer (some ⟨xb, 0, none⟩)] #[], .func (.func 74) #[.pointer (some ⟨xb, 0, none⟩)] #[], .func (.func 75) #[.pointer (some ⟨xb, 0, none⟩)] #[]], rfl, blk_raw (hL.get 0 rfl) rfl, rfl, hE⟩
def byF (g : List GNode) (f : Fact) : FP × Bool :=
  if (unionF g f).1 then (unionF g f).2 else if (boundF g f).1 then (boundF g f).2 else if (looseF g f).1 then (looseF g f).2 else (plainF g f).2
def ByRes (w0 : World) (r : FP × Bool) (en : Ending) (w' : World) : Prop := ∃ v, en = .returned (.tuple #[v, .bool r.2]) ∧ w'.ownsRow w0.heap.size 72 2 v r.1.length (r.1.map cells2).flatten ∧ Ext0 w0 w'
theorem ByRes.of {w0 w' : World} {r r' : FP × Bool} {en : Ending} (h : r = r') (k : ByRes w0 r' en w') : ByRes w0 r en w' := h ▸ k
theorem union_no {g : List GNode} {f : Fact} (h : (unionF g f).1 = false) : (gat g f.a).kind ≠ 8 := by
  intro h8
  unfold unionF at h
  rw [if_pos h8] at h
  cases h
theorem bound_no {g : List GNode} {f : Fact} (h : (boundF g f).1 = false) : ¬ ((gat g f.a).kind = 9 ∧ iat f.why 0 = -1) := by
  intro h8
  unfold boundF at h
  rw [if_pos h8] at h
  cases h
theorem by_calls (w0 : World) (xb : Nat) (Ag : Option Addr) (cg : Nat) (g : List GNode) (hg : Nodes w0 Ag cg g) (hok : GraphOk g) (hx0 : w0.cell? ⟨xb, 0, none⟩ = some (.slice Ag g.length cg)) (f : Fact) (Aw : Option Addr) (cw : Nat) (hw : Ints w0 Aw cw f.why) (hf : FactOk g f) :
    Calls Tryd.prog 46 [.pointer (some ⟨xb, 0, none⟩), .agg (factCells f Aw cw).toArray].toArray w0 (ByRes w0 (byF g f)) := by
  have hE : Ext0 w0 w0 := Ext.refl _ _
  have hL : Has w0 [] := trivial
  refine calls [4, 5] Tryd.func46 rfl rfl rfl rfl ?_
  refine c_seq ?_
  -- region 0
  refine c_ops ?_
  refine l_new rfl rfl rfl (n_box rfl hL hE) ?_
  rintro _ w ⟨b3, rfl, hb3, hL, hE, hX⟩
  refine l_val rfl rfl rfl (r_assign rfl) ?_
  refine l_val rfl rfl rfl (r_assign rfl) ?_
  refine l_nil ?_
  refine c_seq ?_
  refine c_seq ?_
  -- region 1
  refine c_ops ?_
  refine l_val rfl rfl rfl (r_move rfl) ?_
  refine l_by rfl rfl rfl (r_call rfl rfl Tryd.func64 rfl rfl) (rules_calls _ _) ?_   -- fact.go:75 slot 12 := (call {callee=(value (func 64)), args=[(tmp 11)], argTypes=[73]})
  rintro _ w ⟨rfl, hX⟩
  replace hL := hL.ext0 hX
  replace hE := hE.trans hX
  refine ⟨_, rfl, ?_⟩
  refine l_val rfl rfl rfl (r_move rfl) ?_
  refine l_nil ?_
  refine c_block ?_
  -- loop 0: slots that it writes and that are read in it ahead of that: [13]
  refine c_loop [4, 5, 7, 8, 9, 10, 13, 14, 15, 16, 17, 18, 19, 20, 21, 22, 23, 24, 25, 26] (fun m1 e w => ∃ k : Nat, k ≤ 4 ∧ m1 = 4 - k ∧ e 13 = .int .i64 k ∧ (0 < k → (unionF g f).1 = false) ∧ (1 < k → (boundF g f).1 = false) ∧ (2 < k → (looseF g f).1 = false) ∧ ¬ 3 < k ∧ Has w [.blk b3 (.cells (factCells f Aw cw).toArray 37 (0, 0))] ∧ Ext0 w0 w) 4 ?_ ?_
  · exact ⟨0, by decide, rfl, rfl, fun h => absurd h (by decide), fun h => absurd h (by decide), fun h => absurd h (by decide), by decide, hL, hE⟩
  intro m1 e w hI
  obtain ⟨k, hk, hm, h13, hm0, hm1, hm2, hm3, hL, hE⟩ := hI
  refine c_know h13 ?_
  refine c_seq ?_
  -- region 2
  refine c_ops ?_
  refine l_val rfl rfl rfl (r_lss rfl rfl rfl) ?_
  refine l_nil ?_
  refine c_seq ?_
  refine c_cond rfl (fun hb => ?_) (fun hb => ?_)
  · -- True
    have hr14 := hb
    replace hb := of_decide_eq_true hb
    obtain rfl | rfl | rfl | rfl : k = 0 ∨ k = 1 ∨ k = 2 ∨ k = 3 := by omega
    · -- case 0
      refine c_skip ?_
      refine c_seq ?_
      refine c_block ?_
      refine c_seq ?_
      -- region 3
      refine c_ops ?_
      refine l_val rfl rfl rfl (r_index_arr rfl Tryd.underlying105 Tryd.sizeOf104 Tryd.isAgg104 rfl rfl (by decide) (by decide) rfl) ?_
      refine l_val rfl rfl rfl (r_assign rfl) ?_
      refine l_nil ?_
      refine c_seq ?_
      -- region 4
      refine c_ops ?_
      refine l_val rfl rfl rfl (r_move rfl) ?_
      refine l_val rfl rfl rfl (r_load_blk_agg rfl Tryd.isAgg37 Tryd.sizeOf37 rfl (hL.get 0 rfl) rfl) ?_
      refine l_by rfl rfl rfl (r_call rfl rfl Tryd.func72 rfl rfl) (union_calls _ xb Ag cg g (hg.keep RNode.kept (Ext0.cells hE)) hok (Ext0.cells hE _ _ hx0) f Aw cw (hw.keep RInt.kept (Ext0.cells hE)) hf) ?_   -- fact.go:76 slot 19 := (call {callee=(value (tmp 17)), args=[(tmp 18)], argTypes=[37]})
      rintro _ w ⟨v, rfl, hrow, hX⟩
      have hrow := ownsRow_base hrow hE.size
      replace hL := hL.ext0 hX
      replace hE := hE.trans hX
      refine ⟨_, rfl, ?_⟩
      refine l_val rfl rfl rfl (r_move rfl) ?_
      refine l_val rfl rfl rfl (r_extract rfl rfl rfl) ?_
      refine l_val rfl rfl rfl (r_extract rfl rfl rfl) ?_
      refine l_val rfl rfl rfl (r_extract rfl rfl rfl) ?_
      refine l_val rfl rfl rfl (r_assign rfl) ?_
      refine l_val rfl rfl rfl (r_assign rfl) ?_
      refine l_val rfl rfl rfl (r_assign rfl) ?_
      refine l_nil ?_
      refine c_seq ?_
      -- region 5
      refine c_ops ?_
      refine l_val rfl rfl rfl (r_move rfl) ?_
      refine l_nil ?_
      refine c_cond rfl (fun hb => ?_) (fun hb => ?_)
      · -- True
        have hr23 := hb
        refine c_seq ?_
        -- region 6
        refine c_ops ?_
        refine l_val rfl rfl rfl (r_move rfl) ?_
        refine l_val rfl rfl rfl (r_move rfl) ?_
        refine l_val rfl rfl rfl (r_assign rfl) ?_
        refine l_val rfl rfl rfl (r_assign rfl) ?_
        refine l_nil ?_
        refine c_ret ?_
        refine ByRes.of (r' := (unionF g f).2) (by unfold byF; rw [if_pos hr23]) ⟨_, rfl, hrow, hE⟩
      · -- False
        have hr23 := hb
        have hm0 := hr23
        refine c_skip ?_
        -- region 7
        refine c_ops ?_
        refine l_val rfl rfl rfl (r_add rfl rfl rfl) ?_
        refine l_val rfl rfl rfl (r_move rfl) ?_
        refine l_nil ?_
        refine ⟨by repeat (first | exact Agree.over _ _ _ | exact Agree.refl _ _ | (refine Agree.puto ?_ _ _ rfl) | (refine Agree.put ?_ _ _ rfl) | (refine Agree.sub ?_ rfl)), ?_⟩
        exact ⟨4 - (0 + 1), by omega, 0 + 1, by omega, rfl, by show Value.int .i64 (IntKind.i64.wrap (((0 : Nat) : Int) + 1)) = _; rw [wrap_succ (k := 0) (n := 4) (by decide) (by decide)], fun _ => hm0, fun h => absurd h (by decide), fun h => absurd h (by decide), by omega, hL, hE⟩
    · -- case 1
      replace hm0 := hm0 (by decide)
      have h8 := union_no hm0
      have hpos := why_pos (hf.why h8)
      refine c_skip ?_
      refine c_seq ?_
      refine c_block ?_
      refine c_seq ?_
      -- region 3
      refine c_ops ?_
      refine l_val rfl rfl rfl (r_index_arr rfl Tryd.underlying105 Tryd.sizeOf104 Tryd.isAgg104 rfl rfl (by decide) (by decide) rfl) ?_
      refine l_val rfl rfl rfl (r_assign rfl) ?_
      refine l_nil ?_
      refine c_seq ?_
      -- region 4
      refine c_ops ?_
      refine l_val rfl rfl rfl (r_move rfl) ?_
      refine l_val rfl rfl rfl (r_load_blk_agg rfl Tryd.isAgg37 Tryd.sizeOf37 rfl (hL.get 0 rfl) rfl) ?_
      refine l_by rfl rfl rfl (r_call rfl rfl Tryd.func73 rfl rfl) (bound_calls _ xb Ag cg g (hg.keep RNode.kept (Ext0.cells hE)) hok (Ext0.cells hE _ _ hx0) f Aw cw (hw.keep RInt.kept (Ext0.cells hE)) hf h8) ?_   -- fact.go:76 slot 19 := (call {callee=(value (tmp 17)), args=[(tmp 18)], argTypes=[37]})
      rintro _ w ⟨v, rfl, hrow, hX⟩
      have hrow := ownsRow_base hrow hE.size
      replace hL := hL.ext0 hX
      replace hE := hE.trans hX
      refine ⟨_, rfl, ?_⟩
      refine l_val rfl rfl rfl (r_move rfl) ?_
      refine l_val rfl rfl rfl (r_extract rfl rfl rfl) ?_
      refine l_val rfl rfl rfl (r_extract rfl rfl rfl) ?_
      refine l_val rfl rfl rfl (r_extract rfl rfl rfl) ?_
      refine l_val rfl rfl rfl (r_assign rfl) ?_
      refine l_val rfl rfl rfl (r_assign rfl) ?_
      refine l_val rfl rfl rfl (r_assign rfl) ?_
      refine l_nil ?_
      refine c_seq ?_
      -- region 5
      refine c_ops ?_
      refine l_val rfl rfl rfl (r_move rfl) ?_
      refine l_nil ?_
      refine c_cond rfl (fun hb => ?_) (fun hb => ?_)
      · -- True
        have hr23 := hb
        refine c_seq ?_
        -- region 6
        refine c_ops ?_
        refine l_val rfl rfl rfl (r_move rfl) ?_
        refine l_val rfl rfl rfl (r_move rfl) ?_
        refine l_val rfl rfl rfl (r_assign rfl) ?_
        refine l_val rfl rfl rfl (r_assign rfl) ?_
        refine l_nil ?_
        refine c_ret ?_
        refine ByRes.of (r' := (boundF g f).2) (by unfold byF; rw [if_neg (by rw [hm0]; decide), if_pos hr23]) ⟨_, rfl, hrow, hE⟩
      · -- False
        have hr23 := hb
        have hm1 := hr23
        refine c_skip ?_
        -- region 7
        refine c_ops ?_
        refine l_val rfl rfl rfl (r_add rfl rfl rfl) ?_
        refine l_val rfl rfl rfl (r_move rfl) ?_
        refine l_nil ?_
        refine ⟨by repeat (first | exact Agree.over _ _ _ | exact Agree.refl _ _ | (refine Agree.puto ?_ _ _ rfl) | (refine Agree.put ?_ _ _ rfl) | (refine Agree.sub ?_ rfl)), ?_⟩
        exact ⟨4 - (1 + 1), by omega, 1 + 1, by omega, rfl, by show Value.int .i64 (IntKind.i64.wrap (((1 : Nat) : Int) + 1)) = _; rw [wrap_succ (k := 1) (n := 4) (by decide) (by decide)], fun _ => hm0, fun _ => hm1, fun h => absurd h (by decide), by omega, hL, hE⟩
    · -- case 2
      replace hm0 := hm0 (by decide)
      replace hm1 := hm1 (by decide)
      have h8 := union_no hm0
      have hpos := why_pos (hf.why h8)
      have hi := hf.idx h8 (bound_no hm1)
      refine c_skip ?_
      refine c_seq ?_
      refine c_block ?_
      refine c_seq ?_
      -- region 3
      refine c_ops ?_
      refine l_val rfl rfl rfl (r_index_arr rfl Tryd.underlying105 Tryd.sizeOf104 Tryd.isAgg104 rfl rfl (by decide) (by decide) rfl) ?_
      refine l_val rfl rfl rfl (r_assign rfl) ?_
      refine l_nil ?_
      refine c_seq ?_
      -- region 4
      refine c_ops ?_
      refine l_val rfl rfl rfl (r_move rfl) ?_
      refine l_val rfl rfl rfl (r_load_blk_agg rfl Tryd.isAgg37 Tryd.sizeOf37 rfl (hL.get 0 rfl) rfl) ?_
      refine l_by rfl rfl rfl (r_call rfl rfl Tryd.func74 rfl rfl) (loose_calls _ xb Ag cg g (hg.keep RNode.kept (Ext0.cells hE)) hok (Ext0.cells hE _ _ hx0) f Aw cw (hw.keep RInt.kept (Ext0.cells hE)) hf hi hpos) ?_   -- fact.go:76 slot 19 := (call {callee=(value (tmp 17)), args=[(tmp 18)], argTypes=[37]})
      rintro _ w ⟨v, rfl, hrow, hX⟩
      have hrow := ownsRow_base hrow hE.size
      replace hL := hL.ext0 hX
      replace hE := hE.trans hX
      refine ⟨_, rfl, ?_⟩
      refine l_val rfl rfl rfl (r_move rfl) ?_
      refine l_val rfl rfl rfl (r_extract rfl rfl rfl) ?_
      refine l_val rfl rfl rfl (r_extract rfl rfl rfl) ?_
      refine l_val rfl rfl rfl (r_extract rfl rfl rfl) ?_
      refine l_val rfl rfl rfl (r_assign rfl) ?_
      refine l_val rfl rfl rfl (r_assign rfl) ?_
      refine l_val rfl rfl rfl (r_assign rfl) ?_
      refine l_nil ?_
      refine c_seq ?_
      -- region 5
      refine c_ops ?_
      refine l_val rfl rfl rfl (r_move rfl) ?_
      refine l_nil ?_
      refine c_cond rfl (fun hb => ?_) (fun hb => ?_)
      · -- True
        have hr23 := hb
        refine c_seq ?_
        -- region 6
        refine c_ops ?_
        refine l_val rfl rfl rfl (r_move rfl) ?_
        refine l_val rfl rfl rfl (r_move rfl) ?_
        refine l_val rfl rfl rfl (r_assign rfl) ?_
        refine l_val rfl rfl rfl (r_assign rfl) ?_
        refine l_nil ?_
        refine c_ret ?_
        refine ByRes.of (r' := (looseF g f).2) (by unfold byF; rw [if_neg (by rw [hm0]; decide), if_neg (by rw [hm1]; decide), if_pos hr23]) ⟨_, rfl, hrow, hE⟩
      · -- False
        have hr23 := hb
        have hm2 := hr23
        refine c_skip ?_
        -- region 7
        refine c_ops ?_
        refine l_val rfl rfl rfl (r_add rfl rfl rfl) ?_
        refine l_val rfl rfl rfl (r_move rfl) ?_
        refine l_nil ?_
        refine ⟨by repeat (first | exact Agree.over _ _ _ | exact Agree.refl _ _ | (refine Agree.puto ?_ _ _ rfl) | (refine Agree.put ?_ _ _ rfl) | (refine Agree.sub ?_ rfl)), ?_⟩
        exact ⟨4 - (2 + 1), by omega, 2 + 1, by omega, rfl, by show Value.int .i64 (IntKind.i64.wrap (((2 : Nat) : Int) + 1)) = _; rw [wrap_succ (k := 2) (n := 4) (by decide) (by decide)], fun _ => hm0, fun _ => hm1, fun _ => hm2, by omega, hL, hE⟩
    · -- case 3
      replace hm0 := hm0 (by decide)
      replace hm1 := hm1 (by decide)
      replace hm2 := hm2 (by decide)
      have h8 := union_no hm0
      have hpos := why_pos (hf.why h8)
      have hi := hf.idx h8 (bound_no hm1)
      refine c_skip ?_
      refine c_seq ?_
      refine c_block ?_
      refine c_seq ?_
      -- region 3
      refine c_ops ?_
      refine l_val rfl rfl rfl (r_index_arr rfl Tryd.underlying105 Tryd.sizeOf104 Tryd.isAgg104 rfl rfl (by decide) (by decide) rfl) ?_
      refine l_val rfl rfl rfl (r_assign rfl) ?_
      refine l_nil ?_
      refine c_seq ?_
      -- region 4
      refine c_ops ?_
      refine l_val rfl rfl rfl (r_move rfl) ?_
      refine l_val rfl rfl rfl (r_load_blk_agg rfl Tryd.isAgg37 Tryd.sizeOf37 rfl (hL.get 0 rfl) rfl) ?_
      refine l_by rfl rfl rfl (r_call rfl rfl Tryd.func75 rfl rfl) (plain_calls _ xb Ag cg g (hg.keep RNode.kept (Ext0.cells hE)) hok (Ext0.cells hE _ _ hx0) f Aw cw (hw.keep RInt.kept (Ext0.cells hE)) hf h8 hi hpos) ?_   -- fact.go:76 slot 19 := (call {callee=(value (tmp 17)), args=[(tmp 18)], argTypes=[37]})
      rintro _ w ⟨v, rfl, hrow, hX⟩
      have hrow := ownsRow_base hrow hE.size
      replace hL := hL.ext0 hX
      replace hE := hE.trans hX
      refine ⟨_, rfl, ?_⟩
      refine l_val rfl rfl rfl (r_move rfl) ?_
      refine l_val rfl rfl rfl (r_extract rfl rfl rfl) ?_
      refine l_val rfl rfl rfl (r_extract rfl rfl rfl) ?_
      refine l_val rfl rfl rfl (r_extract rfl rfl rfl) ?_
      refine l_val rfl rfl rfl (r_assign rfl) ?_
      refine l_val rfl rfl rfl (r_assign rfl) ?_
      refine l_val rfl rfl rfl (r_assign rfl) ?_
      refine l_nil ?_
      refine c_seq ?_
      -- region 5
      refine c_ops ?_
      refine l_val rfl rfl rfl (r_move rfl) ?_
      refine l_nil ?_
      refine c_cond rfl (fun hb => ?_) (fun hb => ?_)
      · -- True
        have hr23 := hb
        refine c_seq ?_
        -- region 6
        refine c_ops ?_
        refine l_val rfl rfl rfl (r_move rfl) ?_
        refine l_val rfl rfl rfl (r_move rfl) ?_
        refine l_val rfl rfl rfl (r_assign rfl) ?_
        refine l_val rfl rfl rfl (r_assign rfl) ?_
        refine l_nil ?_
        refine c_ret ?_
        refine ByRes.of (r' := (plainF g f).2) (by unfold byF; rw [if_neg (by rw [hm0]; decide), if_neg (by rw [hm1]; decide), if_neg (by rw [hm2]; decide)]) ⟨_, rfl, hrow, hE⟩
      · -- False
        have hr23 := hb
        exact absurd hb (by show ¬ (true = false); decide)
  · -- False
    have hr14 := hb
    replace hb := of_decide_eq_false hb
    exfalso
    omega
end Go.Proofs.YtndophlnapjkhaaDoor.Vc
