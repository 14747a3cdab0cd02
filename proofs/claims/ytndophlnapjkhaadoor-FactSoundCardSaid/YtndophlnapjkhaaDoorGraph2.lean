/- Which graphs may be, and what a type is of: functions of package graph. Conditions: those of each statement. -/
import Derived.Test.YtndophlnapjkhaaDoorGraph
namespace Go.Proofs.YtndophlnapjkhaaDoor.Vc
open Go Go.RowKit
set_option linter.unusedVariables false
set_option linter.unusedSimpArgs false

/-- A graph whose texts are not beyond what a text may be. -/
def FitsN (x : GNode) : Prop := x.name.size ≤ 9223372036854775807 ∧ ∀ s ∈ x.keys, s.size ≤ 9223372036854775807
theorem outB_no {n : Nat} {k : Int} (h : outB n k = false) : 0 ≤ k ∧ k < n := by
  unfold outB at h
  simp at h
  omega
theorem any_false {α : Type} {p : α → Bool} {l : List α} {x : α} (h : l.any p = false) (hx : x ∈ l) : p x = false := by
  rw [List.any_eq_false] at h
  simpa using h x hx
theorem odd_l {n : Nat} {x : GNode} (h : oddB n x = false) : x.l.any (outB n) = false := by
  unfold oddB at h
  rw [Bool.or_eq_false_iff, Bool.or_eq_false_iff, Bool.or_eq_false_iff] at h
  exact h.1.1.1
theorem may_calls (w0 : World) (Ag : Option Addr) (cg : Nat) (g : List GNode) (hg : Nodes w0 Ag cg g) (x : GNode) (Ak : Option Addr) (ck : Nat) (Al : Option Addr) (cl : Nat) (hks : Strs w0 Ak ck x.keys) (hls : Ints w0 Al cl x.l) (hfit : FitsN x) (hk0 : KeysLaid w0) :
    Calls Tryd.prog 44 [.slice Ag g.length cg, .agg (nodeCells x Ak ck Al cl).toArray].toArray w0 fun en w' => en = .returned (.bool (mayB g x)) ∧ Ext0 w0 w' := by
  have hE : Ext0 w0 w0 := Ext.refl _ _
  have hL : Has w0 [] := trivial
  refine calls [4] Tryd.func44 rfl rfl rfl rfl ?_
  refine c_seq ?_
  -- region 0
  refine c_ops ?_
  refine l_new rfl rfl rfl (n_box rfl hL hE) ?_
  rintro _ w ⟨b2, rfl, hb2, hL, hE, hX⟩
  refine l_new rfl rfl rfl (n_box rfl hL hE) ?_
  rintro _ w ⟨b3, rfl, hb3, hL, hE, hX⟩
  refine l_val rfl rfl rfl (r_assign rfl) ?_
  refine l_nil ?_
  refine c_seq ?_
  -- region 1
  refine c_ops ?_
  refine l_val rfl rfl rfl (r_makeFunc rfl) ?_
  refine l_val rfl rfl rfl (r_assign rfl) ?_
  refine l_nil ?_
  refine c_seq ?_
  refine c_merge [11, 12, 13, 14, 15, 16, 17, 18, 19, 20, 21, 22, 23, 24, 25, 26, 27, 28, 29, 30, 31, 32, 33, 34, 35, 36, 37, 38, 39, 40, 41, 42, 43, 44, 45] (fun e w => e 45 = .bool (oddB g.length x) ∧ Has w [.blk b3 (.cells (nodeCells x Ak ck Al cl).toArray 45 (0, 0)), .blk b2 (.cells #[.slice Ag g.length cg] 22 (0, 0))] ∧ Ext0 w0 w) ?_ ?_
  · -- merged
    -- region 2
    refine c_ops ?_
    refine l_val rfl rfl rfl (r_fieldAddr (n := 0) rfl Tryd.underlying45 rfl Tryd.sizeOf30 rfl) ?_
    refine l_val rfl rfl rfl (r_load_blk rfl Tryd.isAgg30 rfl (hL.get 0 rfl) rfl) ?_
    refine l_val rfl rfl rfl (r_move rfl) ?_
    have hT : Tests Tryd.prog (fun (_ : Unit) W => Has W [.blk b3 (.cells (nodeCells x Ak ck Al cl).toArray 45 (0, 0)), .blk b2 (.cells #[.slice Ag g.length cg] 22 (0, 0))]) (fun _ => False) (D1 RInt) (fun _ k => (outB g.length k, ())) (.func (.func 55) #[] #[.pointer (some ⟨b2, 0, none⟩)]) := ⟨_, _, _, _, _, rfl, Tryd.func55, rfl, rfl, fun _ k v W hs hv => (by
      obtain rfl : v = .int .i64 k := by injection hv
      exact (may1_calls W b2 Ag g.length cg _ k hs.tail).mono (fun en w' ⟨h1, h2⟩ => ⟨h1, h2, hs.ext0 h2⟩))⟩
    refine l_by rfl rfl rfl (r_call rfl rfl Tryd.func39 rfl rfl) (ContainsFunc_int (fun (_ : Unit) W => Has W [.blk b3 (.cells (nodeCells x Ak ck Al cl).toArray 45 (0, 0)), .blk b2 (.cells #[.slice Ag g.length cg] 22 (0, 0))]) (fun _ => False) RInt (fun _ k => (outB g.length k, ())) _ _ _ _ x.l _ () (fun W hW => hls.keep RInt.kept (Ext0.cells (hE.trans hW))) hT hL) ?_   -- graph.go:29 slot 14 := (call {callee=(value (func 39)), args=[(tmp 12), (tmp 13)], argTypes=[30, 69]})
    rintro _ w ⟨rfl, hX, hL⟩
    replace hE := hE.step0 hX
    rw [findS_pure]
    refine ⟨_, rfl, ?_⟩
    refine l_val rfl rfl rfl (r_move rfl) ?_
    refine l_case 15 rfl (fun hb => ?_) (fun hb => ?_)
    · -- slot 15 is True
      have hr15 := hb
      refine l_not rfl rfl rfl ?_
      refine l_not rfl rfl rfl ?_
      refine l_not rfl rfl rfl ?_
      refine l_not rfl rfl rfl ?_
      refine l_not rfl rfl rfl ?_
      refine l_not rfl rfl rfl ?_
      refine l_not rfl rfl rfl ?_
      refine l_not rfl rfl rfl ?_
      refine l_val rfl rfl rfl (r_pick rfl rfl) ?_
      refine l_val rfl rfl rfl (r_move rfl) ?_
      refine l_not rfl rfl rfl ?_
      refine l_not rfl rfl rfl ?_
      refine l_not rfl rfl rfl ?_
      refine l_not rfl rfl rfl ?_
      refine l_not rfl rfl rfl ?_
      refine l_not rfl rfl rfl ?_
      refine l_not rfl rfl rfl ?_
      refine l_not rfl rfl rfl ?_
      refine l_val rfl rfl rfl (r_pick rfl rfl) ?_
      refine l_val rfl rfl rfl (r_move rfl) ?_
      refine l_not rfl rfl rfl ?_
      refine l_not rfl rfl rfl ?_
      refine l_not rfl rfl rfl ?_
      refine l_not rfl rfl rfl ?_
      refine l_not rfl rfl rfl ?_
      refine l_not rfl rfl rfl ?_
      refine l_not rfl rfl rfl ?_
      refine l_not rfl rfl rfl ?_
      refine l_not rfl rfl rfl ?_
      refine l_val rfl rfl rfl (r_pick rfl rfl) ?_
      refine l_nil ?_
      refine ⟨by repeat (first | exact Agree.over _ _ _ | exact Agree.refl _ _ | (refine Agree.puto ?_ _ _ rfl) | (refine Agree.put ?_ _ _ rfl) | (refine Agree.sub ?_ rfl)), ?_⟩
      exact ⟨congrArg Value.bool (by simp only [oddB, hr15, Bool.true_and, Bool.and_true, Bool.false_and, Bool.and_false, Bool.true_or, Bool.or_true, Bool.false_or, Bool.or_false, Bool.not_true, Bool.not_false, cond_true, cond_false]), hL, hE⟩
    · -- slot 15 is False
      have hr15 := hb
      refine l_val rfl rfl rfl (r_fieldAddr (n := 0) rfl Tryd.underlying45 rfl Tryd.sizeOf3 rfl) ?_
      refine l_val rfl rfl rfl (r_load_blk rfl Tryd.isAgg3 rfl (hL.get 0 rfl) rfl) ?_
      refine l_val rfl rfl rfl (r_neq rfl rfl rfl) ?_
      refine l_val rfl rfl rfl (r_move rfl) ?_
      refine l_case 19 rfl (fun hb => ?_) (fun hb => ?_)
      · -- slot 19 is True
        have hr19 := hb
        replace hb := of_decide_eq_false (by simpa using hb)
        refine l_val rfl rfl rfl (r_fieldAddr (n := 0) rfl Tryd.underlying45 rfl Tryd.sizeOf3 rfl) ?_
        refine l_val rfl rfl rfl (r_load_blk rfl Tryd.isAgg3 rfl (hL.get 0 rfl) rfl) ?_
        refine l_val rfl rfl rfl (r_neq rfl rfl rfl) ?_
        refine l_val rfl rfl rfl (r_pick rfl rfl) ?_
        refine l_val rfl rfl rfl (r_pick rfl rfl) ?_
        refine l_val rfl rfl rfl (r_move rfl) ?_
        refine l_case 25 rfl (fun hb => ?_) (fun hb => ?_)
        · -- slot 25 is True
          have hr25 := hb
          replace hb := of_decide_eq_false (by simpa using hb)
          refine l_not rfl rfl rfl ?_
          refine l_not rfl rfl rfl ?_
          refine l_not rfl rfl rfl ?_
          refine l_not rfl rfl rfl ?_
          refine l_not rfl rfl rfl ?_
          refine l_not rfl rfl rfl ?_
          refine l_not rfl rfl rfl ?_
          refine l_not rfl rfl rfl ?_
          refine l_val rfl rfl rfl (r_pick rfl rfl) ?_
          refine l_val rfl rfl rfl (r_move rfl) ?_
          refine l_not rfl rfl rfl ?_
          refine l_not rfl rfl rfl ?_
          refine l_not rfl rfl rfl ?_
          refine l_not rfl rfl rfl ?_
          refine l_not rfl rfl rfl ?_
          refine l_not rfl rfl rfl ?_
          refine l_not rfl rfl rfl ?_
          refine l_not rfl rfl rfl ?_
          refine l_not rfl rfl rfl ?_
          refine l_val rfl rfl rfl (r_pick rfl rfl) ?_
          refine l_nil ?_
          refine ⟨by repeat (first | exact Agree.over _ _ _ | exact Agree.refl _ _ | (refine Agree.puto ?_ _ _ rfl) | (refine Agree.put ?_ _ _ rfl) | (refine Agree.sub ?_ rfl)), ?_⟩
          exact ⟨congrArg Value.bool (by simp only [oddB, hr15, hr19, hr25, Bool.true_and, Bool.and_true, Bool.false_and, Bool.and_false, Bool.true_or, Bool.or_true, Bool.false_or, Bool.or_false, Bool.not_true, Bool.not_false, cond_true, cond_false]), hL, hE⟩
        · -- slot 25 is False
          have hr25 := hb
          replace hb := of_decide_eq_true (by simpa using hb)
          refine l_val rfl rfl rfl (r_fieldAddr (n := 0) rfl Tryd.underlying45 rfl Tryd.sizeOf9 rfl) ?_
          refine l_val rfl rfl rfl (r_load_blk rfl Tryd.isAgg9 rfl (hL.get 0 rfl) rfl) ?_
          refine l_val rfl rfl rfl (r_sneq rfl rfl rfl) ?_
          refine l_val rfl rfl rfl (r_move rfl) ?_
          refine l_case 29 rfl (fun hb => ?_) (fun hb => ?_)
          · -- slot 29 is True
            have hr29 := hb
            replace hb := of_decide_eq_false (by simpa using hb)
            refine l_val rfl rfl rfl (r_fieldAddr (n := 0) rfl Tryd.underlying45 rfl Tryd.sizeOf3 rfl) ?_
            refine l_val rfl rfl rfl (r_load_blk rfl Tryd.isAgg3 rfl (hL.get 0 rfl) rfl) ?_
            refine l_val rfl rfl rfl (r_neq rfl rfl rfl) ?_
            refine l_val rfl rfl rfl (r_pick rfl rfl) ?_
            refine l_val rfl rfl rfl (r_pick rfl rfl) ?_
            refine l_val rfl rfl rfl (r_move rfl) ?_
            refine l_case 35 rfl (fun hb => ?_) (fun hb => ?_)
            · -- slot 35 is True
              have hr35 := hb
              replace hb := of_decide_eq_false (by simpa using hb)
              refine l_not rfl rfl rfl ?_
              refine l_not rfl rfl rfl ?_
              refine l_not rfl rfl rfl ?_
              refine l_not rfl rfl rfl ?_
              refine l_not rfl rfl rfl ?_
              refine l_not rfl rfl rfl ?_
              refine l_not rfl rfl rfl ?_
              refine l_not rfl rfl rfl ?_
              refine l_not rfl rfl rfl ?_
              refine l_val rfl rfl rfl (r_pick rfl rfl) ?_
              refine l_nil ?_
              refine ⟨by repeat (first | exact Agree.over _ _ _ | exact Agree.refl _ _ | (refine Agree.puto ?_ _ _ rfl) | (refine Agree.put ?_ _ _ rfl) | (refine Agree.sub ?_ rfl)), ?_⟩
              exact ⟨congrArg Value.bool (by simp only [oddB, hr15, hr19, hr25, hr29, hr35, Bool.true_and, Bool.and_true, Bool.false_and, Bool.and_false, Bool.true_or, Bool.or_true, Bool.false_or, Bool.or_false, Bool.not_true, Bool.not_false, cond_true, cond_false]), hL, hE⟩
            · -- slot 35 is False
              have hr35 := hb
              replace hb := of_decide_eq_true (by simpa using hb)
              refine l_val rfl rfl rfl (r_fieldAddr (n := 0) rfl Tryd.underlying45 rfl Tryd.sizeOf43 rfl) ?_
              refine l_val rfl rfl rfl (r_load_blk rfl Tryd.isAgg43 rfl (hL.get 0 rfl) rfl) ?_
              refine l_val rfl rfl rfl (r_len rfl Tryd.underlying43 rfl) ?_
              refine l_val rfl rfl rfl (r_gtr rfl rfl rfl) ?_
              refine l_val rfl rfl rfl (r_move rfl) ?_
              refine l_case 40 rfl (fun hb => ?_) (fun hb => ?_)
              · -- slot 40 is True
                have hr40 := hb
                replace hb := of_decide_eq_true hb
                refine l_val rfl rfl rfl (r_fieldAddr (n := 0) rfl Tryd.underlying45 rfl Tryd.sizeOf3 rfl) ?_
                refine l_val rfl rfl rfl (r_load_blk rfl Tryd.isAgg3 rfl (hL.get 0 rfl) rfl) ?_
                refine l_val rfl rfl rfl (r_neq rfl rfl rfl) ?_
                refine l_val rfl rfl rfl (r_pick rfl rfl) ?_
                refine l_val rfl rfl rfl (r_pick rfl rfl) ?_
                refine l_nil ?_
                refine ⟨by repeat (first | exact Agree.over _ _ _ | exact Agree.refl _ _ | (refine Agree.puto ?_ _ _ rfl) | (refine Agree.put ?_ _ _ rfl) | (refine Agree.sub ?_ rfl)), ?_⟩
                exact ⟨congrArg Value.bool (by simp only [oddB, hr15, hr19, hr25, hr29, hr35, hr40, Bool.true_and, Bool.and_true, Bool.false_and, Bool.and_false, Bool.true_or, Bool.or_true, Bool.false_or, Bool.or_false, Bool.not_true, Bool.not_false, cond_true, cond_false]), hL, hE⟩
              · -- slot 40 is False
                have hr40 := hb
                replace hb := of_decide_eq_false hb
                refine l_not rfl rfl rfl ?_
                refine l_not rfl rfl rfl ?_
                refine l_not rfl rfl rfl ?_
                refine l_val rfl rfl rfl (r_pick rfl rfl) ?_
                refine l_val rfl rfl rfl (r_pick rfl rfl) ?_
                refine l_nil ?_
                refine ⟨by repeat (first | exact Agree.over _ _ _ | exact Agree.refl _ _ | (refine Agree.puto ?_ _ _ rfl) | (refine Agree.put ?_ _ _ rfl) | (refine Agree.sub ?_ rfl)), ?_⟩
                exact ⟨congrArg Value.bool (by simp only [oddB, hr15, hr19, hr25, hr29, hr35, hr40, Bool.true_and, Bool.and_true, Bool.false_and, Bool.and_false, Bool.true_or, Bool.or_true, Bool.false_or, Bool.or_false, Bool.not_true, Bool.not_false, cond_true, cond_false]), hL, hE⟩
          · -- slot 29 is False
            have hr29 := hb
            replace hb := of_decide_eq_true (by simpa using hb)
            refine l_not rfl rfl rfl ?_
            refine l_not rfl rfl rfl ?_
            refine l_not rfl rfl rfl ?_
            refine l_val rfl rfl rfl (r_pick rfl rfl) ?_
            refine l_val rfl rfl rfl (r_pick rfl rfl) ?_
            refine l_val rfl rfl rfl (r_move rfl) ?_
            refine l_val rfl rfl rfl (r_fieldAddr (n := 0) rfl Tryd.underlying45 rfl Tryd.sizeOf43 rfl) ?_
            refine l_val rfl rfl rfl (r_load_blk rfl Tryd.isAgg43 rfl (hL.get 0 rfl) rfl) ?_
            refine l_val rfl rfl rfl (r_len rfl Tryd.underlying43 rfl) ?_
            refine l_val rfl rfl rfl (r_gtr rfl rfl rfl) ?_
            refine l_val rfl rfl rfl (r_move rfl) ?_
            refine l_case 40 rfl (fun hb => ?_) (fun hb => ?_)
            · -- slot 40 is True
              have hr40 := hb
              replace hb := of_decide_eq_true hb
              refine l_val rfl rfl rfl (r_fieldAddr (n := 0) rfl Tryd.underlying45 rfl Tryd.sizeOf3 rfl) ?_
              refine l_val rfl rfl rfl (r_load_blk rfl Tryd.isAgg3 rfl (hL.get 0 rfl) rfl) ?_
              refine l_val rfl rfl rfl (r_neq rfl rfl rfl) ?_
              refine l_val rfl rfl rfl (r_pick rfl rfl) ?_
              refine l_val rfl rfl rfl (r_pick rfl rfl) ?_
              refine l_nil ?_
              refine ⟨by repeat (first | exact Agree.over _ _ _ | exact Agree.refl _ _ | (refine Agree.puto ?_ _ _ rfl) | (refine Agree.put ?_ _ _ rfl) | (refine Agree.sub ?_ rfl)), ?_⟩
              exact ⟨congrArg Value.bool (by simp only [oddB, hr15, hr19, hr25, hr29, hr40, Bool.true_and, Bool.and_true, Bool.false_and, Bool.and_false, Bool.true_or, Bool.or_true, Bool.false_or, Bool.or_false, Bool.not_true, Bool.not_false, cond_true, cond_false]), hL, hE⟩
            · -- slot 40 is False
              have hr40 := hb
              replace hb := of_decide_eq_false hb
              refine l_not rfl rfl rfl ?_
              refine l_not rfl rfl rfl ?_
              refine l_not rfl rfl rfl ?_
              refine l_val rfl rfl rfl (r_pick rfl rfl) ?_
              refine l_val rfl rfl rfl (r_pick rfl rfl) ?_
              refine l_nil ?_
              refine ⟨by repeat (first | exact Agree.over _ _ _ | exact Agree.refl _ _ | (refine Agree.puto ?_ _ _ rfl) | (refine Agree.put ?_ _ _ rfl) | (refine Agree.sub ?_ rfl)), ?_⟩
              exact ⟨congrArg Value.bool (by simp only [oddB, hr15, hr19, hr25, hr29, hr40, Bool.true_and, Bool.and_true, Bool.false_and, Bool.and_false, Bool.true_or, Bool.or_true, Bool.false_or, Bool.or_false, Bool.not_true, Bool.not_false, cond_true, cond_false]), hL, hE⟩
      · -- slot 19 is False
        have hr19 := hb
        replace hb := of_decide_eq_true (by simpa using hb)
        refine l_not rfl rfl rfl ?_
        refine l_not rfl rfl rfl ?_
        refine l_not rfl rfl rfl ?_
        refine l_val rfl rfl rfl (r_pick rfl rfl) ?_
        refine l_val rfl rfl rfl (r_pick rfl rfl) ?_
        refine l_val rfl rfl rfl (r_move rfl) ?_
        refine l_val rfl rfl rfl (r_fieldAddr (n := 0) rfl Tryd.underlying45 rfl Tryd.sizeOf9 rfl) ?_
        refine l_val rfl rfl rfl (r_load_blk rfl Tryd.isAgg9 rfl (hL.get 0 rfl) rfl) ?_
        refine l_val rfl rfl rfl (r_sneq rfl rfl rfl) ?_
        refine l_val rfl rfl rfl (r_move rfl) ?_
        refine l_case 29 rfl (fun hb => ?_) (fun hb => ?_)
        · -- slot 29 is True
          have hr29 := hb
          replace hb := of_decide_eq_false (by simpa using hb)
          refine l_val rfl rfl rfl (r_fieldAddr (n := 0) rfl Tryd.underlying45 rfl Tryd.sizeOf3 rfl) ?_
          refine l_val rfl rfl rfl (r_load_blk rfl Tryd.isAgg3 rfl (hL.get 0 rfl) rfl) ?_
          refine l_val rfl rfl rfl (r_neq rfl rfl rfl) ?_
          refine l_val rfl rfl rfl (r_pick rfl rfl) ?_
          refine l_val rfl rfl rfl (r_pick rfl rfl) ?_
          refine l_val rfl rfl rfl (r_move rfl) ?_
          refine l_case 35 rfl (fun hb => ?_) (fun hb => ?_)
          · -- slot 35 is True
            have hr35 := hb
            replace hb := of_decide_eq_false (by simpa using hb)
            refine l_not rfl rfl rfl ?_
            refine l_not rfl rfl rfl ?_
            refine l_not rfl rfl rfl ?_
            refine l_not rfl rfl rfl ?_
            refine l_not rfl rfl rfl ?_
            refine l_not rfl rfl rfl ?_
            refine l_not rfl rfl rfl ?_
            refine l_not rfl rfl rfl ?_
            refine l_not rfl rfl rfl ?_
            refine l_val rfl rfl rfl (r_pick rfl rfl) ?_
            refine l_nil ?_
            refine ⟨by repeat (first | exact Agree.over _ _ _ | exact Agree.refl _ _ | (refine Agree.puto ?_ _ _ rfl) | (refine Agree.put ?_ _ _ rfl) | (refine Agree.sub ?_ rfl)), ?_⟩
            exact ⟨congrArg Value.bool (by simp only [oddB, hr15, hr19, hr29, hr35, Bool.true_and, Bool.and_true, Bool.false_and, Bool.and_false, Bool.true_or, Bool.or_true, Bool.false_or, Bool.or_false, Bool.not_true, Bool.not_false, cond_true, cond_false]), hL, hE⟩
          · -- slot 35 is False
            have hr35 := hb
            replace hb := of_decide_eq_true (by simpa using hb)
            refine l_val rfl rfl rfl (r_fieldAddr (n := 0) rfl Tryd.underlying45 rfl Tryd.sizeOf43 rfl) ?_
            refine l_val rfl rfl rfl (r_load_blk rfl Tryd.isAgg43 rfl (hL.get 0 rfl) rfl) ?_
            refine l_val rfl rfl rfl (r_len rfl Tryd.underlying43 rfl) ?_
            refine l_val rfl rfl rfl (r_gtr rfl rfl rfl) ?_
            refine l_val rfl rfl rfl (r_move rfl) ?_
            refine l_case 40 rfl (fun hb => ?_) (fun hb => ?_)
            · -- slot 40 is True
              have hr40 := hb
              replace hb := of_decide_eq_true hb
              refine l_val rfl rfl rfl (r_fieldAddr (n := 0) rfl Tryd.underlying45 rfl Tryd.sizeOf3 rfl) ?_
              refine l_val rfl rfl rfl (r_load_blk rfl Tryd.isAgg3 rfl (hL.get 0 rfl) rfl) ?_
              refine l_val rfl rfl rfl (r_neq rfl rfl rfl) ?_
              refine l_val rfl rfl rfl (r_pick rfl rfl) ?_
              refine l_val rfl rfl rfl (r_pick rfl rfl) ?_
              refine l_nil ?_
              refine ⟨by repeat (first | exact Agree.over _ _ _ | exact Agree.refl _ _ | (refine Agree.puto ?_ _ _ rfl) | (refine Agree.put ?_ _ _ rfl) | (refine Agree.sub ?_ rfl)), ?_⟩
              exact ⟨congrArg Value.bool (by simp only [oddB, hr15, hr19, hr29, hr35, hr40, Bool.true_and, Bool.and_true, Bool.false_and, Bool.and_false, Bool.true_or, Bool.or_true, Bool.false_or, Bool.or_false, Bool.not_true, Bool.not_false, cond_true, cond_false]), hL, hE⟩
            · -- slot 40 is False
              have hr40 := hb
              replace hb := of_decide_eq_false hb
              refine l_not rfl rfl rfl ?_
              refine l_not rfl rfl rfl ?_
              refine l_not rfl rfl rfl ?_
              refine l_val rfl rfl rfl (r_pick rfl rfl) ?_
              refine l_val rfl rfl rfl (r_pick rfl rfl) ?_
              refine l_nil ?_
              refine ⟨by repeat (first | exact Agree.over _ _ _ | exact Agree.refl _ _ | (refine Agree.puto ?_ _ _ rfl) | (refine Agree.put ?_ _ _ rfl) | (refine Agree.sub ?_ rfl)), ?_⟩
              exact ⟨congrArg Value.bool (by simp only [oddB, hr15, hr19, hr29, hr35, hr40, Bool.true_and, Bool.and_true, Bool.false_and, Bool.and_false, Bool.true_or, Bool.or_true, Bool.false_or, Bool.or_false, Bool.not_true, Bool.not_false, cond_true, cond_false]), hL, hE⟩
        · -- slot 29 is False
          have hr29 := hb
          replace hb := of_decide_eq_true (by simpa using hb)
          refine l_not rfl rfl rfl ?_
          refine l_not rfl rfl rfl ?_
          refine l_not rfl rfl rfl ?_
          refine l_val rfl rfl rfl (r_pick rfl rfl) ?_
          refine l_val rfl rfl rfl (r_pick rfl rfl) ?_
          refine l_val rfl rfl rfl (r_move rfl) ?_
          refine l_val rfl rfl rfl (r_fieldAddr (n := 0) rfl Tryd.underlying45 rfl Tryd.sizeOf43 rfl) ?_
          refine l_val rfl rfl rfl (r_load_blk rfl Tryd.isAgg43 rfl (hL.get 0 rfl) rfl) ?_
          refine l_val rfl rfl rfl (r_len rfl Tryd.underlying43 rfl) ?_
          refine l_val rfl rfl rfl (r_gtr rfl rfl rfl) ?_
          refine l_val rfl rfl rfl (r_move rfl) ?_
          refine l_case 40 rfl (fun hb => ?_) (fun hb => ?_)
          · -- slot 40 is True
            have hr40 := hb
            replace hb := of_decide_eq_true hb
            refine l_val rfl rfl rfl (r_fieldAddr (n := 0) rfl Tryd.underlying45 rfl Tryd.sizeOf3 rfl) ?_
            refine l_val rfl rfl rfl (r_load_blk rfl Tryd.isAgg3 rfl (hL.get 0 rfl) rfl) ?_
            refine l_val rfl rfl rfl (r_neq rfl rfl rfl) ?_
            refine l_val rfl rfl rfl (r_pick rfl rfl) ?_
            refine l_val rfl rfl rfl (r_pick rfl rfl) ?_
            refine l_nil ?_
            refine ⟨by repeat (first | exact Agree.over _ _ _ | exact Agree.refl _ _ | (refine Agree.puto ?_ _ _ rfl) | (refine Agree.put ?_ _ _ rfl) | (refine Agree.sub ?_ rfl)), ?_⟩
            exact ⟨congrArg Value.bool (by simp only [oddB, hr15, hr19, hr29, hr40, Bool.true_and, Bool.and_true, Bool.false_and, Bool.and_false, Bool.true_or, Bool.or_true, Bool.false_or, Bool.or_false, Bool.not_true, Bool.not_false, cond_true, cond_false]), hL, hE⟩
          · -- slot 40 is False
            have hr40 := hb
            replace hb := of_decide_eq_false hb
            refine l_not rfl rfl rfl ?_
            refine l_not rfl rfl rfl ?_
            refine l_not rfl rfl rfl ?_
            refine l_val rfl rfl rfl (r_pick rfl rfl) ?_
            refine l_val rfl rfl rfl (r_pick rfl rfl) ?_
            refine l_nil ?_
            refine ⟨by repeat (first | exact Agree.over _ _ _ | exact Agree.refl _ _ | (refine Agree.puto ?_ _ _ rfl) | (refine Agree.put ?_ _ _ rfl) | (refine Agree.sub ?_ rfl)), ?_⟩
            exact ⟨congrArg Value.bool (by simp only [oddB, hr15, hr19, hr29, hr40, Bool.true_and, Bool.and_true, Bool.false_and, Bool.and_false, Bool.true_or, Bool.or_true, Bool.false_or, Bool.or_false, Bool.not_true, Bool.not_false, cond_true, cond_false]), hL, hE⟩
  rintro e w hI
  obtain ⟨h45, hL, hE⟩ := hI
  refine c_know h45 ?_
  refine c_cond rfl (fun hb => ?_) (fun hb => ?_)
  · -- True
    have hr45 := hb
    refine c_seq ?_
    -- region 3
    refine c_ops ?_
    refine l_val rfl rfl rfl (r_assign rfl) ?_
    refine l_nil ?_
    refine c_ret ?_
    exact ⟨ret_bool rfl (by simp only [mayB, kindB, hr45, Bool.true_and, Bool.and_true, Bool.false_and, Bool.and_false, Bool.true_or, Bool.or_true, Bool.false_or, Bool.or_false, Bool.not_true, Bool.not_false, cond_true, cond_false]), hE⟩
  · -- False
    have hr45 := hb
    refine c_skip ?_
    refine c_seq ?_
    refine c_seq ?_
    -- region 4
    refine c_ops ?_
    refine l_val rfl rfl rfl (r_fieldAddr (n := 0) rfl Tryd.underlying45 rfl Tryd.sizeOf3 rfl) ?_
    refine l_val rfl rfl rfl (r_load_blk rfl Tryd.isAgg3 rfl (hL.get 0 rfl) rfl) ?_
    refine l_nil ?_
    refine c_block ?_
    refine c_merge [48, 49, 50, 51, 52] (fun e w => e 48 = .bool (bareB x) ∧ Has w [.blk b3 (.cells (nodeCells x Ak ck Al cl).toArray 45 (0, 0)), .blk b2 (.cells #[.slice Ag g.length cg] 22 (0, 0))] ∧ Ext0 w0 w) ?_ ?_
    · -- merged
      refine c_seq ?_
      -- region 5
      refine c_ops ?_
      refine l_val rfl rfl rfl (r_eql rfl rfl rfl) ?_
      refine l_val rfl rfl rfl (r_assign rfl) ?_
      refine l_nil ?_
      refine c_cond rfl (fun hb => ?_) (fun hb => ?_)
      · -- True
        have hr48 := hb
        replace hb := of_decide_eq_true hb
        refine c_skip ?_
        refine ⟨by repeat (first | exact Agree.over _ _ _ | exact Agree.refl _ _ | (refine Agree.puto ?_ _ _ rfl) | (refine Agree.put ?_ _ _ rfl) | (refine Agree.sub ?_ rfl)), ?_⟩
        exact ⟨congrArg Value.bool (by simp_all [bareB]), hL, hE⟩
      · -- False
        have hr48 := hb
        replace hb := of_decide_eq_false hb
        refine c_seq ?_
        -- region 6
        refine c_ops ?_
        refine l_val rfl rfl rfl (r_eql rfl rfl rfl) ?_
        refine l_val rfl rfl rfl (r_assign rfl) ?_
        refine l_nil ?_
        refine c_cond rfl (fun hb => ?_) (fun hb => ?_)
        · -- True
          have hr48' := hb
          replace hb := of_decide_eq_true hb
          refine c_skip ?_
          refine ⟨by repeat (first | exact Agree.over _ _ _ | exact Agree.refl _ _ | (refine Agree.puto ?_ _ _ rfl) | (refine Agree.put ?_ _ _ rfl) | (refine Agree.sub ?_ rfl)), ?_⟩
          exact ⟨congrArg Value.bool (by simp_all [bareB]), hL, hE⟩
        · -- False
          have hr48' := hb
          replace hb := of_decide_eq_false hb
          refine c_seq ?_
          -- region 7
          refine c_ops ?_
          refine l_val rfl rfl rfl (r_eql rfl rfl rfl) ?_
          refine l_val rfl rfl rfl (r_assign rfl) ?_
          refine l_nil ?_
          refine c_cond rfl (fun hb => ?_) (fun hb => ?_)
          · -- True
            have hr48'' := hb
            replace hb := of_decide_eq_true hb
            refine c_skip ?_
            refine ⟨by repeat (first | exact Agree.over _ _ _ | exact Agree.refl _ _ | (refine Agree.puto ?_ _ _ rfl) | (refine Agree.put ?_ _ _ rfl) | (refine Agree.sub ?_ rfl)), ?_⟩
            exact ⟨congrArg Value.bool (by simp_all [bareB]), hL, hE⟩
          · -- False
            have hr48'' := hb
            replace hb := of_decide_eq_false hb
            -- region 8
            refine c_ops ?_
            refine l_val rfl rfl rfl (r_eql rfl rfl rfl) ?_
            refine l_val rfl rfl rfl (r_assign rfl) ?_
            refine l_nil ?_
            refine ⟨by repeat (first | exact Agree.over _ _ _ | exact Agree.refl _ _ | (refine Agree.puto ?_ _ _ rfl) | (refine Agree.put ?_ _ _ rfl) | (refine Agree.sub ?_ rfl)), ?_⟩
            exact ⟨congrArg Value.bool (by simp_all [bareB]), hL, hE⟩
    rintro e w hI
    obtain ⟨h48, hL, hE⟩ := hI
    refine c_know h48 ?_
    refine c_cond rfl (fun hb => ?_) (fun hb => ?_)
    · -- True
      have hr48 := hb
      refine c_seq ?_
      -- region 9
      refine c_ops ?_
      refine l_val rfl rfl rfl (r_fieldAddr (n := 0) rfl Tryd.underlying45 rfl Tryd.sizeOf30 rfl) ?_
      refine l_val rfl rfl rfl (r_load_blk rfl Tryd.isAgg30 rfl (hL.get 0 rfl) rfl) ?_
      refine l_val rfl rfl rfl (r_len rfl Tryd.underlying30 rfl) ?_
      refine l_val rfl rfl rfl (r_eql rfl rfl rfl) ?_
      refine l_val rfl rfl rfl (r_assign rfl) ?_
      refine l_nil ?_
      refine c_ret ?_
      exact ⟨ret_bool rfl (by simp only [mayB, kindB, hr45, hr48, Bool.true_and, Bool.and_true, Bool.false_and, Bool.and_false, Bool.true_or, Bool.or_true, Bool.false_or, Bool.or_false, Bool.not_true, Bool.not_false, cond_true, cond_false]), hE⟩
    · -- False
      have hr48 := hb
      refine c_seq ?_
      -- region 10
      refine c_ops ?_
      refine l_val rfl rfl rfl (r_eql rfl rfl rfl) ?_
      refine l_val rfl rfl rfl (r_assign rfl) ?_
      refine l_nil ?_
      refine c_cond rfl (fun hb => ?_) (fun hb => ?_)
      · -- True
        have hr57 := hb
        replace hb := of_decide_eq_true hb
        refine c_seq ?_
        -- region 11
        refine c_ops ?_
        refine l_val rfl rfl rfl (r_fieldAddr (n := 0) rfl Tryd.underlying45 rfl Tryd.sizeOf30 rfl) ?_
        refine l_val rfl rfl rfl (r_load_blk rfl Tryd.isAgg30 rfl (hL.get 0 rfl) rfl) ?_
        refine l_val rfl rfl rfl (r_len rfl Tryd.underlying30 rfl) ?_
        refine l_val rfl rfl rfl (r_eql rfl rfl rfl) ?_
        refine l_val rfl rfl rfl (r_move rfl) ?_
        refine l_case 63 rfl (fun hb => ?_) (fun hb => ?_)
        · -- slot 63 is True
          have hr63 := hb
          replace hb := of_decide_eq_true hb
          refine l_val rfl rfl rfl (r_fieldAddr (n := 0) rfl Tryd.underlying45 rfl Tryd.sizeOf9 rfl) ?_
          refine l_val rfl rfl rfl (r_load_blk rfl Tryd.isAgg9 rfl (hL.get 0 rfl) rfl) ?_
          refine l_by rfl rfl rfl (r_call rfl rfl Tryd.func56 rfl rfl) (IsName_calls _ _ (hk0.keep (Ext0.cells hE)) hfit.1) ?_   -- graph.go:36 slot 66 := (call {callee=(value (func 56)), args=[(tmp 65)], argTypes=[9]})
          rintro _ w ⟨rfl, hX⟩
          replace hL := hL.ext0 hX
          replace hE := hE.step0 hX
          refine ⟨_, rfl, ?_⟩
          refine l_val rfl rfl rfl (r_move rfl) ?_
          refine l_case 67 rfl (fun hb => ?_) (fun hb => ?_)
          · -- slot 67 is True
            have hr67 := hb
            refine l_not rfl rfl rfl ?_
            refine l_not rfl rfl rfl ?_
            refine l_not rfl rfl rfl ?_
            refine l_val rfl rfl rfl (r_pick rfl rfl) ?_
            refine l_val rfl rfl rfl (r_pick rfl rfl) ?_
            refine l_val rfl rfl rfl (r_assign rfl) ?_
            refine l_nil ?_
            refine c_ret ?_
            exact ⟨ret_bool rfl (by simp only [mayB, kindB, hr45, hr48, hr57, hr63, hr67, Bool.true_and, Bool.and_true, Bool.false_and, Bool.and_false, Bool.true_or, Bool.or_true, Bool.false_or, Bool.or_false, Bool.not_true, Bool.not_false, cond_true, cond_false]), hE⟩
          · -- slot 67 is False
            have hr67 := hb
            refine l_val rfl rfl rfl (r_fieldAddr (n := 0) rfl Tryd.underlying45 rfl Tryd.sizeOf9 rfl) ?_
            refine l_val rfl rfl rfl (r_load_blk rfl Tryd.isAgg9 rfl (hL.get 0 rfl) rfl) ?_
            refine l_by rfl rfl rfl (r_call rfl rfl Tryd.func57 rfl rfl) (IsKey_calls _ _ (hk0.keep (Ext0.cells hE))) ?_   -- graph.go:36 slot 70 := (call {callee=(value (func 57)), args=[(tmp 69)], argTypes=[9]})
            rintro _ w ⟨rfl, hX⟩
            replace hL := hL.ext0 hX
            replace hE := hE.step0 hX
            refine ⟨_, rfl, ?_⟩
            refine l_val rfl rfl rfl (r_pick rfl rfl) ?_
            refine l_val rfl rfl rfl (r_pick rfl rfl) ?_
            refine l_val rfl rfl rfl (r_assign rfl) ?_
            refine l_nil ?_
            refine c_ret ?_
            exact ⟨ret_bool rfl (by simp only [mayB, kindB, hr45, hr48, hr57, hr63, hr67, Bool.true_and, Bool.and_true, Bool.false_and, Bool.and_false, Bool.true_or, Bool.or_true, Bool.false_or, Bool.or_false, Bool.not_true, Bool.not_false, cond_true, cond_false]), hE⟩
        · -- slot 63 is False
          have hr63 := hb
          replace hb := of_decide_eq_false hb
          refine l_not rfl rfl rfl ?_
          refine l_not rfl rfl rfl ?_
          refine l_not rfl rfl rfl ?_
          refine l_not rfl rfl rfl ?_
          refine l_not rfl rfl rfl ?_
          refine l_not rfl rfl rfl ?_
          refine l_not rfl rfl rfl ?_
          refine l_not rfl rfl rfl ?_
          refine l_val rfl rfl rfl (r_pick rfl rfl) ?_
          refine l_val rfl rfl rfl (r_assign rfl) ?_
          refine l_nil ?_
          refine c_ret ?_
          exact ⟨ret_bool rfl (by simp only [mayB, kindB, hr45, hr48, hr57, hr63, Bool.true_and, Bool.and_true, Bool.false_and, Bool.and_false, Bool.true_or, Bool.or_true, Bool.false_or, Bool.or_false, Bool.not_true, Bool.not_false, cond_true, cond_false]), hE⟩
      · -- False
        have hr57 := hb
        replace hb := of_decide_eq_false hb
        refine c_seq ?_
        -- region 12
        refine c_ops ?_
        refine l_val rfl rfl rfl (r_eql rfl rfl rfl) ?_
        refine l_val rfl rfl rfl (r_assign rfl) ?_
        refine l_nil ?_
        refine c_cond rfl (fun hb => ?_) (fun hb => ?_)
        · -- True
          have hr73 := hb
          replace hb := of_decide_eq_true hb
          refine c_seq ?_
          -- region 13
          refine c_ops ?_
          refine l_val rfl rfl rfl (r_fieldAddr (n := 0) rfl Tryd.underlying45 rfl Tryd.sizeOf43 rfl) ?_
          refine l_val rfl rfl rfl (r_load_blk rfl Tryd.isAgg43 rfl (hL.get 0 rfl) rfl) ?_
          refine l_by rfl rfl rfl (r_call rfl rfl Tryd.func58 rfl rfl) (IsSorted_calls _ _ _ _ x.keys (hks.keep RStr.kept (Ext0.cells hE))) ?_   -- graph.go:38 slot 77 := (call {callee=(value (func 58)), args=[(tmp 76), (func 59)], argTypes=[43, 101]})
          rintro _ w ⟨rfl, hX⟩
          replace hL := hL.ext0 hX
          replace hE := hE.step0 hX
          refine ⟨_, rfl, ?_⟩
          refine l_val rfl rfl rfl (r_assign rfl) ?_
          refine l_nil ?_
          refine c_seq ?_
          -- region 14
          refine c_ops ?_
          refine l_val rfl rfl rfl (r_fieldAddr (n := 0) rfl Tryd.underlying45 rfl Tryd.sizeOf30 rfl) ?_
          refine l_val rfl rfl rfl (r_load_blk rfl Tryd.isAgg30 rfl (hL.get 0 rfl) rfl) ?_
          refine l_val rfl rfl rfl (r_len rfl Tryd.underlying30 rfl) ?_
          refine l_val rfl rfl rfl (r_fieldAddr (n := 0) rfl Tryd.underlying45 rfl Tryd.sizeOf43 rfl) ?_
          refine l_val rfl rfl rfl (r_load_blk rfl Tryd.isAgg43 rfl (hL.get 0 rfl) rfl) ?_
          refine l_val rfl rfl rfl (r_len rfl Tryd.underlying43 rfl) ?_
          refine l_val rfl rfl rfl (r_eql rfl rfl rfl) ?_
          refine l_val rfl rfl rfl (r_move rfl) ?_
          refine l_case 85 rfl (fun hb => ?_) (fun hb => ?_)
          · -- slot 85 is True
            have hr85 := hb
            replace hb := of_decide_eq_true hb
            refine l_val rfl rfl rfl (r_fieldAddr (n := 0) rfl Tryd.underlying45 rfl Tryd.sizeOf43 rfl) ?_
            refine l_val rfl rfl rfl (r_load_blk rfl Tryd.isAgg43 rfl (hL.get 0 rfl) rfl) ?_
            refine l_val rfl rfl rfl (r_len rfl Tryd.underlying43 rfl) ?_
            refine l_val rfl rfl rfl (r_leq rfl rfl rfl) ?_
            refine l_val rfl rfl rfl (r_pick rfl rfl) ?_
            refine l_val rfl rfl rfl (r_move rfl) ?_
            refine l_case 91 rfl (fun hb => ?_) (fun hb => ?_)
            · -- slot 91 is True
              have hr91 := hb
              replace hb := of_decide_eq_true hb
              refine l_val rfl rfl rfl (r_move rfl) ?_
              refine l_val rfl rfl rfl (r_pick rfl rfl) ?_
              refine l_val rfl rfl rfl (r_move rfl) ?_
              refine l_case 94 rfl (fun hb => ?_) (fun hb => ?_)
              · -- slot 94 is True
                have hr94 := hb
                refine l_val rfl rfl rfl (r_fieldAddr (n := 0) rfl Tryd.underlying45 rfl Tryd.sizeOf43 rfl) ?_
                refine l_val rfl rfl rfl (r_load_blk rfl Tryd.isAgg43 rfl (hL.get 0 rfl) rfl) ?_
                have hT : Tests Tryd.prog (fun (_ : Unit) W => Ext0 w0 W) (fun _ => False) (D1 (fun W s cs => RStr W s cs ∧ s.size ≤ 9223372036854775807)) (fun _ s => (!isNameB s, ())) (.func (.func 62) #[] #[]) := ⟨_, _, _, _, _, rfl, Tryd.func62, rfl, rfl, fun _ s v W hs hv => (by
                  obtain rfl : v = .string s := by injection hv.1
                  exact (may3_calls W s (hk0.keep (Ext0.cells hs)) hv.2).mono (fun en w' ⟨h1, h2⟩ => ⟨h1, h2, hs.trans h2⟩))⟩
                refine l_by rfl rfl rfl (r_call rfl rfl Tryd.func61 rfl rfl) (ContainsFunc_str (fun (_ : Unit) W => Ext0 w0 W) (fun _ => False) (fun W s cs => RStr W s cs ∧ s.size ≤ 9223372036854775807) (fun _ s => (!isNameB s, ())) _ _ _ _ x.keys _ () (fun W hW => (hks.keep RStr.kept (Ext0.cells (hE.trans hW))).and (fun s hs => hfit.2 s hs)) hT hE) ?_   -- graph.go:44 slot 97 := (call {callee=(value (func 61)), args=[(tmp 96), (func 62)], argTypes=[43, 99]})
                rintro _ w ⟨rfl, hX, _⟩
                replace hL := hL.ext0 hX
                replace hE := hE.step0 hX
                rw [findS_pure]
                refine ⟨_, rfl, ?_⟩
                refine l_val rfl rfl rfl (r_not rfl rfl) ?_
                refine l_val rfl rfl rfl (r_pick rfl rfl) ?_
                refine l_val rfl rfl rfl (r_assign rfl) ?_
                refine l_nil ?_
                refine c_ret ?_
                exact ⟨ret_bool rfl (by simp only [mayB, kindB, hr45, hr48, hr57, hr73, hr85, hr91, hr94, Bool.true_and, Bool.and_true, Bool.false_and, Bool.and_false, Bool.true_or, Bool.or_true, Bool.false_or, Bool.or_false, Bool.not_true, Bool.not_false, cond_true, cond_false]), hE⟩
              · -- slot 94 is False
                have hr94 := hb
                refine l_not rfl rfl rfl ?_
                refine l_not rfl rfl rfl ?_
                refine l_not rfl rfl rfl ?_
                refine l_not rfl rfl rfl ?_
                refine l_val rfl rfl rfl (r_pick rfl rfl) ?_
                refine l_val rfl rfl rfl (r_assign rfl) ?_
                refine l_nil ?_
                refine c_ret ?_
                exact ⟨ret_bool rfl (by simp only [mayB, kindB, hr45, hr48, hr57, hr73, hr85, hr91, hr94, Bool.true_and, Bool.and_true, Bool.false_and, Bool.and_false, Bool.true_or, Bool.or_true, Bool.false_or, Bool.or_false, Bool.not_true, Bool.not_false, cond_true, cond_false]), hE⟩
            · -- slot 91 is False
              have hr91 := hb
              replace hb := of_decide_eq_false hb
              refine l_not rfl rfl rfl ?_
              refine l_val rfl rfl rfl (r_pick rfl rfl) ?_
              refine l_val rfl rfl rfl (r_move rfl) ?_
              refine l_not rfl rfl rfl ?_
              refine l_not rfl rfl rfl ?_
              refine l_not rfl rfl rfl ?_
              refine l_not rfl rfl rfl ?_
              refine l_val rfl rfl rfl (r_pick rfl rfl) ?_
              refine l_val rfl rfl rfl (r_assign rfl) ?_
              refine l_nil ?_
              refine c_ret ?_
              exact ⟨ret_bool rfl (by simp only [mayB, kindB, hr45, hr48, hr57, hr73, hr85, hr91, Bool.true_and, Bool.and_true, Bool.false_and, Bool.and_false, Bool.true_or, Bool.or_true, Bool.false_or, Bool.or_false, Bool.not_true, Bool.not_false, cond_true, cond_false]), hE⟩
          · -- slot 85 is False
            have hr85 := hb
            replace hb := of_decide_eq_false hb
            refine l_not rfl rfl rfl ?_
            refine l_not rfl rfl rfl ?_
            refine l_not rfl rfl rfl ?_
            refine l_not rfl rfl rfl ?_
            refine l_val rfl rfl rfl (r_pick rfl rfl) ?_
            refine l_val rfl rfl rfl (r_move rfl) ?_
            refine l_not rfl rfl rfl ?_
            refine l_val rfl rfl rfl (r_pick rfl rfl) ?_
            refine l_val rfl rfl rfl (r_move rfl) ?_
            refine l_not rfl rfl rfl ?_
            refine l_not rfl rfl rfl ?_
            refine l_not rfl rfl rfl ?_
            refine l_not rfl rfl rfl ?_
            refine l_val rfl rfl rfl (r_pick rfl rfl) ?_
            refine l_val rfl rfl rfl (r_assign rfl) ?_
            refine l_nil ?_
            refine c_ret ?_
            exact ⟨ret_bool rfl (by simp only [mayB, kindB, hr45, hr48, hr57, hr73, hr85, Bool.true_and, Bool.and_true, Bool.false_and, Bool.and_false, Bool.true_or, Bool.or_true, Bool.false_or, Bool.or_false, Bool.not_true, Bool.not_false, cond_true, cond_false]), hE⟩
        · -- False
          have hr73 := hb
          replace hb := of_decide_eq_false hb
          refine c_seq ?_
          -- region 15
          refine c_ops ?_
          refine l_val rfl rfl rfl (r_eql rfl rfl rfl) ?_
          refine l_val rfl rfl rfl (r_assign rfl) ?_
          refine l_nil ?_
          refine c_cond rfl (fun hb => ?_) (fun hb => ?_)
          · -- True
            have hr100 := hb
            replace hb := of_decide_eq_true hb
            refine c_seq ?_
            -- region 16
            refine c_ops ?_
            refine l_new rfl rfl rfl (n_makeMap rfl hL hE) ?_
            rintro _ w ⟨m102, rfl, hm102, hL, hE, hX⟩
            refine l_val rfl rfl rfl (r_assign rfl) ?_
            refine l_nil ?_
            refine c_seq ?_
            refine c_seq ?_
            -- region 17
            refine c_ops ?_
            refine l_val rfl rfl rfl (r_fieldAddr (n := 0) rfl Tryd.underlying45 rfl Tryd.sizeOf30 rfl) ?_
            refine l_val rfl rfl rfl (r_load_blk rfl Tryd.isAgg30 rfl (hL.get 1 rfl) rfl) ?_
            refine l_val rfl rfl rfl (r_len rfl Tryd.underlying30 rfl) ?_
            refine l_val rfl rfl rfl (r_move rfl) ?_
            refine l_nil ?_
            refine c_block ?_
            -- loop 0: slots that it writes and that are read in it ahead of that: [106]
            refine c_loop [4, 9, 106, 107, 108, 109, 110, 111, 112, 113, 114, 115, 116, 117, 118, 119, 120] (fun m e w => ∃ (k : Nat) (had : List (Int × Int)), k ≤ x.l.length ∧ m = x.l.length - k ∧ e 106 = .int .i64 k ∧ Had x.l k had ∧ (∀ j, j < k → ¬ (gat g (iat x.l j)).kind = 8) ∧ Has w [.blk m102 (mapObj (Value.int .i64) (Value.int .i64) had), .blk b3 (.cells (nodeCells x Ak ck Al cl).toArray 45 (0, 0)), .blk b2 (.cells #[.slice Ag g.length cg] 22 (0, 0))] ∧ Ext0 w0 w) x.l.length ?_ ?_
            · exact ⟨0, [], Nat.zero_le _, rfl, rfl, Had.zero _, fun j h => absurd h (Nat.not_lt_zero _), hL, hE⟩
            intro m e w hI
            obtain ⟨k, had, hk, hm, h106, hhad, hall, hL, hE⟩ := hI
            refine c_know h106 ?_
            refine c_seq ?_
            -- region 18
            refine c_ops ?_
            refine l_val rfl rfl rfl (r_lss rfl rfl rfl) ?_
            refine l_nil ?_
            refine c_seq ?_
            refine c_cond rfl (fun hb => ?_) (fun hb => ?_)
            · -- True
              have hr107 := hb
              replace hb := of_decide_eq_true hb
              have hkn : k < x.l.length := by omega
              have hxk : x.l[k]? = some (iat x.l k) := by unfold iat; rw [List.getD_eq_getElem?_getD, Int.toNat_natCast, List.getElem?_eq_getElem hkn]; rfl
              have hbnd : 0 ≤ iat x.l k ∧ iat x.l k < g.length := outB_no (any_false (odd_l hr45) (List.mem_of_getElem? hxk))
              refine c_skip ?_
              refine c_seq ?_
              refine c_block ?_
              refine c_seq ?_
              -- region 19
              refine c_ops ?_
              refine l_val rfl rfl rfl (r_indexAddr_sl rfl Tryd.underlying30 Tryd.sizeOf3 rfl hls.is rfl (by omega) (by omega)) ?_
              refine l_val rfl rfl rfl (r_load rfl Tryd.isAgg3 rfl ((hls.keep RInt.kept (Ext0.cells hE)).int k (by omega) (by omega))) ?_
              refine l_val rfl rfl rfl (r_assign rfl) ?_
              refine l_nil ?_
              refine c_seq ?_
              -- region 20
              refine c_ops ?_
              refine l_val rfl rfl rfl (r_move rfl) ?_
              refine l_val rfl rfl rfl (r_move rfl) ?_
              refine l_val rfl rfl rfl (r_lookup_int (k := iat x.l k) rfl Tryd.underlying79 (KeyLaw.int Tryd.underlying3) Tryd.zeroValue3 rfl rfl (hL.get 0 rfl)) ?_
              refine l_val rfl rfl rfl (r_add rfl rfl rfl) ?_
              refine l_new_do rfl rfl (r_mapUpdate (k := iat x.l k) (v := IntKind.i64.wrap ((getM had (iat x.l k)).getD 0 + 1)) 0 rfl Tryd.underlying79 (KeyLaw.int Tryd.underlying3) rfl rfl rfl hL hE rfl (fun h => absurd h (Nat.not_lt.2 hm102))) ?_   -- graph.go:48 slot None := (mapUpdate 79 (tmp 110) (tmp 111) (tmp 113))
              rintro w ⟨hL, hE, hz, hk⟩
              refine l_nil ?_
              refine c_seq ?_
              -- region 21
              refine c_ops ?_
              refine l_val rfl rfl rfl (r_load_blk rfl Tryd.isAgg22 rfl (hL.get 2 rfl) rfl) ?_
              refine l_val rfl rfl rfl (r_move rfl) ?_
              obtain ⟨Ak1, ck1, Al1, cl1, hcell, _, _⟩ := (hg.keep RNode.kept (Ext0.cells hE)).node (iat x.l k) hbnd.1 hbnd.2
              refine l_val rfl rfl rfl (r_indexAddr_sl rfl Tryd.underlying22 Tryd.sizeOf45 rfl hg.is rfl hbnd.1 hbnd.2) ?_
              refine l_val rfl rfl rfl (r_fieldAddr (n := 0) rfl Tryd.underlying45 rfl Tryd.sizeOf3 rfl) ?_
              refine l_val rfl rfl rfl (r_load rfl Tryd.isAgg3 rfl (hcell 0 _ rfl)) ?_
              refine l_val rfl rfl rfl (r_eql rfl rfl rfl) ?_
              refine l_nil ?_
              refine c_cond rfl (fun hb => ?_) (fun hb => ?_)
              · -- True
                have hr119 := hb
                replace hb := of_decide_eq_true hb
                have hno : (x.l.all fun k => !decide ((gat g k).kind = 8)) = false := by
                  rw [List.all_eq_false]
                  exact ⟨_, List.mem_of_getElem? hxk, by simpa using hb⟩
                refine c_seq ?_
                -- region 22
                refine c_ops ?_
                refine l_val rfl rfl rfl (r_assign rfl) ?_
                refine l_nil ?_
                refine c_ret ?_
                exact ⟨ret_bool rfl (by simp only [mayB, kindB, hr45, hr48, hr57, hr73, hr100, hr107, hr119, hno, Bool.true_and, Bool.and_true, Bool.false_and, Bool.and_false, Bool.true_or, Bool.or_true, Bool.false_or, Bool.or_false, Bool.not_true, Bool.not_false, cond_true, cond_false]), hE⟩
              · -- False
                have hr119 := hb
                replace hb := of_decide_eq_false hb
                have hall2 : ∀ j, j < k + 1 → ¬ (gat g (iat x.l j)).kind = 8 := fun j hj => by
                  rcases Nat.lt_or_eq_of_le (Nat.le_of_lt_succ hj) with h | rfl
                  · exact hall j h
                  · exact hb
                refine c_skip ?_
                -- region 23
                refine c_ops ?_
                refine l_val rfl rfl rfl (r_add rfl rfl rfl) ?_
                refine l_val rfl rfl rfl (r_move rfl) ?_
                refine l_nil ?_
                refine ⟨by repeat (first | exact Agree.over _ _ _ | exact Agree.refl _ _ | (refine Agree.puto ?_ _ _ rfl) | (refine Agree.put ?_ _ _ rfl) | (refine Agree.sub ?_ rfl)), ?_⟩
                exact ⟨x.l.length - (k + 1), by omega, k + 1, hadM had (iat x.l k), by omega, rfl, by show Value.int .i64 (IntKind.i64.wrap ((k : Int) + 1)) = _; rw [wrap_succ hkn hls.max], hhad.succ hxk, hall2, hL, hE⟩
            · -- False
              have hr107 := hb
              replace hb := of_decide_eq_false hb
              have hkn : k = x.l.length := by omega
              subst hkn
              have hdif : decide ((had.length : Int) = x.l.length) = diffB x.l := by
                have := hhad.dup
                rw [List.take_length] at this
                unfold diffB
                exact decide_eq_decide.2 (by rw [this]; omega)
              have hyes : (x.l.all fun k => !decide ((gat g k).kind = 8)) = true := by
                rw [List.all_eq_true]
                intro y hy
                obtain ⟨j, hj⟩ := List.mem_iff_getElem?.1 hy
                have h1 := hall j (List.getElem?_eq_some_iff.1 hj).1
                rw [iat, List.getD_eq_getElem?_getD, Int.toNat_natCast, hj] at h1
                simpa using h1
              refine c_exit ?_
              refine c_seq ?_
              -- region 24
              refine c_ops ?_
              refine l_val rfl rfl rfl (r_fieldAddr (n := 0) rfl Tryd.underlying45 rfl Tryd.sizeOf30 rfl) ?_
              refine l_val rfl rfl rfl (r_load_blk rfl Tryd.isAgg30 rfl (hL.get 1 rfl) rfl) ?_
              refine l_val rfl rfl rfl (r_len rfl Tryd.underlying30 rfl) ?_
              refine l_val rfl rfl rfl (r_geq rfl rfl rfl) ?_
              refine l_val rfl rfl rfl (r_move rfl) ?_
              refine l_case 125 rfl (fun hb => ?_) (fun hb => ?_)
              · -- slot 125 is True
                have hr125 := hb
                replace hb := of_decide_eq_true hb
                refine l_val rfl rfl rfl (r_move rfl) ?_
                refine l_val rfl rfl rfl (r_len_map rfl Tryd.underlying79 rfl (hL.get 0 rfl)) ?_
                refine l_val rfl rfl rfl (r_fieldAddr (n := 0) rfl Tryd.underlying45 rfl Tryd.sizeOf30 rfl) ?_
                refine l_val rfl rfl rfl (r_load_blk rfl Tryd.isAgg30 rfl (hL.get 1 rfl) rfl) ?_
                refine l_val rfl rfl rfl (r_len rfl Tryd.underlying30 rfl) ?_
                refine l_val rfl rfl rfl (r_eql rfl rfl rfl) ?_
                refine l_val rfl rfl rfl (r_pick rfl rfl) ?_
                refine l_val rfl rfl rfl (r_assign rfl) ?_
                refine l_nil ?_
                refine c_ret ?_
                exact ⟨ret_bool rfl (by simp only [mayB, kindB, hr45, hr48, hr57, hr73, hr100, hr107, hdif, hyes, hr125, Bool.true_and, Bool.and_true, Bool.false_and, Bool.and_false, Bool.true_or, Bool.or_true, Bool.false_or, Bool.or_false, Bool.not_true, Bool.not_false, cond_true, cond_false]), hE⟩
              · -- slot 125 is False
                have hr125 := hb
                replace hb := of_decide_eq_false hb
                refine l_not rfl rfl rfl ?_
                refine l_not rfl rfl rfl ?_
                refine l_not rfl rfl rfl ?_
                refine l_not rfl rfl rfl ?_
                refine l_not rfl rfl rfl ?_
                refine l_not rfl rfl rfl ?_
                refine l_val rfl rfl rfl (r_pick rfl rfl) ?_
                refine l_val rfl rfl rfl (r_assign rfl) ?_
                refine l_nil ?_
                refine c_ret ?_
                exact ⟨ret_bool rfl (by simp only [mayB, kindB, hr45, hr48, hr57, hr73, hr100, hr107, hdif, hyes, hr125, Bool.true_and, Bool.and_true, Bool.false_and, Bool.and_false, Bool.true_or, Bool.or_true, Bool.false_or, Bool.or_false, Bool.not_true, Bool.not_false, cond_true, cond_false]), hE⟩
          · -- False
            have hr100 := hb
            replace hb := of_decide_eq_false hb
            refine c_seq ?_
            -- region 25
            refine c_ops ?_
            refine l_val rfl rfl rfl (r_eql rfl rfl rfl) ?_
            refine l_val rfl rfl rfl (r_assign rfl) ?_
            refine l_nil ?_
            refine c_cond rfl (fun hb => ?_) (fun hb => ?_)
            · -- True
              have hr133 := hb
              replace hb := of_decide_eq_true hb
              refine c_seq ?_
              -- region 26
              refine c_ops ?_
              refine l_val rfl rfl rfl (r_fieldAddr (n := 0) rfl Tryd.underlying45 rfl Tryd.sizeOf3 rfl) ?_
              refine l_val rfl rfl rfl (r_load_blk rfl Tryd.isAgg3 rfl (hL.get 0 rfl) rfl) ?_
              refine l_val rfl rfl rfl (r_geq rfl rfl rfl) ?_
              refine l_val rfl rfl rfl (r_move rfl) ?_
              refine l_case 138 rfl (fun hb => ?_) (fun hb => ?_)
              · -- slot 138 is True
                have hr138 := hb
                replace hb := of_decide_eq_true hb
                refine l_val rfl rfl rfl (r_fieldAddr (n := 0) rfl Tryd.underlying45 rfl Tryd.sizeOf3 rfl) ?_
                refine l_val rfl rfl rfl (r_load_blk rfl Tryd.isAgg3 rfl (hL.get 0 rfl) rfl) ?_
                refine l_val rfl rfl rfl (r_lss rfl rfl rfl) ?_
                refine l_val rfl rfl rfl (r_pick rfl rfl) ?_
                refine l_val rfl rfl rfl (r_move rfl) ?_
                refine l_case 143 rfl (fun hb => ?_) (fun hb => ?_)
                · -- slot 143 is True
                  have hr143 := hb
                  replace hb := of_decide_eq_true hb
                  refine l_val rfl rfl rfl (r_fieldAddr (n := 0) rfl Tryd.underlying45 rfl Tryd.sizeOf30 rfl) ?_
                  refine l_val rfl rfl rfl (r_load_blk rfl Tryd.isAgg30 rfl (hL.get 0 rfl) rfl) ?_
                  refine l_val rfl rfl rfl (r_len rfl Tryd.underlying30 rfl) ?_
                  refine l_val rfl rfl rfl (r_eql rfl rfl rfl) ?_
                  refine l_val rfl rfl rfl (r_pick rfl rfl) ?_
                  refine l_val rfl rfl rfl (r_assign rfl) ?_
                  refine l_nil ?_
                  refine c_ret ?_
                  exact ⟨ret_bool rfl (by simp only [mayB, kindB, hr45, hr48, hr57, hr73, hr100, hr133, hr138, hr143, Bool.true_and, Bool.and_true, Bool.false_and, Bool.and_false, Bool.true_or, Bool.or_true, Bool.false_or, Bool.or_false, Bool.not_true, Bool.not_false, cond_true, cond_false]), hE⟩
                · -- slot 143 is False
                  have hr143 := hb
                  replace hb := of_decide_eq_false hb
                  refine l_not rfl rfl rfl ?_
                  refine l_not rfl rfl rfl ?_
                  refine l_not rfl rfl rfl ?_
                  refine l_not rfl rfl rfl ?_
                  refine l_val rfl rfl rfl (r_pick rfl rfl) ?_
                  refine l_val rfl rfl rfl (r_assign rfl) ?_
                  refine l_nil ?_
                  refine c_ret ?_
                  exact ⟨ret_bool rfl (by simp only [mayB, kindB, hr45, hr48, hr57, hr73, hr100, hr133, hr138, hr143, Bool.true_and, Bool.and_true, Bool.false_and, Bool.and_false, Bool.true_or, Bool.or_true, Bool.false_or, Bool.or_false, Bool.not_true, Bool.not_false, cond_true, cond_false]), hE⟩
              · -- slot 138 is False
                have hr138 := hb
                replace hb := of_decide_eq_false hb
                refine l_not rfl rfl rfl ?_
                refine l_not rfl rfl rfl ?_
                refine l_not rfl rfl rfl ?_
                refine l_val rfl rfl rfl (r_pick rfl rfl) ?_
                refine l_val rfl rfl rfl (r_move rfl) ?_
                refine l_not rfl rfl rfl ?_
                refine l_not rfl rfl rfl ?_
                refine l_not rfl rfl rfl ?_
                refine l_not rfl rfl rfl ?_
                refine l_val rfl rfl rfl (r_pick rfl rfl) ?_
                refine l_val rfl rfl rfl (r_assign rfl) ?_
                refine l_nil ?_
                refine c_ret ?_
                exact ⟨ret_bool rfl (by simp only [mayB, kindB, hr45, hr48, hr57, hr73, hr100, hr133, hr138, Bool.true_and, Bool.and_true, Bool.false_and, Bool.and_false, Bool.true_or, Bool.or_true, Bool.false_or, Bool.or_false, Bool.not_true, Bool.not_false, cond_true, cond_false]), hE⟩
            · -- False
              have hr133 := hb
              replace hb := of_decide_eq_false hb
              refine c_skip ?_
              refine c_seq ?_
              -- region 27
              refine c_ops ?_
              refine l_val rfl rfl rfl (r_assign rfl) ?_
              refine l_nil ?_
              refine c_ret ?_
              exact ⟨ret_bool rfl (by simp only [mayB, kindB, hr45, hr48, hr57, hr73, hr100, hr133, Bool.true_and, Bool.and_true, Bool.false_and, Bool.and_false, Bool.true_or, Bool.or_true, Bool.false_or, Bool.or_false, Bool.not_true, Bool.not_false, cond_true, cond_false]), hE⟩
end Go.Proofs.YtndophlnapjkhaaDoor.Vc
