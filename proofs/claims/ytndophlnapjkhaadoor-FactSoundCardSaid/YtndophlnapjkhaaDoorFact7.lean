/- Whether facts have a form; whether one holds. Conditions: those of each statement. -/
import Derived.Test.YtndophlnapjkhaaDoorFact6
namespace Go.Proofs.YtndophlnapjkhaaDoor.Vc
open Go Go.RowKit
set_option linter.unusedVariables false
set_option linter.unusedSimpArgs false

theorem check1_calls (w0 : World) (xb : Nat) (Ag : Option Addr) (cg : Nat) (g : List GNode) (hg : Nodes w0 Ag cg g) (hok : GraphOk g) (hx0 : w0.cell? ⟨xb, 0, none⟩ = some (.slice Ag g.length cg)) (Af : Option Addr) (cf : Nat) (l : List Fact) (hl : FactsAt w0 Af cf l) (hx1 : w0.cell? ⟨xb, 1, none⟩ = some (.slice Af l.length cf)) (f : Fact) (Aw : Option Addr) (cw : Nat) (hw : Ints w0 Aw cw f.why) (xp : Nat) (t : TypeId) (hL : Has w0 [.blk xp (.cells #[.pointer (some ⟨xb, 0, none⟩)] t (0, 0))]) :
    Calls Tryd.prog 48 [.agg (factCells f Aw cw).toArray, .pointer (some ⟨xp, 0, none⟩)].toArray w0 fun en w' => en = .returned (.bool (!formedF g l.length f)) ∧ Ext0 w0 w' := by
  have hE : Ext0 w0 w0 := Ext.refl _ _
  refine calls [3] Tryd.func48 rfl rfl rfl rfl ?_
  refine c_seq ?_
  -- region 0
  refine c_ops ?_
  refine l_new rfl rfl rfl (n_box rfl hL hE) ?_
  rintro _ w ⟨b2, rfl, hb2, hL, hE, hX⟩
  refine l_val rfl rfl rfl (r_assign rfl) ?_
  refine l_nil ?_
  refine c_seq ?_
  -- region 1
  refine c_ops ?_
  refine l_val rfl rfl rfl (r_load_blk rfl Tryd.isAgg73 rfl (hL.get 1 rfl) rfl) ?_
  refine l_val rfl rfl rfl (r_load_blk_agg rfl Tryd.isAgg37 Tryd.sizeOf37 rfl (hL.get 0 rfl) rfl) ?_
  refine l_by rfl rfl rfl (r_call rfl rfl Tryd.func49 rfl rfl) (fact_formed_calls _ xb Ag cg g (hg.keep RNode.kept (Ext0.cells hE)) hok (Ext0.cells hE _ _ hx0) Af l.length cf (Ext0.cells hE _ _ hx1) f Aw cw (hw.keep RInt.kept (Ext0.cells hE))) ?_   -- fact.go:129 slot 6 := (call {callee=(value (func 49)), args=[(tmp 4), (tmp 5)], argTypes=[73, 37]})
  rintro _ w ⟨rfl, hX⟩
  replace hL := hL.ext0 hX
  replace hE := hE.trans hX
  refine ⟨_, rfl, ?_⟩
  refine l_val rfl rfl rfl (r_not rfl rfl) ?_
  refine l_val rfl rfl rfl (r_assign rfl) ?_
  refine l_nil ?_
  refine c_ret ?_
  exact ⟨rfl, hE⟩
def checkF (g : List GNode) (l : List Fact) : Int := if checkG g = 0 then (if 8000 < (l.length : Int) then 5 else if l.any (fun f => !formedF g l.length f) then 2 else 0) else checkG g
theorem ok_of {g : List GNode} (hfit : Fits g) (h : checkG g = 0) : GraphOk g ∧ g.length ≤ 2000 := by
  unfold checkG at h
  split at h
  · cases h
  · rename_i hn
    split at h
    · rename_i ha
      exact ⟨⟨hfit, fun x hx => List.all_eq_true.1 ha x hx⟩, by omega⟩
    · cases h
theorem check_calls (w0 : World) (xb : Nat) (Ag : Option Addr) (cg : Nat) (g : List GNode) (hg : Nodes w0 Ag cg g) (hfit : Fits g) (hk0 : KeysLaid w0) (hx0 : w0.cell? ⟨xb, 0, none⟩ = some (.slice Ag g.length cg)) (Af : Option Addr) (cf : Nat) (l : List Fact) (hl : FactsAt w0 Af cf l) (hx1 : w0.cell? ⟨xb, 1, none⟩ = some (.slice Af l.length cf)) :
    Calls Tryd.prog 31 [.pointer (some ⟨xb, 0, none⟩)].toArray w0 fun en w' => en = .returned (.int .i64 (checkF g l)) ∧ Ext0 w0 w' := by
  have hE : Ext0 w0 w0 := Ext.refl _ _
  have hL : Has w0 [] := trivial
  unfold checkF
  refine calls [2] Tryd.func31 rfl rfl rfl rfl ?_
  refine c_seq ?_
  -- region 0
  refine c_ops ?_
  refine l_new rfl rfl rfl (n_box rfl hL hE) ?_
  rintro _ w ⟨b1, rfl, hb1, hL, hE, hX⟩
  refine l_val rfl rfl rfl (r_assign rfl) ?_
  refine l_nil ?_
  refine c_seq ?_
  -- region 1
  refine c_ops ?_
  refine l_val rfl rfl rfl (r_load_blk rfl Tryd.isAgg73 rfl (hL.get 0 rfl) rfl) ?_
  refine l_val rfl rfl rfl (r_nilCheck rfl rfl) ?_
  refine l_val rfl rfl rfl (r_fieldAddr (n := 0) rfl Tryd.underlying65 rfl Tryd.sizeOf22 rfl) ?_
  refine l_val rfl rfl rfl (r_load rfl Tryd.isAgg22 rfl (Ext0.cells hE _ _ hx0)) ?_
  refine l_by rfl rfl rfl (r_call rfl rfl Tryd.func25 rfl rfl) (Check_calls _ Ag cg g (hg.keep RNode.kept (Ext0.cells hE)) hfit (hk0.keep (Ext0.cells hE))) ?_   -- fact.go:123 slot 8 := (call {callee=(value (func 25)), args=[(tmp 7)], argTypes=[22]})
  rintro _ w ⟨rfl, hX⟩
  replace hL := hL.ext0 hX
  replace hE := hE.trans hX
  refine ⟨_, rfl, ?_⟩
  refine l_val rfl rfl rfl (r_assign rfl) ?_
  refine l_nil ?_
  refine c_seq ?_
  refine c_block ?_
  refine c_seq ?_
  -- region 2
  refine c_ops ?_
  refine l_val rfl rfl rfl (r_move rfl) ?_
  refine l_val rfl rfl rfl (r_neq rfl rfl rfl) ?_
  refine l_val rfl rfl rfl (r_assign rfl) ?_
  refine l_nil ?_
  refine c_cond rfl (fun hb => ?_) (fun hb => ?_)
  · -- True
    have hr9 := hb
    replace hb := of_decide_eq_false (by simpa using hb)
    refine c_seq ?_
    -- region 3
    refine c_ops ?_
    refine l_val rfl rfl rfl (r_move rfl) ?_
    refine l_val rfl rfl rfl (r_assign rfl) ?_
    refine l_nil ?_
    refine c_ret ?_
    exact ⟨ret_int rfl (by rw [if_neg hb]), hE⟩
  · -- False
    have hr9 := hb
    replace hb := of_decide_eq_true (by simpa using hb)
    obtain ⟨hok, hn⟩ := ok_of hfit hb
    refine c_seq ?_
    -- region 4
    refine c_ops ?_
    refine l_val rfl rfl rfl (r_load_blk rfl Tryd.isAgg73 rfl (hL.get 0 rfl) rfl) ?_
    refine l_val rfl rfl rfl (r_nilCheck rfl rfl) ?_
    refine l_val rfl rfl rfl (r_fieldAddr (n := 0) rfl Tryd.underlying65 rfl Tryd.sizeOf29 rfl) ?_
    refine l_val rfl rfl rfl (r_load rfl Tryd.isAgg29 rfl (Ext0.cells hE _ _ hx1)) ?_
    refine l_val rfl rfl rfl (r_len rfl Tryd.underlying29 rfl) ?_
    refine l_val rfl rfl rfl (r_gtr rfl rfl rfl) ?_
    refine l_val rfl rfl rfl (r_assign rfl) ?_
    refine l_nil ?_
    refine c_cond rfl (fun hb => ?_) (fun hb => ?_)
    · -- True
      have hr13 := hb
      replace hb := of_decide_eq_true hb
      refine c_seq ?_
      -- region 5
      refine c_ops ?_
      refine l_val rfl rfl rfl (r_assign rfl) ?_
      refine l_nil ?_
      refine c_ret ?_
      exact ⟨ret_int rfl (by rename_i h1; rw [if_pos h1, if_pos hb]), hE⟩
    · -- False
      have hr13 := hb
      replace hb := of_decide_eq_false hb
      refine c_seq ?_
      -- region 6
      refine c_ops ?_
      refine l_val rfl rfl rfl (r_load_blk rfl Tryd.isAgg73 rfl (hL.get 0 rfl) rfl) ?_
      refine l_val rfl rfl rfl (r_nilCheck rfl rfl) ?_
      refine l_val rfl rfl rfl (r_fieldAddr (n := 0) rfl Tryd.underlying65 rfl Tryd.sizeOf29 rfl) ?_
      refine l_val rfl rfl rfl (r_load rfl Tryd.isAgg29 rfl (Ext0.cells hE _ _ hx1)) ?_
      refine l_val rfl rfl rfl (r_makeFunc rfl) ?_
      have hT : Tests Tryd.prog (fun (_ : Unit) W => Has W [.blk b1 (.cells #[.pointer (some ⟨xb, 0, none⟩)] 73 (0, 0))] ∧ Ext0 w0 W) (fun _ => False) (DN RFact 3) (fun _ f => (!formedF g l.length f, ())) (.func (.func 48) #[] #[.pointer (some ⟨b1, 0, none⟩)]) := ⟨_, _, _, _, _, rfl, Tryd.func48, rfl, rfl, fun _ f v W hs hv => (by
        obtain ⟨cs, _, ⟨Aw, cw, rfl, hw⟩, rfl⟩ := hv
        exact (check1_calls W xb Ag cg g (hg.keep RNode.kept (Ext0.cells hs.2)) hok (Ext0.cells hs.2 _ _ hx0) Af cf l (hl.keep RFact.kept (Ext0.cells hs.2)) (Ext0.cells hs.2 _ _ hx1) f Aw cw hw b1 _ hs.1).mono (fun en w' ⟨h1, h2⟩ => ⟨h1, h2, hs.1.ext0 h2, hs.2.trans h2⟩))⟩
      refine l_by rfl rfl rfl (r_call rfl rfl Tryd.func47 rfl rfl) (ContainsFunc_fact (fun (_ : Unit) W => Has W [.blk b1 (.cells #[.pointer (some ⟨xb, 0, none⟩)] 73 (0, 0))] ∧ Ext0 w0 W) (fun _ => False) RFact (fun _ f => (!formedF g l.length f, ())) _ _ _ _ l _ () (fun W hW => hl.keep RFact.kept (Ext0.cells (hE.trans hW))) hT ⟨hL, hE⟩) ?_   -- fact.go:129 slot 26 := (call {callee=(value (func 47)), args=[(tmp 24), (tmp 25)], argTypes=[29, 76]})
      rintro _ w ⟨rfl, hX, hY⟩
      replace hE := hE.step0 hX
      rw [findS_pure]
      refine ⟨_, rfl, ?_⟩
      refine l_val rfl rfl rfl (r_assign rfl) ?_
      refine l_nil ?_
      refine c_cond rfl (fun hb => ?_) (fun hb => ?_)
      · -- True
        have hr20 := hb
        refine c_seq ?_
        -- region 7
        refine c_ops ?_
        refine l_val rfl rfl rfl (r_assign rfl) ?_
        refine l_nil ?_
        refine c_ret ?_
        exact ⟨ret_int rfl (by rename_i h2 h1; rw [if_pos h2, if_neg h1, if_pos hb]), hE⟩
      · -- False
        have hr20 := hb
        refine c_skip ?_
        refine c_seq ?_
        -- region 8
        refine c_ops ?_
        refine l_val rfl rfl rfl (r_assign rfl) ?_
        refine l_nil ?_
        refine c_ret ?_
        exact ⟨ret_int rfl (by rename_i h2 h1; rw [if_pos h2, if_neg h1, if_neg (by rw [hb]; decide)]), hE⟩
end Go.Proofs.YtndophlnapjkhaaDoor.Vc
