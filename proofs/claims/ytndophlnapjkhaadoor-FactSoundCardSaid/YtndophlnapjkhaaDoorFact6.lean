/- Whether a fact has a form. Conditions: those of each statement. -/
import Derived.Test.YtndophlnapjkhaaDoorFact5
namespace Go.Proofs.YtndophlnapjkhaaDoor.Vc
open Go Go.RowKit
set_option linter.unusedVariables false
set_option linter.unusedSimpArgs false

theorem formed1f_calls (w0 : World) (xp xb : Nat) (Af : Option Addr) (nl cf : Nat) (hx1 : w0.cell? ⟨xb, 1, none⟩ = some (.slice Af nl cf)) (t : TypeId) (k : Int) (hL : Has w0 [.blk xp (.cells #[.pointer (some ⟨xb, 0, none⟩)] t (0, 0))]) :
    Calls Tryd.prog 66 [.int .i64 k, .pointer (some ⟨xp, 0, none⟩)].toArray w0 fun en w' => en = .returned (.bool (outB nl k)) ∧ Ext0 w0 w' := by
  have hE : Ext0 w0 w0 := Ext.refl _ _
  refine calls [3] Tryd.func66 rfl rfl rfl rfl ?_
  refine c_seq ?_
  -- region 0
  refine c_ops ?_
  refine l_val rfl rfl rfl (r_assign rfl) ?_
  refine l_nil ?_
  refine c_seq ?_
  -- region 1
  refine c_ops ?_
  refine l_val rfl rfl rfl (r_move rfl) ?_
  refine l_val rfl rfl rfl (r_lss rfl rfl rfl) ?_
  refine l_val rfl rfl rfl (r_move rfl) ?_
  refine l_case 6 rfl (fun hb => ?_) (fun hb => ?_)
  · -- slot 6 is True
    have hr6 := hb
    replace hb := of_decide_eq_true hb
    refine l_not rfl rfl rfl ?_
    refine l_not rfl rfl rfl ?_
    refine l_not rfl rfl rfl ?_
    refine l_not rfl rfl rfl ?_
    refine l_not rfl rfl rfl ?_
    refine l_not rfl rfl rfl ?_
    refine l_not rfl rfl rfl ?_
    refine l_val rfl rfl rfl (r_pick rfl rfl) ?_
    refine l_val rfl rfl rfl (r_assign rfl) ?_
    refine l_nil ?_
    refine c_ret ?_
    exact ⟨ret_bool rfl (by simp only [outB, hr6, Bool.true_and, Bool.and_true, Bool.false_and, Bool.and_false, Bool.true_or, Bool.or_true, Bool.false_or, Bool.or_false, Bool.not_true, Bool.not_false, cond_true, cond_false]), hE⟩
  · -- slot 6 is False
    have hr6 := hb
    replace hb := of_decide_eq_false hb
    refine l_val rfl rfl rfl (r_move rfl) ?_
    refine l_val rfl rfl rfl (r_load_blk rfl Tryd.isAgg73 rfl (hL.get 0 rfl) rfl) ?_
    refine l_val rfl rfl rfl (r_nilCheck rfl rfl) ?_
    refine l_val rfl rfl rfl (r_fieldAddr (n := 0) rfl Tryd.underlying65 rfl Tryd.sizeOf29 rfl) ?_
    refine l_val rfl rfl rfl (r_load rfl Tryd.isAgg29 rfl (Ext0.cells hE _ _ hx1)) ?_
    refine l_val rfl rfl rfl (r_len rfl Tryd.underlying29 rfl) ?_
    refine l_val rfl rfl rfl (r_geq rfl rfl rfl) ?_
    refine l_val rfl rfl rfl (r_pick rfl rfl) ?_
    refine l_val rfl rfl rfl (r_assign rfl) ?_
    refine l_nil ?_
    refine c_ret ?_
    exact ⟨ret_bool rfl (by simp only [outB, hr6, Bool.true_and, Bool.and_true, Bool.false_and, Bool.and_false, Bool.true_or, Bool.or_true, Bool.false_or, Bool.or_false, Bool.not_true, Bool.not_false, cond_true, cond_false]), hE⟩
/-- How many numbers a fact's Why has; none: it has no form. -/
def manyF (g : List GNode) (f : Fact) : Option Int :=
  if (gat g f.a).kind = 8 then some (gat g f.a).l.length
  else if f.why.length = 0 then none
  else if (gat g f.a).kind = 9 ∧ iat f.why 0 = -1 then some 2
  else if iat f.why 0 < 0 ∨ (membersG g f.b).length ≤ iat f.why 0 then none
  else if (gat g f.a).kind = 7 ∧ (chosenF g f).kind = 7 then some (1 + (chosenF g f).keys.length)
  else if (gat g f.a).kind = 9 ∧ (chosenF g f).kind = 9 then some 2
  else some 1
def formedF (g : List GNode) (nl : Nat) (f : Fact) : Bool := placeB g.length f.a && placeB g.length f.b && match manyF g f with
  | none => false
  | some m => decide ((f.why.length : Int) = m) && !(onF g f).any (outB nl)
theorem formed_some {g : List GNode} {nl : Nat} {f : Fact} {m : Int} (ha : placeB g.length f.a = true) (hb : placeB g.length f.b = true) (hm : manyF g f = some m) : formedF g nl f = (decide ((f.why.length : Int) = m) && !(onF g f).any (outB nl)) := by
  unfold formedF
  rw [ha, hb, hm]
  rfl
theorem formed_none {g : List GNode} {nl : Nat} {f : Fact} (hm : manyF g f = none) : formedF g nl f = false := by
  unfold formedF
  rw [hm]
  simp
theorem fact_formed_calls (w0 : World) (xb : Nat) (Ag : Option Addr) (cg : Nat) (g : List GNode) (hg : Nodes w0 Ag cg g) (hok : GraphOk g) (hx0 : w0.cell? ⟨xb, 0, none⟩ = some (.slice Ag g.length cg)) (Af : Option Addr) (nl cf : Nat) (hx1 : w0.cell? ⟨xb, 1, none⟩ = some (.slice Af nl cf)) (f : Fact) (Aw : Option Addr) (cw : Nat) (hw : Ints w0 Aw cw f.why) :
    Calls Tryd.prog 49 [.pointer (some ⟨xb, 0, none⟩), .agg (factCells f Aw cw).toArray].toArray w0 fun en w' => en = .returned (.bool (formedF g nl f)) ∧ Ext0 w0 w' := by
  have hE : Ext0 w0 w0 := Ext.refl _ _
  have hL : Has w0 [] := trivial
  refine calls [4] Tryd.func49 rfl rfl rfl rfl ?_
  refine c_seq ?_
  -- region 0
  refine c_ops ?_
  refine l_new rfl rfl rfl (n_box rfl hL hE) ?_
  rintro _ w ⟨b2, rfl, hb2, hL, hE, hX⟩
  refine l_new rfl rfl rfl (n_box rfl hL hE) ?_
  rintro _ w ⟨b3, rfl, hb3, hL, hE, hX⟩
  refine l_val rfl rfl rfl (r_assign rfl) ?_
  refine l_nil ?_
  refine c_seq ?_
  refine c_merge [9, 10, 11, 12, 13, 14, 15, 16, 17, 18, 19, 20] (fun e w => e 20 = .bool (!placeB g.length f.a || !placeB g.length f.b) ∧ Has w [.blk b3 (.cells (factCells f Aw cw).toArray 37 (0, 0)), .blk b2 (.cells #[.pointer (some ⟨xb, 0, none⟩)] 73 (0, 0))] ∧ Ext0 w0 w) ?_ ?_
  · -- merged
    -- region 1
    refine c_ops ?_
    refine l_val rfl rfl rfl (r_load_blk rfl Tryd.isAgg73 rfl (hL.get 1 rfl) rfl) ?_
    refine l_val rfl rfl rfl (r_fieldAddr (n := 0) rfl Tryd.underlying37 rfl Tryd.sizeOf3 rfl) ?_
    refine l_val rfl rfl rfl (r_load_blk rfl Tryd.isAgg3 rfl (hL.get 0 rfl) rfl) ?_
    refine l_by rfl rfl rfl (r_call rfl rfl Tryd.func29 rfl rfl) (place_calls _ xb Ag cg g.length (Ext0.cells hE _ _ hx0) f.a) ?_   -- fact.go:96 slot 12 := (call {callee=(value (func 29)), args=[(tmp 9), (tmp 11)], argTypes=[73, 3]})
    rintro _ w ⟨rfl, hX⟩
    replace hL := hL.ext0 hX
    replace hE := hE.trans hX
    refine ⟨_, rfl, ?_⟩
    refine l_val rfl rfl rfl (r_not rfl rfl) ?_
    refine l_val rfl rfl rfl (r_move rfl) ?_
    refine l_case 14 rfl (fun hb => ?_) (fun hb => ?_)
    · -- slot 14 is True
      have hr14 := hb
      refine l_not rfl rfl rfl ?_
      refine l_not rfl rfl rfl ?_
      refine l_not rfl rfl rfl ?_
      refine l_not rfl rfl rfl ?_
      refine l_not rfl rfl rfl ?_
      refine l_val rfl rfl rfl (r_pick rfl rfl) ?_
      refine l_nil ?_
      refine ⟨by repeat (first | exact Agree.over _ _ _ | exact Agree.refl _ _ | (refine Agree.puto ?_ _ _ rfl) | (refine Agree.put ?_ _ _ rfl) | (refine Agree.sub ?_ rfl)), ?_⟩
      exact ⟨congrArg Value.bool (by simp only [hr14, Bool.true_and, Bool.and_true, Bool.false_and, Bool.and_false, Bool.true_or, Bool.or_true, Bool.false_or, Bool.or_false, Bool.not_true, Bool.not_false, cond_true, cond_false]), hL, hE⟩
    · -- slot 14 is False
      have hr14 := hb
      refine l_val rfl rfl rfl (r_load_blk rfl Tryd.isAgg73 rfl (hL.get 1 rfl) rfl) ?_
      refine l_val rfl rfl rfl (r_fieldAddr (n := 0) rfl Tryd.underlying37 rfl Tryd.sizeOf3 rfl) ?_
      refine l_val rfl rfl rfl (r_load_blk rfl Tryd.isAgg3 rfl (hL.get 0 rfl) rfl) ?_
      refine l_by rfl rfl rfl (r_call rfl rfl Tryd.func29 rfl rfl) (place_calls _ xb Ag cg g.length (Ext0.cells hE _ _ hx0) f.b) ?_   -- fact.go:96 slot 18 := (call {callee=(value (func 29)), args=[(tmp 15), (tmp 17)], argTypes=[73, 3]})
      rintro _ w ⟨rfl, hX⟩
      replace hL := hL.ext0 hX
      replace hE := hE.trans hX
      refine ⟨_, rfl, ?_⟩
      refine l_val rfl rfl rfl (r_not rfl rfl) ?_
      refine l_val rfl rfl rfl (r_pick rfl rfl) ?_
      refine l_nil ?_
      refine ⟨by repeat (first | exact Agree.over _ _ _ | exact Agree.refl _ _ | (refine Agree.puto ?_ _ _ rfl) | (refine Agree.put ?_ _ _ rfl) | (refine Agree.sub ?_ rfl)), ?_⟩
      exact ⟨congrArg Value.bool (by simp only [hr14, Bool.true_and, Bool.and_true, Bool.false_and, Bool.and_false, Bool.true_or, Bool.or_true, Bool.false_or, Bool.or_false, Bool.not_true, Bool.not_false, cond_true, cond_false]), hL, hE⟩
  rintro e w hI
  obtain ⟨hm20, hL, hE⟩ := hI
  refine c_know hm20 ?_
  refine c_cond rfl (fun hb => ?_) (fun hb => ?_)
  · -- True
    have hr20 := hb
    have hno : formedF g nl f = false := by
      unfold formedF
      cases h1 : placeB g.length f.a <;> cases h2 : placeB g.length f.b <;> simp_all
    refine c_seq ?_
    -- region 2
    refine c_ops ?_
    refine l_val rfl rfl rfl (r_assign rfl) ?_
    refine l_nil ?_
    refine c_ret ?_
    exact ⟨ret_bool rfl hno.symm, hE⟩
  · -- False
    have hr20 := hb
    have hpp : placeB g.length f.a = true ∧ placeB g.length f.b = true := by cases h1 : placeB g.length f.a <;> cases h2 : placeB g.length f.b <;> simp_all
    have hra : 0 ≤ f.a ∧ f.a < g.length := by have := hpp.1; unfold placeB at this; simpa using this
    have hrb : 0 ≤ f.b ∧ f.b < g.length := by have := hpp.2; unfold placeB at this; simpa using this
    obtain ⟨Ak, ck, Al, cl, hcell, hsk, hsl⟩ := hg.node f.a hra.1 hra.2
    obtain ⟨a, ha⟩ : ∃ a, a = gat g f.a := ⟨_, rfl⟩
    rw [← ha] at hcell hsk hsl
    refine c_skip ?_
    refine c_seq ?_
    -- region 3
    refine c_draw mixed (hL) hE ?_
    replace hL := hL.drew
    replace hE := hE.drew
    have hK := hL
    refine h_t 0 rfl rfl (by kernel_rfl) (fun _ _ _ h => h) ⟨hK, hE⟩ rfl (fun W hW => r_load_blk rfl Tryd.isAgg73 rfl (hW.1.get 1 rfl) rfl) ?_
    refine h_t 1 rfl rfl (by kernel_rfl) (fun _ _ _ h => h) ⟨hK, hE⟩ rfl (fun W hW => r_nilCheck rfl rfl) ?_
    refine h_t 2 rfl rfl (by kernel_rfl) (fun _ _ _ h => h) ⟨hK, hE⟩ rfl (fun W hW => r_fieldAddr (n := 0) rfl Tryd.underlying65 rfl Tryd.sizeOf22 rfl) ?_
    refine h_t 3 rfl rfl (by kernel_rfl) (fun _ _ _ h => h) ⟨hK, hE⟩ rfl (fun W hW => r_load rfl Tryd.isAgg22 rfl (Ext0.cells hW.2 _ _ hx0)) ?_
    refine h_t 4 rfl rfl (by kernel_rfl) (fun _ _ _ h => h) ⟨hK, hE⟩ rfl (fun W hW => r_fieldAddr (n := 0) rfl Tryd.underlying37 rfl Tryd.sizeOf3 rfl) ?_
    refine h_t 5 rfl rfl (by kernel_rfl) (fun _ _ _ h => h) ⟨hK, hE⟩ rfl (fun W hW => r_load_blk rfl Tryd.isAgg3 rfl (hW.1.get 0 rfl) rfl) ?_
    refine h_t 6 rfl rfl (by kernel_rfl) (fun _ _ _ h => h) ⟨hK, hE⟩ rfl (fun W hW => r_indexAddr_sl rfl Tryd.underlying22 Tryd.sizeOf45 rfl hg.is rfl hra.1 hra.2) ?_
    refine h_t 7 rfl rfl (by kernel_rfl) (fun _ _ _ h => h) ⟨hK, hE⟩ rfl (fun W hW => r_load_agg (vs := nodeCells a Ak ck Al cl) rfl Tryd.isAgg45 Tryd.sizeOf45 rfl (fun j v hj => Ext0.cells hW.2 _ _ (hcell j v hj))) ?_
    refine h_new 8 rfl rfl (by kernel_rfl) rfl (n_alloc rfl Tryd.zeroValue45 hL hE) ?_
    rintro _ w ⟨b5, rfl, hb5, hL, hE, hX⟩
    have hK := hL.sub (.cons _ (.cons_cons _ (.cons_cons _ .slnil)))
    refine ⟨⟨hK, hE⟩, ?_⟩
    refine h_new_do 9 rfl rfl (by kernel_rfl) rfl (r_store 0 rfl Tryd.sizeOf45 rfl hL hE rfl rfl rfl rfl (fun h => absurd h (Nat.not_lt.2 hb5))) ?_
    rintro w ⟨hL, hE, hz, hk⟩
    have hK := hL.sub (.cons _ (.cons_cons _ (.cons_cons _ .slnil)))
    refine ⟨⟨hK, hE⟩, ?_⟩
    refine h_t 10 rfl rfl (by kernel_rfl) (fun _ _ _ h => h) ⟨hK, hE⟩ rfl (fun W hW => r_assign rfl) ?_
    refine h_done (by kernel_rfl) ?_
    refine c_seq ?_
    refine c_block ?_
    refine c_seq ?_
    -- region 9
    refine c_ops ?_
    refine l_val rfl rfl rfl (r_fieldAddr (n := 0) rfl Tryd.underlying45 rfl Tryd.sizeOf3 rfl) ?_
    refine l_val rfl rfl rfl (r_load_blk rfl Tryd.isAgg3 rfl (hL.get 0 rfl) rfl) ?_
    refine l_val rfl rfl rfl (r_eql rfl rfl rfl) ?_
    refine l_val rfl rfl rfl (r_assign rfl) ?_
    refine l_nil ?_
    refine c_cond rfl (fun hb => ?_) (fun hb => ?_)
    · -- True
      have hr57 := hb
      replace hb := of_decide_eq_true hb
      have h8 : (gat g f.a).kind = 8 := by rw [← ha]; exact hb
      have hform := formed_some (nl := nl) hpp.1 hpp.2 (show manyF g f = some (a.l.length : Int) by unfold manyF; rw [if_pos h8, ha])
      have hf : FactOk g f := ⟨hra, hrb, fun h => absurd h8 h, fun h => absurd h8 h⟩
      -- region 10
      refine c_ops ?_
      refine l_val rfl rfl rfl (r_fieldAddr (n := 0) rfl Tryd.underlying45 rfl Tryd.sizeOf30 rfl) ?_
      refine l_val rfl rfl rfl (r_load_blk rfl Tryd.isAgg30 rfl (hL.get 0 rfl) rfl) ?_
      refine l_val rfl rfl rfl (r_len rfl Tryd.underlying30 rfl) ?_
      refine l_val rfl rfl rfl (r_assign rfl) ?_
      refine l_nil ?_
      refine c_seq ?_
      -- region 17
      refine c_ops ?_
      refine l_val rfl rfl rfl (r_makeFunc rfl) ?_
      refine l_val rfl rfl rfl (r_assign rfl) ?_
      refine l_nil ?_
      refine c_seq ?_
      -- region 18
      refine c_ops ?_
      refine l_val rfl rfl rfl (r_fieldAddr (n := 0) rfl Tryd.underlying37 rfl Tryd.sizeOf30 rfl) ?_
      refine l_val rfl rfl rfl (r_load_blk rfl Tryd.isAgg30 rfl (hL.get 1 rfl) rfl) ?_
      refine l_val rfl rfl rfl (r_len rfl Tryd.underlying30 rfl) ?_
      refine l_val rfl rfl rfl (r_move rfl) ?_
      refine l_val rfl rfl rfl (r_eql rfl rfl rfl) ?_
      refine l_val rfl rfl rfl (r_move rfl) ?_
      refine l_case 107 rfl (fun hb => ?_) (fun hb => ?_)
      · -- slot 107 is True
        have hr107 := hb
        replace hb := of_decide_eq_true hb
        refine l_val rfl rfl rfl (r_load_blk rfl Tryd.isAgg73 rfl (hL.get 2 rfl) rfl) ?_
        refine l_val rfl rfl rfl (r_load_blk_agg rfl Tryd.isAgg37 Tryd.sizeOf37 rfl (hL.get 1 rfl) rfl) ?_
        refine l_by rfl rfl rfl (r_call rfl rfl Tryd.func40 rfl rfl) (on_calls _ xb Ag cg g (hg.keep RNode.kept (Ext0.cells hE)) hok (Ext0.cells hE _ _ hx0) f Aw cw (hw.keep RInt.kept (Ext0.cells hE)) hf) ?_   -- fact.go:118 slot 110 := (call {callee=(value (func 40)), args=[(tmp 108), (tmp 109)], argTypes=[73, 37]})
        rintro _ w ⟨Ao, co, rfl, hon, hX⟩
        replace hL := hL.ext0 hX
        replace hE := hE.trans hX
        refine ⟨_, rfl, ?_⟩
        refine l_val rfl rfl rfl (r_move rfl) ?_
        have hT : Tests Tryd.prog (fun (_ : Unit) W => Has W [.blk b2 (.cells #[.pointer (some ⟨xb, 0, none⟩)] 73 (0, 0))] ∧ Ext0 w0 W) (fun _ => False) (D1 RInt) (fun _ k => (outB nl k, ())) (.func (.func 66) #[] #[.pointer (some ⟨b2, 0, none⟩)]) := ⟨_, _, _, _, _, rfl, Tryd.func66, rfl, rfl, fun _ k v W hs hv => (by
          obtain rfl : v = .int .i64 k := by injection hv
          exact (formed1f_calls W b2 xb Af nl cf (Ext0.cells hs.2 _ _ hx1) _ k hs.1).mono (fun en w' ⟨h1, h2⟩ => ⟨h1, h2, hs.1.ext0 h2, hs.2.trans h2⟩))⟩
        refine l_by rfl rfl rfl (r_call rfl rfl Tryd.func39 rfl rfl) (ContainsFunc_int (fun (_ : Unit) W => Has W [.blk b2 (.cells #[.pointer (some ⟨xb, 0, none⟩)] 73 (0, 0))] ∧ Ext0 w0 W) (fun _ => False) RInt (fun _ k => (outB nl k, ())) _ _ _ _ (onF g f) _ () (fun W hW => hon W (hw.keep RInt.kept (Ext0.cells (hE.trans hW)))) hT ⟨(Has.right (L1 := [_, _]) hL), hE⟩) ?_   -- fact.go:118 slot 112 := (call {callee=(value (func 39)), args=[(tmp 110), (tmp 111)], argTypes=[30, 69]})
        rintro _ w ⟨rfl, hX, hY⟩
        replace hE := hE.step0 hX
        rw [findS_pure]
        refine ⟨_, rfl, ?_⟩
        refine l_val rfl rfl rfl (r_not rfl rfl) ?_
        refine l_val rfl rfl rfl (r_pick rfl rfl) ?_
        refine l_val rfl rfl rfl (r_assign rfl) ?_
        refine l_nil ?_
        refine c_ret ?_
        exact ⟨ret_bool rfl (by rw [hform]; simp only [hr107, Bool.true_and, Bool.and_true, Bool.false_and, Bool.and_false, Bool.true_or, Bool.or_true, Bool.false_or, Bool.or_false, Bool.not_true, Bool.not_false, cond_true, cond_false]), hE⟩
      · -- slot 107 is False
        have hr107 := hb
        replace hb := of_decide_eq_false hb
        refine l_not rfl rfl rfl ?_
        refine l_not rfl rfl rfl ?_
        refine l_not rfl rfl rfl ?_
        refine l_not rfl rfl rfl ?_
        refine l_not rfl rfl rfl ?_
        refine l_not rfl rfl rfl ?_
        refine l_val rfl rfl rfl (r_pick rfl rfl) ?_
        refine l_val rfl rfl rfl (r_assign rfl) ?_
        refine l_nil ?_
        refine c_ret ?_
        exact ⟨ret_bool rfl (by rw [hform]; simp only [hr107, Bool.true_and, Bool.and_true, Bool.false_and, Bool.and_false, Bool.true_or, Bool.or_true, Bool.false_or, Bool.or_false, Bool.not_true, Bool.not_false, cond_true, cond_false]), hE⟩
    · -- False
      have hr57 := hb
      replace hb := of_decide_eq_false hb
      have h8 : ¬ (gat g f.a).kind = 8 := by rw [← ha]; exact hb
      refine c_seq ?_
      -- region 11
      refine c_ops ?_
      refine l_val rfl rfl rfl (r_fieldAddr (n := 0) rfl Tryd.underlying37 rfl Tryd.sizeOf30 rfl) ?_
      refine l_val rfl rfl rfl (r_load_blk rfl Tryd.isAgg30 rfl (hL.get 1 rfl) rfl) ?_
      refine l_val rfl rfl rfl (r_len rfl Tryd.underlying30 rfl) ?_
      refine l_val rfl rfl rfl (r_eql rfl rfl rfl) ?_
      refine l_val rfl rfl rfl (r_assign rfl) ?_
      refine l_nil ?_
      refine c_cond rfl (fun hb => ?_) (fun hb => ?_)
      · -- True
        have hr64 := hb
        replace hb := of_decide_eq_true hb
        have hno := formed_none (nl := nl) (show manyF g f = none by unfold manyF; rw [if_neg h8, if_pos (by omega)])
        refine c_seq ?_
        -- region 12
        refine c_ops ?_
        refine l_val rfl rfl rfl (r_assign rfl) ?_
        refine l_nil ?_
        refine c_ret ?_
        exact ⟨ret_bool rfl hno.symm, hE⟩
      · -- False
        have hr64 := hb
        replace hb := of_decide_eq_false hb
        have hne : ¬ f.why.length = 0 := by omega
        refine c_merge [69, 70, 71, 72, 73, 74, 75, 76, 77, 78, 79] (fun e w => e 69 = .bool (decide (a.kind = 9) && decide (iat f.why 0 = -1)) ∧ Has w [.blk b5 (.cells (nodeCells a Ak ck Al cl).toArray 45 (0, 0)), .blk b3 (.cells (factCells f Aw cw).toArray 37 (0, 0)), .blk b2 (.cells #[.pointer (some ⟨xb, 0, none⟩)] 73 (0, 0))] ∧ Ext0 w0 w) ?_ ?_
        · -- merged
          -- region 13
          refine c_ops ?_
          refine l_val rfl rfl rfl (r_fieldAddr (n := 0) rfl Tryd.underlying45 rfl Tryd.sizeOf3 rfl) ?_
          refine l_val rfl rfl rfl (r_load_blk rfl Tryd.isAgg3 rfl (hL.get 0 rfl) rfl) ?_
          refine l_val rfl rfl rfl (r_eql rfl rfl rfl) ?_
          refine l_val rfl rfl rfl (r_move rfl) ?_
          refine l_case 73 rfl (fun hb => ?_) (fun hb => ?_)
          · -- slot 73 is True
            have hr73 := hb
            replace hb := of_decide_eq_true hb
            refine l_val rfl rfl rfl (r_fieldAddr (n := 0) rfl Tryd.underlying37 rfl Tryd.sizeOf30 rfl) ?_
            refine l_val rfl rfl rfl (r_load_blk rfl Tryd.isAgg30 rfl (hL.get 1 rfl) rfl) ?_
            refine l_val rfl rfl rfl (r_indexAddr_sl rfl Tryd.underlying30 Tryd.sizeOf3 rfl hw.is rfl (by decide) (by omega)) ?_
            refine l_val rfl rfl rfl (r_load (v := .int .i64 (iat f.why 0)) rfl Tryd.isAgg3 rfl ((hw.keep RInt.kept (Ext0.cells hE)).int 0 (by decide) (by omega))) ?_
            refine l_val rfl rfl rfl (r_eql rfl rfl rfl) ?_
            refine l_val rfl rfl rfl (r_pick rfl rfl) ?_
            refine l_val rfl rfl rfl (r_assign rfl) ?_
            refine l_nil ?_
            refine ⟨by repeat (first | exact Agree.over _ _ _ | exact Agree.refl _ _ | (refine Agree.puto ?_ _ _ rfl) | (refine Agree.put ?_ _ _ rfl) | (refine Agree.sub ?_ rfl)), ?_⟩
            exact ⟨congrArg Value.bool (by simp only [hr73, Bool.true_and, Bool.and_true, Bool.false_and, Bool.and_false, Bool.true_or, Bool.or_true, Bool.false_or, Bool.or_false, Bool.not_true, Bool.not_false, cond_true, cond_false]), hL, hE⟩
          · -- slot 73 is False
            have hr73 := hb
            replace hb := of_decide_eq_false hb
            refine l_not rfl rfl rfl ?_
            refine l_not rfl rfl rfl ?_
            refine l_not rfl rfl rfl ?_
            refine l_not rfl rfl rfl ?_
            refine l_not rfl rfl rfl ?_
            refine l_val rfl rfl rfl (r_pick rfl rfl) ?_
            refine l_val rfl rfl rfl (r_assign rfl) ?_
            refine l_nil ?_
            refine ⟨by repeat (first | exact Agree.over _ _ _ | exact Agree.refl _ _ | (refine Agree.puto ?_ _ _ rfl) | (refine Agree.put ?_ _ _ rfl) | (refine Agree.sub ?_ rfl)), ?_⟩
            exact ⟨congrArg Value.bool (by simp only [hr73, Bool.true_and, Bool.and_true, Bool.false_and, Bool.and_false, Bool.true_or, Bool.or_true, Bool.false_or, Bool.or_false, Bool.not_true, Bool.not_false, cond_true, cond_false]), hL, hE⟩
        rintro e w hI
        obtain ⟨hm69, hL, hE⟩ := hI
        refine c_know hm69 ?_
        refine c_cond rfl (fun hb => ?_) (fun hb => ?_)
        · -- True
          have hr69 := hb
          have h9 : (gat g f.a).kind = 9 ∧ iat f.why 0 = -1 := by rw [← ha]; simpa using hb
          have hform := formed_some (nl := nl) hpp.1 hpp.2 (show manyF g f = some 2 by unfold manyF; rw [if_neg h8, if_neg hne, if_pos h9])
          have hf : FactOk g f := ⟨hra, hrb, fun _ => by intro h0; rw [h0] at hne; exact hne rfl, fun _ h => absurd h9 h⟩
          -- region 14
          refine c_ops ?_
          refine l_val rfl rfl rfl (r_assign rfl) ?_
          refine l_nil ?_
          refine c_seq ?_
          -- region 17
          refine c_ops ?_
          refine l_val rfl rfl rfl (r_makeFunc rfl) ?_
          refine l_val rfl rfl rfl (r_assign rfl) ?_
          refine l_nil ?_
          refine c_seq ?_
          -- region 18
          refine c_ops ?_
          refine l_val rfl rfl rfl (r_fieldAddr (n := 0) rfl Tryd.underlying37 rfl Tryd.sizeOf30 rfl) ?_
          refine l_val rfl rfl rfl (r_load_blk rfl Tryd.isAgg30 rfl (hL.get 1 rfl) rfl) ?_
          refine l_val rfl rfl rfl (r_len rfl Tryd.underlying30 rfl) ?_
          refine l_val rfl rfl rfl (r_move rfl) ?_
          refine l_val rfl rfl rfl (r_eql rfl rfl rfl) ?_
          refine l_val rfl rfl rfl (r_move rfl) ?_
          refine l_case 107 rfl (fun hb => ?_) (fun hb => ?_)
          · -- slot 107 is True
            have hr107 := hb
            replace hb := of_decide_eq_true hb
            refine l_val rfl rfl rfl (r_load_blk rfl Tryd.isAgg73 rfl (hL.get 2 rfl) rfl) ?_
            refine l_val rfl rfl rfl (r_load_blk_agg rfl Tryd.isAgg37 Tryd.sizeOf37 rfl (hL.get 1 rfl) rfl) ?_
            refine l_by rfl rfl rfl (r_call rfl rfl Tryd.func40 rfl rfl) (on_calls _ xb Ag cg g (hg.keep RNode.kept (Ext0.cells hE)) hok (Ext0.cells hE _ _ hx0) f Aw cw (hw.keep RInt.kept (Ext0.cells hE)) hf) ?_   -- fact.go:118 slot 110 := (call {callee=(value (func 40)), args=[(tmp 108), (tmp 109)], argTypes=[73, 37]})
            rintro _ w ⟨Ao, co, rfl, hon, hX⟩
            replace hL := hL.ext0 hX
            replace hE := hE.trans hX
            refine ⟨_, rfl, ?_⟩
            refine l_val rfl rfl rfl (r_move rfl) ?_
            have hT : Tests Tryd.prog (fun (_ : Unit) W => Has W [.blk b2 (.cells #[.pointer (some ⟨xb, 0, none⟩)] 73 (0, 0))] ∧ Ext0 w0 W) (fun _ => False) (D1 RInt) (fun _ k => (outB nl k, ())) (.func (.func 66) #[] #[.pointer (some ⟨b2, 0, none⟩)]) := ⟨_, _, _, _, _, rfl, Tryd.func66, rfl, rfl, fun _ k v W hs hv => (by
              obtain rfl : v = .int .i64 k := by injection hv
              exact (formed1f_calls W b2 xb Af nl cf (Ext0.cells hs.2 _ _ hx1) _ k hs.1).mono (fun en w' ⟨h1, h2⟩ => ⟨h1, h2, hs.1.ext0 h2, hs.2.trans h2⟩))⟩
            refine l_by rfl rfl rfl (r_call rfl rfl Tryd.func39 rfl rfl) (ContainsFunc_int (fun (_ : Unit) W => Has W [.blk b2 (.cells #[.pointer (some ⟨xb, 0, none⟩)] 73 (0, 0))] ∧ Ext0 w0 W) (fun _ => False) RInt (fun _ k => (outB nl k, ())) _ _ _ _ (onF g f) _ () (fun W hW => hon W (hw.keep RInt.kept (Ext0.cells (hE.trans hW)))) hT ⟨(Has.right (L1 := [_, _]) hL), hE⟩) ?_   -- fact.go:118 slot 112 := (call {callee=(value (func 39)), args=[(tmp 110), (tmp 111)], argTypes=[30, 69]})
            rintro _ w ⟨rfl, hX, hY⟩
            replace hE := hE.step0 hX
            rw [findS_pure]
            refine ⟨_, rfl, ?_⟩
            refine l_val rfl rfl rfl (r_not rfl rfl) ?_
            refine l_val rfl rfl rfl (r_pick rfl rfl) ?_
            refine l_val rfl rfl rfl (r_assign rfl) ?_
            refine l_nil ?_
            refine c_ret ?_
            exact ⟨ret_bool rfl (by rw [hform]; simp only [hr107, Bool.true_and, Bool.and_true, Bool.false_and, Bool.and_false, Bool.true_or, Bool.or_true, Bool.false_or, Bool.or_false, Bool.not_true, Bool.not_false, cond_true, cond_false]), hE⟩
          · -- slot 107 is False
            have hr107 := hb
            replace hb := of_decide_eq_false hb
            refine l_not rfl rfl rfl ?_
            refine l_not rfl rfl rfl ?_
            refine l_not rfl rfl rfl ?_
            refine l_not rfl rfl rfl ?_
            refine l_not rfl rfl rfl ?_
            refine l_not rfl rfl rfl ?_
            refine l_val rfl rfl rfl (r_pick rfl rfl) ?_
            refine l_val rfl rfl rfl (r_assign rfl) ?_
            refine l_nil ?_
            refine c_ret ?_
            exact ⟨ret_bool rfl (by rw [hform]; simp only [hr107, Bool.true_and, Bool.and_true, Bool.false_and, Bool.and_false, Bool.true_or, Bool.or_true, Bool.false_or, Bool.or_false, Bool.not_true, Bool.not_false, cond_true, cond_false]), hE⟩
        · -- False
          have hr69 := hb
          have h9 : ¬ ((gat g f.a).kind = 9 ∧ iat f.why 0 = -1) := by rw [← ha]; simpa using hb
          refine c_merge [80, 81, 82, 83, 84, 85, 86, 87, 88, 89, 90, 91, 92, 93, 94, 95, 96, 97, 98, 99, 100] (fun e w => e 80 = .bool (decide (iat f.why 0 < 0) || decide (((membersG g f.b).length : Int) ≤ iat f.why 0)) ∧ Has w [.blk b5 (.cells (nodeCells a Ak ck Al cl).toArray 45 (0, 0)), .blk b3 (.cells (factCells f Aw cw).toArray 37 (0, 0)), .blk b2 (.cells #[.pointer (some ⟨xb, 0, none⟩)] 73 (0, 0))] ∧ Ext0 w0 w) ?_ ?_
          · -- merged
            -- region 15
            refine c_draw mixed (hL) hE ?_
            replace hL := hL.drew
            replace hE := hE.drew
            have hK := hL
            refine h_t 0 rfl rfl (by kernel_rfl) (fun _ _ _ h => h) ⟨hK, hE⟩ rfl (fun W hW => r_fieldAddr (n := 0) rfl Tryd.underlying37 rfl Tryd.sizeOf30 rfl) ?_
            refine h_t 1 rfl rfl (by kernel_rfl) (fun _ _ _ h => h) ⟨hK, hE⟩ rfl (fun W hW => r_load_blk rfl Tryd.isAgg30 rfl (hW.1.get 1 rfl) rfl) ?_
            refine h_t 2 rfl rfl (by kernel_rfl) (fun _ _ _ h => h) ⟨hK, hE⟩ rfl (fun W hW => r_indexAddr_sl rfl Tryd.underlying30 Tryd.sizeOf3 rfl hw.is rfl (by decide) (by omega)) ?_
            refine h_t 3 rfl rfl (by kernel_rfl) (fun _ _ _ h => h) ⟨hK, hE⟩ rfl (fun W hW => r_load (v := .int .i64 (iat f.why 0)) rfl Tryd.isAgg3 rfl ((hw.keep RInt.kept (Ext0.cells hW.2)).int 0 (by decide) (by omega))) ?_
            refine h_t 4 rfl rfl (by kernel_rfl) (fun _ _ _ h => h) ⟨hK, hE⟩ rfl (fun W hW => r_lss rfl rfl rfl) ?_
            refine h_t 5 rfl rfl (by kernel_rfl) (fun _ _ _ h => h) ⟨hK, hE⟩ rfl (fun W hW => r_move rfl) ?_
            refine h_case 86 rfl (fun hb => ?_) (fun hb => ?_)
            · -- slot 86 is True
              have hr86 := hb
              replace hb := of_decide_eq_true hb
              refine h_n 6 rfl rfl (by kernel_rfl) (fun _ _ _ h => h) ⟨hK, hE⟩ rfl ?_
              refine h_n 7 rfl rfl (by kernel_rfl) (fun _ _ _ h => h) ⟨hK, hE⟩ rfl ?_
              refine h_n 8 rfl rfl (by kernel_rfl) (fun _ _ _ h => h) ⟨hK, hE⟩ rfl ?_
              refine h_n 9 rfl rfl (by kernel_rfl) (fun _ _ _ h => h) ⟨hK, hE⟩ rfl ?_
              refine h_n 10 rfl rfl (by kernel_rfl) (fun _ _ _ h => h) ⟨hK, hE⟩ rfl ?_
              refine h_n 11 rfl rfl (by kernel_rfl) (fun _ _ _ h => h) ⟨hK, hE⟩ rfl ?_
              refine h_n 12 rfl rfl (by kernel_rfl) (fun _ _ _ h => h) ⟨hK, hE⟩ rfl ?_
              refine h_n 13 rfl rfl (by kernel_rfl) (fun _ _ _ h => h) ⟨hK, hE⟩ rfl ?_
              refine h_n 14 rfl rfl (by kernel_rfl) (fun _ _ _ h => h) ⟨hK, hE⟩ rfl ?_
              refine h_n 15 rfl rfl (by kernel_rfl) (fun _ _ _ h => h) ⟨hK, hE⟩ rfl ?_
              refine h_n 16 rfl rfl (by kernel_rfl) (fun _ _ _ h => h) ⟨hK, hE⟩ rfl ?_
              refine h_n 17 rfl rfl (by kernel_rfl) (fun _ _ _ h => h) ⟨hK, hE⟩ rfl ?_
              refine h_n 18 rfl rfl (by kernel_rfl) (fun _ _ _ h => h) ⟨hK, hE⟩ rfl ?_
              refine h_t 19 rfl rfl (by kernel_rfl) (fun _ _ _ h => h) ⟨hK, hE⟩ rfl (fun W hW => r_pick rfl rfl) ?_
              refine h_t 20 rfl rfl (by kernel_rfl) (fun _ _ _ h => h) ⟨hK, hE⟩ rfl (fun W hW => r_assign rfl) ?_
              refine h_done (by kernel_rfl) ?_
              refine ⟨by repeat (first | exact Agree.over _ _ _ | exact Agree.refl _ _ | (refine Agree.puto ?_ _ _ rfl) | (refine Agree.put ?_ _ _ rfl) | (refine Agree.sub ?_ rfl)), ?_⟩
              exact ⟨congrArg Value.bool (by simp only [hr86, Bool.true_and, Bool.and_true, Bool.false_and, Bool.and_false, Bool.true_or, Bool.or_true, Bool.false_or, Bool.or_false, Bool.not_true, Bool.not_false, cond_true, cond_false]), hL, hE⟩
            · -- slot 86 is False
              have hr86 := hb
              replace hb := of_decide_eq_false hb
              refine h_t 6 rfl rfl (by kernel_rfl) (fun _ _ _ h => h) ⟨hK, hE⟩ rfl (fun W hW => r_fieldAddr (n := 0) rfl Tryd.underlying37 rfl Tryd.sizeOf30 rfl) ?_
              refine h_t 7 rfl rfl (by kernel_rfl) (fun _ _ _ h => h) ⟨hK, hE⟩ rfl (fun W hW => r_load_blk rfl Tryd.isAgg30 rfl (hW.1.get 1 rfl) rfl) ?_
              refine h_t 8 rfl rfl (by kernel_rfl) (fun _ _ _ h => h) ⟨hK, hE⟩ rfl (fun W hW => r_indexAddr_sl rfl Tryd.underlying30 Tryd.sizeOf3 rfl hw.is rfl (by decide) (by omega)) ?_
              refine h_t 9 rfl rfl (by kernel_rfl) (fun _ _ _ h => h) ⟨hK, hE⟩ rfl (fun W hW => r_load (v := .int .i64 (iat f.why 0)) rfl Tryd.isAgg3 rfl ((hw.keep RInt.kept (Ext0.cells hW.2)).int 0 (by decide) (by omega))) ?_
              refine h_t 10 rfl rfl (by kernel_rfl) (fun _ _ _ h => h) ⟨hK, hE⟩ rfl (fun W hW => r_load_blk rfl Tryd.isAgg73 rfl (hW.1.get 2 rfl) rfl) ?_
              refine h_t 11 rfl rfl (by kernel_rfl) (fun _ _ _ h => h) ⟨hK, hE⟩ rfl (fun W hW => r_nilCheck rfl rfl) ?_
              refine h_t 12 rfl rfl (by kernel_rfl) (fun _ _ _ h => h) ⟨hK, hE⟩ rfl (fun W hW => r_fieldAddr (n := 0) rfl Tryd.underlying65 rfl Tryd.sizeOf22 rfl) ?_
              refine h_t 13 rfl rfl (by kernel_rfl) (fun _ _ _ h => h) ⟨hK, hE⟩ rfl (fun W hW => r_load rfl Tryd.isAgg22 rfl (Ext0.cells hW.2 _ _ hx0)) ?_
              refine h_t 14 rfl rfl (by kernel_rfl) (fun _ _ _ h => h) ⟨hK, hE⟩ rfl (fun W hW => r_fieldAddr (n := 0) rfl Tryd.underlying37 rfl Tryd.sizeOf3 rfl) ?_
              refine h_t 15 rfl rfl (by kernel_rfl) (fun _ _ _ h => h) ⟨hK, hE⟩ rfl (fun W hW => r_load_blk rfl Tryd.isAgg3 rfl (hW.1.get 1 rfl) rfl) ?_
              refine h_by 16 rfl rfl (by kernel_rfl) rfl (r_call rfl rfl Tryd.func19 rfl rfl) (Members_calls _ Ag cg g (hg.keep RNode.kept (Ext0.cells hE)) hok.fits f.b) ?_   -- fact.go:107 slot 97 := (call {callee=(value (func 19)), args=[(tmp 94), (tmp 96)], argTypes=[22, 3]})
              rintro _ w ⟨v, rfl, hrow, hX⟩
              replace hL := hL.ext0 hX
              replace hE := hE.trans hX
              obtain ⟨A2, c2, rfl, hmem, _⟩ := Sl.ofInts hrow
              have hK := hL
              refine ⟨_, rfl, ⟨hK, hE⟩, ?_⟩
              refine h_t 17 rfl rfl (by kernel_rfl) (fun _ _ _ h => h) ⟨hK, hE⟩ rfl (fun W hW => r_len rfl Tryd.underlying30 rfl) ?_
              refine h_t 18 rfl rfl (by kernel_rfl) (fun _ _ _ h => h) ⟨hK, hE⟩ rfl (fun W hW => r_geq rfl rfl rfl) ?_
              refine h_t 19 rfl rfl (by kernel_rfl) (fun _ _ _ h => h) ⟨hK, hE⟩ rfl (fun W hW => r_pick rfl rfl) ?_
              refine h_t 20 rfl rfl (by kernel_rfl) (fun _ _ _ h => h) ⟨hK, hE⟩ rfl (fun W hW => r_assign rfl) ?_
              refine h_done (by kernel_rfl) ?_
              refine ⟨by repeat (first | exact Agree.over _ _ _ | exact Agree.refl _ _ | (refine Agree.puto ?_ _ _ rfl) | (refine Agree.put ?_ _ _ rfl) | (refine Agree.sub ?_ rfl)), ?_⟩
              exact ⟨congrArg Value.bool (by simp only [hr86, Bool.true_and, Bool.and_true, Bool.false_and, Bool.and_false, Bool.true_or, Bool.or_true, Bool.false_or, Bool.or_false, Bool.not_true, Bool.not_false, cond_true, cond_false]), hL, hE⟩
          rintro e w hI
          obtain ⟨hm80, hL, hE⟩ := hI
          refine c_know hm80 ?_
          refine c_cond rfl (fun hb => ?_) (fun hb => ?_)
          · -- True
            have hr80 := hb
            have hno := formed_none (nl := nl) (show manyF g f = none by unfold manyF; rw [if_neg h8, if_neg hne, if_neg h9, if_pos (by simpa using hb)])
            refine c_seq ?_
            -- region 16
            refine c_ops ?_
            refine l_val rfl rfl rfl (r_assign rfl) ?_
            refine l_nil ?_
            refine c_ret ?_
            exact ⟨ret_bool rfl hno.symm, hE⟩
          · -- False
            have hr80 := hb
            have hi : 0 ≤ iat f.why 0 ∧ iat f.why 0 < (membersG g f.b).length := by
              have h := hb
              simp at h
              omega
            have hni : ¬ (iat f.why 0 < 0 ∨ ((membersG g f.b).length : Int) ≤ iat f.why 0) := by omega
            have hch := chosen_in hok hi
            obtain ⟨t, ht⟩ : ∃ t, t = chosenF g f := ⟨_, rfl⟩
            refine c_seq ?_
            -- region 4
            refine c_ops ?_
            refine l_val rfl rfl rfl (r_load_blk rfl Tryd.isAgg73 rfl (hL.get 2 rfl) rfl) ?_
            refine l_val rfl rfl rfl (r_load_blk_agg rfl Tryd.isAgg37 Tryd.sizeOf37 rfl (hL.get 1 rfl) rfl) ?_
            have hf : FactOk g f := ⟨hra, hrb, fun _ => by intro h0; rw [h0] at hne; exact hne rfl, fun _ _ => hi⟩
            obtain ⟨Bk, dk, Bl, dl, hcell2, htk, htl⟩ := hg.node _ hch.1 hch.2.1
            refine l_by rfl rfl rfl (r_call rfl rfl Tryd.func65 rfl rfl) (chosen_calls _ xb Ag cg g (hg.keep RNode.kept (Ext0.cells hE)) hok (Ext0.cells hE _ _ hx0) f Aw cw (hw.keep RInt.kept (Ext0.cells hE)) hf hi (by omega) Bk dk Bl dl (fun j v hj => Ext0.cells hE _ _ (hcell2 j v hj))) ?_   -- fact.go:110 slot 31 := (call {callee=(value (func 65)), args=[(tmp 29), (tmp 30)], argTypes=[73, 37]})
            rintro _ w ⟨rfl, hX⟩
            replace hL := hL.ext0 hX
            replace hE := hE.trans hX
            rw [← ht]
            refine ⟨_, rfl, ?_⟩
            refine l_new rfl rfl rfl (n_alloc rfl Tryd.zeroValue45 hL hE) ?_
            rintro _ w ⟨b7, rfl, hb7, hL, hE, hX⟩
            refine l_new_do rfl rfl (r_store 0 rfl Tryd.sizeOf45 rfl hL hE rfl rfl rfl rfl (fun h => absurd h (Nat.not_lt.2 hb7))) ?_
            rintro w ⟨hL, hE, hz, hk⟩
            refine l_nil ?_
            refine c_block ?_
            refine c_merge [32, 33, 34, 35, 36, 37, 38, 39, 40] (fun e w => e 32 = .bool (decide (a.kind = 7) && decide (t.kind = 7)) ∧ Has w [.blk b7 (.cells (nodeCells t Bk dk Bl dl).toArray 45 (0, 0)), .blk b5 (.cells (nodeCells a Ak ck Al cl).toArray 45 (0, 0)), .blk b3 (.cells (factCells f Aw cw).toArray 37 (0, 0)), .blk b2 (.cells #[.pointer (some ⟨xb, 0, none⟩)] 73 (0, 0))] ∧ Ext0 w0 w) ?_ ?_
            · -- merged
              -- region 5
              refine c_ops ?_
              refine l_val rfl rfl rfl (r_fieldAddr (n := 0) rfl Tryd.underlying45 rfl Tryd.sizeOf3 rfl) ?_
              refine l_val rfl rfl rfl (r_load_blk rfl Tryd.isAgg3 rfl (hL.get 1 rfl) rfl) ?_
              refine l_val rfl rfl rfl (r_eql rfl rfl rfl) ?_
              refine l_val rfl rfl rfl (r_move rfl) ?_
              refine l_case 36 rfl (fun hb => ?_) (fun hb => ?_)
              · -- slot 36 is True
                have hr36 := hb
                replace hb := of_decide_eq_true hb
                refine l_val rfl rfl rfl (r_fieldAddr (n := 0) rfl Tryd.underlying45 rfl Tryd.sizeOf3 rfl) ?_
                refine l_val rfl rfl rfl (r_load_blk rfl Tryd.isAgg3 rfl (hL.get 0 rfl) rfl) ?_
                refine l_val rfl rfl rfl (r_eql rfl rfl rfl) ?_
                refine l_val rfl rfl rfl (r_pick rfl rfl) ?_
                refine l_val rfl rfl rfl (r_assign rfl) ?_
                refine l_nil ?_
                refine ⟨by repeat (first | exact Agree.over _ _ _ | exact Agree.refl _ _ | (refine Agree.puto ?_ _ _ rfl) | (refine Agree.put ?_ _ _ rfl) | (refine Agree.sub ?_ rfl)), ?_⟩
                exact ⟨congrArg Value.bool (by simp only [hr36, Bool.true_and, Bool.and_true, Bool.false_and, Bool.and_false, Bool.true_or, Bool.or_true, Bool.false_or, Bool.or_false, Bool.not_true, Bool.not_false, cond_true, cond_false]), hL, hE⟩
              · -- slot 36 is False
                have hr36 := hb
                replace hb := of_decide_eq_false hb
                refine l_not rfl rfl rfl ?_
                refine l_not rfl rfl rfl ?_
                refine l_not rfl rfl rfl ?_
                refine l_val rfl rfl rfl (r_pick rfl rfl) ?_
                refine l_val rfl rfl rfl (r_assign rfl) ?_
                refine l_nil ?_
                refine ⟨by repeat (first | exact Agree.over _ _ _ | exact Agree.refl _ _ | (refine Agree.puto ?_ _ _ rfl) | (refine Agree.put ?_ _ _ rfl) | (refine Agree.sub ?_ rfl)), ?_⟩
                exact ⟨congrArg Value.bool (by simp only [hr36, Bool.true_and, Bool.and_true, Bool.false_and, Bool.and_false, Bool.true_or, Bool.or_true, Bool.false_or, Bool.or_false, Bool.not_true, Bool.not_false, cond_true, cond_false]), hL, hE⟩
            rintro e w hI
            obtain ⟨hm32, hL, hE⟩ := hI
            refine c_know hm32 ?_
            refine c_cond rfl (fun hb => ?_) (fun hb => ?_)
            · -- True
              have hr32 := hb
              have h7 : (gat g f.a).kind = 7 ∧ (chosenF g f).kind = 7 := by rw [← ha, ← ht]; simpa using hb
              have hform := formed_some (nl := nl) hpp.1 hpp.2 (show manyF g f = some (1 + t.keys.length : Int) by unfold manyF; rw [if_neg h8, if_neg hne, if_neg h9, if_neg hni, if_pos h7, ht])
              have hkm : t.keys.length ≤ 1000000000000 := by
                have h1 := hok.fits.lists _ (gat_mem' hch.1 hch.2.1)
                have h2 := fun h => ((hok.is (gat_mem' hch.1 hch.2.1)).keys (k := 0) h).1
                rw [ht]
                show (gat g (iat (membersG g f.b) (iat f.why 0))).keys.length ≤ _
                omega
              -- region 6
              refine c_ops ?_
              refine l_val rfl rfl rfl (r_move rfl) ?_
              refine l_val rfl rfl rfl (r_fieldAddr (n := 0) rfl Tryd.underlying45 rfl Tryd.sizeOf43 rfl) ?_
              refine l_val rfl rfl rfl (r_load_blk rfl Tryd.isAgg43 rfl (hL.get 0 rfl) rfl) ?_
              refine l_val rfl rfl rfl (r_len rfl Tryd.underlying43 rfl) ?_
              refine l_val rfl rfl rfl ((r_add rfl rfl rfl).trans (by rw [wrap_small (by omega) (by omega)])) ?_
              refine l_val rfl rfl rfl (r_assign rfl) ?_
              refine l_nil ?_
              refine c_seq ?_
              -- region 17
              refine c_ops ?_
              refine l_val rfl rfl rfl (r_makeFunc rfl) ?_
              refine l_val rfl rfl rfl (r_assign rfl) ?_
              refine l_nil ?_
              refine c_seq ?_
              -- region 18
              refine c_ops ?_
              refine l_val rfl rfl rfl (r_fieldAddr (n := 0) rfl Tryd.underlying37 rfl Tryd.sizeOf30 rfl) ?_
              refine l_val rfl rfl rfl (r_load_blk rfl Tryd.isAgg30 rfl (hL.get 2 rfl) rfl) ?_
              refine l_val rfl rfl rfl (r_len rfl Tryd.underlying30 rfl) ?_
              refine l_val rfl rfl rfl (r_move rfl) ?_
              refine l_val rfl rfl rfl (r_eql rfl rfl rfl) ?_
              refine l_val rfl rfl rfl (r_move rfl) ?_
              refine l_case 107 rfl (fun hb => ?_) (fun hb => ?_)
              · -- slot 107 is True
                have hr107 := hb
                replace hb := of_decide_eq_true hb
                refine l_val rfl rfl rfl (r_load_blk rfl Tryd.isAgg73 rfl (hL.get 3 rfl) rfl) ?_
                refine l_val rfl rfl rfl (r_load_blk_agg rfl Tryd.isAgg37 Tryd.sizeOf37 rfl (hL.get 2 rfl) rfl) ?_
                refine l_by rfl rfl rfl (r_call rfl rfl Tryd.func40 rfl rfl) (on_calls _ xb Ag cg g (hg.keep RNode.kept (Ext0.cells hE)) hok (Ext0.cells hE _ _ hx0) f Aw cw (hw.keep RInt.kept (Ext0.cells hE)) hf) ?_   -- fact.go:118 slot 110 := (call {callee=(value (func 40)), args=[(tmp 108), (tmp 109)], argTypes=[73, 37]})
                rintro _ w ⟨Ao, co, rfl, hon, hX⟩
                replace hL := hL.ext0 hX
                replace hE := hE.trans hX
                refine ⟨_, rfl, ?_⟩
                refine l_val rfl rfl rfl (r_move rfl) ?_
                have hT : Tests Tryd.prog (fun (_ : Unit) W => Has W [.blk b2 (.cells #[.pointer (some ⟨xb, 0, none⟩)] 73 (0, 0))] ∧ Ext0 w0 W) (fun _ => False) (D1 RInt) (fun _ k => (outB nl k, ())) (.func (.func 66) #[] #[.pointer (some ⟨b2, 0, none⟩)]) := ⟨_, _, _, _, _, rfl, Tryd.func66, rfl, rfl, fun _ k v W hs hv => (by
                  obtain rfl : v = .int .i64 k := by injection hv
                  exact (formed1f_calls W b2 xb Af nl cf (Ext0.cells hs.2 _ _ hx1) _ k hs.1).mono (fun en w' ⟨h1, h2⟩ => ⟨h1, h2, hs.1.ext0 h2, hs.2.trans h2⟩))⟩
                refine l_by rfl rfl rfl (r_call rfl rfl Tryd.func39 rfl rfl) (ContainsFunc_int (fun (_ : Unit) W => Has W [.blk b2 (.cells #[.pointer (some ⟨xb, 0, none⟩)] 73 (0, 0))] ∧ Ext0 w0 W) (fun _ => False) RInt (fun _ k => (outB nl k, ())) _ _ _ _ (onF g f) _ () (fun W hW => hon W (hw.keep RInt.kept (Ext0.cells (hE.trans hW)))) hT ⟨(Has.right (L1 := [_, _, _]) hL), hE⟩) ?_   -- fact.go:118 slot 112 := (call {callee=(value (func 39)), args=[(tmp 110), (tmp 111)], argTypes=[30, 69]})
                rintro _ w ⟨rfl, hX, hY⟩
                replace hE := hE.step0 hX
                rw [findS_pure]
                refine ⟨_, rfl, ?_⟩
                refine l_val rfl rfl rfl (r_not rfl rfl) ?_
                refine l_val rfl rfl rfl (r_pick rfl rfl) ?_
                refine l_val rfl rfl rfl (r_assign rfl) ?_
                refine l_nil ?_
                refine c_ret ?_
                exact ⟨ret_bool rfl (by rw [hform]; simp only [hr107, Bool.true_and, Bool.and_true, Bool.false_and, Bool.and_false, Bool.true_or, Bool.or_true, Bool.false_or, Bool.or_false, Bool.not_true, Bool.not_false, cond_true, cond_false]), hE⟩
              · -- slot 107 is False
                have hr107 := hb
                replace hb := of_decide_eq_false hb
                refine l_not rfl rfl rfl ?_
                refine l_not rfl rfl rfl ?_
                refine l_not rfl rfl rfl ?_
                refine l_not rfl rfl rfl ?_
                refine l_not rfl rfl rfl ?_
                refine l_not rfl rfl rfl ?_
                refine l_val rfl rfl rfl (r_pick rfl rfl) ?_
                refine l_val rfl rfl rfl (r_assign rfl) ?_
                refine l_nil ?_
                refine c_ret ?_
                exact ⟨ret_bool rfl (by rw [hform]; simp only [hr107, Bool.true_and, Bool.and_true, Bool.false_and, Bool.and_false, Bool.true_or, Bool.or_true, Bool.false_or, Bool.or_false, Bool.not_true, Bool.not_false, cond_true, cond_false]), hE⟩
            · -- False
              have hr32 := hb
              have h7 : ¬ ((gat g f.a).kind = 7 ∧ (chosenF g f).kind = 7) := by rw [← ha, ← ht]; simpa using hb
              refine c_merge [46, 47, 48, 49, 50, 51, 52, 53, 54] (fun e w => e 46 = .bool (decide (a.kind = 9) && decide (t.kind = 9)) ∧ Has w [.blk b7 (.cells (nodeCells t Bk dk Bl dl).toArray 45 (0, 0)), .blk b5 (.cells (nodeCells a Ak ck Al cl).toArray 45 (0, 0)), .blk b3 (.cells (factCells f Aw cw).toArray 37 (0, 0)), .blk b2 (.cells #[.pointer (some ⟨xb, 0, none⟩)] 73 (0, 0))] ∧ Ext0 w0 w) ?_ ?_
              · -- merged
                -- region 7
                refine c_ops ?_
                refine l_val rfl rfl rfl (r_fieldAddr (n := 0) rfl Tryd.underlying45 rfl Tryd.sizeOf3 rfl) ?_
                refine l_val rfl rfl rfl (r_load_blk rfl Tryd.isAgg3 rfl (hL.get 1 rfl) rfl) ?_
                refine l_val rfl rfl rfl (r_eql rfl rfl rfl) ?_
                refine l_val rfl rfl rfl (r_move rfl) ?_
                refine l_case 50 rfl (fun hb => ?_) (fun hb => ?_)
                · -- slot 50 is True
                  have hr50 := hb
                  replace hb := of_decide_eq_true hb
                  refine l_val rfl rfl rfl (r_fieldAddr (n := 0) rfl Tryd.underlying45 rfl Tryd.sizeOf3 rfl) ?_
                  refine l_val rfl rfl rfl (r_load_blk rfl Tryd.isAgg3 rfl (hL.get 0 rfl) rfl) ?_
                  refine l_val rfl rfl rfl (r_eql rfl rfl rfl) ?_
                  refine l_val rfl rfl rfl (r_pick rfl rfl) ?_
                  refine l_val rfl rfl rfl (r_assign rfl) ?_
                  refine l_nil ?_
                  refine ⟨by repeat (first | exact Agree.over _ _ _ | exact Agree.refl _ _ | (refine Agree.puto ?_ _ _ rfl) | (refine Agree.put ?_ _ _ rfl) | (refine Agree.sub ?_ rfl)), ?_⟩
                  exact ⟨congrArg Value.bool (by simp only [hr50, Bool.true_and, Bool.and_true, Bool.false_and, Bool.and_false, Bool.true_or, Bool.or_true, Bool.false_or, Bool.or_false, Bool.not_true, Bool.not_false, cond_true, cond_false]), hL, hE⟩
                · -- slot 50 is False
                  have hr50 := hb
                  replace hb := of_decide_eq_false hb
                  refine l_not rfl rfl rfl ?_
                  refine l_not rfl rfl rfl ?_
                  refine l_not rfl rfl rfl ?_
                  refine l_val rfl rfl rfl (r_pick rfl rfl) ?_
                  refine l_val rfl rfl rfl (r_assign rfl) ?_
                  refine l_nil ?_
                  refine ⟨by repeat (first | exact Agree.over _ _ _ | exact Agree.refl _ _ | (refine Agree.puto ?_ _ _ rfl) | (refine Agree.put ?_ _ _ rfl) | (refine Agree.sub ?_ rfl)), ?_⟩
                  exact ⟨congrArg Value.bool (by simp only [hr50, Bool.true_and, Bool.and_true, Bool.false_and, Bool.and_false, Bool.true_or, Bool.or_true, Bool.false_or, Bool.or_false, Bool.not_true, Bool.not_false, cond_true, cond_false]), hL, hE⟩
              rintro e w hI
              obtain ⟨hm46, hL, hE⟩ := hI
              refine c_know hm46 ?_
              refine c_cond rfl (fun hb => ?_) (fun hb => ?_)
              · -- True
                have hr46 := hb
                have h99 : (gat g f.a).kind = 9 ∧ (chosenF g f).kind = 9 := by rw [← ha, ← ht]; simpa using hb
                have hform := formed_some (nl := nl) hpp.1 hpp.2 (show manyF g f = some (1 + 1 : Int) by unfold manyF; rw [if_neg h8, if_neg hne, if_neg h9, if_neg hni, if_neg h7, if_pos h99]; rfl)
                -- region 8
                refine c_ops ?_
                refine l_val rfl rfl rfl (r_move rfl) ?_
                refine l_val rfl rfl rfl ((r_add rfl rfl rfl).trans (by rw [wrap_small (by decide) (by decide)])) ?_
                refine l_val rfl rfl rfl (r_assign rfl) ?_
                refine l_nil ?_
                refine c_seq ?_
                -- region 17
                refine c_ops ?_
                refine l_val rfl rfl rfl (r_makeFunc rfl) ?_
                refine l_val rfl rfl rfl (r_assign rfl) ?_
                refine l_nil ?_
                refine c_seq ?_
                -- region 18
                refine c_ops ?_
                refine l_val rfl rfl rfl (r_fieldAddr (n := 0) rfl Tryd.underlying37 rfl Tryd.sizeOf30 rfl) ?_
                refine l_val rfl rfl rfl (r_load_blk rfl Tryd.isAgg30 rfl (hL.get 2 rfl) rfl) ?_
                refine l_val rfl rfl rfl (r_len rfl Tryd.underlying30 rfl) ?_
                refine l_val rfl rfl rfl (r_move rfl) ?_
                refine l_val rfl rfl rfl (r_eql rfl rfl rfl) ?_
                refine l_val rfl rfl rfl (r_move rfl) ?_
                refine l_case 107 rfl (fun hb => ?_) (fun hb => ?_)
                · -- slot 107 is True
                  have hr107 := hb
                  replace hb := of_decide_eq_true hb
                  refine l_val rfl rfl rfl (r_load_blk rfl Tryd.isAgg73 rfl (hL.get 3 rfl) rfl) ?_
                  refine l_val rfl rfl rfl (r_load_blk_agg rfl Tryd.isAgg37 Tryd.sizeOf37 rfl (hL.get 2 rfl) rfl) ?_
                  refine l_by rfl rfl rfl (r_call rfl rfl Tryd.func40 rfl rfl) (on_calls _ xb Ag cg g (hg.keep RNode.kept (Ext0.cells hE)) hok (Ext0.cells hE _ _ hx0) f Aw cw (hw.keep RInt.kept (Ext0.cells hE)) hf) ?_   -- fact.go:118 slot 110 := (call {callee=(value (func 40)), args=[(tmp 108), (tmp 109)], argTypes=[73, 37]})
                  rintro _ w ⟨Ao, co, rfl, hon, hX⟩
                  replace hL := hL.ext0 hX
                  replace hE := hE.trans hX
                  refine ⟨_, rfl, ?_⟩
                  refine l_val rfl rfl rfl (r_move rfl) ?_
                  have hT : Tests Tryd.prog (fun (_ : Unit) W => Has W [.blk b2 (.cells #[.pointer (some ⟨xb, 0, none⟩)] 73 (0, 0))] ∧ Ext0 w0 W) (fun _ => False) (D1 RInt) (fun _ k => (outB nl k, ())) (.func (.func 66) #[] #[.pointer (some ⟨b2, 0, none⟩)]) := ⟨_, _, _, _, _, rfl, Tryd.func66, rfl, rfl, fun _ k v W hs hv => (by
                    obtain rfl : v = .int .i64 k := by injection hv
                    exact (formed1f_calls W b2 xb Af nl cf (Ext0.cells hs.2 _ _ hx1) _ k hs.1).mono (fun en w' ⟨h1, h2⟩ => ⟨h1, h2, hs.1.ext0 h2, hs.2.trans h2⟩))⟩
                  refine l_by rfl rfl rfl (r_call rfl rfl Tryd.func39 rfl rfl) (ContainsFunc_int (fun (_ : Unit) W => Has W [.blk b2 (.cells #[.pointer (some ⟨xb, 0, none⟩)] 73 (0, 0))] ∧ Ext0 w0 W) (fun _ => False) RInt (fun _ k => (outB nl k, ())) _ _ _ _ (onF g f) _ () (fun W hW => hon W (hw.keep RInt.kept (Ext0.cells (hE.trans hW)))) hT ⟨(Has.right (L1 := [_, _, _]) hL), hE⟩) ?_   -- fact.go:118 slot 112 := (call {callee=(value (func 39)), args=[(tmp 110), (tmp 111)], argTypes=[30, 69]})
                  rintro _ w ⟨rfl, hX, hY⟩
                  replace hE := hE.step0 hX
                  rw [findS_pure]
                  refine ⟨_, rfl, ?_⟩
                  refine l_val rfl rfl rfl (r_not rfl rfl) ?_
                  refine l_val rfl rfl rfl (r_pick rfl rfl) ?_
                  refine l_val rfl rfl rfl (r_assign rfl) ?_
                  refine l_nil ?_
                  refine c_ret ?_
                  exact ⟨ret_bool rfl (by rw [hform]; simp only [hr107, Bool.true_and, Bool.and_true, Bool.false_and, Bool.and_false, Bool.true_or, Bool.or_true, Bool.false_or, Bool.or_false, Bool.not_true, Bool.not_false, cond_true, cond_false]), hE⟩
                · -- slot 107 is False
                  have hr107 := hb
                  replace hb := of_decide_eq_false hb
                  refine l_not rfl rfl rfl ?_
                  refine l_not rfl rfl rfl ?_
                  refine l_not rfl rfl rfl ?_
                  refine l_not rfl rfl rfl ?_
                  refine l_not rfl rfl rfl ?_
                  refine l_not rfl rfl rfl ?_
                  refine l_val rfl rfl rfl (r_pick rfl rfl) ?_
                  refine l_val rfl rfl rfl (r_assign rfl) ?_
                  refine l_nil ?_
                  refine c_ret ?_
                  exact ⟨ret_bool rfl (by rw [hform]; simp only [hr107, Bool.true_and, Bool.and_true, Bool.false_and, Bool.and_false, Bool.true_or, Bool.or_true, Bool.false_or, Bool.or_false, Bool.not_true, Bool.not_false, cond_true, cond_false]), hE⟩
              · -- False
                have hr46 := hb
                have h99 : ¬ ((gat g f.a).kind = 9 ∧ (chosenF g f).kind = 9) := by rw [← ha, ← ht]; simpa using hb
                have hform := formed_some (nl := nl) hpp.1 hpp.2 (show manyF g f = some 1 by unfold manyF; rw [if_neg h8, if_neg hne, if_neg h9, if_neg hni, if_neg h7, if_neg h99])
                refine c_skip ?_
                refine c_seq ?_
                -- region 17
                refine c_ops ?_
                refine l_val rfl rfl rfl (r_makeFunc rfl) ?_
                refine l_val rfl rfl rfl (r_assign rfl) ?_
                refine l_nil ?_
                refine c_seq ?_
                -- region 18
                refine c_ops ?_
                refine l_val rfl rfl rfl (r_fieldAddr (n := 0) rfl Tryd.underlying37 rfl Tryd.sizeOf30 rfl) ?_
                refine l_val rfl rfl rfl (r_load_blk rfl Tryd.isAgg30 rfl (hL.get 2 rfl) rfl) ?_
                refine l_val rfl rfl rfl (r_len rfl Tryd.underlying30 rfl) ?_
                refine l_val rfl rfl rfl (r_move rfl) ?_
                refine l_val rfl rfl rfl (r_eql rfl rfl rfl) ?_
                refine l_val rfl rfl rfl (r_move rfl) ?_
                refine l_case 107 rfl (fun hb => ?_) (fun hb => ?_)
                · -- slot 107 is True
                  have hr107 := hb
                  replace hb := of_decide_eq_true hb
                  refine l_val rfl rfl rfl (r_load_blk rfl Tryd.isAgg73 rfl (hL.get 3 rfl) rfl) ?_
                  refine l_val rfl rfl rfl (r_load_blk_agg rfl Tryd.isAgg37 Tryd.sizeOf37 rfl (hL.get 2 rfl) rfl) ?_
                  refine l_by rfl rfl rfl (r_call rfl rfl Tryd.func40 rfl rfl) (on_calls _ xb Ag cg g (hg.keep RNode.kept (Ext0.cells hE)) hok (Ext0.cells hE _ _ hx0) f Aw cw (hw.keep RInt.kept (Ext0.cells hE)) hf) ?_   -- fact.go:118 slot 110 := (call {callee=(value (func 40)), args=[(tmp 108), (tmp 109)], argTypes=[73, 37]})
                  rintro _ w ⟨Ao, co, rfl, hon, hX⟩
                  replace hL := hL.ext0 hX
                  replace hE := hE.trans hX
                  refine ⟨_, rfl, ?_⟩
                  refine l_val rfl rfl rfl (r_move rfl) ?_
                  have hT : Tests Tryd.prog (fun (_ : Unit) W => Has W [.blk b2 (.cells #[.pointer (some ⟨xb, 0, none⟩)] 73 (0, 0))] ∧ Ext0 w0 W) (fun _ => False) (D1 RInt) (fun _ k => (outB nl k, ())) (.func (.func 66) #[] #[.pointer (some ⟨b2, 0, none⟩)]) := ⟨_, _, _, _, _, rfl, Tryd.func66, rfl, rfl, fun _ k v W hs hv => (by
                    obtain rfl : v = .int .i64 k := by injection hv
                    exact (formed1f_calls W b2 xb Af nl cf (Ext0.cells hs.2 _ _ hx1) _ k hs.1).mono (fun en w' ⟨h1, h2⟩ => ⟨h1, h2, hs.1.ext0 h2, hs.2.trans h2⟩))⟩
                  refine l_by rfl rfl rfl (r_call rfl rfl Tryd.func39 rfl rfl) (ContainsFunc_int (fun (_ : Unit) W => Has W [.blk b2 (.cells #[.pointer (some ⟨xb, 0, none⟩)] 73 (0, 0))] ∧ Ext0 w0 W) (fun _ => False) RInt (fun _ k => (outB nl k, ())) _ _ _ _ (onF g f) _ () (fun W hW => hon W (hw.keep RInt.kept (Ext0.cells (hE.trans hW)))) hT ⟨(Has.right (L1 := [_, _, _]) hL), hE⟩) ?_   -- fact.go:118 slot 112 := (call {callee=(value (func 39)), args=[(tmp 110), (tmp 111)], argTypes=[30, 69]})
                  rintro _ w ⟨rfl, hX, hY⟩
                  replace hE := hE.step0 hX
                  rw [findS_pure]
                  refine ⟨_, rfl, ?_⟩
                  refine l_val rfl rfl rfl (r_not rfl rfl) ?_
                  refine l_val rfl rfl rfl (r_pick rfl rfl) ?_
                  refine l_val rfl rfl rfl (r_assign rfl) ?_
                  refine l_nil ?_
                  refine c_ret ?_
                  exact ⟨ret_bool rfl (by rw [hform]; simp only [hr107, Bool.true_and, Bool.and_true, Bool.false_and, Bool.and_false, Bool.true_or, Bool.or_true, Bool.false_or, Bool.or_false, Bool.not_true, Bool.not_false, cond_true, cond_false]), hE⟩
                · -- slot 107 is False
                  have hr107 := hb
                  replace hb := of_decide_eq_false hb
                  refine l_not rfl rfl rfl ?_
                  refine l_not rfl rfl rfl ?_
                  refine l_not rfl rfl rfl ?_
                  refine l_not rfl rfl rfl ?_
                  refine l_not rfl rfl rfl ?_
                  refine l_not rfl rfl rfl ?_
                  refine l_val rfl rfl rfl (r_pick rfl rfl) ?_
                  refine l_val rfl rfl rfl (r_assign rfl) ?_
                  refine l_nil ?_
                  refine c_ret ?_
                  exact ⟨ret_bool rfl (by rw [hform]; simp only [hr107, Bool.true_and, Bool.and_true, Bool.false_and, Bool.and_false, Bool.true_or, Bool.or_true, Bool.false_or, Bool.or_false, Bool.not_true, Bool.not_false, cond_true, cond_false]), hE⟩
end Go.Proofs.YtndophlnapjkhaaDoor.Vc
