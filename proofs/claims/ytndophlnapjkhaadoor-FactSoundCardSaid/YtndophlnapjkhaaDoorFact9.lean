/- Holds, First of package fact. Conditions: those of each statement. -/
import Derived.Test.YtndophlnapjkhaaDoorFact8
namespace Go.Proofs.YtndophlnapjkhaaDoor.Vc
open Go Go.RowKit
set_option linter.unusedVariables false
set_option linter.unusedSimpArgs false

theorem formed_ok {g : List GNode} {nl : Nat} {f : Fact} (h : formedF g nl f = true) : FactOk g f ∧ ∀ k ∈ onF g f, 0 ≤ k ∧ k < nl := by
  unfold formedF at h
  rw [Bool.and_eq_true, Bool.and_eq_true] at h
  obtain ⟨⟨ha, hb⟩, hm⟩ := h
  have ha' : 0 ≤ f.a ∧ f.a < g.length := by unfold placeB at ha; simpa using ha
  have hb' : 0 ≤ f.b ∧ f.b < g.length := by unfold placeB at hb; simpa using hb
  cases hmm : manyF g f with
  | none => rw [hmm] at hm; cases hm
  | some m =>
    rw [hmm] at hm
    simp only [Bool.and_eq_true, Bool.not_eq_true'] at hm
    refine ⟨⟨ha', hb', fun h8 h0 => ?_, fun h8 h9 => ?_⟩, fun k hk => outB_no (any_false hm.2 hk)⟩
    · unfold manyF at hmm
      rw [if_neg h8, if_pos (by rw [h0]; rfl)] at hmm
      cases hmm
    · unfold manyF at hmm
      rw [if_neg h8] at hmm
      split at hmm
      · cases hmm
      · first | rw [if_neg h9] at hmm | skip
        split at hmm
        · cases hmm
        · rename_i h1
          omega
theorem checkF_ok {g : List GNode} {l : List Fact} (hfit : Fits g) (h : checkF g l = 0) : GraphOk g ∧ g.length ≤ 2000 ∧ ∀ f ∈ l, formedF g l.length f = true := by
  unfold checkF at h
  split at h
  · rename_i h0
    obtain ⟨h1, h2⟩ := ok_of hfit h0
    refine ⟨h1, h2, fun f hf => ?_⟩
    split at h
    · cases h
    · split at h
      · cases h
      · rename_i h3
        have := any_false (Bool.eq_false_iff.2 h3) hf
        simpa using this
  · rename_i h1
    exact absurd h h1
theorem built_facts (A B : Option Addr) (n m c d : Nat) : Tryd.prog.built 65 [(0, .slice A n c), (1, .slice B m d)] = some #[.slice A n c, .slice B m d] := by kernel_rfl
theorem has_calls (w0 : World) (xb : Nat) (Ag : Option Addr) (cg : Nat) (g : List GNode) (hg : Nodes w0 Ag cg g) (hfit : Fits g) (hk0 : KeysLaid w0) (hx0 : w0.cell? ⟨xb, 0, none⟩ = some (.slice Ag g.length cg)) (Af : Option Addr) (cf : Nat) (l : List Fact) (hl : FactsAt w0 Af cf l) (hx1 : w0.cell? ⟨xb, 1, none⟩ = some (.slice Af l.length cf)) (k : Int) :
    Calls Tryd.prog 37 [.pointer (some ⟨xb, 0, none⟩), .int .i64 k].toArray w0 fun en w' => en = .returned (.bool (decide (checkF g l = 0) && decide (0 ≤ k) && decide (k < l.length))) ∧ Ext0 w0 w' := by
  have hE : Ext0 w0 w0 := Ext.refl _ _
  refine calls [4] Tryd.func37 rfl rfl rfl rfl ?_
  refine c_seq ?_
  -- region 0
  refine c_ops ?_
  refine l_val rfl rfl rfl (r_assign rfl) ?_
  refine l_nil ?_
  refine c_seq ?_
  -- region 1
  refine c_ops ?_
  refine l_val rfl rfl rfl (r_move rfl) ?_
  refine l_by rfl rfl rfl (r_call rfl rfl Tryd.func31 rfl rfl) (check_calls _ xb Ag cg g (hg.keep RNode.kept (Ext0.cells hE)) hfit (hk0.keep (Ext0.cells hE)) (Ext0.cells hE _ _ hx0) Af cf l (hl.keep RFact.kept (Ext0.cells hE)) (Ext0.cells hE _ _ hx1)) ?_   -- fact.go:157 slot 6 := (call {callee=(value (func 31)), args=[(tmp 5)], argTypes=[73]})
  rintro _ w ⟨rfl, hX⟩
  replace hE := hE.trans hX
  refine ⟨_, rfl, ?_⟩
  refine l_val rfl rfl rfl (r_eql rfl rfl rfl) ?_
  refine l_val rfl rfl rfl (r_move rfl) ?_
  refine l_case 8 rfl (fun hb => ?_) (fun hb => ?_)
  · -- slot 8 is True
    have hr8 := hb
    replace hb := of_decide_eq_true hb
    refine l_val rfl rfl rfl (r_move rfl) ?_
    refine l_val rfl rfl rfl (r_geq rfl rfl rfl) ?_
    refine l_val rfl rfl rfl (r_pick rfl rfl) ?_
    refine l_val rfl rfl rfl (r_move rfl) ?_
    refine l_case 12 rfl (fun hb => ?_) (fun hb => ?_)
    · -- slot 12 is True
      have hr12 := hb
      replace hb := of_decide_eq_true hb
      refine l_val rfl rfl rfl (r_move rfl) ?_
      refine l_val rfl rfl rfl (r_move rfl) ?_
      refine l_val rfl rfl rfl (r_nilCheck rfl rfl) ?_
      refine l_val rfl rfl rfl (r_fieldAddr (n := 0) rfl Tryd.underlying65 rfl Tryd.sizeOf29 rfl) ?_
      refine l_val rfl rfl rfl (r_load rfl Tryd.isAgg29 rfl (Ext0.cells hE _ _ hx1)) ?_
      refine l_val rfl rfl rfl (r_len rfl Tryd.underlying29 rfl) ?_
      refine l_val rfl rfl rfl (r_lss rfl rfl rfl) ?_
      refine l_val rfl rfl rfl (r_pick rfl rfl) ?_
      refine l_val rfl rfl rfl (r_assign rfl) ?_
      refine l_nil ?_
      refine c_ret ?_
      exact ⟨ret_bool rfl (by simp only [hr8, hr12, Bool.true_and, Bool.and_true, Bool.false_and, Bool.and_false, Bool.true_or, Bool.or_true, Bool.false_or, Bool.or_false, Bool.not_true, Bool.not_false, cond_true, cond_false]), hE⟩
    · -- slot 12 is False
      have hr12 := hb
      replace hb := of_decide_eq_false hb
      refine l_not rfl rfl rfl ?_
      refine l_not rfl rfl rfl ?_
      refine l_not rfl rfl rfl ?_
      refine l_not rfl rfl rfl ?_
      refine l_not rfl rfl rfl ?_
      refine l_not rfl rfl rfl ?_
      refine l_not rfl rfl rfl ?_
      refine l_val rfl rfl rfl (r_pick rfl rfl) ?_
      refine l_val rfl rfl rfl (r_assign rfl) ?_
      refine l_nil ?_
      refine c_ret ?_
      exact ⟨ret_bool rfl (by simp only [hr8, hr12, Bool.true_and, Bool.and_true, Bool.false_and, Bool.and_false, Bool.true_or, Bool.or_true, Bool.false_or, Bool.or_false, Bool.not_true, Bool.not_false, cond_true, cond_false]), hE⟩
  · -- slot 8 is False
    have hr8 := hb
    replace hb := of_decide_eq_false hb
    refine l_not rfl rfl rfl ?_
    refine l_not rfl rfl rfl ?_
    refine l_val rfl rfl rfl (r_pick rfl rfl) ?_
    refine l_val rfl rfl rfl (r_move rfl) ?_
    refine l_not rfl rfl rfl ?_
    refine l_not rfl rfl rfl ?_
    refine l_not rfl rfl rfl ?_
    refine l_not rfl rfl rfl ?_
    refine l_not rfl rfl rfl ?_
    refine l_not rfl rfl rfl ?_
    refine l_not rfl rfl rfl ?_
    refine l_val rfl rfl rfl (r_pick rfl rfl) ?_
    refine l_val rfl rfl rfl (r_assign rfl) ?_
    refine l_nil ?_
    refine c_ret ?_
    exact ⟨ret_bool rfl (by simp only [hr8, Bool.true_and, Bool.and_true, Bool.false_and, Bool.and_false, Bool.true_or, Bool.or_true, Bool.false_or, Bool.or_false, Bool.not_true, Bool.not_false, cond_true, cond_false]), hE⟩
theorem fat_mem {l : List Fact} {k : Int} (h0 : 0 ≤ k) (h1 : k < l.length) : fat l k ∈ l := by
  unfold fat
  rw [List.getD_eq_getElem?_getD, List.getElem?_eq_getElem (show k.toNat < l.length by omega)]
  exact List.getElem_mem _
def holdsAt (g : List GNode) (l : List Fact) (k : Int) : Bool := decide (checkF g l = 0) && decide (0 ≤ k) && decide (k < l.length) && holdsF g l (fat l k)
theorem Holds_calls (w0 : World) (Ag : Option Addr) (cg : Nat) (g : List GNode) (hg : Nodes w0 Ag cg g) (hfit : Fits g) (hk0 : KeysLaid w0) (Af : Option Addr) (cf : Nat) (l : List Fact) (hl : FactsAt w0 Af cf l) (k : Int) :
    Calls Tryd.prog 21 [.slice Ag g.length cg, .slice Af l.length cf, .int .i64 k].toArray w0 fun en w' => en = .returned (.bool (holdsAt g l k)) ∧ Ext0 w0 w' := by
  have hE : Ext0 w0 w0 := Ext.refl _ _
  have hL : Has w0 [] := trivial
  unfold holdsAt
  refine calls [6] Tryd.func21 rfl rfl rfl rfl ?_
  refine c_seq ?_
  -- region 0
  refine c_ops ?_
  refine l_val rfl rfl rfl (r_assign rfl) ?_
  refine l_nil ?_
  refine c_seq ?_
  -- region 1
  refine c_ops ?_
  refine l_val rfl rfl rfl (r_move rfl) ?_
  refine l_val rfl rfl rfl (r_move rfl) ?_
  refine l_val rfl rfl rfl (r_build rfl rfl (built_facts _ _ _ _ _ _)) ?_   -- fact.go:161 slot 10 := (build 65 [(0, (tmp 8)), (1, (tmp 9))])
  refine l_new rfl rfl rfl (n_box rfl hL hE) ?_
  rintro _ w ⟨b11, rfl, hb11, hL, hE, hX⟩
  refine l_val rfl rfl rfl (r_assign rfl) ?_
  refine l_nil ?_
  refine c_seq ?_
  -- region 2
  refine c_ops ?_
  refine l_val rfl rfl rfl (r_move rfl) ?_
  refine l_val rfl rfl rfl (r_move rfl) ?_
  refine l_by rfl rfl rfl (r_call rfl rfl Tryd.func37 rfl rfl) (has_calls _ b11 Ag cg g (hg.keep RNode.kept (Ext0.cells hE)) hfit (hk0.keep (Ext0.cells hE)) (by rw [blk_cell (hL.get 0 rfl)]; rfl) Af cf l (hl.keep RFact.kept (Ext0.cells hE)) (by rw [blk_cell (hL.get 0 rfl)]; rfl) k) ?_   -- fact.go:162 slot 14 := (call {callee=(value (func 37)), args=[(tmp 12), (tmp 13)], argTypes=[73, 3]})
  rintro _ w ⟨rfl, hX⟩
  replace hL := hL.ext0 hX
  replace hE := hE.step0 hX
  refine ⟨_, rfl, ?_⟩
  refine l_val rfl rfl rfl (r_move rfl) ?_
  refine l_case 15 rfl (fun hb => ?_) (fun hb => ?_)
  · -- slot 15 is True
    have hr15 := hb
    have h3 : checkF g l = 0 ∧ 0 ≤ k ∧ k < l.length := by have h := hb; simp at h; exact ⟨h.1.1, h.1.2, h.2⟩
    obtain ⟨hok, hn, hall⟩ := checkF_ok hfit h3.1
    have hk0' := h3.2.1
    have hk1' := h3.2.2
    obtain ⟨A1, c1, hfc, hfw⟩ := hl.fact k hk0' hk1'
    refine l_val rfl rfl rfl (r_move rfl) ?_
    refine l_val rfl rfl rfl (r_move rfl) ?_
    refine l_val rfl rfl rfl (r_move rfl) ?_
    refine l_val rfl rfl rfl (r_indexAddr_sl rfl Tryd.underlying29 Tryd.sizeOf37 rfl hl.is rfl hk0' hk1') ?_
    refine l_val rfl rfl rfl (r_load_agg (vs := [.int .i64 (fat l k).a, .int .i64 (fat l k).b, .slice A1 (fat l k).why.length c1]) rfl Tryd.isAgg37 Tryd.sizeOf37 rfl (fun j v hj => Ext0.cells hE _ _ (hfc j v hj))) ?_
    refine l_by rfl rfl rfl (r_call rfl rfl Tryd.func34 rfl rfl) (fact_holds_calls _ b11 Ag cg g (hg.keep RNode.kept (Ext0.cells hE)) hok (by rw [blk_cell (hL.get 0 rfl)]; rfl) Af cf l (hl.keep RFact.kept (Ext0.cells hE)) (by rw [blk_cell (hL.get 0 rfl)]; rfl) (fat l k) A1 c1 (hfw.keep RInt.kept (Ext0.cells hE)) (formed_ok (hall _ (fat_mem hk0' hk1'))).1 (formed_ok (hall _ (fat_mem hk0' hk1'))).2) ?_   -- fact.go:162 slot 21 := (call {callee=(value (func 34)), args=[(tmp 16), (tmp 20)], argTypes=[73, 37]})
    rintro _ w ⟨rfl, hX⟩
    replace hL := hL.ext0 hX
    replace hE := hE.step0 hX
    refine ⟨_, rfl, ?_⟩
    refine l_val rfl rfl rfl (r_pick rfl rfl) ?_
    refine l_val rfl rfl rfl (r_assign rfl) ?_
    refine l_nil ?_
    refine c_ret ?_
    exact ⟨ret_bool rfl (by rw [hr15]; rfl), hE⟩
  · -- slot 15 is False
    have hr15 := hb
    refine l_not rfl rfl rfl ?_
    refine l_not rfl rfl rfl ?_
    refine l_not rfl rfl rfl ?_
    refine l_not rfl rfl rfl ?_
    refine l_not rfl rfl rfl ?_
    refine l_not rfl rfl rfl ?_
    refine l_val rfl rfl rfl (r_pick rfl rfl) ?_
    refine l_val rfl rfl rfl (r_assign rfl) ?_
    refine l_nil ?_
    refine c_ret ?_
    exact ⟨ret_bool rfl (by rw [hr15]; rfl), hE⟩
theorem First1_calls (w0 : World) (xb : Nat) (Ag : Option Addr) (cg : Nat) (g : List GNode) (hg : Nodes w0 Ag cg g) (hok : GraphOk g) (hx0 : w0.cell? ⟨xb, 0, none⟩ = some (.slice Ag g.length cg)) (Af : Option Addr) (cf : Nat) (l : List Fact) (hl : FactsAt w0 Af cf l) (hx1 : w0.cell? ⟨xb, 1, none⟩ = some (.slice Af l.length cf)) (f : Fact) (Aw : Option Addr) (cw : Nat) (hw : Ints w0 Aw cw f.why) (hf : formedF g l.length f = true) (xp : Nat) (t : TypeId) (hL : Has w0 [.blk xp (.cells #[.pointer (some ⟨xb, 0, none⟩)] t (0, 0))]) :
    Calls Tryd.prog 33 [.agg (factCells f Aw cw).toArray, .pointer (some ⟨xp, 0, none⟩)].toArray w0 fun en w' => en = .returned (.bool (!holdsF g l f)) ∧ Ext0 w0 w' := by
  have hE : Ext0 w0 w0 := Ext.refl _ _
  refine calls [3] Tryd.func33 rfl rfl rfl rfl ?_
  refine c_seq ?_
  -- region 0
  refine c_ops ?_
  refine l_new rfl rfl rfl (n_box rfl hL hE) ?_
  rintro _ w ⟨b2, rfl, hb2, hL, hE, hX⟩
  refine l_val rfl rfl rfl (r_assign rfl) ?_
  refine l_nil ?_
  refine c_seq ?_
  -- region 1
  refine c_ops ?_
  refine l_val rfl rfl rfl (r_load_blk rfl Tryd.isAgg73 rfl (hL.get 1 rfl) rfl) ?_
  refine l_val rfl rfl rfl (r_load_blk_agg rfl Tryd.isAgg37 Tryd.sizeOf37 rfl (hL.get 0 rfl) rfl) ?_
  refine l_by rfl rfl rfl (r_call rfl rfl Tryd.func34 rfl rfl) (fact_holds_calls _ xb Ag cg g (hg.keep RNode.kept (Ext0.cells hE)) hok (Ext0.cells hE _ _ hx0) Af cf l (hl.keep RFact.kept (Ext0.cells hE)) (Ext0.cells hE _ _ hx1) f Aw cw (hw.keep RInt.kept (Ext0.cells hE)) (formed_ok hf).1 (formed_ok hf).2) ?_   -- fact.go:171 slot 6 := (call {callee=(value (func 34)), args=[(tmp 4), (tmp 5)], argTypes=[73, 37]})
  rintro _ w ⟨rfl, hX⟩
  replace hL := hL.ext0 hX
  replace hE := hE.trans hX
  refine ⟨_, rfl, ?_⟩
  refine l_val rfl rfl rfl (r_not rfl rfl) ?_
  refine l_val rfl rfl rfl (r_assign rfl) ?_
  refine l_nil ?_
  refine c_ret ?_
  exact ⟨rfl, hE⟩
def firstF (g : List GNode) (l : List Fact) : Int := idxV (findS (fun (_ : Unit) f => (!holdsF g l f, ())) 0 () l).1
theorem First_calls (w0 : World) (Ag : Option Addr) (cg : Nat) (g : List GNode) (hg : Nodes w0 Ag cg g) (hfit : Fits g) (hk0 : KeysLaid w0) (Af : Option Addr) (cf : Nat) (l : List Fact) (hl : FactsAt w0 Af cf l) :
    Calls Tryd.prog 13 [.slice Ag g.length cg, .slice Af l.length cf].toArray w0 fun en w' => en = .returned (.tuple #[.int .i64 (if checkF g l = 0 then firstF g l else 0), .int .i64 (checkF g l)]) ∧ Ext0 w0 w' := by
  have hE : Ext0 w0 w0 := Ext.refl _ _
  have hL : Has w0 [] := trivial
  refine calls [4, 5] Tryd.func13 rfl rfl rfl rfl ?_
  refine c_seq ?_
  -- region 0
  refine c_ops ?_
  refine l_val rfl rfl rfl (r_assign rfl) ?_
  refine l_val rfl rfl rfl (r_assign rfl) ?_
  refine l_nil ?_
  refine c_seq ?_
  -- region 1
  refine c_ops ?_
  refine l_val rfl rfl rfl (r_move rfl) ?_
  refine l_val rfl rfl rfl (r_move rfl) ?_
  refine l_val rfl rfl rfl (r_build rfl rfl (built_facts _ _ _ _ _ _)) ?_   -- fact.go:167 slot 10 := (build 65 [(0, (tmp 8)), (1, (tmp 9))])
  refine l_new rfl rfl rfl (n_box rfl hL hE) ?_
  rintro _ w ⟨b11, rfl, hb11, hL, hE, hX⟩
  refine l_new rfl rfl rfl (n_alloc rfl Tryd.zeroValue73 hL hE) ?_
  rintro _ w ⟨b6, rfl, hb6, hL, hE, hX⟩
  refine l_new_do rfl rfl (r_store 0 rfl Tryd.sizeOf73 rfl hL hE rfl rfl rfl rfl (fun h => absurd h (Nat.not_lt.2 hb6))) ?_
  rintro w ⟨hL, hE, hz, hk⟩
  refine l_nil ?_
  refine c_seq ?_
  refine c_seq ?_
  -- region 2
  refine c_ops ?_
  refine l_val rfl rfl rfl (r_load_blk rfl Tryd.isAgg73 rfl (hL.get 0 rfl) rfl) ?_
  refine l_by rfl rfl rfl (r_call rfl rfl Tryd.func31 rfl rfl) (check_calls _ b11 Ag cg g (hg.keep RNode.kept (Ext0.cells hE)) hfit (hk0.keep (Ext0.cells hE)) (by rw [blk_cell (hL.get 1 rfl)]; rfl) Af cf l (hl.keep RFact.kept (Ext0.cells hE)) (by rw [blk_cell (hL.get 1 rfl)]; rfl)) ?_   -- fact.go:168 slot 13 := (call {callee=(value (func 31)), args=[(tmp 12)], argTypes=[73]})
  rintro _ w ⟨rfl, hX⟩
  replace hL := hL.ext0 hX
  replace hE := hE.step0 hX
  refine ⟨_, rfl, ?_⟩
  refine l_val rfl rfl rfl (r_assign rfl) ?_
  refine l_nil ?_
  refine c_seq ?_
  -- region 3
  refine c_ops ?_
  refine l_val rfl rfl rfl (r_move rfl) ?_
  refine l_val rfl rfl rfl (r_neq rfl rfl rfl) ?_
  refine l_nil ?_
  refine c_cond rfl (fun hb => ?_) (fun hb => ?_)
  · -- True
    have hr15 := hb
    replace hb := of_decide_eq_false (by simpa using hb)
    have hz : ¬ checkF g l = 0 := hb
    rw [if_neg hz]
    refine c_seq ?_
    -- region 4
    refine c_ops ?_
    refine l_val rfl rfl rfl (r_move rfl) ?_
    refine l_val rfl rfl rfl (r_assign rfl) ?_
    refine l_val rfl rfl rfl (r_assign rfl) ?_
    refine l_nil ?_
    refine c_ret ?_
    exact ⟨rfl, hE⟩
  · -- False
    have hr15 := hb
    replace hb := of_decide_eq_true (by simpa using hb)
    have hz : checkF g l = 0 := hb
    obtain ⟨hok, hn, hall⟩ := checkF_ok hfit hz
    rw [if_pos hz, hz]
    refine c_skip ?_
    refine c_seq ?_
    -- region 5
    refine c_ops ?_
    refine l_val rfl rfl rfl (r_move rfl) ?_
    refine l_val rfl rfl rfl (r_makeFunc rfl) ?_
    have hT : Tests Tryd.prog (fun (_ : Unit) W => Has W [.blk b6 (.cells #[.pointer (some ⟨b11, 0, none⟩)] 73 (0, 0)), .blk b11 (.cells #[.slice Ag g.length cg, .slice Af l.length cf] 65 (0, 0))] ∧ Ext0 w0 W) (fun _ => False) (DN (fun W f cs => RFact W f cs ∧ formedF g l.length f = true) 3) (fun _ f => (!holdsF g l f, ())) (.func (.func 33) #[] #[.pointer (some ⟨b6, 0, none⟩)]) := ⟨_, _, _, _, _, rfl, Tryd.func33, rfl, rfl, fun _ f v W hs hv => (by
      obtain ⟨cs, _, ⟨⟨Aw, cw, rfl, hw⟩, hff⟩, rfl⟩ := hv
      exact (First1_calls W b11 Ag cg g (hg.keep RNode.kept (Ext0.cells hs.2)) hok (by rw [blk_cell (hs.1.get 1 rfl)]; rfl) Af cf l (hl.keep RFact.kept (Ext0.cells hs.2)) (by rw [blk_cell (hs.1.get 1 rfl)]; rfl) f Aw cw hw hff b6 _ (hs.1.sub (.cons_cons _ (.cons _ .slnil)))).mono (fun en w' ⟨h1, h2⟩ => ⟨h1, h2, hs.1.ext0 h2, hs.2.trans h2⟩))⟩
    refine l_by rfl rfl rfl (r_call rfl rfl Tryd.func32 rfl rfl) (IndexFunc_fact (fun (_ : Unit) W => Has W [.blk b6 (.cells #[.pointer (some ⟨b11, 0, none⟩)] 73 (0, 0)), .blk b11 (.cells #[.slice Ag g.length cg, .slice Af l.length cf] 65 (0, 0))] ∧ Ext0 w0 W) (fun _ => False) (fun W f cs => RFact W f cs ∧ formedF g l.length f = true) (fun _ f => (!holdsF g l f, ())) _ _ _ _ l _ () (fun W hW => (hl.keep RFact.kept (Ext0.cells (hE.trans hW))).and hall) hT ⟨hL, hE⟩) ?_   -- fact.go:171 slot 19 := (call {callee=(value (func 32)), args=[(tmp 17), (tmp 18)], argTypes=[29, 76]})
    rintro _ w ⟨rfl, hX, hY⟩
    replace hE := hE.step0 hX
    refine ⟨_, rfl, ?_⟩
    refine l_val rfl rfl rfl (r_assign rfl) ?_
    refine l_val rfl rfl rfl (r_assign rfl) ?_
    refine l_nil ?_
    refine c_ret ?_
    exact ⟨rfl, hE⟩
end Go.Proofs.YtndophlnapjkhaaDoor.Vc
