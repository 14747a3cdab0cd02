/- Casts of package fact. Conditions: those of each statement. -/
import Derived.Test.YtndophlnapjkhaaDoorReach
namespace Go.Proofs.YtndophlnapjkhaaDoor.Vc
open Go Go.RowKit
set_option linter.unusedVariables false
set_option linter.unusedSimpArgs false

theorem Casts1_calls (w0 : World) (b : Nat) (Ag : Option Addr) (cg : Nat) (g : List GNode) (hg : Nodes w0 Ag cg g) (t : TypeId) (n : Int) (h0 : 0 ≤ n) (h1 : n < g.length) (hL : Has w0 [.blk b (.cells #[.slice Ag g.length cg] t (0, 0))]) : Calls Tryd.prog 38 [.int .i64 n, .pointer (some ⟨b, 0, none⟩)].toArray w0 fun en w' => en = .returned (.bool (dynB g n)) ∧ Ext0 w0 w' := by
  have hE : Ext0 w0 w0 := Ext.refl _ _
  obtain ⟨Ak, ck, Al, cl, hcell, _, _⟩ := hg.node n h0 h1
  refine calls [3] Tryd.func38 rfl rfl rfl rfl ?_
  refine c_seq ?_
  -- region 0
  refine c_ops ?_
  refine l_val rfl rfl rfl (r_assign rfl) ?_
  refine l_nil ?_
  refine c_seq ?_
  -- region 1
  refine c_ops ?_
  refine l_val rfl rfl rfl (r_load_blk rfl Tryd.isAgg22 rfl (hL.get 0 rfl) rfl) ?_
  refine l_val rfl rfl rfl (r_move rfl) ?_
  refine l_val rfl rfl rfl (r_indexAddr_sl rfl Tryd.underlying22 Tryd.sizeOf45 rfl hg.is rfl h0 h1) ?_
  refine l_val rfl rfl rfl (r_fieldAddr (n := 0) rfl Tryd.underlying45 rfl Tryd.sizeOf3 rfl) ?_
  refine l_val rfl rfl rfl (r_load rfl Tryd.isAgg3 rfl (Ext0.cells hE _ _ (hcell 0 _ rfl))) ?_
  refine l_val rfl rfl rfl (r_eql rfl rfl rfl) ?_
  refine l_val rfl rfl rfl (r_assign rfl) ?_
  refine l_nil ?_
  refine c_ret ?_
  exact ⟨rfl, hE⟩
theorem Contains_any (St : Unit → World → Prop) (T : Nat → Prop) (R : World → Int → List Value → Prop) (p : Int → Bool) (w0 : World) (A : Option Addr) (n c : Nat) (xs : List Int) (fv : Value)
    (hx : ∀ W, Ext T w0 W → Sl W 1 R A n c xs) (hf : Tests Tryd.prog St T (D1 R) (fun (_ : Unit) x => (p x, ())) fv) (hs : St () w0) :
    Calls Tryd.prog 39 [.slice A n c, fv].toArray w0 fun en w' => en = .returned (.bool (xs.any p)) ∧ Ext T w0 w' ∧ St () w' :=
  (ContainsFunc_int St T R (fun _ x => (p x, ())) w0 A n c xs fv () hx hf hs).mono (fun en w' ⟨h1, h2, h3⟩ => ⟨by rw [h1, findS_pure], h2, h3⟩)
theorem unseen_le (n : Nat) (m : List (Int × Int)) : unseen n m ≤ n := by
  have := sum_le (fun (i : Nat) => if (getM m (i : Int)).isSome then 0 else 1) (fun _ => 1) (List.range n) (fun i _ => by split <;> omega)
  have h2 : ((List.range n).map fun _ => 1).sum = n := by
    have : ∀ (l : List Nat), (l.map fun _ => 1).sum = l.length := fun l => by
      induction l with
      | nil => rfl
      | cons x r ih => simp [ih]; omega
    rw [this, List.length_range]
  unfold unseen
  omega
set_option maxHeartbeats 8000000 in
theorem Casts_calls (w0 : World) (Ag : Option Addr) (cg : Nat) (g : List GNode) (hg : Nodes w0 Ag cg g) (hfit : Fits g) (hk0 : KeysLaid w0) (Af : Option Addr) (cf : Nat) (l : List Fact) (hl : FactsAt w0 Af cf l) (k : Int) :
    Calls Tryd.prog 18 [.slice Ag g.length cg, .slice Af l.length cf, .int .i64 k].toArray w0 fun en w' => ∃ b, en = .returned (.bool b) ∧ (b = true ↔ checkF g l = 0 ∧ 0 ≤ k ∧ k < l.length ∧ ∃ j, Reach g l k j ∧ hereF g l j = true) ∧ Ext0 w0 w' := by
  have hE : Ext0 w0 w0 := Ext.refl _ _
  have hL : Has w0 [] := trivial
  refine calls [6] Tryd.func18 rfl rfl rfl rfl ?_
  refine c_seq ?_
  -- region 0
  refine c_ops ?_
  refine l_new rfl rfl rfl (n_box rfl hL hE) ?_
  rintro _ w ⟨b3, rfl, hb3, hL, hE, hX⟩
  refine l_val rfl rfl rfl (r_assign rfl) ?_
  refine l_nil ?_
  refine c_seq ?_
  -- region 1
  refine c_ops ?_
  refine l_val rfl rfl rfl (r_load_blk rfl Tryd.isAgg22 rfl (hL.get 0 rfl) rfl) ?_
  refine l_val rfl rfl rfl (r_move rfl) ?_
  refine l_val rfl rfl rfl (r_build rfl rfl (built_facts _ _ _ _ _ _)) ?_   -- fact.go:176 slot 16 := (build 65 [(0, (tmp 14)), (1, (tmp 15))])
  refine l_new rfl rfl rfl (n_box rfl hL hE) ?_
  rintro _ w ⟨b17, rfl, hb17, hL, hE, hX⟩
  refine l_val rfl rfl rfl (r_assign rfl) ?_
  refine l_nil ?_
  refine c_seq ?_
  refine c_seq ?_
  -- region 2
  refine c_ops ?_
  refine l_val rfl rfl rfl (r_move rfl) ?_
  refine l_val rfl rfl rfl (r_move rfl) ?_
  refine l_by rfl rfl rfl (r_call rfl rfl Tryd.func37 rfl rfl) (has_calls _ b17 Ag cg g (hg.keep RNode.kept (Ext0.cells hE)) hfit (hk0.keep (Ext0.cells hE)) (by rw [blk_cell (hL.get 0 rfl)]; rfl) Af cf l (hl.keep RFact.kept (Ext0.cells hE)) (by rw [blk_cell (hL.get 0 rfl)]; rfl) k) ?_   -- fact.go:177 slot 20 := (call {callee=(value (func 37)), args=[(tmp 18), (tmp 19)], argTypes=[73, 3]})
  rintro _ w ⟨rfl, hX⟩
  replace hL := hL.ext0 hX
  replace hE := hE.step0 hX
  refine ⟨_, rfl, ?_⟩
  refine l_val rfl rfl rfl (r_not rfl rfl) ?_
  refine l_nil ?_
  refine c_cond rfl (fun hb => ?_) (fun hb => ?_)
  · -- True
    have hr21 := hb
    have hno : (decide (checkF g l = 0) && decide (0 ≤ k) && decide (k < l.length)) = false := by have h := hr21; rw [Bool.not_eq_true'] at h; exact h
    refine c_seq ?_
    -- region 3
    refine c_ops ?_
    refine l_val rfl rfl rfl (r_assign rfl) ?_
    refine l_nil ?_
    refine c_ret ?_
    exact ⟨false, rfl, ⟨fun h => absurd h (by decide), fun h => by simp [h.1, h.2.1, h.2.2.1] at hno⟩, hE⟩
  · -- False
    have hr21 := hb
    have hyes : checkF g l = 0 ∧ 0 ≤ k ∧ k < l.length := by have h := hr21; rw [Bool.not_eq_false'] at h; simp at h; exact ⟨h.1.1, h.1.2, h.2⟩
    obtain ⟨hok, hn, hall⟩ := checkF_ok hfit hyes.1
    have hl8 : l.length ≤ 8000 := by
      have h := hyes.1
      unfold checkF at h
      split at h
      · split at h
        · cases h
        · omega
      · rename_i h1; exact absurd h h1
    refine c_skip ?_
    refine c_seq ?_
    -- region 4
    refine c_ops ?_
    refine l_val rfl rfl rfl (r_makeFunc rfl) ?_
    refine l_val rfl rfl rfl (r_assign rfl) ?_
    refine l_nil ?_
    refine c_seq ?_
    -- region 5
    refine c_ops ?_
    refine l_new rfl rfl rfl (n_makeMap rfl hL hE) ?_
    rintro _ w ⟨m23, rfl, hm23, hL, hE, hX⟩
    refine l_val rfl rfl rfl (r_move rfl) ?_
    refine l_new_do rfl rfl (r_mapInsert (m := ([] : List (Int × Int))) (enc := Value.int .i64) (venc := Value.int .i64) (k := k) (v := (1 : Int)) 0 rfl Tryd.underlying79 (KeyLaw.int Tryd.underlying3) rfl rfl rfl hL hE rfl (fun h => absurd h (Nat.not_lt.2 hm23))) ?_   -- fact.go:181 slot None := (insert 79 (tmp 23) (tmp 24) (const (int IntKind.i64 1)))
    rintro w ⟨hL, hE, hz, hk⟩
    refine l_val rfl rfl rfl (r_move rfl) ?_
    refine l_val rfl rfl rfl (r_assign rfl) ?_
    refine l_nil ?_
    refine c_seq ?_
    refine c_seq ?_
    -- region 6
    refine c_ops ?_
    refine l_val rfl rfl rfl (r_move rfl) ?_
    refine l_new rfl rfl rfl (n_slice rfl Tryd.underlying30 Tryd.sizeOf3 Tryd.zeroValue3 rfl rfl (fill_int1 _) hL hE) ?_
    rintro _ w ⟨s27, rfl, hs27, hL, hE, hX⟩
    refine l_val rfl rfl rfl (r_assign rfl) ?_
    refine l_nil ?_
    refine c_block ?_
    -- loop 0: slots that it writes and that are read in it ahead of that: [10]
    refine c_loop [6, 10, 11, 13, 28, 29, 30, 31, 32, 33, 34, 35, 36, 37, 38, 39, 40, 41, 42, 43, 44, 45, 46, 47, 48, 49, 50, 51, 52, 53, 54, 55, 56, 57, 58, 59, 60, 61, 62, 63, 64, 65, 66, 67, 68, 69, 70] (fun m1 e w => ∃ (mm : List (Int × Int)) (q : List Int) (bq off cap : Nat) (cur : Array Value), m1 = 2 * unseen l.length mm + q.length ∧ m1 ≤ 2 * l.length + 1 ∧ e 10 = .slice (some ⟨bq, off, none⟩) q.length cap ∧ QAt cur off cap q ∧ BfsIn g l k mm q none ∧ (bq < w0.heap.size → False) ∧ Has w [.blk bq (.cells cur 3 (0, 0)), .blk m23 (mapObj (Value.int .i64) (Value.int .i64) mm), .blk b17 (.cells #[.slice Ag g.length cg, .slice Af l.length cf] 65 (0, 0)), .blk b3 (.cells #[.slice Ag g.length cg] 22 (0, 0))] ∧ Ext0 w0 w) (2 * unseen l.length [(k, 1)] + 1) ?_ ?_
    · exact ⟨[(k, 1)], [k], s27, 0, 1, #[.int .i64 k], rfl, by have := unseen_le l.length [(k, (1 : Int))]; omega, rfl, ⟨by simp, by simp, fun i x hi => by cases i with | zero => (simp at hi; subst hi; rfl) | succ i => simp at hi⟩, Bfs.begin hyes.2.1 hyes.2.2, fun h => absurd h (Nat.not_lt.2 hs27), hL, hE⟩
    intro m1 e w hI
    obtain ⟨mm, q, bq, off, cap, cur, hm, hm2, h10, hq, hB, hS, hL, hE⟩ := hI
    refine c_know h10 ?_
    obtain ⟨M, hM⟩ : ∃ M, M = m1 := ⟨_, rfl⟩
    refine c_seq ?_
    refine c_seq ?_
    -- region 7
    refine c_ops ?_
    refine l_val rfl rfl rfl (r_move rfl) ?_
    refine l_val rfl rfl rfl (r_len rfl Tryd.underlying30 rfl) ?_
    refine l_val rfl rfl rfl (r_gtr rfl rfl rfl) ?_
    refine l_nil ?_
    refine c_cond rfl (fun hb => ?_) (fun hb => ?_)
    · -- True
      have hr30 := hb
      replace hb := of_decide_eq_true hb
      obtain ⟨i0, q', rfl⟩ : ∃ i0 q', q = i0 :: q' := by
        cases q with
        | nil => simp at hb
        | cons a r => exact ⟨a, r, rfl⟩
      have hi0 : 0 ≤ i0 ∧ i0 < l.length ∧ Reach g l k i0 := by
        have h := hB.queue i0 List.mem_cons_self
        cases hv : getM mm i0 with
        | none => exact absurd hv h
        | some v => exact (hB.vals i0 v hv).2
      obtain ⟨A1, c1, hfc, hfw⟩ := hl.fact i0 hi0.1 hi0.2.1
      have hfm := fat_mem hi0.1 hi0.2.1
      have hfo := (formed_ok (hall _ hfm)).1
      have hfi := (formed_ok (hall _ hfm)).2
      have hqm : (i0 :: q').length ≤ 9223372036854775807 := by omega
      refine c_skip ?_
      refine c_block ?_
      refine c_seq ?_
      -- region 8
      refine c_ops ?_
      refine l_val rfl rfl rfl (r_move rfl) ?_
      refine l_val rfl rfl rfl (r_move rfl) ?_
      refine l_val rfl rfl rfl (r_indexAddr_sl rfl Tryd.underlying30 Tryd.sizeOf3 rfl (fun _ => rfl) rfl (by decide) (by simp)) ?_
      refine l_val rfl rfl rfl (r_load (v := .int .i64 i0) rfl Tryd.isAgg3 rfl ((hq.sl (hL.get 0 rfl) hqm).int 0 (by decide) (by simp))) ?_
      refine l_val rfl rfl rfl (r_indexAddr_sl rfl Tryd.underlying29 Tryd.sizeOf37 rfl hl.is rfl hi0.1 hi0.2.1) ?_
      refine l_val rfl rfl rfl (r_load_agg (vs := [.int .i64 (fat l i0).a, .int .i64 (fat l i0).b, .slice A1 (fat l i0).why.length c1]) rfl Tryd.isAgg37 Tryd.sizeOf37 rfl (fun j v hj => Ext0.cells hE _ _ (hfc j v hj))) ?_
      refine l_new rfl rfl rfl (n_alloc rfl Tryd.zeroValue37 hL hE) ?_
      rintro _ w ⟨b11, rfl, hb11, hL, hE, hX⟩
      refine l_new_do rfl rfl (r_store 0 rfl Tryd.sizeOf37 rfl hL hE rfl rfl rfl rfl (fun h => absurd h (Nat.not_lt.2 hb11))) ?_
      rintro w ⟨hL, hE, hz, hk⟩
      refine l_nil ?_
      refine c_seq ?_
      -- region 9
      refine c_ops ?_
      refine l_val rfl rfl rfl (r_move rfl) ?_
      refine l_new rfl rfl rfl (n_pop rfl Tryd.underlying30 Tryd.sizeOf3 rfl rfl hq) ?_
      rintro _ w ⟨off2, rfl, hq2, rfl⟩
      refine l_val rfl rfl rfl (r_assign rfl) ?_
      refine l_nil ?_
      refine c_seq ?_
      refine c_merge [39, 40, 41, 42, 43, 44, 45, 46, 47, 48, 49, 50, 51] (fun e w => e 51 = .bool (hereF g l i0) ∧ Has w [.blk b11 (.cells #[.int .i64 (fat l i0).a, .int .i64 (fat l i0).b, .slice A1 (fat l i0).why.length c1] 37 (0, 0)), .blk bq (.cells cur 3 (0, 0)), .blk m23 (mapObj (Value.int .i64) (Value.int .i64) mm), .blk b17 (.cells #[.slice Ag g.length cg, .slice Af l.length cf] 65 (0, 0)), .blk b3 (.cells #[.slice Ag g.length cg] 22 (0, 0))] ∧ Ext0 w0 w) ?_ ?_
      · -- merged
        -- region 10
        refine c_ops ?_
        refine l_val rfl rfl rfl (r_move rfl) ?_
        refine l_val rfl rfl rfl (r_fieldAddr (n := 0) rfl Tryd.underlying37 rfl Tryd.sizeOf3 rfl) ?_
        refine l_val rfl rfl rfl (r_load_blk rfl Tryd.isAgg3 rfl (hL.get 0 rfl) rfl) ?_
        refine l_by rfl rfl rfl (r_call rfl rfl Tryd.func38 rfl rfl) (Casts1_calls _ b3 Ag cg g (hg.keep RNode.kept (Ext0.cells hE)) _ _ hfo.a.1 hfo.a.2 (hL.sub (.cons _ (.cons _ (.cons _ (.cons _ (.cons_cons _ .slnil))))))) ?_   -- fact.go:185 slot 42 := (call {callee=(value (tmp 39)), args=[(tmp 41)], argTypes=[3]})
        rintro _ w ⟨rfl, hX⟩
        replace hL := hL.ext0 hX
        replace hE := hE.step0 hX
        refine ⟨_, rfl, ?_⟩
        refine l_val rfl rfl rfl (r_move rfl) ?_
        refine l_case 43 rfl (fun hb => ?_) (fun hb => ?_)
        · -- slot 43 is True
          have hr43 := hb
          refine l_val rfl rfl rfl (r_load_blk rfl Tryd.isAgg22 rfl (hL.get 4 rfl) rfl) ?_
          refine l_val rfl rfl rfl (r_fieldAddr (n := 0) rfl Tryd.underlying37 rfl Tryd.sizeOf3 rfl) ?_
          refine l_val rfl rfl rfl (r_load_blk rfl Tryd.isAgg3 rfl (hL.get 0 rfl) rfl) ?_
          refine l_by rfl rfl rfl (r_call rfl rfl Tryd.func19 rfl rfl) (Members_calls _ Ag cg g (hg.keep RNode.kept (Ext0.cells hE)) hok.fits (fat l i0).b) ?_   -- fact.go:185 slot 47 := (call {callee=(value (func 19)), args=[(tmp 44), (tmp 46)], argTypes=[22, 3]})
          rintro _ w ⟨v, rfl, hrow, hX⟩
          replace hL := hL.ext0 hX
          replace hE := hE.step0 hX
          have hofI := Sl.ofInts (l := membersG g (fat l i0).b) hrow
          obtain ⟨A2, c2, hv2, hmem, _⟩ := hofI
          subst hv2
          refine ⟨_, rfl, ?_⟩
          refine l_val rfl rfl rfl (r_move rfl) ?_
          have hT : Tests Tryd.prog (fun (_ : Unit) W => Has W [.blk b3 (.cells #[.slice Ag g.length cg] 22 (0, 0))] ∧ Nodes W Ag cg g) (fun _ => False) (D1 (fun W s cs => RInt W s cs ∧ (0 ≤ s ∧ s < g.length))) (fun _ n => (dynB g n, ())) (.func (.func 38) #[] #[.pointer (some ⟨b3, 0, none⟩)]) := ⟨_, _, _, _, _, rfl, Tryd.func38, rfl, rfl, fun _ n v W hs hv => (by
            obtain rfl : v = .int .i64 n := by injection hv.1
            exact (Casts1_calls W b3 Ag cg g hs.2 _ n hv.2.1 hv.2.2 hs.1).mono (fun en w' ⟨h1, h2⟩ => ⟨h1, h2, hs.1.ext0 h2, hs.2.keep RNode.kept (Ext0.cells h2)⟩))⟩
          refine l_by rfl rfl rfl (r_call rfl rfl Tryd.func39 rfl rfl) (Contains_any (fun (_ : Unit) W => Has W [.blk b3 (.cells #[.slice Ag g.length cg] 22 (0, 0))] ∧ Nodes W Ag cg g) (fun _ => False) (fun W s cs => RInt W s cs ∧ (0 ≤ s ∧ s < g.length)) (dynB g) _ _ _ _ (membersG g (fat l i0).b) _ (fun W hW => (hmem.keep RInt.kept (Ext0.cells hW)).and (fun s hs => ⟨(hok.members hs).1, (hok.members hs).2.1⟩)) hT ⟨hL.sub (.cons _ (.cons _ (.cons _ (.cons _ (.cons_cons _ .slnil))))), hg.keep RNode.kept (Ext0.cells hE)⟩) ?_   -- fact.go:185 slot 49 := (call {callee=(value (func 39)), args=[(tmp 47), (tmp 48)], argTypes=[30, 69]})
          rintro _ w ⟨rfl, hX, hY⟩
          replace hL := hL.ext0 hX
          replace hE := hE.step0 hX
          refine ⟨_, rfl, ?_⟩
          refine l_val rfl rfl rfl (r_not rfl rfl) ?_
          refine l_val rfl rfl rfl (r_pick rfl rfl) ?_
          refine l_nil ?_
          refine ⟨by repeat (first | exact Agree.over _ _ _ | exact Agree.refl _ _ | (refine Agree.puto ?_ _ _ rfl) | (refine Agree.put ?_ _ _ rfl) | (refine Agree.sub ?_ rfl)), ?_⟩
          exact ⟨congrArg Value.bool (by simp only [hereF, hr43, Bool.true_and, Bool.and_true, Bool.false_and, Bool.and_false, Bool.true_or, Bool.or_true, Bool.false_or, Bool.or_false, Bool.not_true, Bool.not_false, cond_true, cond_false]), hL, hE⟩
        · -- slot 43 is False
          have hr43 := hb
          refine l_not rfl rfl rfl ?_
          refine l_not rfl rfl rfl ?_
          refine l_not rfl rfl rfl ?_
          refine l_not rfl rfl rfl ?_
          refine l_not rfl rfl rfl ?_
          refine l_not rfl rfl rfl ?_
          refine l_not rfl rfl rfl ?_
          refine l_val rfl rfl rfl (r_pick rfl rfl) ?_
          refine l_nil ?_
          refine ⟨by repeat (first | exact Agree.over _ _ _ | exact Agree.refl _ _ | (refine Agree.puto ?_ _ _ rfl) | (refine Agree.put ?_ _ _ rfl) | (refine Agree.sub ?_ rfl)), ?_⟩
          exact ⟨congrArg Value.bool (by simp only [hereF, hr43, Bool.true_and, Bool.and_true, Bool.false_and, Bool.and_false, Bool.true_or, Bool.or_true, Bool.false_or, Bool.or_false, Bool.not_true, Bool.not_false, cond_true, cond_false]), hL, hE⟩
      rintro e w hI
      obtain ⟨h51, hL, hE⟩ := hI
      refine c_know h51 ?_
      refine c_cond rfl (fun hb => ?_) (fun hb => ?_)
      · -- True
        have hr51 := hb
        refine c_seq ?_
        -- region 11
        refine c_ops ?_
        refine l_val rfl rfl rfl (r_assign rfl) ?_
        refine l_nil ?_
        refine c_ret ?_
        exact ⟨true, rfl, ⟨fun _ => ⟨hyes.1, hyes.2.1, hyes.2.2, i0, hi0.2.2, hb⟩, fun _ => rfl⟩, hE⟩
      · -- False
        have hr51 := hb
        have hB2 := hB.pop hb
        have hlen0 : (i0 :: q').length = q'.length + 1 := rfl
        refine c_skip ?_
        refine c_seq ?_
        -- region 12
        refine c_ops ?_
        refine l_val rfl rfl rfl (r_move rfl) ?_
        refine l_val rfl rfl rfl (r_load_blk_agg rfl Tryd.isAgg37 Tryd.sizeOf37 rfl (hL.get 0 rfl) rfl) ?_
        refine l_by rfl rfl rfl (r_call rfl rfl Tryd.func40 rfl rfl) (on_calls _ b17 Ag cg g (hg.keep RNode.kept (Ext0.cells hE)) hok (by rw [blk_cell (hL.get 3 rfl)]; rfl) (fat l i0) A1 c1 (hfw.keep RInt.kept (Ext0.cells hE)) hfo) ?_   -- fact.go:188 slot 54 := (call {callee=(value (func 40)), args=[(tmp 52), (tmp 53)], argTypes=[73, 37]})
        rintro _ w ⟨A7, c7, rfl, honI, hX⟩
        replace hL := hL.ext0 hX
        replace hE := hE.step0 hX
        have hon := honI w0 hfw
        refine ⟨_, rfl, ?_⟩
        refine l_val rfl rfl rfl (r_len rfl Tryd.underlying30 rfl) ?_
        refine l_val rfl rfl rfl (r_move rfl) ?_
        refine l_nil ?_
        refine c_block ?_
        -- loop 1: slots that it writes and that are read in it ahead of that: [56, 10]
        refine c_loop [10, 13, 56, 57, 58, 59, 60, 61, 62, 63, 64, 65, 66, 67, 68, 69, 70] (fun m1 e w => ∃ (n : Nat) (mm : List (Int × Int)) (q : List Int) (bq off cap : Nat) (cur : Array Value), n ≤ (onF g (fat l i0)).length ∧ m1 = (onF g (fat l i0)).length - n ∧ 2 * unseen l.length mm + q.length < M ∧ e 56 = .int .i64 n ∧ e 10 = .slice (some ⟨bq, off, none⟩) q.length cap ∧ QAt cur off cap q ∧ BfsIn g l k mm q (some (i0, n)) ∧ (bq < w0.heap.size → False) ∧ Has w [.blk b11 (.cells #[.int .i64 (fat l i0).a, .int .i64 (fat l i0).b, .slice A1 (fat l i0).why.length c1] 37 (0, 0)), .blk bq (.cells cur 3 (0, 0)), .blk m23 (mapObj (Value.int .i64) (Value.int .i64) mm), .blk b17 (.cells #[.slice Ag g.length cg, .slice Af l.length cf] 65 (0, 0)), .blk b3 (.cells #[.slice Ag g.length cg] 22 (0, 0))] ∧ Ext0 w0 w) (onF g (fat l i0)).length ?_ ?_
        · exact ⟨0, mm, q', bq, off2, cap - 1, cur, Nat.zero_le _, rfl, by omega, rfl, rfl, hq2, hB2, hS, hL, hE⟩
        intro m1 e w hI
        obtain ⟨n, mm, q, bq, off, cap, cur, hnl, hmn, hMm, h56, h10, hq, hB3, hS, hL, hE⟩ := hI
        refine c_know h56 ?_
        refine c_know (t := 10) (by exact h10) ?_
        refine c_seq ?_
        -- region 13
        refine c_ops ?_
        refine l_val rfl rfl rfl (r_lss rfl rfl rfl) ?_
        refine l_nil ?_
        refine c_seq ?_
        refine c_cond rfl (fun hb => ?_) (fun hb => ?_)
        · -- True
          have hr57 := hb
          replace hb := of_decide_eq_true hb
          have hnn : n < (onF g (fat l i0)).length := by omega
          obtain ⟨x, hx⟩ : ∃ x, x = iat (onF g (fat l i0)) n := ⟨_, rfl⟩
          have hxn : (onF g (fat l i0))[n]? = some x := by rw [hx]; exact iat_nat hnn
          have hxi := hfi x (List.mem_of_getElem? hxn)
          refine c_skip ?_
          refine c_seq ?_
          refine c_block ?_
          refine c_seq ?_
          -- region 14
          refine c_ops ?_
          refine l_val rfl rfl rfl (r_indexAddr_sl rfl Tryd.underlying30 Tryd.sizeOf3 rfl hon.is rfl (by omega) (by omega)) ?_
          refine l_val rfl rfl rfl (r_load (v := .int .i64 x) rfl Tryd.isAgg3 rfl (by rw [hx]; exact (hon.keep RInt.kept (Ext0.cells hE)).int n (by omega) (by omega))) ?_
          refine l_val rfl rfl rfl (r_assign rfl) ?_
          refine l_nil ?_
          refine c_seq ?_
          -- region 15
          refine c_ops ?_
          refine l_val rfl rfl rfl (r_move rfl) ?_
          refine l_val rfl rfl rfl (r_move rfl) ?_
          refine l_val rfl rfl rfl (r_lookup_int (k := x) rfl Tryd.underlying79 (KeyLaw.int Tryd.underlying3) Tryd.zeroValue3 rfl rfl (hL.get 2 rfl)) ?_
          refine l_val rfl rfl rfl (r_eql rfl rfl rfl) ?_
          refine l_nil ?_
          refine c_cond rfl (fun hb => ?_) (fun hb => ?_)
          · -- True
            have hr63 := hb
            replace hb := of_decide_eq_true hb
            have hxnone : getM mm x = none := by
              cases hv : getM mm x with
              | none => rfl
              | some v =>
                rw [hv, (hB3.vals x v hv).1] at hb
                cases hb
            have hBn := hB3.new hxn hxi
            have hun := unseen_new hxnone hxi.1 hxi.2
            refine c_seq ?_
            -- region 16
            refine c_ops ?_
            refine l_val rfl rfl rfl (r_move rfl) ?_
            refine l_val rfl rfl rfl (r_move rfl) ?_
            refine l_new_do rfl rfl (r_mapUpdate (k := x) (v := (1 : Int)) 2 rfl Tryd.underlying79 (KeyLaw.int Tryd.underlying3) rfl rfl rfl hL hE rfl (fun h => absurd h (Nat.not_lt.2 hm23))) ?_   -- fact.go:190 slot None := (mapUpdate 79 (tmp 64) (tmp 65) (const (int IntKind.i64 1)))
            rintro w ⟨hL, hE, hz, hk⟩
            refine l_nil ?_
            -- region 17
            refine c_ops ?_
            refine l_val rfl rfl rfl (r_move rfl) ?_
            refine l_val rfl rfl rfl (r_move rfl) ?_
            refine l_new rfl rfl rfl (n_slice rfl Tryd.underlying30 Tryd.sizeOf3 Tryd.zeroValue3 rfl rfl (fill_int1 _) hL hE) ?_
            rintro _ w ⟨s68, rfl, hs68, hL, hE, hX⟩
            refine l_new rfl rfl rfl (n_push (v := x) 2 rfl Tryd.underlying30 info_int rfl rfl hL hE rfl hq (by rw [blk_cell (hL.get 0 rfl)]; rfl) hS (by omega)) ?_
            rintro _ w ⟨bq2, off2, cap2, cur2, rfl, hq2, hL, hE, hS2⟩
            refine l_val rfl rfl rfl (r_assign rfl) ?_
            refine l_nil ?_
            -- region 18
            refine c_ops ?_
            refine l_val rfl rfl rfl (r_add rfl rfl rfl) ?_
            refine l_val rfl rfl rfl (r_move rfl) ?_
            refine l_nil ?_
            refine ⟨by repeat (first | exact Agree.over _ _ _ | exact Agree.refl _ _ | (refine Agree.puto ?_ _ _ rfl) | (refine Agree.put ?_ _ _ rfl) | (refine Agree.sub ?_ rfl)), ?_⟩
            first | exact ⟨(onF g (fat l i0)).length - (n + 1), by omega, n + 1, setM mm x 1, q ++ [x], bq2, off2, cap2, cur2, by omega, rfl, by simp; omega, by show Value.int .i64 (IntKind.i64.wrap ((n : Int) + 1)) = _; rw [wrap_succ hnn hon.max], congrArg (fun n => Value.slice (some ⟨bq2, off2, none⟩) n cap2) (by simp), hq2, hBn, hS2, hL.tail, hE⟩ | exact ⟨(onF g (fat l i0)).length - (n + 1), by omega, n + 1, mm, q, bq, off, cap, cur, by omega, rfl, hMm, by show Value.int .i64 (IntKind.i64.wrap ((n : Int) + 1)) = _; rw [wrap_succ hnn hon.max], rfl, hq, hBs, hS, hL, hE⟩
          · -- False
            have hr63 := hb
            replace hb := of_decide_eq_false hb
            have hxsome : getM mm x ≠ none := by intro h; rw [h] at hb; exact hb rfl
            have hBs := hB3.seen hxn hxsome
            refine c_skip ?_
            -- region 18
            refine c_ops ?_
            refine l_val rfl rfl rfl (r_add rfl rfl rfl) ?_
            refine l_val rfl rfl rfl (r_move rfl) ?_
            refine l_nil ?_
            refine ⟨by repeat (first | exact Agree.over _ _ _ | exact Agree.refl _ _ | (refine Agree.puto ?_ _ _ rfl) | (refine Agree.put ?_ _ _ rfl) | (refine Agree.sub ?_ rfl)), ?_⟩
            first | exact ⟨(onF g (fat l i0)).length - (n + 1), by omega, n + 1, setM mm x 1, q ++ [x], bq2, off2, cap2, cur2, by omega, rfl, by simp; omega, by show Value.int .i64 (IntKind.i64.wrap ((n : Int) + 1)) = _; rw [wrap_succ hnn hon.max], congrArg (fun n => Value.slice (some ⟨bq2, off2, none⟩) n cap2) (by simp), hq2, hBn, hS2, hL.tail, hE⟩ | exact ⟨(onF g (fat l i0)).length - (n + 1), by omega, n + 1, mm, q, bq, off, cap, cur, by omega, rfl, hMm, by show Value.int .i64 (IntKind.i64.wrap ((n : Int) + 1)) = _; rw [wrap_succ hnn hon.max], rfl, hq, hBs, hS, hL, hE⟩
        · -- False
          have hr57 := hb
          replace hb := of_decide_eq_false hb
          obtain rfl : n = (onF g (fat l i0)).length := by omega
          have hB4 := hB3.finish
          refine c_exit ?_
          refine ⟨by repeat (first | exact Agree.over _ _ _ | exact Agree.refl _ _ | (refine Agree.puto ?_ _ _ rfl) | (refine Agree.put ?_ _ _ rfl) | (refine Agree.sub ?_ rfl)), ?_⟩
          exact ⟨2 * unseen l.length mm + q.length, by omega, mm, q, bq, off, cap, cur, rfl, by omega, rfl, hq, hB4, hS, hL.tail, hE⟩
    · -- False
      have hr30 := hb
      replace hb := of_decide_eq_false hb
      obtain rfl : q = [] := List.eq_nil_of_length_eq_zero (by omega)
      refine c_exit ?_
      refine c_seq ?_
      -- region 19
      refine c_ops ?_
      refine l_val rfl rfl rfl (r_assign rfl) ?_
      refine l_nil ?_
      refine c_ret ?_
      exact ⟨false, rfl, ⟨fun h => absurd h (by decide), fun h => by
      obtain ⟨_, _, _, j, hj, hh⟩ := h
      rw [(hB.all hj).2] at hh
      cases hh⟩, hE⟩
end Go.Proofs.YtndophlnapjkhaaDoor.Vc
