/- What may stand for what: whether a node does for another one; by which member; whether a pair holds. Conditions: those of each statement. -/
import Derived.Test.YtndophlnapjkhaaDoorSub1
namespace Go.Proofs.YtndophlnapjkhaaDoor.Vc
open Go Go.RowKit
set_option linter.unusedVariables false
set_option linter.unusedSimpArgs false

/-- A node that is no union, of a graph that may be. -/
def PlainN (s : GNode) : Prop := s.kind = 1 ∨ s.kind = 2 ∨ s.kind = 3 ∨ s.kind = 4 ∨ s.kind = 5 ∨ (s.kind = 7 ∧ s.l.length = s.keys.length) ∨ (s.kind = 9 ∧ s.l.length = 1)
def rulesArr : Array Value := #[.nilFunc, .nilFunc, .func (.func 80) #[] #[], .func (.func 80) #[] #[], .func (.func 80) #[] #[], .func (.func 81) #[] #[], .nilFunc, .func (.func 82) #[] #[], .nilFunc, .func (.func 83) #[] #[]]
theorem built_rules : Tryd.prog.built 116 [(2, .func (.func 80) #[] #[]), (3, .func (.func 80) #[] #[]), (4, .func (.func 80) #[] #[]), (5, .func (.func 81) #[] #[]), (7, .func (.func 82) #[] #[]), (9, .func (.func 83) #[] #[])] = some rulesArr := by kernel_rfl
theorem rule_at {s t : GNode} (hs : PlainN s) (ht : PlainN t) (he : s.kind = t.kind) (h1 : ¬ s.kind = 1) : ∃ fid fn c, rulesArr[s.kind.toNat]? = some (.func (.func fid) #[] #[]) ∧ Tryd.prog.funcs[fid]? = some fn ∧ (fn.name == "runtime.NumGoroutine") = false ∧ fn.body = some c ∧ (0 ≤ s.kind ∧ s.kind < 10) ∧
    ∀ (w0 : World) (xb mb : Nat) (A : Value) (st : Bool) (m : PM) (Ak : Option Addr) (ck : Nat) (Al : Option Addr) (cl : Nat) (Bk : Option Addr) (dk : Nat) (Bl : Option Addr) (dl : Nat), Has w0 (Sol xb mb A st m) → Strs w0 Ak ck s.keys → Ints w0 Al cl s.l → Strs w0 Bk dk t.keys → Ints w0 Bl dl t.l →
      Calls Tryd.prog fid ([.pointer (some ⟨xb, 0, none⟩), .agg (nodeCells s Ak ck Al cl).toArray, .agg (nodeCells t Bk dk Bl dl).toArray] : List Value).toArray w0 fun en w' => en = .returned (.bool (ruleM m s t).1) ∧ Ext (fun k => k = mb) w0 w' ∧ Has w' (Sol xb mb A st (ruleM m s t).2) := by
  rcases hs with h | h | h | h | h | ⟨h, hl⟩ | ⟨h, hl⟩
  · exact absurd h h1
  · have hr : ∀ m, ruleM m s t = (true, m) := fun m => by simp [ruleM, h]
    refine ⟨_, _, _, by rw [h]; rfl, Tryd.func80, rfl, rfl, by omega, fun w0 xb mb A st m Ak ck Al cl Bk dk Bl dl hL hsk hsl htk htl => ?_⟩
    rw [hr]
    exact base_calls w0 xb mb A st m s t Ak ck Al cl Bk dk Bl dl hL hsk hsl htk htl
  · have hr : ∀ m, ruleM m s t = (true, m) := fun m => by simp [ruleM, h]
    refine ⟨_, _, _, by rw [h]; rfl, Tryd.func80, rfl, rfl, by omega, fun w0 xb mb A st m Ak ck Al cl Bk dk Bl dl hL hsk hsl htk htl => ?_⟩
    rw [hr]
    exact base_calls w0 xb mb A st m s t Ak ck Al cl Bk dk Bl dl hL hsk hsl htk htl
  · have hr : ∀ m, ruleM m s t = (true, m) := fun m => by simp [ruleM, h]
    refine ⟨_, _, _, by rw [h]; rfl, Tryd.func80, rfl, rfl, by omega, fun w0 xb mb A st m Ak ck Al cl Bk dk Bl dl hL hsk hsl htk htl => ?_⟩
    rw [hr]
    exact base_calls w0 xb mb A st m s t Ak ck Al cl Bk dk Bl dl hL hsk hsl htk htl
  · have hr : ∀ m, ruleM m s t = (decide (s.name = t.name), m) := fun m => by simp [ruleM, h]
    refine ⟨_, _, _, by rw [h]; rfl, Tryd.func81, rfl, rfl, by omega, fun w0 xb mb A st m Ak ck Al cl Bk dk Bl dl hL hsk hsl htk htl => ?_⟩
    rw [hr]
    exact tag_calls w0 xb mb A st m s t Ak ck Al cl Bk dk Bl dl hL hsk hsl htk htl
  · have hr : ∀ m, ruleM m s t = recM s m (t.keys.zip t.l) := fun m => by simp [ruleM, h]
    have ht1 : t.l.length = t.keys.length := by
      rcases ht with k | k | k | k | k | ⟨k, hk⟩ | ⟨k, hk⟩ <;> first | exact hk | omega
    refine ⟨_, _, _, by rw [h]; rfl, Tryd.func82, rfl, rfl, by omega, fun w0 xb mb A st m Ak ck Al cl Bk dk Bl dl hL hsk hsl htk htl => ?_⟩
    rw [hr]
    exact record_calls w0 xb mb A st m s t Ak ck Al cl Bk dk Bl dl hL hsk hsl htk htl hl ht1
  · have hr : ∀ m, ruleM m s t = if s.num = t.num then grant m (iat s.l 0, iat t.l 0) else (false, m) := fun m => by simp [ruleM, h]
    have ht1 : t.l.length = 1 := by
      rcases ht with k | k | k | k | k | ⟨k, hk⟩ | ⟨k, hk⟩ <;> first | exact hk | omega
    refine ⟨_, _, _, by rw [h]; rfl, Tryd.func83, rfl, rfl, by omega, fun w0 xb mb A st m Ak ck Al cl Bk dk Bl dl hL hsk hsl htk htl => ?_⟩
    rw [hr]
    exact variable_calls w0 xb mb A st m s t Ak ck Al cl Bk dk Bl dl hL hsk hsl htk htl hl ht1
theorem does_calls (w0 : World) (xb mb : Nat) (A : Value) (st : Bool) (m : PM) (s t : GNode) (hs : PlainN s) (ht : PlainN t) (Ak : Option Addr) (ck : Nat) (Al : Option Addr) (cl : Nat) (Bk : Option Addr) (dk : Nat) (Bl : Option Addr) (dl : Nat) (hL : Has w0 (Sol xb mb A st m))
    (hsk : Strs w0 Ak ck s.keys) (hsl : Ints w0 Al cl s.l) (htk : Strs w0 Bk dk t.keys) (htl : Ints w0 Bl dl t.l) :
    Calls Tryd.prog 71 [.pointer (some ⟨xb, 0, none⟩), .agg (nodeCells s Ak ck Al cl).toArray, .agg (nodeCells t Bk dk Bl dl).toArray].toArray w0 fun en w' => en = .returned (.bool (doesM st m s t).1) ∧ Ext (fun k => k = mb) w0 w' ∧ Has w' (Sol xb mb A st (doesM st m s t).2) := by
  have hE : Ext (fun k => k = mb) w0 w0 := Ext.refl _ _
  have hNC := noCells_map (hL.get 1 rfl)
  refine calls [6] Tryd.func71 rfl rfl rfl rfl ?_
  refine c_seq ?_
  -- region 0
  refine c_ops ?_
  refine l_new rfl rfl rfl (n_box rfl hL hE) ?_
  rintro _ w ⟨b4, rfl, hb4, hL, hE, hX⟩
  refine l_new rfl rfl rfl (n_box rfl hL hE) ?_
  rintro _ w ⟨b5, rfl, hb5, hL, hE, hX⟩
  refine l_val rfl rfl rfl (r_assign rfl) ?_
  refine l_nil ?_
  refine c_seq ?_
  refine c_merge [8, 9, 10, 11, 12, 13, 14, 15] (fun e w => e 15 = .bool (decide (s.kind = 1) || decide (t.kind = 1)) ∧ Has w ([.blk b5 (.cells (nodeCells t Bk dk Bl dl).toArray 45 (0, 0)), .blk b4 (.cells (nodeCells s Ak ck Al cl).toArray 45 (0, 0))] ++ Sol xb mb A st m) ∧ Ext (fun k => k = mb) w0 w) ?_ ?_
  · -- merged
    -- region 1
    refine c_ops ?_
    refine l_val rfl rfl rfl (r_fieldAddr (n := 0) rfl Tryd.underlying45 rfl Tryd.sizeOf3 rfl) ?_
    refine l_val rfl rfl rfl (r_load_blk rfl Tryd.isAgg3 rfl (hL.get 1 rfl) rfl) ?_
    refine l_val rfl rfl rfl (r_eql rfl rfl rfl) ?_
    refine l_val rfl rfl rfl (r_move rfl) ?_
    refine l_case 11 rfl (fun hb => ?_) (fun hb => ?_)
    · -- slot 11 is True
      have hr11 := hb
      replace hb := of_decide_eq_true hb
      refine l_not rfl rfl rfl ?_
      refine l_not rfl rfl rfl ?_
      refine l_not rfl rfl rfl ?_
      refine l_val rfl rfl rfl (r_pick rfl rfl) ?_
      refine l_nil ?_
      refine ⟨by repeat (first | exact Agree.over _ _ _ | exact Agree.refl _ _ | (refine Agree.puto ?_ _ _ rfl) | (refine Agree.put ?_ _ _ rfl) | (refine Agree.sub ?_ rfl)), ?_⟩
      exact ⟨congrArg Value.bool (by simp only [hr11, Bool.true_and, Bool.and_true, Bool.false_and, Bool.and_false, Bool.true_or, Bool.or_true, Bool.false_or, Bool.or_false, Bool.not_true, Bool.not_false, cond_true, cond_false]), hL, hE⟩
    · -- slot 11 is False
      have hr11 := hb
      replace hb := of_decide_eq_false hb
      refine l_val rfl rfl rfl (r_fieldAddr (n := 0) rfl Tryd.underlying45 rfl Tryd.sizeOf3 rfl) ?_
      refine l_val rfl rfl rfl (r_load_blk rfl Tryd.isAgg3 rfl (hL.get 0 rfl) rfl) ?_
      refine l_val rfl rfl rfl (r_eql rfl rfl rfl) ?_
      refine l_val rfl rfl rfl (r_pick rfl rfl) ?_
      refine l_nil ?_
      refine ⟨by repeat (first | exact Agree.over _ _ _ | exact Agree.refl _ _ | (refine Agree.puto ?_ _ _ rfl) | (refine Agree.put ?_ _ _ rfl) | (refine Agree.sub ?_ rfl)), ?_⟩
      exact ⟨congrArg Value.bool (by simp only [hr11, Bool.true_and, Bool.and_true, Bool.false_and, Bool.and_false, Bool.true_or, Bool.or_true, Bool.false_or, Bool.or_false, Bool.not_true, Bool.not_false, cond_true, cond_false]), hL, hE⟩
  rintro e w hI
  obtain ⟨h15, hL, hE⟩ := hI
  refine c_know h15 ?_
  refine c_cond rfl (fun hb => ?_) (fun hb => ?_)
  · -- True
    have hr15 := hb
    have hd : doesM st m s t = (!st || decide (s.kind = t.kind), m) := by unfold doesM; rw [if_pos (by simpa using hb)]
    rw [hd]
    refine c_seq ?_
    -- region 2
    refine c_ops ?_
    refine l_val rfl rfl rfl (r_move rfl) ?_
    refine l_val rfl rfl rfl (r_nilCheck rfl rfl) ?_
    refine l_val rfl rfl rfl (r_fieldAddr (n := 0) rfl Tryd.underlying89 rfl Tryd.sizeOf4 rfl) ?_
    refine l_val rfl rfl rfl (r_load_blk rfl Tryd.isAgg4 rfl (hL.get 2 rfl) rfl) ?_
    refine l_val rfl rfl rfl (r_not rfl rfl) ?_
    refine l_val rfl rfl rfl (r_move rfl) ?_
    refine l_case 21 rfl (fun hb => ?_) (fun hb => ?_)
    · -- slot 21 is True
      have hr21 := hb
      refine l_not rfl rfl rfl ?_
      refine l_not rfl rfl rfl ?_
      refine l_not rfl rfl rfl ?_
      refine l_not rfl rfl rfl ?_
      refine l_not rfl rfl rfl ?_
      refine l_val rfl rfl rfl (r_pick rfl rfl) ?_
      refine l_val rfl rfl rfl (r_assign rfl) ?_
      refine l_nil ?_
      refine c_ret ?_
      exact ⟨ret_bool rfl (by simp only [hr15, hr21, Bool.true_and, Bool.and_true, Bool.false_and, Bool.and_false, Bool.true_or, Bool.or_true, Bool.false_or, Bool.or_false, Bool.not_true, Bool.not_false, cond_true, cond_false]), hE, Has.right (L1 := [_, _]) hL⟩
    · -- slot 21 is False
      have hr21 := hb
      refine l_val rfl rfl rfl (r_fieldAddr (n := 0) rfl Tryd.underlying45 rfl Tryd.sizeOf3 rfl) ?_
      refine l_val rfl rfl rfl (r_load_blk rfl Tryd.isAgg3 rfl (hL.get 1 rfl) rfl) ?_
      refine l_val rfl rfl rfl (r_fieldAddr (n := 0) rfl Tryd.underlying45 rfl Tryd.sizeOf3 rfl) ?_
      refine l_val rfl rfl rfl (r_load_blk rfl Tryd.isAgg3 rfl (hL.get 0 rfl) rfl) ?_
      refine l_val rfl rfl rfl (r_eql rfl rfl rfl) ?_
      refine l_val rfl rfl rfl (r_pick rfl rfl) ?_
      refine l_val rfl rfl rfl (r_assign rfl) ?_
      refine l_nil ?_
      refine c_ret ?_
      exact ⟨ret_bool rfl (by simp only [hr15, hr21, Bool.true_and, Bool.and_true, Bool.false_and, Bool.and_false, Bool.true_or, Bool.or_true, Bool.false_or, Bool.or_false, Bool.not_true, Bool.not_false, cond_true, cond_false]), hE, Has.right (L1 := [_, _]) hL⟩
  · -- False
    have hr15 := hb
    have h11 : ¬ (s.kind = 1 ∨ t.kind = 1) := by simpa using hb
    have hd : doesM st m s t = if s.kind = t.kind then ruleM m s t else (false, m) := by unfold doesM; rw [if_neg h11]
    refine c_skip ?_
    refine c_seq ?_
    -- region 3
    refine c_ops ?_
    refine l_val rfl rfl rfl (r_build rfl rfl (built_rules)) ?_   -- sub.go:56 slot 28 := (build 116 [(2, (func 80)), (3, (func 80)), (4, (func 80)), (5, (func 81)), (7, (func 82)), (9, (func 83))])
    refine l_new rfl rfl rfl (n_alloc rfl Tryd.zeroValue116 hL hE) ?_
    rintro _ w ⟨b7, rfl, hb7, hL, hE, hX⟩
    refine l_new_do rfl rfl (r_store 0 rfl Tryd.sizeOf116 rfl hL hE rfl rfl rfl rfl (fun h => absurd h (Nat.not_lt.2 hb7))) ?_
    rintro w ⟨hL, hE, hz, hk⟩
    refine l_nil ?_
    refine c_seq ?_
    -- region 4
    refine c_draw mixed (hL.sub (.cons_cons _ (.cons_cons _ (.cons_cons _ (.cons_cons _ (.cons _ .slnil)))))) hE ?_
    replace hL := hL.drew
    replace hE := hE.drew
    have hK := hL.sub (.cons_cons _ (.cons_cons _ (.cons_cons _ (.cons_cons _ (.cons _ .slnil)))))
    refine h_t 0 rfl rfl (by kernel_rfl) (fun _ _ _ h => h) ⟨hK, hE⟩ rfl (fun W hW => r_fieldAddr (n := 0) rfl Tryd.underlying45 rfl Tryd.sizeOf3 rfl) ?_
    refine h_t 1 rfl rfl (by kernel_rfl) (fun _ _ _ h => h) ⟨hK, hE⟩ rfl (fun W hW => r_load_blk rfl Tryd.isAgg3 rfl (hW.1.get 2 rfl) rfl) ?_
    refine h_t 2 rfl rfl (by kernel_rfl) (fun _ _ _ h => h) ⟨hK, hE⟩ rfl (fun W hW => r_fieldAddr (n := 0) rfl Tryd.underlying45 rfl Tryd.sizeOf3 rfl) ?_
    refine h_t 3 rfl rfl (by kernel_rfl) (fun _ _ _ h => h) ⟨hK, hE⟩ rfl (fun W hW => r_load_blk rfl Tryd.isAgg3 rfl (hW.1.get 1 rfl) rfl) ?_
    refine h_t 4 rfl rfl (by kernel_rfl) (fun _ _ _ h => h) ⟨hK, hE⟩ rfl (fun W hW => r_eql rfl rfl rfl) ?_
    refine h_t 5 rfl rfl (by kernel_rfl) (fun _ _ _ h => h) ⟨hK, hE⟩ rfl (fun W hW => r_move rfl) ?_
    refine h_case 34 rfl (fun hb => ?_) (fun hb => ?_)
    · -- slot 34 is True
      have hr34 := hb
      replace hb := of_decide_eq_true hb
      rw [if_pos hb] at hd
      rw [hd]
      obtain ⟨fid, fn, cd, hat, hfn, hname, hbody, hk10, hcall⟩ := rule_at hs ht hb (fun h => h11 (.inl h))
      have hcell : ∀ W, Has W [.blk b7 (.cells rulesArr 116 (0, 0)), .blk b5 (.cells (nodeCells t Bk dk Bl dl).toArray 45 (0, 0)), .blk b4 (.cells (nodeCells s Ak ck Al cl).toArray 45 (0, 0)), .blk xb (solB A st mb)] → W.cell? ((⟨b7, 0, none⟩ : Addr).add (s.kind.toNat * 1)) = some (.func (.func fid) #[] #[]) := fun W hW => by
        rw [Nat.mul_one, blk_add, blk_cell (hW.get 0 rfl), Nat.zero_add]
        exact hat
      refine h_t 6 rfl rfl (by kernel_rfl) (fun _ _ _ h => h) ⟨hK, hE⟩ rfl (fun W hW => r_fieldAddr (n := 0) rfl Tryd.underlying45 rfl Tryd.sizeOf3 rfl) ?_
      refine h_t 7 rfl rfl (by kernel_rfl) (fun _ _ _ h => h) ⟨hK, hE⟩ rfl (fun W hW => r_load_blk rfl Tryd.isAgg3 rfl (hW.1.get 2 rfl) rfl) ?_
      refine h_t 8 rfl rfl (by kernel_rfl) (fun _ _ _ h => h) ⟨hK, hE⟩ rfl (fun W hW => r_indexAddr_arr rfl Tryd.underlying116 Tryd.sizeOf115 rfl rfl hk10.1 hk10.2) ?_
      refine h_t 9 rfl rfl (by kernel_rfl) (fun _ _ _ h => h) ⟨hK, hE⟩ rfl (fun W hW => r_load rfl Tryd.isAgg115 rfl (hcell W hW.1)) ?_
      refine h_t 10 rfl rfl (by kernel_rfl) (fun _ _ _ h => h) ⟨hK, hE⟩ rfl (fun W hW => r_move rfl) ?_
      refine h_t 11 rfl rfl (by kernel_rfl) (fun _ _ _ h => h) ⟨hK, hE⟩ rfl (fun W hW => r_load_blk_agg rfl Tryd.isAgg45 Tryd.sizeOf45 rfl (hW.1.get 2 rfl) rfl) ?_
      refine h_t 12 rfl rfl (by kernel_rfl) (fun _ _ _ h => h) ⟨hK, hE⟩ rfl (fun W hW => r_load_blk_agg rfl Tryd.isAgg45 Tryd.sizeOf45 rfl (hW.1.get 1 rfl) rfl) ?_
      refine h_by 13 rfl rfl (by kernel_rfl) rfl (r_call rfl rfl hfn hname hbody) (hcall _ xb mb A st m Ak ck Al cl Bk dk Bl dl (Has.right (L1 := [_, _, _]) hL) (hsk.keep RStr.kept (hE.cells hNC)) (hsl.keep RInt.kept (hE.cells hNC)) (htk.keep RStr.kept (hE.cells hNC)) (htl.keep RInt.kept (hE.cells hNC))) ?_   -- sub.go:57 slot 42 := (call {callee=(value (tmp 38)), args=[(tmp 39), (tmp 40), (tmp 41)], argTypes=[82, 45, 45]})
      rintro _ w ⟨rfl, hX, hY⟩
      replace hL := Has.sol [_, _, _] hL hX hY
      replace hE := hE.trans hX
      have hK := hL.sub (.cons_cons _ (.cons_cons _ (.cons_cons _ (.cons_cons _ (.cons _ .slnil)))))
      refine ⟨_, rfl, ⟨hK, hE⟩, ?_⟩
      refine h_t 14 rfl rfl (by kernel_rfl) (fun _ _ _ h => h) ⟨hK, hE⟩ rfl (fun W hW => r_pick rfl rfl) ?_
      refine h_t 15 rfl rfl (by kernel_rfl) (fun _ _ _ h => h) ⟨hK, hE⟩ rfl (fun W hW => r_assign rfl) ?_
      refine h_done (by kernel_rfl) ?_
      refine c_ret ?_
      exact ⟨ret_bool rfl (by simp only [hr15, hr34, Bool.true_and, Bool.and_true, Bool.false_and, Bool.and_false, Bool.true_or, Bool.or_true, Bool.false_or, Bool.or_false, Bool.not_true, Bool.not_false, cond_true, cond_false]), hE, Has.right (L1 := [_, _, _]) hL⟩
    · -- slot 34 is False
      have hr34 := hb
      replace hb := of_decide_eq_false hb
      rw [if_neg hb] at hd
      rw [hd]
      refine h_n 6 rfl rfl (by kernel_rfl) (fun _ _ _ h => h) ⟨hK, hE⟩ rfl ?_
      refine h_n 7 rfl rfl (by kernel_rfl) (fun _ _ _ h => h) ⟨hK, hE⟩ rfl ?_
      refine h_n 8 rfl rfl (by kernel_rfl) (fun _ _ _ h => h) ⟨hK, hE⟩ rfl ?_
      refine h_n 9 rfl rfl (by kernel_rfl) (fun _ _ _ h => h) ⟨hK, hE⟩ rfl ?_
      refine h_n 10 rfl rfl (by kernel_rfl) (fun _ _ _ h => h) ⟨hK, hE⟩ rfl ?_
      refine h_n 11 rfl rfl (by kernel_rfl) (fun _ _ _ h => h) ⟨hK, hE⟩ rfl ?_
      refine h_n 12 rfl rfl (by kernel_rfl) (fun _ _ _ h => h) ⟨hK, hE⟩ rfl ?_
      refine h_n 13 rfl rfl (by kernel_rfl) (fun _ _ _ h => h) ⟨hK, hE⟩ rfl ?_
      refine h_t 14 rfl rfl (by kernel_rfl) (fun _ _ _ h => h) ⟨hK, hE⟩ rfl (fun W hW => r_pick rfl rfl) ?_
      refine h_t 15 rfl rfl (by kernel_rfl) (fun _ _ _ h => h) ⟨hK, hE⟩ rfl (fun W hW => r_assign rfl) ?_
      refine h_done (by kernel_rfl) ?_
      refine c_ret ?_
      exact ⟨ret_bool rfl (by simp only [hr15, hr34, Bool.true_and, Bool.and_true, Bool.false_and, Bool.and_false, Bool.true_or, Bool.or_true, Bool.false_or, Bool.or_false, Bool.not_true, Bool.not_false, cond_true, cond_false]), hE, Has.right (L1 := [_, _, _]) hL⟩
/-- A graph that may be. -/
structure GraphOk (g : List GNode) : Prop where
  fits : Fits g
  may : ∀ x ∈ g, mayB g x = true
section
variable {g : List GNode} {x : GNode}
theorem GraphOk.odd (h : GraphOk g) (hx : x ∈ g) : oddB g.length x = false := by
  have := h.may x hx
  unfold mayB at this
  rw [Bool.and_eq_true, Bool.not_eq_true'] at this
  exact this.1
theorem GraphOk.kind (h : GraphOk g) (hx : x ∈ g) : kindB g x = true := by
  have := h.may x hx
  unfold mayB at this
  rw [Bool.and_eq_true] at this
  exact this.2
theorem GraphOk.inn (h : GraphOk g) (hx : x ∈ g) {k : Int} (hk : k ∈ x.l) : 0 ≤ k ∧ k < g.length := outB_no (any_false (odd_l (h.odd hx)) hk)
/-- What a node that may be is. -/
inductive NodeIs (g : List GNode) (x : GNode) : Prop
  | bare (h : x.kind = 1 ∨ x.kind = 2 ∨ x.kind = 3 ∨ x.kind = 4) (hl : x.l = []) (hk : x.keys = []) (hn : x.name = ⟨#[]⟩) (hm : x.num = 0)
  | tag (h : x.kind = 5) (hl : x.l = []) (hk : x.keys = []) (hm : x.num = 0)
  | rcd (h : x.kind = 7) (hl : x.l.length = x.keys.length) (hr : risesB x.keys = true) (hn : x.name = ⟨#[]⟩) (hm : x.num = 0)
  | union (h : x.kind = 8) (hl : ∀ k ∈ x.l, (gat g k).kind ≠ 8) (h2 : 2 ≤ x.l.length) (hd : x.l.Nodup) (hk : x.keys = []) (hn : x.name = ⟨#[]⟩) (hm : x.num = 0)
  | var (h : x.kind = 9) (hl : x.l.length = 1) (hk : x.keys = []) (hn : x.name = ⟨#[]⟩)
theorem GraphOk.is (h : GraphOk g) (hx : x ∈ g) : NodeIs g x := by
  have h1 := h.odd hx
  have h2 := h.kind hx
  unfold oddB at h1
  rw [Bool.or_eq_false_iff, Bool.or_eq_false_iff, Bool.or_eq_false_iff] at h1
  obtain ⟨⟨⟨h11, h12⟩, h13⟩, h14⟩ := h1
  have keys : x.kind ≠ 7 → x.keys = [] := fun h => by
    simp [h] at h14
    exact h14
  have num : x.kind ≠ 9 → x.num = 0 := fun h => by
    simp [h] at h12
    exact h12
  have name : x.kind ≠ 5 → x.name = ⟨#[]⟩ := fun h => by
    simp [h] at h13
    exact h13
  unfold kindB at h2
  cases hb : bareB x with
  | true =>
    rw [hb] at h2
    simp [bareB] at hb h2
    exact .bare hb h2 (keys (by omega)) (name (by omega)) (num (by omega))
  | false =>
    rw [hb, cond_false] at h2
    by_cases h5 : x.kind = 5
    · simp [h5] at h2
      exact .tag h5 h2.1 (keys (by omega)) (num (by omega))
    · by_cases h7 : x.kind = 7
      · simp only [h7, decide_true, decide_false, cond_true, cond_false, show ¬ (7 : Int) = 5 by decide, Bool.and_eq_true] at h2
        exact .rcd h7 (by have := h2.1.1.1; simp at this; omega) h2.1.2 (name (by omega)) (num (by omega))
      · by_cases h8 : x.kind = 8
        · simp only [h8, decide_true, decide_false, cond_true, cond_false, show ¬ (8 : Int) = 5 by decide, show ¬ (8 : Int) = 7 by decide, Bool.and_eq_true] at h2
          refine .union h8 (fun k hk => ?_) (by have := h2.1.2; simp at this; omega) (by simpa [diffB] using h2.2) (keys (by omega)) (name (by omega)) (num (by omega))
          have := List.all_eq_true.1 h2.1.1 k hk
          simpa using this
        · by_cases h9 : x.kind = 9
          · simp only [h9, decide_true, decide_false, cond_true, cond_false, show ¬ (9 : Int) = 5 by decide, show ¬ (9 : Int) = 7 by decide, show ¬ (9 : Int) = 8 by decide, Bool.and_eq_true] at h2
            exact .var h9 (by have := h2.2; simp at this; omega) (keys (by omega)) (name (by omega))
          · simp [h5, h7, h8, h9] at h2
theorem NodeIs.plain (h : NodeIs g x) (h8 : x.kind ≠ 8) : PlainN x := by
  rcases h with ⟨h, _⟩ | ⟨h, _⟩ | ⟨h, hl, _⟩ | ⟨h, _⟩ | ⟨h, hl, _⟩
  · rcases h with h | h | h | h <;> simp [PlainN, h]
  · simp [PlainN, h]
  · simp [PlainN, h, hl]
  · exact absurd h h8
  · simp [PlainN, h, hl]
theorem GraphOk.members (h : GraphOk g) {n k : Int} (hk : k ∈ membersG g n) : 0 ≤ k ∧ k < g.length ∧ (gat g k).kind ≠ 8 := by
  unfold membersG at hk
  split at hk
  · simp at hk
  · rename_i hn
    have hmem : gat g n ∈ g := gat_mem' (by omega) (by omega)
    split at hk
    · rename_i h8
      obtain ⟨h1, h2⟩ := h.inn hmem hk
      refine ⟨h1, h2, ?_⟩
      rcases h.is hmem with ⟨h, _⟩ | ⟨h, _⟩ | ⟨h, _⟩ | ⟨_, hl, _⟩ | ⟨h, _⟩
      · omega
      · omega
      · omega
      · exact hl k hk
      · omega
    · rw [List.mem_singleton] at hk
      subst hk
      rename_i h8
      exact ⟨by omega, by omega, h8⟩
end
theorem pick_calls (w0 : World) (xb mb : Nat) (Ag : Option Addr) (cg : Nat) (g : List GNode) (hg : Nodes w0 Ag cg g) (hok : GraphOk g) (st : Bool) (m : PM) (a b : Int) (ha : 0 ≤ a) (han : a < g.length) (ha8 : (gat g a).kind ≠ 8) (hL : Has w0 (Sol xb mb (.slice Ag g.length cg) st m)) :
    Calls Tryd.prog 63 [.pointer (some ⟨xb, 0, none⟩), .int .i64 a, .int .i64 b].toArray w0 fun en w' => en = .returned (.int .i64 (pickM g st m a b).1) ∧ Ext (fun k => k = mb) w0 w' ∧ Has w' (Sol xb mb (.slice Ag g.length cg) st (pickM g st m a b).2) := by
  have hE : Ext (fun k => k = mb) w0 w0 := Ext.refl _ _
  have hNC := noCells_map (hL.get 1 rfl)
  obtain ⟨Ak, ck, Al, cl, hcell, hsk, hsl⟩ := hg.node a ha han
  have hplain := (hok.is (gat_mem' ha han)).plain ha8
  obtain ⟨p, hp⟩ : ∃ p : PM → Int → Bool × PM, p = fun m k => doesM st m (gat g a) (gat g k) := ⟨_, rfl⟩
  have hpick : pickM g st m a b = match findS p 0 m (membersG g b) with
    | (some i, m') => ((i : Int), m')
    | (none, m') => if (gat g a).kind = 9 then (if (grant m' (iat (gat g a).l 0, b)).1 then (-1, (grant m' (iat (gat g a).l 0, b)).2) else (-2, (grant m' (iat (gat g a).l 0, b)).2)) else (-2, m') := by rw [hp]; rfl
  refine calls [6] Tryd.func63 rfl rfl rfl rfl ?_
  refine c_seq ?_
  -- region 0
  refine c_ops ?_
  refine l_val rfl rfl rfl (r_assign rfl) ?_
  refine l_nil ?_
  refine c_seq ?_
  -- region 1
  refine c_ops ?_
  refine l_val rfl rfl rfl (r_move rfl) ?_
  refine l_val rfl rfl rfl (r_nilCheck rfl rfl) ?_
  refine l_val rfl rfl rfl (r_fieldAddr (n := 0) rfl Tryd.underlying89 rfl Tryd.sizeOf22 rfl) ?_
  refine l_val rfl rfl rfl (r_load_blk rfl Tryd.isAgg22 rfl (hL.get 0 rfl) rfl) ?_
  refine l_val rfl rfl rfl (r_move rfl) ?_
  refine l_val rfl rfl rfl (r_indexAddr_sl rfl Tryd.underlying22 Tryd.sizeOf45 rfl hg.is rfl ha han) ?_
  refine l_val rfl rfl rfl (r_load_agg (vs := nodeCells (gat g a) Ak ck Al cl) rfl Tryd.isAgg45 Tryd.sizeOf45 rfl (fun j v hj => hE.cells hNC _ _ (hcell j v hj))) ?_
  refine l_new rfl rfl rfl (n_alloc rfl Tryd.zeroValue45 hL hE) ?_
  rintro _ w ⟨b7, rfl, hb7, hL, hE, hX⟩
  refine l_new_do rfl rfl (r_store 0 rfl Tryd.sizeOf45 rfl hL hE rfl rfl rfl rfl (fun h => absurd h (Nat.not_lt.2 hb7))) ?_
  rintro w ⟨hL, hE, hz, hk⟩
  refine l_nil ?_
  refine c_seq ?_
  refine c_seq ?_
  -- region 2
  refine c_ops ?_
  refine l_val rfl rfl rfl (r_move rfl) ?_
  refine l_val rfl rfl rfl (r_nilCheck rfl rfl) ?_
  refine l_val rfl rfl rfl (r_fieldAddr (n := 0) rfl Tryd.underlying89 rfl Tryd.sizeOf22 rfl) ?_
  refine l_val rfl rfl rfl (r_load_blk rfl Tryd.isAgg22 rfl (hL.get 1 rfl) rfl) ?_
  refine l_val rfl rfl rfl (r_move rfl) ?_
  refine l_by rfl rfl rfl (r_call rfl rfl Tryd.func19 rfl rfl) (Members_calls _ Ag cg g (hg.keep RNode.kept (hE.cells hNC)) hok.fits b) ?_   -- sub.go:63 slot 22 := (call {callee=(value (func 19)), args=[(tmp 20), (tmp 21)], argTypes=[22, 3]})
  rintro _ w ⟨v, rfl, hrow, hX⟩
  replace hL := hL.addRow hX hrow
  replace hE := hE.step0 hX
  obtain ⟨A2, c2, rfl, hmem, _⟩ := Sl.ofInts hrow
  obtain ⟨bm, hL⟩ : ∃ bm, Has w (.row bm _ _ _ _ _ :: _) := ⟨_, hL⟩
  refine ⟨_, rfl, ?_⟩
  refine l_val rfl rfl rfl (r_len rfl Tryd.underlying30 rfl) ?_
  refine l_val rfl rfl rfl (r_move rfl) ?_
  refine l_nil ?_
  refine c_block ?_
  -- loop 0: slots that it writes and that are read in it ahead of that: [24]
  refine c_loop [6, 8, 9, 24, 25, 26, 27, 28, 29, 30, 31, 32, 33, 34, 35, 36, 37, 38, 39, 40] (fun m1 e w => ∃ (k : Nat) (m' : PM), k ≤ (membersG g b).length ∧ m1 = (membersG g b).length - k ∧ e 24 = .int .i64 k ∧ findS p 0 m (membersG g b) = findS p k m' ((membersG g b).drop k) ∧ Has w ([.row bm 3 1 (.slice A2 (membersG g b).length c2) (membersG g b).length ((membersG g b).map (Value.int .i64)), .blk b7 (.cells (nodeCells (gat g a) Ak ck Al cl).toArray 45 (0, 0))] ++ Sol xb mb (.slice Ag g.length cg) st m') ∧ Ext (fun k => k = mb) w0 w) (membersG g b).length ?_ ?_
  · exact ⟨0, m, Nat.zero_le _, rfl, rfl, rfl, hL, hE⟩
  intro m1 e w hI
  obtain ⟨k, m', hk, hm, h24, hfind, hL, hE⟩ := hI
  refine c_know h24 ?_
  refine c_seq ?_
  -- region 3
  refine c_ops ?_
  refine l_val rfl rfl rfl (r_lss rfl rfl rfl) ?_
  refine l_nil ?_
  refine c_seq ?_
  refine c_cond rfl (fun hb => ?_) (fun hb => ?_)
  · -- True
    have hr25 := hb
    replace hb := of_decide_eq_true hb
    have hkn : k < (membersG g b).length := by omega
    have hxk := iat_nat hkn
    have hkk := hok.members (List.mem_of_getElem? hxk)
    have hstep := findS_step p m' (membersG g b) k _ hxk
    obtain ⟨Bk, dk, Bl, dl, hcell2, htk, htl⟩ := hg.node _ hkk.1 hkk.2.1
    refine c_skip ?_
    refine c_seq ?_
    refine c_block ?_
    refine c_seq ?_
    -- region 4
    refine c_ops ?_
    refine l_val rfl rfl rfl (r_move rfl) ?_
    refine l_val rfl rfl rfl (r_indexAddr_sl rfl Tryd.underlying30 Tryd.sizeOf3 rfl hmem.is rfl (by omega) (by omega)) ?_
    refine l_val rfl rfl rfl (r_load rfl Tryd.isAgg3 rfl ((Sl.ints_at (hL.row 0 rfl)).int k (by omega) (by omega))) ?_
    refine l_val rfl rfl rfl (r_assign rfl) ?_
    refine l_val rfl rfl rfl (r_assign rfl) ?_
    refine l_nil ?_
    refine c_seq ?_
    -- region 5
    refine c_draw mixed (hL.sub (.cons_cons _ (.cons_cons _ (.cons_cons _ (.cons _ .slnil))))) hE ?_
    replace hL := hL.drew
    replace hE := hE.drew
    have hK := hL.sub (.cons_cons _ (.cons_cons _ (.cons_cons _ (.cons _ .slnil))))
    refine h_t 0 rfl rfl (by kernel_rfl) (fun _ _ _ h => h) ⟨hK, hE⟩ rfl (fun W hW => r_move rfl) ?_
    refine h_t 1 rfl rfl (by kernel_rfl) (fun _ _ _ h => h) ⟨hK, hE⟩ rfl (fun W hW => r_load_blk_agg rfl Tryd.isAgg45 Tryd.sizeOf45 rfl (hW.1.get 1 rfl) rfl) ?_
    refine h_t 2 rfl rfl (by kernel_rfl) (fun _ _ _ h => h) ⟨hK, hE⟩ rfl (fun W hW => r_move rfl) ?_
    refine h_t 3 rfl rfl (by kernel_rfl) (fun _ _ _ h => h) ⟨hK, hE⟩ rfl (fun W hW => r_nilCheck rfl rfl) ?_
    refine h_t 4 rfl rfl (by kernel_rfl) (fun _ _ _ h => h) ⟨hK, hE⟩ rfl (fun W hW => r_fieldAddr (n := 0) rfl Tryd.underlying89 rfl Tryd.sizeOf22 rfl) ?_
    refine h_t 5 rfl rfl (by kernel_rfl) (fun _ _ _ h => h) ⟨hK, hE⟩ rfl (fun W hW => r_load_blk rfl Tryd.isAgg22 rfl (hW.1.get 2 rfl) rfl) ?_
    refine h_t 6 rfl rfl (by kernel_rfl) (fun _ _ _ h => h) ⟨hK, hE⟩ rfl (fun W hW => r_move rfl) ?_
    refine h_t 7 rfl rfl (by kernel_rfl) (fun _ _ _ h => h) ⟨hK, hE⟩ rfl (fun W hW => r_indexAddr_sl rfl Tryd.underlying22 Tryd.sizeOf45 rfl hg.is rfl hkk.1 hkk.2.1) ?_
    refine h_t 8 rfl rfl (by kernel_rfl) (fun _ _ _ h => h) ⟨hK, hE⟩ rfl (fun W hW => r_load_agg (vs := nodeCells (gat g (iat (membersG g b) k)) Bk dk Bl dl) rfl Tryd.isAgg45 Tryd.sizeOf45 rfl (fun j v hj => (hW.2).cells hNC _ _ (hcell2 j v hj))) ?_
    refine h_by 9 rfl rfl (by kernel_rfl) rfl (r_call rfl rfl Tryd.func71 rfl rfl) (does_calls _ xb mb (.slice Ag g.length cg) st m' (gat g a) (gat g (iat (membersG g b) k)) hplain ((hok.is (gat_mem' hkk.1 hkk.2.1)).plain hkk.2.2) Ak ck Al cl Bk dk Bl dl (Has.right (L1 := [_, _]) hL) (hsk.keep RStr.kept (hE.cells hNC)) (hsl.keep RInt.kept (hE.cells hNC)) (htk.keep RStr.kept (hE.cells hNC)) (htl.keep RInt.kept (hE.cells hNC))) ?_   -- sub.go:64 slot 38 := (call {callee=(value (func 71)), args=[(tmp 29), (tmp 30), (tmp 37)], argTypes=[82, 45, 45]})
    rintro _ w ⟨rfl, hX, hY⟩
    replace hL := Has.sol [_, _] hL hX hY
    replace hE := hE.trans hX
    have hK := hL.sub (.cons_cons _ (.cons_cons _ (.cons_cons _ (.cons _ .slnil))))
    refine ⟨_, rfl, ⟨hK, hE⟩, ?_⟩
    refine h_done (by kernel_rfl) ?_
    refine c_cond rfl (fun hb => ?_) (fun hb => ?_)
    · -- True
      have hr38 := hb
      have hp1 : (p m' (iat (membersG g b) k)).1 = true := by rw [hp]; exact hb
      rw [hfind, hstep, if_pos hp1] at hpick
      have hp2 : (p m' (iat (membersG g b) k)).2 = (doesM st m' (gat g a) (gat g (iat (membersG g b) k))).2 := by rw [hp]
      rw [hp2] at hpick
      refine c_seq ?_
      -- region 6
      refine c_ops ?_
      refine l_val rfl rfl rfl (r_move rfl) ?_
      refine l_val rfl rfl rfl (r_assign rfl) ?_
      refine l_nil ?_
      refine c_ret ?_
      rw [hpick]
      exact ⟨ret_int rfl rfl, hE, Has.right (L1 := [_, _]) hL⟩
    · -- False
      have hr38 := hb
      have hp1 : ¬ (p m' (iat (membersG g b) k)).1 = true := by rw [hp]; show ¬ (doesM st m' (gat g a) (gat g (iat (membersG g b) k))).1 = true; rw [hb]; decide
      have hp2 : (p m' (iat (membersG g b) k)).2 = (doesM st m' (gat g a) (gat g (iat (membersG g b) k))).2 := by rw [hp]
      have hfind2 : findS p 0 m (membersG g b) = findS p (k + 1) (doesM st m' (gat g a) (gat g (iat (membersG g b) k))).2 ((membersG g b).drop (k + 1)) := by rw [hfind, hstep, if_neg hp1, hp2]
      refine c_skip ?_
      -- region 7
      refine c_ops ?_
      refine l_val rfl rfl rfl (r_add rfl rfl rfl) ?_
      refine l_val rfl rfl rfl (r_move rfl) ?_
      refine l_nil ?_
      refine ⟨by repeat (first | exact Agree.over _ _ _ | exact Agree.refl _ _ | (refine Agree.puto ?_ _ _ rfl) | (refine Agree.put ?_ _ _ rfl) | (refine Agree.sub ?_ rfl)), ?_⟩
      exact ⟨(membersG g b).length - (k + 1), by omega, k + 1, _, by omega, rfl, by show Value.int .i64 (IntKind.i64.wrap ((k : Int) + 1)) = _; rw [wrap_succ hkn hmem.max], hfind2, hL, hE⟩
  · -- False
    have hr25 := hb
    replace hb := of_decide_eq_false hb
    have hkn : (membersG g b).length ≤ k := by omega
    rw [findS_end _ _ _ _ hkn] at hfind
    rw [hfind] at hpick
    refine c_exit ?_
    refine c_seq ?_
    refine c_seq ?_
    -- region 8
    refine c_ops ?_
    refine l_val rfl rfl rfl (r_fieldAddr (n := 0) rfl Tryd.underlying45 rfl Tryd.sizeOf3 rfl) ?_
    refine l_val rfl rfl rfl (r_load_blk rfl Tryd.isAgg3 rfl (hL.get 1 rfl) rfl) ?_
    refine l_val rfl rfl rfl (r_eql rfl rfl rfl) ?_
    refine l_val rfl rfl rfl (r_move rfl) ?_
    refine l_case 44 rfl (fun hb => ?_) (fun hb => ?_)
    · -- slot 44 is True
      have hr44 := hb
      replace hb := of_decide_eq_true hb
      have h9 := hb
      simp only [if_pos h9] at hpick
      refine l_val rfl rfl rfl (r_move rfl) ?_
      refine l_val rfl rfl rfl (r_fieldAddr (n := 0) rfl Tryd.underlying45 rfl Tryd.sizeOf30 rfl) ?_
      refine l_val rfl rfl rfl (r_load_blk rfl Tryd.isAgg30 rfl (hL.get 1 rfl) rfl) ?_
      have hl1 : (gat g a).l.length = 1 := by rcases hplain with h | h | h | h | h | ⟨h, h1⟩ | ⟨h, h1⟩ <;> first | exact h1 | omega
      refine l_val rfl rfl rfl (r_indexAddr_sl rfl Tryd.underlying30 Tryd.sizeOf3 rfl hsl.is rfl (by decide) (by omega)) ?_
      refine l_val rfl rfl rfl (r_load rfl Tryd.isAgg3 rfl ((hsl.keep RInt.kept ((hE).cells hNC)).int 0 (by decide) (by omega))) ?_
      refine l_val rfl rfl rfl (r_move rfl) ?_
      refine l_val rfl rfl rfl (r_build rfl rfl (built_pair _ _)) ?_   -- sub.go:68 slot 51 := (build 62 [(0, (tmp 49)), (1, (tmp 50))])
      refine l_by rfl rfl rfl (r_call rfl rfl Tryd.func53 rfl rfl) (granted_calls _ xb mb (.slice Ag g.length cg) st _ (iat (gat g a).l 0, b) (Has.right (L1 := [_, _]) hL)) ?_   -- sub.go:68 slot 52 := (call {callee=(value (func 53)), args=[(tmp 45), (tmp 51)], argTypes=[82, 62]})
      rintro _ w ⟨rfl, hX, hY⟩
      replace hL := Has.sol [_, _] hL hX hY
      replace hE := hE.trans hX
      refine ⟨_, rfl, ?_⟩
      refine l_val rfl rfl rfl (r_pick rfl rfl) ?_
      refine l_nil ?_
      refine c_cond rfl (fun hb => ?_) (fun hb => ?_)
      · -- True
        have hr53 := hb
        simp only [if_pos hb] at hpick
        refine c_seq ?_
        -- region 9
        refine c_ops ?_
        refine l_val rfl rfl rfl (r_assign rfl) ?_
        refine l_nil ?_
        refine c_ret ?_
        rw [hpick]
        exact ⟨ret_int rfl rfl, hE, Has.right (L1 := [_, _]) hL⟩
      · -- False
        have hr53 := hb
        simp only [hb, Bool.false_eq_true, if_false] at hpick
        refine c_skip ?_
        refine c_seq ?_
        -- region 10
        refine c_ops ?_
        refine l_val rfl rfl rfl (r_assign rfl) ?_
        refine l_nil ?_
        refine c_ret ?_
        rw [hpick]
        exact ⟨ret_int rfl rfl, hE, Has.right (L1 := [_, _]) hL⟩
    · -- slot 44 is False
      have hr44 := hb
      replace hb := of_decide_eq_false hb
      simp only [if_neg hb] at hpick
      refine l_not rfl rfl rfl ?_
      refine l_not rfl rfl rfl ?_
      refine l_not rfl rfl rfl ?_
      refine l_not rfl rfl rfl ?_
      refine l_not rfl rfl rfl ?_
      refine l_not rfl rfl rfl ?_
      refine l_not rfl rfl rfl ?_
      refine l_not rfl rfl rfl ?_
      refine l_val rfl rfl rfl (r_pick rfl rfl) ?_
      refine l_nil ?_
      refine c_no rfl ?_
      refine c_skip ?_
      refine c_seq ?_
      -- region 10
      refine c_ops ?_
      refine l_val rfl rfl rfl (r_assign rfl) ?_
      refine l_nil ?_
      refine c_ret ?_
      rw [hpick]
      exact ⟨ret_int rfl rfl, hE, Has.right (L1 := [_, _]) hL⟩
end Go.Proofs.YtndophlnapjkhaaDoor.Vc
