/- Which graphs may be, and what a type is of: Check and Members of package graph; slices.Clone of whole numbers. Conditions: those of each statement. -/
import Derived.Test.YtndophlnapjkhaaDoorGraph2
import Derived.Test.YtndophlnapjkhaaDoorOwned
namespace Go.Proofs.YtndophlnapjkhaaDoor.Vc
open Go Go.RowKit
set_option linter.unusedVariables false
set_option linter.unusedSimpArgs false

/-- A graph whose texts and lists are not beyond what may be in memory. -/
structure Fits (g : List GNode) : Prop where
  texts : ∀ x ∈ g, FitsN x
  lists : ∀ x ∈ g, x.l.length ≤ 1000000000000
def checkG (g : List GNode) : Int := if 2000 < (g.length : Int) then 5 else if g.all (mayB g) then 0 else 2
def membersG (g : List GNode) (n : Int) : List Int := if n < 0 ∨ (g.length : Int) ≤ n then [] else if (gat g n).kind = 8 then (gat g n).l else [n]
theorem gat_nat {g : List GNode} {k : Nat} (h : k < g.length) : g[k]? = some (gat g k) := by
  unfold gat
  rw [Int.toNat_natCast, List.getD_eq_getElem?_getD, List.getElem?_eq_getElem h]
  rfl
theorem gat_mem {g : List GNode} {k : Nat} (h : k < g.length) : gat g k ∈ g := List.mem_of_getElem? (gat_nat h)
theorem gat_mem' {g : List GNode} {n : Int} (h0 : 0 ≤ n) (h : n < g.length) : gat g n ∈ g := by
  have := gat_mem (g := g) (k := n.toNat) (by omega)
  rwa [Int.toNat_of_nonneg h0] at this
theorem all_no {g : List GNode} {p : GNode → Bool} {k : Nat} (h : k < g.length) (hp : p (gat g k) = false) : g.all p = false := by
  rw [List.all_eq_false]
  exact ⟨_, gat_mem h, by rw [hp]; simp⟩
theorem all_yes {g : List GNode} {p : GNode → Bool} (h : ∀ j : Nat, j < g.length → p (gat g j) = true) : g.all p = true := by
  rw [List.all_eq_true]
  intro x hx
  obtain ⟨j, hj⟩ := List.mem_iff_getElem?.1 hx
  have hl := (List.getElem?_eq_some_iff.1 hj).1
  have := h j hl
  rw [gat_nat hl] at hj
  cases hj
  exact this
theorem Sl.raw_int {w : World} {a : Addr} {n c : Nat} {l : List Int} (h : Sl w 1 RInt (some a) n c l) (j : Nat) (u : Value) (hj : (l.map (Value.int .i64))[j]? = some u) : w.cell? (a.add j) = some u := by
  rw [List.getElem?_map, Option.map_eq_some_iff] at hj
  obtain ⟨x, hx, rfl⟩ := hj
  obtain ⟨cs, _, h2, h3⟩ := h.at_ j x hx
  rw [h2] at h3
  have := h3 0 _ rfl
  rw [Nat.mul_one, Nat.add_zero] at this
  exact this
theorem Check_calls (w0 : World) (Ag : Option Addr) (cg : Nat) (g : List GNode) (hg : Nodes w0 Ag cg g) (hfit : Fits g) (hk0 : KeysLaid w0) :
    Calls Tryd.prog 25 [.slice Ag g.length cg].toArray w0 fun en w' => en = .returned (.int .i64 (checkG g)) ∧ Ext0 w0 w' := by
  have hE : Ext0 w0 w0 := Ext.refl _ _
  have hL : Has w0 [] := trivial
  have hsome := hg.is
  refine calls [2] Tryd.func25 rfl rfl rfl rfl ?_
  refine c_seq ?_
  -- region 0
  refine c_ops ?_
  refine l_val rfl rfl rfl (r_assign rfl) ?_
  refine l_nil ?_
  refine c_seq ?_
  refine c_seq ?_
  -- region 1
  refine c_ops ?_
  refine l_val rfl rfl rfl (r_move rfl) ?_
  refine l_val rfl rfl rfl (r_len rfl Tryd.underlying22 rfl) ?_
  refine l_val rfl rfl rfl (r_gtr rfl rfl rfl) ?_
  refine l_nil ?_
  refine c_cond rfl (fun hb => ?_) (fun hb => ?_)
  · -- True
    have hr7 := hb
    replace hb := of_decide_eq_true hb
    refine c_seq ?_
    -- region 2
    refine c_ops ?_
    refine l_val rfl rfl rfl (r_assign rfl) ?_
    refine l_nil ?_
    refine c_ret ?_
    exact ⟨ret_int rfl (by unfold checkG; rw [if_pos hb]), hE⟩
  · -- False
    have hr7 := hb
    replace hb := of_decide_eq_false hb
    have h2000 : ¬ 2000 < (g.length : Int) := hb
    refine c_skip ?_
    refine c_seq ?_
    refine c_seq ?_
    -- region 3
    refine c_ops ?_
    refine l_val rfl rfl rfl (r_move rfl) ?_
    refine l_val rfl rfl rfl (r_len rfl Tryd.underlying22 rfl) ?_
    refine l_val rfl rfl rfl (r_move rfl) ?_
    refine l_nil ?_
    refine c_block ?_
    -- loop 0: slots that it writes and that are read in it ahead of that: [10]
    refine c_loop [2, 4, 10, 11, 12, 13, 14, 15, 16, 17, 18] (fun m e w => ∃ k : Nat, k ≤ g.length ∧ m = g.length - k ∧ e 10 = .int .i64 k ∧ (∀ j : Nat, j < k → mayB g (gat g j) = true) ∧ Ext0 w0 w) g.length ?_ ?_
    · exact ⟨0, Nat.zero_le _, rfl, rfl, fun j h => absurd h (Nat.not_lt_zero _), hE⟩
    intro m e w hI
    obtain ⟨k, hk, hm, h10, hall, hE⟩ := hI
    refine c_know h10 ?_
    have hL : Has w [] := trivial
    refine c_seq ?_
    -- region 4
    refine c_ops ?_
    refine l_val rfl rfl rfl (r_lss rfl rfl rfl) ?_
    refine l_nil ?_
    refine c_seq ?_
    refine c_cond rfl (fun hb => ?_) (fun hb => ?_)
    · -- True
      have hr11 := hb
      replace hb := of_decide_eq_true hb
      have hkn : k < g.length := by omega
      refine c_skip ?_
      refine c_seq ?_
      refine c_block ?_
      refine c_seq ?_
      -- region 5
      refine c_ops ?_
      refine l_val rfl rfl rfl (r_indexAddr_sl rfl Tryd.underlying22 Tryd.sizeOf45 rfl hsome rfl (by omega) (by omega)) ?_
      obtain ⟨Ak, ck, Al, cl, hcell, hks, hls⟩ := hg.node k (by omega) (by omega)
      refine l_val rfl rfl rfl (r_load_agg (vs := nodeCells (gat g k) Ak ck Al cl) rfl Tryd.isAgg45 Tryd.sizeOf45 rfl (fun j v hj => Ext0.cells hE _ _ (hcell j v hj))) ?_
      refine l_new rfl rfl rfl (n_alloc rfl Tryd.zeroValue45 hL hE) ?_
      rintro _ w ⟨b4, rfl, hb4, hL, hE, hX⟩
      refine l_new_do rfl rfl (r_store 0 rfl Tryd.sizeOf45 rfl hL hE rfl rfl rfl rfl (fun h => absurd h (Nat.not_lt.2 hb4))) ?_
      rintro w ⟨hL, hE, hz, hk⟩
      refine l_nil ?_
      refine c_seq ?_
      -- region 6
      refine c_ops ?_
      refine l_val rfl rfl rfl (r_move rfl) ?_
      refine l_val rfl rfl rfl (r_load_blk_agg rfl Tryd.isAgg45 Tryd.sizeOf45 rfl (hL.get 0 rfl) rfl) ?_
      refine l_by rfl rfl rfl (r_call rfl rfl Tryd.func44 rfl rfl) (may_calls w Ag cg g (hg.keep RNode.kept (Ext0.cells hE)) (gat g k) Ak ck Al cl (hks.keep RStr.kept (Ext0.cells hE)) (hls.keep RInt.kept (Ext0.cells hE)) (hfit.texts _ (gat_mem hkn)) (hk0.keep (Ext0.cells hE))) ?_   -- graph.go:19 slot 16 := (call {callee=(value (func 44)), args=[(tmp 14), (tmp 15)], argTypes=[22, 45]})
      rintro _ w ⟨rfl, hX⟩
      replace hL := hL.ext0 hX
      replace hE := hE.step0 hX
      refine ⟨_, rfl, ?_⟩
      refine l_val rfl rfl rfl (r_not rfl rfl) ?_
      refine l_nil ?_
      refine c_cond rfl (fun hb => ?_) (fun hb => ?_)
      · -- True
        have hr17 := hb
        refine c_seq ?_
        -- region 7
        refine c_ops ?_
        refine l_val rfl rfl rfl (r_assign rfl) ?_
        refine l_nil ?_
        refine c_ret ?_
        exact ⟨ret_int rfl (by unfold checkG; rw [if_neg h2000, all_no hkn (by simpa using hb)]; rfl), hE⟩
      · -- False
        have hr17 := hb
        refine c_skip ?_
        -- region 8
        refine c_ops ?_
        refine l_val rfl rfl rfl (r_add rfl rfl rfl) ?_
        refine l_val rfl rfl rfl (r_move rfl) ?_
        refine l_nil ?_
        refine ⟨by repeat (first | exact Agree.over _ _ _ | exact Agree.refl _ _ | (refine Agree.puto ?_ _ _ rfl) | (refine Agree.put ?_ _ _ rfl) | (refine Agree.sub ?_ rfl)), ?_⟩
        exact ⟨g.length - (k + 1), by omega, k + 1, by omega, rfl, by show Value.int .i64 (IntKind.i64.wrap ((k : Int) + 1)) = _; rw [wrap_succ hkn hg.max], fun j hj => by rcases Nat.lt_or_eq_of_le (Nat.le_of_lt_succ hj) with h | rfl <;> first | exact hall j h | simpa using hb, hE⟩
    · -- False
      have hr11 := hb
      replace hb := of_decide_eq_false hb
      have hkn : g.length ≤ k := by omega
      refine c_exit ?_
      refine c_seq ?_
      -- region 9
      refine c_ops ?_
      refine l_val rfl rfl rfl (r_assign rfl) ?_
      refine l_nil ?_
      refine c_ret ?_
      exact ⟨ret_int rfl (by unfold checkG; rw [if_neg h2000, all_yes (fun j hj => hall j (by omega))]; rfl), hE⟩
theorem Clone_int (w0 : World) (A : Option Addr) (c : Nat) (l : List Int) (hl : Ints w0 A c l) (hbig : l.length ≤ 1000000000000) :
    Calls Tryd.prog 41 [.slice A l.length c].toArray w0 fun en w' => ∃ v, en = .returned v ∧ w'.ownsRow w0.heap.size 3 1 v l.length (l.map (Value.int .i64)) ∧ Ext0 w0 w' := by
  have hE : Ext0 w0 w0 := Ext.refl _ _
  have hL : Has w0 [] := trivial
  refine calls [2] Tryd.func41 rfl rfl rfl rfl ?_
  refine c_seq ?_
  -- region 0
  refine c_ops ?_
  refine l_val rfl rfl rfl (r_assign rfl) ?_
  refine l_nil ?_
  refine c_seq ?_
  refine c_seq ?_
  -- region 1
  refine c_ops ?_
  refine l_val rfl rfl rfl (r_move rfl) ?_
  refine l_val rfl rfl rfl (r_eql_nil rfl rfl Tryd.underlying30 rfl) ?_
  refine l_nil ?_
  refine c_cond rfl (fun hb => ?_) (fun hb => ?_)
  · -- True
    have hr4 := hb
    have h0 : l = [] := by
      cases l with
      | nil => rfl
      | cons x r =>
        have := hl.is (by simp)
        rw [Option.isNone_iff_eq_none.1 hr4] at this
        cases this
    subst h0
    refine c_seq ?_
    -- region 2
    refine c_ops ?_
    refine l_val rfl rfl rfl (r_assign rfl) ?_
    refine l_nil ?_
    refine c_ret ?_
    exact ⟨_, rfl, ⟨rfl, .inl ⟨rfl, rfl⟩⟩, hE⟩
  · -- False
    have hr4 := hb
    obtain ⟨a, rfl⟩ : ∃ a, A = some a := by
      cases A with
      | none => cases hr4
      | some a => exact ⟨a, rfl⟩
    have hlw := hl.keep RInt.kept (Ext0.cells hE)
    refine c_skip ?_
    refine c_seq ?_
    -- region 3
    refine c_ops ?_
    refine l_new rfl rfl rfl (n_slice0 rfl Tryd.underlying30 Tryd.sizeOf3 hL hE) ?_
    rintro _ w ⟨s5, rfl, hs5, hL, hE, hX⟩
    refine l_val rfl rfl rfl (r_move rfl) ?_
    refine l_new rfl rfl rfl (r_append (ys := l.map (Value.int .i64)) 0 rfl Tryd.underlying30 info_int rfl (by decide) rfl rfl hL hE rfl (by simp) (fun j u hj => (hlw.keep RInt.kept (Ext0.cells hX)).raw_int j u hj) (fun u hu => by obtain ⟨x, _, rfl⟩ := List.mem_map.1 hu; rfl) (by omega) (by omega) (Nat.le_refl _) hE.size) ?_
    rintro _ w ⟨hL, hE, hk⟩
    refine l_val rfl rfl rfl (r_assign rfl) ?_
    refine l_nil ?_
    refine c_ret ?_
    exact ⟨_, rfl, by have := hL.row 0 rfl; rwa [Nat.zero_add] at this, hE⟩
theorem Members_calls (w0 : World) (Ag : Option Addr) (cg : Nat) (g : List GNode) (hg : Nodes w0 Ag cg g) (hfit : Fits g) (n : Int) :
    Calls Tryd.prog 19 [.slice Ag g.length cg, .int .i64 n].toArray w0 fun en w' => ∃ v, en = .returned v ∧ w'.ownsRow w0.heap.size 3 1 v (membersG g n).length ((membersG g n).map (Value.int .i64)) ∧ Ext0 w0 w' := by
  have hE : Ext0 w0 w0 := Ext.refl _ _
  have hL : Has w0 [] := trivial
  have hsome := hg.is
  refine calls [4] Tryd.func19 rfl rfl rfl rfl ?_
  refine c_seq ?_
  -- region 0
  refine c_ops ?_
  refine l_val rfl rfl rfl (r_assign rfl) ?_
  refine l_nil ?_
  refine c_seq ?_
  refine c_block ?_
  refine c_merge [5, 6, 7, 8, 9, 10, 11] (fun e w => e 5 = .bool (decide (n < 0) || decide ((g.length : Int) ≤ n)) ∧ w = w0) ?_ ?_
  · -- merged
    refine c_seq ?_
    -- region 1
    refine c_ops ?_
    refine l_val rfl rfl rfl (r_move rfl) ?_
    refine l_val rfl rfl rfl (r_lss rfl rfl rfl) ?_
    refine l_val rfl rfl rfl (r_assign rfl) ?_
    refine l_nil ?_
    refine c_cond rfl (fun hb => ?_) (fun hb => ?_)
    · -- True
      have hr5 := hb
      replace hb := of_decide_eq_true hb
      refine c_skip ?_
      refine ⟨by repeat (first | exact Agree.over _ _ _ | exact Agree.refl _ _ | (refine Agree.puto ?_ _ _ rfl) | (refine Agree.put ?_ _ _ rfl) | (refine Agree.sub ?_ rfl)), ?_⟩
      exact ⟨congrArg Value.bool (by simp only [hr5, Bool.true_and, Bool.and_true, Bool.false_and, Bool.and_false, Bool.true_or, Bool.or_true, Bool.false_or, Bool.or_false, Bool.not_true, Bool.not_false, cond_true, cond_false]), rfl⟩
    · -- False
      have hr5 := hb
      replace hb := of_decide_eq_false hb
      -- region 2
      refine c_ops ?_
      refine l_val rfl rfl rfl (r_move rfl) ?_
      refine l_val rfl rfl rfl (r_move rfl) ?_
      refine l_val rfl rfl rfl (r_len rfl Tryd.underlying22 rfl) ?_
      refine l_val rfl rfl rfl (r_geq rfl rfl rfl) ?_
      refine l_val rfl rfl rfl (r_assign rfl) ?_
      refine l_nil ?_
      refine ⟨by repeat (first | exact Agree.over _ _ _ | exact Agree.refl _ _ | (refine Agree.puto ?_ _ _ rfl) | (refine Agree.put ?_ _ _ rfl) | (refine Agree.sub ?_ rfl)), ?_⟩
      exact ⟨congrArg Value.bool (by simp only [hr5, Bool.true_and, Bool.and_true, Bool.false_and, Bool.and_false, Bool.true_or, Bool.or_true, Bool.false_or, Bool.or_false, Bool.not_true, Bool.not_false, cond_true, cond_false]), rfl⟩
  rintro e w hI
  obtain ⟨h5, rfl⟩ := hI
  refine c_know h5 ?_
  refine c_cond rfl (fun hb => ?_) (fun hb => ?_)
  · -- True
    have hr5 := hb
    have hm : membersG g n = [] := by unfold membersG; rw [if_pos (by simpa using hb)]
    rw [hm]
    refine c_seq ?_
    -- region 3
    refine c_ops ?_
    refine l_val rfl rfl rfl (r_assign rfl) ?_
    refine l_nil ?_
    refine c_ret ?_
    exact ⟨_, rfl, ⟨rfl, .inl ⟨rfl, rfl⟩⟩, hE⟩
  · -- False
    have hr5 := hb
    have hn : ¬ (n < 0 ∨ (g.length : Int) ≤ n) := by simpa using hb
    have hm : membersG g n = if (gat g n).kind = 8 then (gat g n).l else [n] := by unfold membersG; rw [if_neg hn]
    obtain ⟨Ak, ck, Al, cl, hcell, hks, hls⟩ := hg.node n (by omega) (by omega)
    have hmem : gat g n ∈ g := gat_mem' (by omega) (by omega)
    refine c_seq ?_
    -- region 4
    refine c_ops ?_
    refine l_val rfl rfl rfl (r_move rfl) ?_
    refine l_val rfl rfl rfl (r_move rfl) ?_
    refine l_val rfl rfl rfl (r_indexAddr_sl rfl Tryd.underlying22 Tryd.sizeOf45 rfl hsome rfl (by omega) (by omega)) ?_
    refine l_val rfl rfl rfl (r_fieldAddr (n := 0) rfl Tryd.underlying45 rfl Tryd.sizeOf3 rfl) ?_
    refine l_val rfl rfl rfl (r_load rfl Tryd.isAgg3 rfl (hcell 0 _ rfl)) ?_
    refine l_val rfl rfl rfl (r_eql rfl rfl rfl) ?_
    refine l_val rfl rfl rfl (r_assign rfl) ?_
    refine l_nil ?_
    refine c_cond rfl (fun hb => ?_) (fun hb => ?_)
    · -- True
      have hr12 := hb
      replace hb := of_decide_eq_true hb
      rw [if_pos hb] at hm
      rw [hm]
      refine c_seq ?_
      -- region 5
      refine c_ops ?_
      refine l_val rfl rfl rfl (r_move rfl) ?_
      refine l_val rfl rfl rfl (r_move rfl) ?_
      refine l_val rfl rfl rfl (r_indexAddr_sl rfl Tryd.underlying22 Tryd.sizeOf45 rfl hsome rfl (by omega) (by omega)) ?_
      refine l_val rfl rfl rfl (r_fieldAddr (n := 0) rfl Tryd.underlying45 rfl Tryd.sizeOf30 rfl) ?_
      refine l_val rfl rfl rfl (r_load rfl Tryd.isAgg30 rfl (hcell 4 _ rfl)) ?_
      refine l_by rfl rfl rfl (r_call rfl rfl Tryd.func41 rfl rfl) (Clone_int _ Al cl _ hls (hfit.lists _ hmem)) ?_   -- graph.go:82 slot 24 := (call {callee=(value (func 41)), args=[(tmp 23)], argTypes=[30]})
      rintro _ w ⟨v, rfl, hrow, hX⟩
      replace hE := hE.trans hX
      refine ⟨_, rfl, ?_⟩
      refine l_val rfl rfl rfl (r_assign rfl) ?_
      refine l_nil ?_
      refine c_ret ?_
      exact ⟨_, rfl, hrow, hE⟩
    · -- False
      have hr12 := hb
      replace hb := of_decide_eq_false hb
      rw [if_neg hb] at hm
      rw [hm]
      refine c_skip ?_
      refine c_seq ?_
      -- region 6
      refine c_ops ?_
      refine l_val rfl rfl rfl (r_move rfl) ?_
      refine l_new rfl rfl rfl (n_slice rfl Tryd.underlying30 Tryd.sizeOf3 Tryd.zeroValue3 rfl rfl rfl hL hE) ?_
      rintro _ w ⟨s26, rfl, hs26, hL, hE, hX⟩
      refine l_val rfl rfl rfl (r_assign rfl) ?_
      refine l_nil ?_
      refine c_ret ?_
      exact ⟨_, rfl, (Has.asRow hL hs26 rfl (by decide)).row 0 rfl, hE⟩
end Go.Proofs.YtndophlnapjkhaaDoor.Vc
