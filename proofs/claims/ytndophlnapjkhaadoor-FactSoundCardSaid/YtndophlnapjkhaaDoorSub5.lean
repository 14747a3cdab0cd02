/- What may stand for what: May and Pick of package sub. Conditions: those of each statement. -/
import Derived.Test.YtndophlnapjkhaaDoorSub4
namespace Go.Proofs.YtndophlnapjkhaaDoor.Vc
open Go Go.RowKit
set_option linter.unusedVariables false
set_option linter.unusedSimpArgs false

theorem check_ok {g : List GNode} (hok : GraphOk g) (hn : g.length ≤ 2000) : checkG g = 0 := by
  unfold checkG
  rw [if_neg (by omega), if_pos]
  rw [List.all_eq_true]
  exact hok.may
theorem built_solver (A : Option Addr) (n c : Nat) (st : Bool) (mb : Nat) : Tryd.prog.built 89 [(0, .slice A n c), (1, .bool st), (2, .map (some mb))] = some #[.slice A n c, .bool st, .map (some mb)] := by kernel_rfl
theorem of1_calls (w0 : World) (b : Nat) (A : Option Addr) (n c : Nat) (t : TypeId) (k : Int) (hL : Has w0 [.blk b (.cells #[.slice A n c] t (0, 0))]) : Calls Tryd.prog 52 [.int .i64 k, .pointer (some ⟨b, 0, none⟩)].toArray w0 fun en w' => en = .returned (.bool (outB n k)) ∧ Ext0 w0 w' := by
  have hE : Ext0 w0 w0 := Ext.refl _ _
  refine calls [3] Tryd.func52 rfl rfl rfl rfl ?_
  refine c_seq ?_
  -- region 0
  refine c_ops ?_
  refine l_val rfl rfl rfl (r_assign rfl) ?_
  refine l_nil ?_
  refine c_seq ?_
  -- region 1
  refine c_ops ?_
  refine l_val rfl rfl rfl (r_move rfl) ?_
  refine l_val rfl rfl rfl (r_lss rfl rfl rfl) ?_
  refine l_val rfl rfl rfl (r_move rfl) ?_
  refine l_case 6 rfl (fun hb => ?_) (fun hb => ?_)
  · -- slot 6 is True
    have hr6 := hb
    replace hb := of_decide_eq_true hb
    refine l_not rfl rfl rfl ?_
    refine l_not rfl rfl rfl ?_
    refine l_not rfl rfl rfl ?_
    refine l_not rfl rfl rfl ?_
    refine l_val rfl rfl rfl (r_pick rfl rfl) ?_
    refine l_val rfl rfl rfl (r_assign rfl) ?_
    refine l_nil ?_
    refine c_ret ?_
    exact ⟨ret_bool rfl (by simp only [outB, hr6, Bool.true_and, Bool.and_true, Bool.false_and, Bool.and_false, Bool.true_or, Bool.or_true, Bool.false_or, Bool.or_false, Bool.not_true, Bool.not_false, cond_true, cond_false]), hE⟩
  · -- slot 6 is False
    have hr6 := hb
    replace hb := of_decide_eq_false hb
    refine l_val rfl rfl rfl (r_move rfl) ?_
    refine l_val rfl rfl rfl (r_load_blk rfl Tryd.isAgg22 rfl (hL.get 0 rfl) rfl) ?_
    refine l_val rfl rfl rfl (r_len rfl Tryd.underlying22 rfl) ?_
    refine l_val rfl rfl rfl (r_geq rfl rfl rfl) ?_
    refine l_val rfl rfl rfl (r_pick rfl rfl) ?_
    refine l_val rfl rfl rfl (r_assign rfl) ?_
    refine l_nil ?_
    refine c_ret ?_
    exact ⟨ret_bool rfl (by simp only [outB, hr6, Bool.true_and, Bool.and_true, Bool.false_and, Bool.and_false, Bool.true_or, Bool.or_true, Bool.false_or, Bool.or_false, Bool.not_true, Bool.not_false, cond_true, cond_false]), hE⟩
theorem of_calls (w0 : World) (Ag : Option Addr) (cg : Nat) (g : List GNode) (hg : Nodes w0 Ag cg g) (hok : GraphOk g) (hn : g.length ≤ 2000) (hk0 : KeysLaid w0) (st : Bool) (Ap : Option Addr) (cp : Nat) (places : List Int) (hp : Ints w0 Ap cp places) (hin : ∀ k ∈ places, 0 ≤ k ∧ k < g.length) :
    Calls Tryd.prog 42 [.slice Ag g.length cg, .bool st, .slice Ap places.length cp].toArray w0 fun en w' => ∃ xb mb, en = .returned (.tuple #[.pointer (some ⟨xb, 0, none⟩), .bool true]) ∧ w0.heap.size ≤ xb ∧ w0.heap.size ≤ mb ∧ Has w' (Sol xb mb (.slice Ag g.length cg) st  []) ∧ Ext0 w0 w' := by
  have hE : Ext0 w0 w0 := Ext.refl _ _
  have hL : Has w0 [] := trivial
  have hchk := check_ok hok hn
  have hany : places.any (outB g.length) = false := by
    rw [List.any_eq_false]
    intro k hk
    have := hin k hk
    simp [outB]
    omega
  refine calls [6, 7] Tryd.func42 rfl rfl rfl rfl ?_
  refine c_seq ?_
  -- region 0
  refine c_ops ?_
  refine l_new rfl rfl rfl (n_box rfl hL hE) ?_
  rintro _ w ⟨b3, rfl, hb3, hL, hE, hX⟩
  refine l_val rfl rfl rfl (r_assign rfl) ?_
  refine l_val rfl rfl rfl (r_assign rfl) ?_
  refine l_nil ?_
  refine c_seq ?_
  refine c_seq ?_
  -- region 1
  refine c_ops ?_
  refine l_val rfl rfl rfl (r_load_blk rfl Tryd.isAgg22 rfl (hL.get 0 rfl) rfl) ?_
  refine l_by rfl rfl rfl (r_call rfl rfl Tryd.func25 rfl rfl) (Check_calls _ Ag cg g (hg.keep RNode.kept (Ext0.cells hE)) hok.fits (hk0.keep (Ext0.cells hE))) ?_   -- sub.go:105 slot 9 := (call {callee=(value (func 25)), args=[(tmp 8)], argTypes=[22]})
  rintro _ w ⟨rfl, hX⟩
  replace hL := hL.ext0 hX
  replace hE := hE.step0 hX
  refine ⟨_, rfl, ?_⟩
  refine l_val rfl rfl rfl (r_neq rfl rfl rfl) ?_
  refine l_val rfl rfl rfl (r_move rfl) ?_
  refine l_case 11 rfl (fun hb => ?_) (fun hb => ?_)
  · -- slot 11 is True
    have hr11 := hb
    replace hb := of_decide_eq_false (by simpa using hb)
    rw [hchk] at hb
    exact absurd rfl hb
  · -- slot 11 is False
    have hr11 := hb
    replace hb := of_decide_eq_true (by simpa using hb)
    refine l_val rfl rfl rfl (r_move rfl) ?_
    refine l_val rfl rfl rfl (r_makeFunc rfl) ?_
    have hT : Tests Tryd.prog (fun (_ : Unit) W => Has W [.blk b3 (.cells #[.slice Ag g.length cg] 22 (0, 0))]) (fun _ => False) (D1 RInt) (fun _ k => (outB g.length k, ())) (.func (.func 52) #[] #[.pointer (some ⟨b3, 0, none⟩)]) := ⟨_, _, _, _, _, rfl, Tryd.func52, rfl, rfl, fun _ k v W hs hv => (by
      obtain rfl : v = .int .i64 k := by injection hv
      exact (of1_calls W b3 Ag g.length cg _ k hs).mono (fun en w' ⟨h1, h2⟩ => ⟨h1, h2, hs.ext0 h2⟩))⟩
    refine l_by rfl rfl rfl (r_call rfl rfl Tryd.func39 rfl rfl) (ContainsFunc_int (fun (_ : Unit) W => Has W [.blk b3 (.cells #[.slice Ag g.length cg] 22 (0, 0))]) (fun _ => False) RInt (fun _ k => (outB g.length k, ())) _ _ _ _ places _ () (fun W hW => hp.keep RInt.kept (Ext0.cells (hE.trans hW))) hT hL) ?_   -- sub.go:105 slot 14 := (call {callee=(value (func 39)), args=[(tmp 12), (tmp 13)], argTypes=[30, 69]})
    rintro _ w ⟨rfl, hX, hL⟩
    replace hE := hE.step0 hX
    rw [findS_pure]
    refine ⟨_, rfl, ?_⟩
    refine l_val rfl rfl rfl (r_pick rfl rfl) ?_
    refine l_nil ?_
    refine c_cond rfl (fun hb => ?_) (fun hb => ?_)
    · -- True
      have hr15 := hb
      rw [hany] at hb
      cases hb
    · -- False
      have hr15 := hb
      refine c_skip ?_
      refine c_seq ?_
      -- region 3
      refine c_ops ?_
      refine l_val rfl rfl rfl (r_load_blk rfl Tryd.isAgg22 rfl (hL.get 0 rfl) rfl) ?_
      refine l_val rfl rfl rfl (r_move rfl) ?_
      refine l_new rfl rfl rfl (n_makeMap rfl hL hE) ?_
      rintro _ w ⟨m18, rfl, hm18, hL, hE, hX⟩
      refine l_val rfl rfl rfl (r_build rfl rfl (built_solver _ _ _ _ _)) ?_   -- sub.go:108 slot 19 := (build 89 [(0, (tmp 16)), (1, (tmp 17)), (2, (tmp 18))])
      refine l_new rfl rfl rfl (n_box rfl hL hE) ?_
      rintro _ w ⟨b20, rfl, hb20, hL, hE, hX⟩
      refine l_val rfl rfl rfl (r_assign rfl) ?_
      refine l_val rfl rfl rfl (r_assign rfl) ?_
      refine l_nil ?_
      refine c_ret ?_
      exact ⟨_, _, rfl, hb20, hm18, hL.sub (.cons_cons _ (.cons_cons _ (.cons _ .slnil))), hE⟩
theorem ext_own {w0 w w' : World} {mb : Nat} (hE : Ext0 w0 w) (hX : Ext (fun k => k = mb) w w') (hm : w0.heap.size ≤ mb) : Ext0 w0 w' := hE.step hX (fun i hi e => by omega)
theorem Has.addSol {w w' : World} {L : List Res} {xb mb : Nat} {A : Value} {st : Bool} {m : PM} (h : Has w L) (hE : Ext0 w w') (hS : Has w' (Sol xb mb A st m)) (hx : w.heap.size ≤ xb) (hm : w.heap.size ≤ mb) : Has w' (L ++ Sol xb mb A st m) :=
  Has.frame (L1 := L) (L2 := []) (by simpa using h) hE hS (fun _ h => h.elim) (fun r hr b hb => by
    refine .inr ?_
    rcases List.mem_cons.1 hr with rfl | hr
    · have : xb = b := by simpa [Res.foot] using hb
      omega
    · rw [List.mem_singleton] at hr
      subst hr
      have : mb = b := by simpa [Res.foot] using hb
      omega)
theorem fits_get {g : List GNode} {st : Bool} {m : PM} (hs : Solved g st m) (hok : GraphOk g) {p : Int × Int} (hp : getM m p ≠ none) : decide (0 < (getM m p).getD 0) = mayX g st p := by
  cases hv : getM m p with
  | none => exact absurd hv hp
  | some v => exact (hs.fits hok p v hv).symm
theorem asked_calls (w0 : World) (Ag : Option Addr) (cg : Nat) (g : List GNode) (hg : Nodes w0 Ag cg g) (hok : GraphOk g) (hn : g.length ≤ 2000) (hk0 : KeysLaid w0) (st : Bool) (p : Int × Int) (hp : InG g.length p) :
    Calls Tryd.prog 28 [.slice Ag g.length cg, .bool st, enc2 p].toArray w0 fun en w' => en = .returned (.bool (mayX g st p)) ∧ Ext0 w0 w' := by
  have hE : Ext0 w0 w0 := Ext.refl _ _
  have hL : Has w0 [] := trivial
  refine calls [6] Tryd.func28 rfl rfl rfl rfl ?_
  refine c_seq ?_
  -- region 0
  refine c_ops ?_
  refine l_new rfl rfl rfl (n_box rfl hL hE) ?_
  rintro _ w ⟨b5, rfl, hb5, hL, hE, hX⟩
  refine l_val rfl rfl rfl (r_assign rfl) ?_
  refine l_nil ?_
  refine c_seq ?_
  -- region 1
  refine c_ops ?_
  refine l_val rfl rfl rfl (r_move rfl) ?_
  refine l_val rfl rfl rfl (r_move rfl) ?_
  refine l_val rfl rfl rfl (r_fieldAddr (n := 0) rfl Tryd.underlying62 rfl Tryd.sizeOf3 rfl) ?_
  refine l_val rfl rfl rfl (r_load_blk rfl Tryd.isAgg3 rfl (hL.get 0 rfl) rfl) ?_
  refine l_val rfl rfl rfl (r_fieldAddr (n := 0) rfl Tryd.underlying62 rfl Tryd.sizeOf3 rfl) ?_
  refine l_val rfl rfl rfl (r_load_blk rfl Tryd.isAgg3 rfl (hL.get 0 rfl) rfl) ?_
  refine l_new rfl rfl rfl (n_slice rfl Tryd.underlying30 Tryd.sizeOf3 Tryd.zeroValue3 rfl rfl rfl hL hE) ?_
  rintro _ w ⟨s16, rfl, hs16, hL, hE, hX⟩
  refine l_by rfl rfl rfl (r_call rfl rfl Tryd.func42 rfl rfl) (of_calls _ Ag cg g (hg.keep RNode.kept (Ext0.cells hE)) hok hn (hk0.keep (Ext0.cells hE)) st _ _ [p.1, p.2] (Sl.ofBlk1 (hL.get 0 rfl) rfl (Nat.le_refl _) (by simp) (fun i x hi => by
    match i, hi with
    | 0, hi => cases hi; exact ⟨_, rfl, rfl⟩
    | 1, hi => cases hi; exact ⟨_, rfl, rfl⟩)) (fun k hk => by
    simp only [List.mem_cons, List.not_mem_nil, or_false] at hk
    rcases hk with rfl | rfl
    · exact ⟨hp.1, hp.2.1⟩
    · exact ⟨hp.2.2.1, hp.2.2.2⟩)) ?_   -- sub.go:113 slot 17 := (call {callee=(value (func 42)), args=[(tmp 10), (tmp 11), (tmp 16)], argTypes=[22, 4, 30]})
  rintro _ w ⟨xb, mb, rfl, hxb, hmb, hS, hX⟩
  have hm0 := Nat.le_trans hE.size hmb
  replace hL := hL.addSol hX hS hxb hmb
  replace hE := hE.trans hX
  refine ⟨_, rfl, ?_⟩
  refine l_val rfl rfl rfl (r_move rfl) ?_
  refine l_val rfl rfl rfl (r_extract rfl rfl rfl) ?_
  refine l_val rfl rfl rfl (r_extract rfl rfl rfl) ?_
  refine l_val rfl rfl rfl (r_assign rfl) ?_
  refine l_val rfl rfl rfl (r_assign rfl) ?_
  refine l_nil ?_
  refine c_seq ?_
  refine c_seq ?_
  -- region 2
  refine c_ops ?_
  refine l_val rfl rfl rfl (r_move rfl) ?_
  refine l_val rfl rfl rfl (r_not rfl rfl) ?_
  refine l_nil ?_
  refine c_no rfl ?_
  refine c_skip ?_
  refine c_seq ?_
  -- region 4
  refine c_ops ?_
  refine l_val rfl rfl rfl (r_move rfl) ?_
  refine l_val rfl rfl rfl (r_load_agg (vs := cells2 p) rfl Tryd.isAgg62 Tryd.sizeOf62 rfl (blk_raw (cs := #[.int .i64 p.1, .int .i64 p.2]) (hL.get 1 rfl) rfl)) ?_
  refine l_new rfl rfl rfl (n_slice (cells := #[.int .i64 p.1, .int .i64 p.2]) rfl Tryd.underlying85 Tryd.sizeOf62 Tryd.zeroValue62 rfl rfl (fill_pair _ _) hL hE) ?_
  rintro _ w ⟨s24, rfl, hs24, hL, hE, hX⟩
  refine l_by rfl rfl rfl (r_call rfl rfl Tryd.func43 rfl rfl) (solve_calls _ xb mb Ag cg g (hg.keep RNode.kept (Ext0.cells hE)) hok hn st [] Inv.nil _ _ [p] (Sl.pairs_at (l := [p]) ((Has.asRow (n := 1) (sz := 2) hL (Nat.zero_le _) rfl (by decide)).row 0 rfl)) (fun q hq => by rw [List.mem_singleton] at hq; subst hq; exact hp) (Has.right (L1 := [_, _, _]) hL)) ?_   -- sub.go:117 slot 25 := (call {callee=(value (func 43)), args=[(tmp 22), (tmp 24)], argTypes=[82, 85]})
  rintro _ w ⟨m', rfl, hsol, hkn, hX, hY⟩
  replace hL := Has.sol [_, _, _] hL hX hY
  replace hE := ext_own hE hX hm0
  refine ⟨_, rfl, ?_⟩
  refine l_nil ?_
  refine c_seq ?_
  -- region 5
  refine c_draw mixed (hL) hE ?_
  replace hL := hL.drew
  replace hE := hE.drew
  have hK := hL
  refine h_t 0 rfl rfl (by kernel_rfl) (fun _ _ _ h => h) ⟨hK, hE⟩ rfl (fun W hW => r_move rfl) ?_
  refine h_t 1 rfl rfl (by kernel_rfl) (fun _ _ _ h => h) ⟨hK, hE⟩ rfl (fun W hW => r_nilCheck rfl rfl) ?_
  refine h_t 2 rfl rfl (by kernel_rfl) (fun _ _ _ h => h) ⟨hK, hE⟩ rfl (fun W hW => r_fieldAddr (n := 0) rfl Tryd.underlying89 rfl Tryd.sizeOf87 rfl) ?_
  refine h_t 3 rfl rfl (by kernel_rfl) (fun _ _ _ h => h) ⟨hK, hE⟩ rfl (fun W hW => r_load_blk rfl Tryd.isAgg87 rfl (hW.1.get 3 rfl) rfl) ?_
  refine h_t 4 rfl rfl (by kernel_rfl) (fun _ _ _ h => h) ⟨hK, hE⟩ rfl (fun W hW => r_load_blk_agg rfl Tryd.isAgg62 Tryd.sizeOf62 rfl (hW.1.get 2 rfl) rfl) ?_
  refine h_one 5 rfl rfl (by kernel_rfl) rfl (r_lookup_int (k := p) rfl Tryd.underlying87 key_pair Tryd.zeroValue3 rfl rfl (hL.get 4 rfl)) ⟨hK, hE⟩ ?_
  refine h_t 6 rfl rfl (by kernel_rfl) (fun _ _ _ h => h) ⟨hK, hE⟩ rfl (fun W hW => r_gtr rfl rfl rfl) ?_
  refine h_t 7 rfl rfl (by kernel_rfl) (fun _ _ _ h => h) ⟨hK, hE⟩ rfl (fun W hW => r_assign rfl) ?_
  refine h_done (by kernel_rfl) ?_
  refine c_ret ?_
  exact ⟨ret_bool rfl (fits_get hsol hok (hkn p (List.mem_singleton.2 rfl))), hE⟩
theorem May_calls (w0 : World) (Ag : Option Addr) (cg : Nat) (g : List GNode) (hg : Nodes w0 Ag cg g) (hok : GraphOk g) (hn : g.length ≤ 2000) (hk0 : KeysLaid w0) (a b : Int) (hp : InG g.length (a, b)) :
    Calls Tryd.prog 11 [.slice Ag g.length cg, .int .i64 a, .int .i64 b].toArray w0 fun en w' => en = .returned (.bool (mayX g false (a, b))) ∧ Ext0 w0 w' := by
  have hE : Ext0 w0 w0 := Ext.refl _ _
  refine calls [6] Tryd.func11 rfl rfl rfl rfl ?_
  refine c_seq ?_
  -- region 0
  refine c_ops ?_
  refine l_val rfl rfl rfl (r_assign rfl) ?_
  refine l_nil ?_
  refine c_seq ?_
  -- region 1
  refine c_ops ?_
  refine l_val rfl rfl rfl (r_move rfl) ?_
  refine l_val rfl rfl rfl (r_move rfl) ?_
  refine l_val rfl rfl rfl (r_move rfl) ?_
  refine l_val rfl rfl rfl (r_build rfl rfl (built_pair _ _)) ?_   -- sub.go:122 slot 10 := (build 62 [(0, (tmp 8)), (1, (tmp 9))])
  refine l_by rfl rfl rfl (r_call rfl rfl Tryd.func28 rfl rfl) (asked_calls _ Ag cg g (hg.keep RNode.kept (Ext0.cells hE)) hok hn (hk0.keep (Ext0.cells hE)) false (a, b) hp) ?_   -- sub.go:122 slot 11 := (call {callee=(value (func 28)), args=[(tmp 7), (const (bool false)), (tmp 10)], argTypes=[22, 4, 62]})
  rintro _ w ⟨rfl, hX⟩
  replace hE := hE.trans hX
  refine ⟨_, rfl, ?_⟩
  refine l_val rfl rfl rfl (r_assign rfl) ?_
  refine l_nil ?_
  refine c_ret ?_
  exact ⟨rfl, hE⟩
theorem Pick_calls (w0 : World) (Ag : Option Addr) (cg : Nat) (g : List GNode) (hg : Nodes w0 Ag cg g) (hok : GraphOk g) (hn : g.length ≤ 2000) (hk0 : KeysLaid w0) (a b : Int) (hp : InG g.length (a, b)) (ha8 : (gat g a).kind ≠ 8) (hmay : mayX g false (a, b) = true) :
    Calls Tryd.prog 45 [.slice Ag g.length cg, .int .i64 a, .int .i64 b].toArray w0 fun en w' => en = .returned (.int .i64 (pickX g false (mayX g false) a b)) ∧ Ext0 w0 w' := by
  have hE : Ext0 w0 w0 := Ext.refl _ _
  have hL : Has w0 [] := trivial
  obtain ⟨Ak, ck, Al, cl, hcell, hsk, hsl⟩ := hg.node a hp.1 hp.2.1
  refine calls [6] Tryd.func45 rfl rfl rfl rfl ?_
  refine c_seq ?_
  -- region 0
  refine c_ops ?_
  refine l_val rfl rfl rfl (r_assign rfl) ?_
  refine l_nil ?_
  refine c_seq ?_
  -- region 1
  refine c_ops ?_
  refine l_val rfl rfl rfl (r_move rfl) ?_
  refine l_val rfl rfl rfl (r_move rfl) ?_
  refine l_val rfl rfl rfl (r_move rfl) ?_
  refine l_new rfl rfl rfl (n_slice rfl Tryd.underlying30 Tryd.sizeOf3 Tryd.zeroValue3 rfl rfl rfl hL hE) ?_
  rintro _ w ⟨s13, rfl, hs13, hL, hE, hX⟩
  refine l_by rfl rfl rfl (r_call rfl rfl Tryd.func42 rfl rfl) (of_calls _ Ag cg g (hg.keep RNode.kept (Ext0.cells hE)) hok hn (hk0.keep (Ext0.cells hE)) false _ _ [a, b] (Sl.ofBlk1 (hL.get 0 rfl) rfl (Nat.le_refl _) (by simp) (fun i x hi => by
    match i, hi with
    | 0, hi => cases hi; exact ⟨_, rfl, rfl⟩
    | 1, hi => cases hi; exact ⟨_, rfl, rfl⟩)) (fun k hk => by
    simp only [List.mem_cons, List.not_mem_nil, or_false] at hk
    rcases hk with rfl | rfl
    · exact ⟨hp.1, hp.2.1⟩
    · exact ⟨hp.2.2.1, hp.2.2.2⟩)) ?_   -- sub.go:127 slot 14 := (call {callee=(value (func 42)), args=[(tmp 10), (const (bool false)), (tmp 13)], argTypes=[22, 4, 30]})
  rintro _ w ⟨xb, mb, rfl, hxb, hmb, hS, hX⟩
  have hm0 := Nat.le_trans hE.size hmb
  replace hL := hL.addSol hX hS hxb hmb
  replace hE := hE.trans hX
  refine ⟨_, rfl, ?_⟩
  refine l_val rfl rfl rfl (r_move rfl) ?_
  refine l_val rfl rfl rfl (r_extract rfl rfl rfl) ?_
  refine l_val rfl rfl rfl (r_extract rfl rfl rfl) ?_
  refine l_val rfl rfl rfl (r_assign rfl) ?_
  refine l_val rfl rfl rfl (r_assign rfl) ?_
  refine l_nil ?_
  refine c_seq ?_
  refine c_seq ?_
  -- region 2
  refine c_ops ?_
  refine l_val rfl rfl rfl (r_move rfl) ?_
  refine l_val rfl rfl rfl (r_not rfl rfl) ?_
  refine l_val rfl rfl rfl (r_move rfl) ?_
  refine l_val rfl rfl rfl (r_move rfl) ?_
  refine l_val rfl rfl rfl (r_move rfl) ?_
  refine l_val rfl rfl rfl (r_indexAddr_sl rfl Tryd.underlying22 Tryd.sizeOf45 rfl hg.is rfl hp.1 hp.2.1) ?_
  refine l_val rfl rfl rfl (r_fieldAddr (n := 0) rfl Tryd.underlying45 rfl Tryd.sizeOf3 rfl) ?_
  refine l_val rfl rfl rfl (r_load rfl Tryd.isAgg3 rfl (Ext0.cells hE _ _ (hcell 0 _ rfl))) ?_
  refine l_val rfl rfl rfl (r_eql rfl rfl rfl) ?_
  refine l_val rfl rfl rfl (r_pick rfl rfl) ?_
  refine l_nil ?_
  refine c_cond rfl (fun hb => ?_) (fun hb => ?_)
  · -- True
    have hr26 := hb
    replace hb := of_decide_eq_true hb
    exact absurd (of_decide_eq_true hr26) ha8
  · -- False
    have hr26 := hb
    replace hb := of_decide_eq_false hb
    refine c_skip ?_
    refine c_seq ?_
    -- region 4
    refine c_ops ?_
    refine l_val rfl rfl rfl (r_move rfl) ?_
    refine l_val rfl rfl rfl (r_move rfl) ?_
    refine l_val rfl rfl rfl (r_move rfl) ?_
    refine l_val rfl rfl rfl (r_build rfl rfl (built_pair _ _)) ?_   -- sub.go:131 slot 30 := (build 62 [(0, (tmp 28)), (1, (tmp 29))])
    refine l_new rfl rfl rfl (n_slice (cells := #[.int .i64 a, .int .i64 b]) rfl Tryd.underlying85 Tryd.sizeOf62 Tryd.zeroValue62 rfl rfl (fill_pair _ _) hL hE) ?_
    rintro _ w ⟨s31, rfl, hs31, hL, hE, hX⟩
    refine l_by rfl rfl rfl (r_call rfl rfl Tryd.func43 rfl rfl) (solve_calls _ xb mb Ag cg g (hg.keep RNode.kept (Ext0.cells hE)) hok hn false [] Inv.nil _ _ [(a, b)] (Sl.pairs_at (l := [(a, b)]) ((Has.asRow (n := 1) (sz := 2) hL (Nat.zero_le _) rfl (by decide)).row 0 rfl)) (fun q hq => by rw [List.mem_singleton] at hq; subst hq; exact hp) (Has.right (L1 := [_, _]) hL)) ?_   -- sub.go:131 slot 32 := (call {callee=(value (func 43)), args=[(tmp 27), (tmp 31)], argTypes=[82, 85]})
    rintro _ w ⟨m', rfl, hsol, hkn, hX, hY⟩
    replace hL := Has.sol [_, _] hL hX hY
    replace hE := ext_own hE hX hm0
    refine ⟨_, rfl, ?_⟩
    refine l_nil ?_
    refine c_seq ?_
    -- region 5
    refine c_ops ?_
    refine l_val rfl rfl rfl (r_move rfl) ?_
    refine l_val rfl rfl rfl (r_move rfl) ?_
    refine l_val rfl rfl rfl (r_move rfl) ?_
    have hpk : pickM g false m' a b = (pickX g false (mayX g false) a b, m') := by
      have h1 := hkn (a, b) (List.mem_singleton.2 rfl)
      cases hv : getM m' (a, b) with
      | none => exact absurd hv h1
      | some v =>
        have h2 := hsol.fits hok _ v hv
        rw [hmay] at h2
        have h3 := (hsol.inv.inn _ v hv).2
        have h4 : 0 < v := by simpa using h2.symm
        obtain rfl : v = 1 := by omega
        exact hsol.pick hok hv ha8
    refine l_by rfl rfl rfl (r_call rfl rfl Tryd.func63 rfl rfl) (pick_calls _ xb mb Ag cg g (hg.keep RNode.kept (Ext0.cells hE)) hok false m' a b hp.1 hp.2.1 ha8 (Has.right (L1 := [_, _]) hL)) ?_   -- sub.go:132 slot 36 := (call {callee=(value (func 63)), args=[(tmp 33), (tmp 34), (tmp 35)], argTypes=[82, 3, 3]})
    rintro _ w ⟨rfl, hX, hY⟩
    replace hE := ext_own hE hX hm0
    refine ⟨_, rfl, ?_⟩
    refine l_val rfl rfl rfl (r_assign rfl) ?_
    refine l_nil ?_
    refine c_ret ?_
    exact ⟨ret_int rfl (by rw [hpk]), hE⟩
end Go.Proofs.YtndophlnapjkhaaDoor.Vc
