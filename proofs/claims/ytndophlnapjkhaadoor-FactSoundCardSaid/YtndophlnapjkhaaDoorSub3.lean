/- What may stand for what: whether a pair holds. Conditions: those of each statement. -/
import Derived.Test.YtndophlnapjkhaaDoorSub2
namespace Go.Proofs.YtndophlnapjkhaaDoor.Vc
open Go Go.RowKit
set_option linter.unusedVariables false
set_option linter.unusedSimpArgs false

theorem holds1_calls (w0 : World) (xb mb : Nat) (Ag : Option Addr) (cg : Nat) (g : List GNode) (hg : Nodes w0 Ag cg g) (hok : GraphOk g) (st : Bool) (m : PM) (pb xp : Nat) (pa pc : Int) (s : Int) (hs : 0 ≤ s) (hsn : s < g.length) (hs8 : (gat g s).kind ≠ 8) (hL : Has w0 ([.blk pb (.cells #[.int .i64 pa, .int .i64 pc] 62 (0, 0)), .blk xp (.cells #[.pointer (some ⟨xb, 0, none⟩)] 82 (0, 0))] ++ Sol xb mb (.slice Ag g.length cg) st  m)) :
    Calls Tryd.prog 67 [.int .i64 s, .pointer (some ⟨xp, 0, none⟩), .pointer (some ⟨pb, 0, none⟩)].toArray w0 fun en w' => en = .returned (.bool (decide ((pickM g st m s pc).1 = -2))) ∧ Ext (fun k => k = mb) w0 w' ∧ Has w' ([.blk pb (.cells #[.int .i64 pa, .int .i64 pc] 62 (0, 0)), .blk xp (.cells #[.pointer (some ⟨xb, 0, none⟩)] 82 (0, 0))] ++ Sol xb mb (.slice Ag g.length cg) st  (pickM g st m s pc).2) := by
  have hE : Ext (fun k => k = mb) w0 w0 := Ext.refl _ _
  have hNC := noCells_map (hL.get 3 rfl)
  refine calls [4] Tryd.func67 rfl rfl rfl rfl ?_
  refine c_seq ?_
  -- region 0
  refine c_ops ?_
  refine l_val rfl rfl rfl (r_assign rfl) ?_
  refine l_nil ?_
  refine c_seq ?_
  -- region 1
  refine c_ops ?_
  refine l_val rfl rfl rfl (r_load_blk rfl Tryd.isAgg82 rfl (hL.get 1 rfl) rfl) ?_
  refine l_val rfl rfl rfl (r_move rfl) ?_
  refine l_val rfl rfl rfl (r_fieldAddr (n := 0) rfl Tryd.underlying62 rfl Tryd.sizeOf3 rfl) ?_
  refine l_val rfl rfl rfl (r_load_blk rfl Tryd.isAgg3 rfl (hL.get 0 rfl) rfl) ?_
  refine l_by rfl rfl rfl (r_call rfl rfl Tryd.func63 rfl rfl) (pick_calls _ xb mb Ag cg g (hg.keep RNode.kept (hE.cells hNC)) hok st m s pc hs hsn hs8 (Has.right (L1 := [_, _]) hL)) ?_   -- sub.go:76 slot 9 := (call {callee=(value (func 63)), args=[(tmp 5), (tmp 6), (tmp 8)], argTypes=[82, 3, 3]})
  rintro _ w ⟨rfl, hX, hY⟩
  replace hL := Has.sol [_, _] hL hX hY
  replace hE := hE.trans hX
  refine ⟨_, rfl, ?_⟩
  refine l_val rfl rfl rfl (r_eql rfl rfl rfl) ?_
  refine l_val rfl rfl rfl (r_assign rfl) ?_
  refine l_nil ?_
  refine c_ret ?_
  exact ⟨ret_bool rfl rfl, hE, hL⟩
theorem holds_calls (w0 : World) (xb mb : Nat) (Ag : Option Addr) (cg : Nat) (g : List GNode) (hg : Nodes w0 Ag cg g) (hok : GraphOk g) (st : Bool) (m : PM) (p : Int × Int) (hL : Has w0 (Sol xb mb (.slice Ag g.length cg) st  m)) :
    Calls Tryd.prog 54 [.pointer (some ⟨xb, 0, none⟩), enc2 p].toArray w0 fun en w' => en = .returned (.bool (holdsM g st m p).1) ∧ Ext (fun k => k = mb) w0 w' ∧ Has w' (Sol xb mb (.slice Ag g.length cg) st  (holdsM g st m p).2) := by
  have hE : Ext (fun k => k = mb) w0 w0 := Ext.refl _ _
  have hNC := noCells_map (hL.get 1 rfl)
  refine calls [4] Tryd.func54 rfl rfl rfl rfl ?_
  refine c_seq ?_
  -- region 0
  refine c_ops ?_
  refine l_new rfl rfl rfl (n_box rfl hL hE) ?_
  rintro _ w ⟨b2, rfl, hb2, hL, hE, hX⟩
  refine l_new rfl rfl rfl (n_box rfl hL hE) ?_
  rintro _ w ⟨b3, rfl, hb3, hL, hE, hX⟩
  refine l_val rfl rfl rfl (r_assign rfl) ?_
  refine l_nil ?_
  refine c_seq ?_
  -- region 1
  refine c_draw mixed (hL.sub (.cons_cons _ (.cons_cons _ (.cons_cons _ (.cons _ .slnil))))) hE ?_
  replace hL := hL.drew
  replace hE := hE.drew
  have hK := hL.sub (.cons_cons _ (.cons_cons _ (.cons_cons _ (.cons _ .slnil))))
  refine h_t 0 rfl rfl (by kernel_rfl) (fun _ _ _ h => h) ⟨hK, hE⟩ rfl (fun W hW => r_load_blk rfl Tryd.isAgg82 rfl (hW.1.get 1 rfl) rfl) ?_
  refine h_t 1 rfl rfl (by kernel_rfl) (fun _ _ _ h => h) ⟨hK, hE⟩ rfl (fun W hW => r_nilCheck rfl rfl) ?_
  refine h_t 2 rfl rfl (by kernel_rfl) (fun _ _ _ h => h) ⟨hK, hE⟩ rfl (fun W hW => r_fieldAddr (n := 0) rfl Tryd.underlying89 rfl Tryd.sizeOf22 rfl) ?_
  refine h_t 3 rfl rfl (by kernel_rfl) (fun _ _ _ h => h) ⟨hK, hE⟩ rfl (fun W hW => r_load_blk rfl Tryd.isAgg22 rfl (hW.1.get 2 rfl) rfl) ?_
  refine h_t 4 rfl rfl (by kernel_rfl) (fun _ _ _ h => h) ⟨hK, hE⟩ rfl (fun W hW => r_fieldAddr (n := 0) rfl Tryd.underlying62 rfl Tryd.sizeOf3 rfl) ?_
  refine h_t 5 rfl rfl (by kernel_rfl) (fun _ _ _ h => h) ⟨hK, hE⟩ rfl (fun W hW => r_load_blk rfl Tryd.isAgg3 rfl (hW.1.get 0 rfl) rfl) ?_
  refine h_t 7 rfl rfl (by kernel_rfl) (fun _ _ _ h => h) ⟨hK, hE⟩ rfl (fun W hW => r_makeFunc rfl) ?_
  refine h_by 6 rfl rfl (by kernel_rfl) rfl (r_call rfl rfl Tryd.func19 rfl rfl) (Members_calls _ Ag cg g (hg.keep RNode.kept (hE.cells hNC)) hok.fits p.1) ?_   -- sub.go:76 slot 11 := (call {callee=(value (func 19)), args=[(tmp 8), (tmp 10)], argTypes=[22, 3]})
  rintro _ w ⟨v, rfl, hrow, hX⟩
  replace hL := hL.ext0 hX
  replace hE := hE.step0 hX
  obtain ⟨A2, c2, rfl, hmem, _⟩ := Sl.ofInts hrow
  have hK := hL.sub (.cons_cons _ (.cons_cons _ (.cons_cons _ (.cons _ .slnil))))
  refine ⟨_, rfl, ⟨hK, hE⟩, ?_⟩
  have hNC2 := noCells_map (hL.get 3 rfl)
  have hgw := hg.keep RNode.kept (hE.cells hNC)
  have hT : Tests Tryd.prog (fun m W => Has W ([.blk b3 (.cells #[.int .i64 p.1, .int .i64 p.2] 62 (0, 0)), .blk b2 (.cells #[.pointer (some ⟨xb, 0, none⟩)] 82 (0, 0))] ++ Sol xb mb (.slice Ag g.length cg) st m) ∧ Nodes W Ag cg g) (fun k => k = mb) (D1 (fun W s cs => RInt W s cs ∧ (0 ≤ s ∧ s < g.length ∧ (gat g s).kind ≠ 8))) (fun m s => (decide ((pickM g st m s p.2).1 = -2), (pickM g st m s p.2).2)) (.func (.func 67) #[] #[.pointer (some ⟨b2, 0, none⟩), .pointer (some ⟨b3, 0, none⟩)]) := ⟨_, _, _, _, _, rfl, Tryd.func67, rfl, rfl, fun m s v W hs hv => (by
    obtain rfl : v = .int .i64 s := by injection hv.1
    exact (holds1_calls W xb mb Ag cg g hs.2 hok st m b3 b2 p.1 p.2 s hv.2.1 hv.2.2.1 hv.2.2.2 hs.1).mono (fun en w' ⟨h1, h2, h3⟩ => ⟨h1, h2, h3, hs.2.keep RNode.kept (h2.cells (noCells_map (hs.1.get 3 rfl)))⟩))⟩
  refine h_by 8 rfl rfl (by kernel_rfl) rfl (r_call rfl rfl Tryd.func39 rfl rfl) (ContainsFunc_int (fun m W => Has W ([.blk b3 (.cells #[.int .i64 p.1, .int .i64 p.2] 62 (0, 0)), .blk b2 (.cells #[.pointer (some ⟨xb, 0, none⟩)] 82 (0, 0))] ++ Sol xb mb (.slice Ag g.length cg) st m) ∧ Nodes W Ag cg g) (fun k => k = mb) (fun W s cs => RInt W s cs ∧ (0 ≤ s ∧ s < g.length ∧ (gat g s).kind ≠ 8)) (fun m s => (decide ((pickM g st m s p.2).1 = -2), (pickM g st m s p.2).2)) _ _ _ _ (membersG g p.1) _ m (fun W hW => (hmem.keep RInt.kept (hW.cells hNC2)).and (fun s hs => hok.members hs)) hT ⟨hL, hgw⟩) ?_   -- sub.go:76 slot 13 := (call {callee=(value (func 39)), args=[(tmp 11), (tmp 12)], argTypes=[30, 69]})
  rintro _ w ⟨rfl, hX, hY⟩
  replace hL := hY.1
  replace hE := hE.trans hX
  have hK := hL.sub (.cons_cons _ (.cons_cons _ (.cons_cons _ (.cons _ .slnil))))
  refine ⟨_, rfl, ⟨hK, hE⟩, ?_⟩
  refine h_t 9 rfl rfl (by kernel_rfl) (fun _ _ _ h => h) ⟨hK, hE⟩ rfl (fun W hW => r_not rfl rfl) ?_
  refine h_t 10 rfl rfl (by kernel_rfl) (fun _ _ _ h => h) ⟨hK, hE⟩ rfl (fun W hW => r_assign rfl) ?_
  refine h_done (by kernel_rfl) ?_
  refine c_ret ?_
  exact ⟨ret_bool rfl rfl, hE, Has.right (L1 := [_, _]) hL⟩
end Go.Proofs.YtndophlnapjkhaaDoor.Vc
