/- Why a type may stand for another one: the rules of unions, of bounds, of TDyn. Conditions: those of each statement. -/
import Derived.Test.YtndophlnapjkhaaDoorFact1
namespace Go.Proofs.YtndophlnapjkhaaDoor.Vc
open Go Go.RowKit
set_option linter.unusedVariables false
set_option linter.unusedSimpArgs false

/-- What a rule gives. -/
def RuleRes (w0 : World) (r : Bool × FP × Bool) (en : Ending) (w' : World) : Prop := ∃ v, en = .returned (.tuple #[.bool r.1, v, .bool r.2.2]) ∧ w'.ownsRow w0.heap.size 72 2 v r.2.1.length (r.2.1.map cells2).flatten ∧ Ext0 w0 w'
theorem RuleRes.of {w0 w' : World} {r r' : Bool × FP × Bool} {en : Ending} (h : r = r') (k : RuleRes w0 r' en w') : RuleRes w0 r en w' := h ▸ k
theorem nil_row (w : World) (base e sz : Nat) : w.ownsRow base e sz (.slice none 0 0) ([] : FP).length (([] : FP).map cells2).flatten := ⟨by simp, .inl ⟨rfl, rfl⟩⟩
def unionF (g : List GNode) (f : Fact) : Bool × FP × Bool := if (gat g f.a).kind = 8 then (true, (gat g f.a).l.map (fun m => (m, f.b)), true) else (false, [], false)
def boundF (g : List GNode) (f : Fact) : Bool × FP × Bool := if (gat g f.a).kind = 9 ∧ iat f.why 0 = -1 then (true, [(iat (gat g f.a).l 0, f.b)], true) else (false, [], false)
def looseF (g : List GNode) (f : Fact) : Bool × FP × Bool := (decide ((gat g f.a).kind = 1 ∨ (chosenF g f).kind = 1), [], decide ((gat g f.a).kind = 1 ∨ (chosenF g f).kind = 1))
theorem fpairs_at {w : World} {base e n n' c : Nat} {A : Option Addr} {l : FP} (h : w.ownsRow base e 2 (.slice A n' c) n (l.map cells2).flatten) : Sl w 2 RPair A n' c l := Sl.pairs_at h
theorem union_calls (w0 : World) (xb : Nat) (Ag : Option Addr) (cg : Nat) (g : List GNode) (hg : Nodes w0 Ag cg g) (hok : GraphOk g) (hx0 : w0.cell? ⟨xb, 0, none⟩ = some (.slice Ag g.length cg)) (f : Fact) (Aw : Option Addr) (cw : Nat) (hw : Ints w0 Aw cw f.why) (hf : FactOk g f) :
    Calls Tryd.prog 72 [.pointer (some ⟨xb, 0, none⟩), .agg (factCells f Aw cw).toArray].toArray w0 (RuleRes w0 (unionF g f)) := by
  have hE : Ext0 w0 w0 := Ext.refl _ _
  have hL : Has w0 [] := trivial
  have ha := hf.a
  obtain ⟨Ak, ck, Al, cl, hcell, hsk, hsl⟩ := hg.node f.a hf.a.1 hf.a.2
  refine calls [4, 5, 6] Tryd.func72 rfl rfl rfl rfl ?_
  refine c_seq ?_
  -- region 0
  refine c_ops ?_
  refine l_new rfl rfl rfl (n_box rfl hL hE) ?_
  rintro _ w ⟨b3, rfl, hb3, hL, hE, hX⟩
  refine l_val rfl rfl rfl (r_assign rfl) ?_
  refine l_val rfl rfl rfl (r_assign rfl) ?_
  refine l_val rfl rfl rfl (r_assign rfl) ?_
  refine l_nil ?_
  refine c_seq ?_
  refine c_seq ?_
  -- region 1
  refine c_draw mixed (hL) hE ?_
  replace hL := hL.drew
  replace hE := hE.drew
  have hK := hL
  refine h_t 0 rfl rfl (by kernel_rfl) (fun _ _ _ h => h) ⟨hK, hE⟩ rfl (fun W hW => r_move rfl) ?_
  refine h_t 1 rfl rfl (by kernel_rfl) (fun _ _ _ h => h) ⟨hK, hE⟩ rfl (fun W hW => r_nilCheck rfl rfl) ?_
  refine h_t 2 rfl rfl (by kernel_rfl) (fun _ _ _ h => h) ⟨hK, hE⟩ rfl (fun W hW => r_fieldAddr (n := 0) rfl Tryd.underlying65 rfl Tryd.sizeOf22 rfl) ?_
  refine h_t 3 rfl rfl (by kernel_rfl) (fun _ _ _ h => h) ⟨hK, hE⟩ rfl (fun W hW => r_load rfl Tryd.isAgg22 rfl (Ext0.cells hW.2 _ _ hx0)) ?_
  refine h_t 4 rfl rfl (by kernel_rfl) (fun _ _ _ h => h) ⟨hK, hE⟩ rfl (fun W hW => r_fieldAddr (n := 0) rfl Tryd.underlying37 rfl Tryd.sizeOf3 rfl) ?_
  refine h_t 5 rfl rfl (by kernel_rfl) (fun _ _ _ h => h) ⟨hK, hE⟩ rfl (fun W hW => r_load_blk rfl Tryd.isAgg3 rfl (hW.1.get 0 rfl) rfl) ?_
  refine h_t 6 rfl rfl (by kernel_rfl) (fun _ _ _ h => h) ⟨hK, hE⟩ rfl (fun W hW => r_indexAddr_sl rfl Tryd.underlying22 Tryd.sizeOf45 rfl hg.is rfl ha.1 ha.2) ?_
  refine h_t 7 rfl rfl (by kernel_rfl) (fun _ _ _ h => h) ⟨hK, hE⟩ rfl (fun W hW => r_fieldAddr (n := 0) rfl Tryd.underlying45 rfl Tryd.sizeOf3 rfl) ?_
  refine h_t 8 rfl rfl (by kernel_rfl) (fun _ _ _ h => h) ⟨hK, hE⟩ rfl (fun W hW => r_load rfl Tryd.isAgg3 rfl (Ext0.cells hW.2 _ _ (hcell 0 _ rfl))) ?_
  refine h_t 9 rfl rfl (by kernel_rfl) (fun _ _ _ h => h) ⟨hK, hE⟩ rfl (fun W hW => r_neq rfl rfl rfl) ?_
  refine h_done (by kernel_rfl) ?_
  refine c_cond rfl (fun hb => ?_) (fun hb => ?_)
  · -- True
    have hr18 := hb
    replace hb := of_decide_eq_false (by simpa using hb)
    have hu : unionF g f = (false, [], false) := by unfold unionF; rw [if_neg hb]
    refine c_seq ?_
    -- region 2
    refine c_ops ?_
    refine l_val rfl rfl rfl (r_assign rfl) ?_
    refine l_val rfl rfl rfl (r_assign rfl) ?_
    refine l_val rfl rfl rfl (r_assign rfl) ?_
    refine l_nil ?_
    refine c_ret ?_
    rw [hu]
    exact ⟨_, rfl, nil_row _ _ _ _, hE⟩
  · -- False
    have hr18 := hb
    replace hb := of_decide_eq_true (by simpa using hb)
    have hu : unionF g f = (true, (gat g f.a).l.map (fun m => (m, f.b)), true) := by unfold unionF; rw [if_pos hb]
    replace hL := hL.nilRow w0.heap.size 72 2
    have hbig := hok.fits.lists _ (gat_mem' ha.1 ha.2)
    refine c_skip ?_
    refine c_seq ?_
    refine c_seq ?_
    -- region 3
    refine c_draw mixed (hL) hE ?_
    replace hL := hL.drew
    replace hE := hE.drew
    have hK := hL
    refine h_t 0 rfl rfl (by kernel_rfl) (fun _ _ _ h => h) ⟨hK, hE⟩ rfl (fun W hW => r_move rfl) ?_
    refine h_t 1 rfl rfl (by kernel_rfl) (fun _ _ _ h => h) ⟨hK, hE⟩ rfl (fun W hW => r_nilCheck rfl rfl) ?_
    refine h_t 2 rfl rfl (by kernel_rfl) (fun _ _ _ h => h) ⟨hK, hE⟩ rfl (fun W hW => r_fieldAddr (n := 0) rfl Tryd.underlying65 rfl Tryd.sizeOf22 rfl) ?_
    refine h_t 3 rfl rfl (by kernel_rfl) (fun _ _ _ h => h) ⟨hK, hE⟩ rfl (fun W hW => r_load rfl Tryd.isAgg22 rfl (Ext0.cells hW.2 _ _ hx0)) ?_
    refine h_t 4 rfl rfl (by kernel_rfl) (fun _ _ _ h => h) ⟨hK, hE⟩ rfl (fun W hW => r_fieldAddr (n := 0) rfl Tryd.underlying37 rfl Tryd.sizeOf3 rfl) ?_
    refine h_t 5 rfl rfl (by kernel_rfl) (fun _ _ _ h => h) ⟨hK, hE⟩ rfl (fun W hW => r_load_blk rfl Tryd.isAgg3 rfl (hW.1.get 1 rfl) rfl) ?_
    refine h_t 6 rfl rfl (by kernel_rfl) (fun _ _ _ h => h) ⟨hK, hE⟩ rfl (fun W hW => r_indexAddr_sl rfl Tryd.underlying22 Tryd.sizeOf45 rfl hg.is rfl ha.1 ha.2) ?_
    refine h_t 7 rfl rfl (by kernel_rfl) (fun _ _ _ h => h) ⟨hK, hE⟩ rfl (fun W hW => r_fieldAddr (n := 0) rfl Tryd.underlying45 rfl Tryd.sizeOf30 rfl) ?_
    refine h_t 8 rfl rfl (by kernel_rfl) (fun _ _ _ h => h) ⟨hK, hE⟩ rfl (fun W hW => r_load rfl Tryd.isAgg30 rfl (Ext0.cells hW.2 _ _ (hcell 4 _ rfl))) ?_
    refine h_t 9 rfl rfl (by kernel_rfl) (fun _ _ _ h => h) ⟨hK, hE⟩ rfl (fun W hW => r_len rfl Tryd.underlying30 rfl) ?_
    refine h_t 10 rfl rfl (by kernel_rfl) (fun _ _ _ h => h) ⟨hK, hE⟩ rfl (fun W hW => r_move rfl) ?_
    refine h_done (by kernel_rfl) ?_
    refine c_block ?_
    -- loop 0: slots that it writes and that are read in it ahead of that: [29, 5]
    refine c_loop [5, 8, 29, 30, 31, 32, 33, 34, 35, 36, 37, 38, 39, 40] (fun m1 e w => ∃ (k : Nat) (A5 : Option Addr) (c5 : Nat), k ≤ (gat g f.a).l.length ∧ m1 = (gat g f.a).l.length - k ∧ e 29 = .int .i64 k ∧ e 5 = .slice A5 k c5 ∧ Has w [.row w0.heap.size 72 2 (.slice A5 k c5) k ((((gat g f.a).l.take k).map (fun m => (m, f.b))).map cells2).flatten, .blk b3 (.cells (factCells f Aw cw).toArray 37 (0, 0))] ∧ Ext0 w0 w) (gat g f.a).l.length ?_ ?_
    · exact ⟨0, none, 0, Nat.zero_le _, rfl, rfl, rfl, hL, hE⟩
    intro m1 e w hI
    obtain ⟨k, A5, c5, hk, hm, h29, h5, hL, hE⟩ := hI
    refine c_know h29 ?_
    refine c_know (t := 5) (by exact h5) ?_
    refine c_seq ?_
    -- region 4
    refine c_ops ?_
    refine l_val rfl rfl rfl (r_lss rfl rfl rfl) ?_
    refine l_nil ?_
    refine c_seq ?_
    refine c_cond rfl (fun hb => ?_) (fun hb => ?_)
    · -- True
      have hr30 := hb
      replace hb := of_decide_eq_true hb
      have hkn : k < (gat g f.a).l.length := by omega
      have htk : ((gat g f.a).l.take (k + 1)).map (fun m => (m, f.b)) = ((gat g f.a).l.take k).map (fun m => (m, f.b)) ++ [(iat (gat g f.a).l k, f.b)] := by
        rw [List.take_add_one, iat_nat hkn]
        simp
      refine c_skip ?_
      refine c_seq ?_
      refine c_block ?_
      refine c_seq ?_
      -- region 5
      refine c_ops ?_
      refine l_val rfl rfl rfl (r_indexAddr_sl rfl Tryd.underlying30 Tryd.sizeOf3 rfl hsl.is rfl (by omega) (by omega)) ?_
      refine l_val rfl rfl rfl (r_load rfl Tryd.isAgg3 rfl ((hsl.keep RInt.kept (Ext0.cells hE)).int k (by omega) (by omega))) ?_
      refine l_val rfl rfl rfl (r_assign rfl) ?_
      refine l_nil ?_
      -- region 6
      refine c_ops ?_
      refine l_val rfl rfl rfl (r_move rfl) ?_
      refine l_val rfl rfl rfl (r_move rfl) ?_
      refine l_val rfl rfl rfl (r_fieldAddr (n := 0) rfl Tryd.underlying37 rfl Tryd.sizeOf3 rfl) ?_
      refine l_val rfl rfl rfl (r_load_blk rfl Tryd.isAgg3 rfl (hL.get 1 rfl) rfl) ?_
      refine l_val rfl rfl rfl (r_build rfl rfl (built_fpair _ _)) ?_   -- fact.go:32 slot 37 := (build 72 [(0, (tmp 34)), (1, (tmp 36))])
      refine l_new rfl rfl rfl (n_slice (cells := #[.int .i64 (iat (gat g f.a).l k), .int .i64 f.b]) rfl Tryd.underlying93 Tryd.sizeOf72 Tryd.zeroValue72 rfl rfl (fill_pair _ _) hL hE) ?_
      rintro _ w ⟨s38, rfl, hs38, hL, hE, hX⟩
      refine l_new rfl rfl rfl (r_append (ys := cells2 (iat (gat g f.a).l k, f.b)) 1 rfl Tryd.underlying93 info_fpair rfl (by decide) rfl rfl hL hE rfl rfl (blk_raw (cs := #[.int .i64 (iat (gat g f.a).l k), .int .i64 f.b]) (hL.get 0 rfl) rfl) (fun u hu => by simp [cells2] at hu; rcases hu with rfl | rfl <;> rfl) (by omega) (by omega) (Nat.le_refl _) hE.size) ?_
      rintro _ w ⟨hL, hE, hk⟩
      obtain ⟨A8, c8, rfl⟩ := ownsRow_slice (hL.row 1 rfl)
      replace hL : Has w ([.blk s38 (.cells #[.int .i64 (iat (gat g f.a).l k), .int .i64 f.b] 72 (0, 0)), .row w0.heap.size 72 2 (.slice A8 (k + 1) c8) (k + 1) (((((gat g f.a).l.take (k + 1)).map (fun m => (m, f.b)))).map cells2).flatten, .blk b3 (.cells (factCells f Aw cw).toArray 37 (0, 0))]) := by rw [htk, ← pairs_snoc]; exact hL
      refine l_val rfl rfl rfl (r_assign rfl) ?_
      refine l_nil ?_
      -- region 7
      refine c_ops ?_
      refine l_val rfl rfl rfl (r_add rfl rfl rfl) ?_
      refine l_val rfl rfl rfl (r_move rfl) ?_
      refine l_nil ?_
      refine ⟨by repeat (first | exact Agree.over _ _ _ | exact Agree.refl _ _ | (refine Agree.puto ?_ _ _ rfl) | (refine Agree.put ?_ _ _ rfl) | (refine Agree.sub ?_ rfl)), ?_⟩
      exact ⟨(gat g f.a).l.length - (k + 1), by omega, k + 1, A8, c8, by omega, rfl, by show Value.int .i64 (IntKind.i64.wrap ((k : Int) + 1)) = _; rw [wrap_succ hkn hsl.max], rfl, hL.tail, hE⟩
    · -- False
      have hr30 := hb
      replace hb := of_decide_eq_false hb
      obtain rfl : k = (gat g f.a).l.length := by omega
      rw [List.take_length] at hL
      refine c_exit ?_
      refine c_seq ?_
      -- region 8
      refine c_ops ?_
      refine l_val rfl rfl rfl (r_move rfl) ?_
      refine l_val rfl rfl rfl (r_assign rfl) ?_
      refine l_val rfl rfl rfl (r_assign rfl) ?_
      refine l_val rfl rfl rfl (r_assign rfl) ?_
      refine l_nil ?_
      refine c_ret ?_
      rw [hu]
      exact ⟨_, rfl, by have := hL.row 0 rfl; rw [List.length_map]; exact this, hE⟩
theorem bound_calls (w0 : World) (xb : Nat) (Ag : Option Addr) (cg : Nat) (g : List GNode) (hg : Nodes w0 Ag cg g) (hok : GraphOk g) (hx0 : w0.cell? ⟨xb, 0, none⟩ = some (.slice Ag g.length cg)) (f : Fact) (Aw : Option Addr) (cw : Nat) (hw : Ints w0 Aw cw f.why) (hf : FactOk g f) (h8 : (gat g f.a).kind ≠ 8) :
    Calls Tryd.prog 73 [.pointer (some ⟨xb, 0, none⟩), .agg (factCells f Aw cw).toArray].toArray w0 (RuleRes w0 (boundF g f)) := by
  have hE : Ext0 w0 w0 := Ext.refl _ _
  have hL : Has w0 [] := trivial
  have ha := hf.a
  obtain ⟨Ak, ck, Al, cl, hcell, hsk, hsl⟩ := hg.node f.a hf.a.1 hf.a.2
  have hpos := why_pos (hf.why h8)
  refine calls [4, 5, 6] Tryd.func73 rfl rfl rfl rfl ?_
  refine c_seq ?_
  -- region 0
  refine c_ops ?_
  refine l_new rfl rfl rfl (n_box rfl hL hE) ?_
  rintro _ w ⟨b3, rfl, hb3, hL, hE, hX⟩
  refine l_val rfl rfl rfl (r_assign rfl) ?_
  refine l_val rfl rfl rfl (r_assign rfl) ?_
  refine l_val rfl rfl rfl (r_assign rfl) ?_
  refine l_nil ?_
  refine c_seq ?_
  refine c_seq ?_
  -- region 1
  refine c_draw mixed (hL) hE ?_
  replace hL := hL.drew
  replace hE := hE.drew
  have hK := hL
  refine h_t 0 rfl rfl (by kernel_rfl) (fun _ _ _ h => h) ⟨hK, hE⟩ rfl (fun W hW => r_move rfl) ?_
  refine h_t 1 rfl rfl (by kernel_rfl) (fun _ _ _ h => h) ⟨hK, hE⟩ rfl (fun W hW => r_nilCheck rfl rfl) ?_
  refine h_t 2 rfl rfl (by kernel_rfl) (fun _ _ _ h => h) ⟨hK, hE⟩ rfl (fun W hW => r_fieldAddr (n := 0) rfl Tryd.underlying65 rfl Tryd.sizeOf22 rfl) ?_
  refine h_t 3 rfl rfl (by kernel_rfl) (fun _ _ _ h => h) ⟨hK, hE⟩ rfl (fun W hW => r_load rfl Tryd.isAgg22 rfl (Ext0.cells hW.2 _ _ hx0)) ?_
  refine h_t 4 rfl rfl (by kernel_rfl) (fun _ _ _ h => h) ⟨hK, hE⟩ rfl (fun W hW => r_fieldAddr (n := 0) rfl Tryd.underlying37 rfl Tryd.sizeOf3 rfl) ?_
  refine h_t 5 rfl rfl (by kernel_rfl) (fun _ _ _ h => h) ⟨hK, hE⟩ rfl (fun W hW => r_load_blk rfl Tryd.isAgg3 rfl (hW.1.get 0 rfl) rfl) ?_
  refine h_t 6 rfl rfl (by kernel_rfl) (fun _ _ _ h => h) ⟨hK, hE⟩ rfl (fun W hW => r_indexAddr_sl rfl Tryd.underlying22 Tryd.sizeOf45 rfl hg.is rfl ha.1 ha.2) ?_
  refine h_t 7 rfl rfl (by kernel_rfl) (fun _ _ _ h => h) ⟨hK, hE⟩ rfl (fun W hW => r_fieldAddr (n := 0) rfl Tryd.underlying45 rfl Tryd.sizeOf3 rfl) ?_
  refine h_t 8 rfl rfl (by kernel_rfl) (fun _ _ _ h => h) ⟨hK, hE⟩ rfl (fun W hW => r_load rfl Tryd.isAgg3 rfl (Ext0.cells hW.2 _ _ (hcell 0 _ rfl))) ?_
  refine h_t 9 rfl rfl (by kernel_rfl) (fun _ _ _ h => h) ⟨hK, hE⟩ rfl (fun W hW => r_neq rfl rfl rfl) ?_
  refine h_t 10 rfl rfl (by kernel_rfl) (fun _ _ _ h => h) ⟨hK, hE⟩ rfl (fun W hW => r_move rfl) ?_
  refine h_case 17 rfl (fun hb => ?_) (fun hb => ?_)
  · -- slot 17 is True
    have hr17 := hb
    replace hb := of_decide_eq_false (by simpa using hb)
    have hu : boundF g f = (false, [], false) := by unfold boundF; rw [if_neg (fun h => hb h.1)]
    refine h_n 11 rfl rfl (by kernel_rfl) (fun _ _ _ h => h) ⟨hK, hE⟩ rfl ?_
    refine h_n 12 rfl rfl (by kernel_rfl) (fun _ _ _ h => h) ⟨hK, hE⟩ rfl ?_
    refine h_n 13 rfl rfl (by kernel_rfl) (fun _ _ _ h => h) ⟨hK, hE⟩ rfl ?_
    refine h_n 14 rfl rfl (by kernel_rfl) (fun _ _ _ h => h) ⟨hK, hE⟩ rfl ?_
    refine h_n 15 rfl rfl (by kernel_rfl) (fun _ _ _ h => h) ⟨hK, hE⟩ rfl ?_
    refine h_t 16 rfl rfl (by kernel_rfl) (fun _ _ _ h => h) ⟨hK, hE⟩ rfl (fun W hW => r_pick rfl rfl) ?_
    refine h_done (by kernel_rfl) ?_
    refine c_yes rfl ?_
    refine c_seq ?_
    -- region 2
    refine c_ops ?_
    refine l_val rfl rfl rfl (r_assign rfl) ?_
    refine l_val rfl rfl rfl (r_assign rfl) ?_
    refine l_val rfl rfl rfl (r_assign rfl) ?_
    refine l_nil ?_
    refine c_ret ?_
    rw [hu]
    exact ⟨_, rfl, nil_row _ _ _ _, hE⟩
  · -- slot 17 is False
    have hr17 := hb
    replace hb := of_decide_eq_true (by simpa using hb)
    have h9 := hb
    refine h_t 11 rfl rfl (by kernel_rfl) (fun _ _ _ h => h) ⟨hK, hE⟩ rfl (fun W hW => r_fieldAddr (n := 0) rfl Tryd.underlying37 rfl Tryd.sizeOf30 rfl) ?_
    refine h_t 12 rfl rfl (by kernel_rfl) (fun _ _ _ h => h) ⟨hK, hE⟩ rfl (fun W hW => r_load_blk rfl Tryd.isAgg30 rfl (hW.1.get 0 rfl) rfl) ?_
    refine h_t 13 rfl rfl (by kernel_rfl) (fun _ _ _ h => h) ⟨hK, hE⟩ rfl (fun W hW => r_indexAddr_sl rfl Tryd.underlying30 Tryd.sizeOf3 rfl hw.is rfl (by decide) (by omega)) ?_
    refine h_t 14 rfl rfl (by kernel_rfl) (fun _ _ _ h => h) ⟨hK, hE⟩ rfl (fun W hW => r_load rfl Tryd.isAgg3 rfl ((hw.keep RInt.kept (Ext0.cells hW.2)).int 0 (by decide) (by omega))) ?_
    refine h_t 15 rfl rfl (by kernel_rfl) (fun _ _ _ h => h) ⟨hK, hE⟩ rfl (fun W hW => r_neq rfl rfl rfl) ?_
    refine h_t 16 rfl rfl (by kernel_rfl) (fun _ _ _ h => h) ⟨hK, hE⟩ rfl (fun W hW => r_pick rfl rfl) ?_
    refine h_done (by kernel_rfl) ?_
    refine c_cond rfl (fun hb => ?_) (fun hb => ?_)
    · -- True
      have hr23 := hb
      replace hb := of_decide_eq_false (by simpa using hb)
      have hw1 : ¬ iat f.why 0 = -1 := by have h := hr23; rw [Bool.not_eq_true'] at h; exact of_decide_eq_false h
      have hu : boundF g f = (false, [], false) := by unfold boundF; rw [if_neg (fun h => hw1 h.2)]
      refine c_seq ?_
      -- region 2
      refine c_ops ?_
      refine l_val rfl rfl rfl (r_assign rfl) ?_
      refine l_val rfl rfl rfl (r_assign rfl) ?_
      refine l_val rfl rfl rfl (r_assign rfl) ?_
      refine l_nil ?_
      refine c_ret ?_
      rw [hu]
      exact ⟨_, rfl, nil_row _ _ _ _, hE⟩
    · -- False
      have hr23 := hb
      replace hb := of_decide_eq_true (by simpa using hb)
      have hw1 : iat f.why 0 = -1 := by have h := hr23; rw [Bool.not_eq_false'] at h; exact of_decide_eq_true h
      have hu : boundF g f = (true, [(iat (gat g f.a).l 0, f.b)], true) := by unfold boundF; rw [if_pos ⟨h9, hw1⟩]
      have hl1 : (gat g f.a).l.length = 1 := by rcases (hok.is (gat_mem' ha.1 ha.2)).plain h8 with h | h | h | h | h | ⟨h, h1⟩ | ⟨h, h1⟩ <;> first | exact h1 | omega
      refine c_skip ?_
      refine c_seq ?_
      -- region 3
      refine c_draw mixed (hL) hE ?_
      replace hL := hL.drew
      replace hE := hE.drew
      have hK := hL
      refine h_t 0 rfl rfl (by kernel_rfl) (fun _ _ _ h => h) ⟨hK, hE⟩ rfl (fun W hW => r_move rfl) ?_
      refine h_t 1 rfl rfl (by kernel_rfl) (fun _ _ _ h => h) ⟨hK, hE⟩ rfl (fun W hW => r_nilCheck rfl rfl) ?_
      refine h_t 2 rfl rfl (by kernel_rfl) (fun _ _ _ h => h) ⟨hK, hE⟩ rfl (fun W hW => r_fieldAddr (n := 0) rfl Tryd.underlying65 rfl Tryd.sizeOf22 rfl) ?_
      refine h_t 3 rfl rfl (by kernel_rfl) (fun _ _ _ h => h) ⟨hK, hE⟩ rfl (fun W hW => r_load rfl Tryd.isAgg22 rfl (Ext0.cells hW.2 _ _ hx0)) ?_
      refine h_t 4 rfl rfl (by kernel_rfl) (fun _ _ _ h => h) ⟨hK, hE⟩ rfl (fun W hW => r_fieldAddr (n := 0) rfl Tryd.underlying37 rfl Tryd.sizeOf3 rfl) ?_
      refine h_t 5 rfl rfl (by kernel_rfl) (fun _ _ _ h => h) ⟨hK, hE⟩ rfl (fun W hW => r_load_blk rfl Tryd.isAgg3 rfl (hW.1.get 0 rfl) rfl) ?_
      refine h_t 6 rfl rfl (by kernel_rfl) (fun _ _ _ h => h) ⟨hK, hE⟩ rfl (fun W hW => r_indexAddr_sl rfl Tryd.underlying22 Tryd.sizeOf45 rfl hg.is rfl ha.1 ha.2) ?_
      refine h_t 7 rfl rfl (by kernel_rfl) (fun _ _ _ h => h) ⟨hK, hE⟩ rfl (fun W hW => r_fieldAddr (n := 0) rfl Tryd.underlying45 rfl Tryd.sizeOf30 rfl) ?_
      refine h_t 8 rfl rfl (by kernel_rfl) (fun _ _ _ h => h) ⟨hK, hE⟩ rfl (fun W hW => r_load rfl Tryd.isAgg30 rfl (Ext0.cells hW.2 _ _ (hcell 4 _ rfl))) ?_
      refine h_t 9 rfl rfl (by kernel_rfl) (fun _ _ _ h => h) ⟨hK, hE⟩ rfl (fun W hW => r_indexAddr_sl rfl Tryd.underlying30 Tryd.sizeOf3 rfl hsl.is rfl (by decide) (by omega)) ?_
      refine h_t 10 rfl rfl (by kernel_rfl) (fun _ _ _ h => h) ⟨hK, hE⟩ rfl (fun W hW => r_load rfl Tryd.isAgg3 rfl ((hsl.keep RInt.kept (Ext0.cells hW.2)).int 0 (by decide) (by omega))) ?_
      refine h_t 11 rfl rfl (by kernel_rfl) (fun _ _ _ h => h) ⟨hK, hE⟩ rfl (fun W hW => r_fieldAddr (n := 0) rfl Tryd.underlying37 rfl Tryd.sizeOf3 rfl) ?_
      refine h_t 12 rfl rfl (by kernel_rfl) (fun _ _ _ h => h) ⟨hK, hE⟩ rfl (fun W hW => r_load_blk rfl Tryd.isAgg3 rfl (hW.1.get 0 rfl) rfl) ?_
      refine h_t 13 rfl rfl (by kernel_rfl) (fun _ _ _ h => h) ⟨hK, hE⟩ rfl (fun W hW => r_build rfl rfl (built_fpair _ _)) ?_   -- fact.go:42 slot 37 := (build 72 [(0, (tmp 34)), (1, (tmp 36))])
      refine h_t 15 rfl rfl (by kernel_rfl) (fun _ _ _ h => h) ⟨hK, hE⟩ rfl (fun W hW => r_assign rfl) ?_
      refine h_new 14 rfl rfl (by kernel_rfl) rfl (n_slice (cells := #[.int .i64 (iat (gat g f.a).l 0), .int .i64 f.b]) rfl Tryd.underlying93 Tryd.sizeOf72 Tryd.zeroValue72 rfl rfl (fill_pair _ _) hL hE) ?_
      rintro _ w ⟨s38, rfl, hs38, hL, hE, hX⟩
      have hK := hL.sub (.cons _ (.cons_cons _ .slnil))
      refine ⟨⟨hK, hE⟩, ?_⟩
      refine h_t 16 rfl rfl (by kernel_rfl) (fun _ _ _ h => h) ⟨hK, hE⟩ rfl (fun W hW => r_assign rfl) ?_
      refine h_t 17 rfl rfl (by kernel_rfl) (fun _ _ _ h => h) ⟨hK, hE⟩ rfl (fun W hW => r_assign rfl) ?_
      refine h_done (by kernel_rfl) ?_
      refine c_ret ?_
      rw [hu]
      exact ⟨_, rfl, (Has.asRow (n := 1) (sz := 2) hL hs38 rfl (by decide)).row 0 rfl, hE⟩
theorem loose_calls (w0 : World) (xb : Nat) (Ag : Option Addr) (cg : Nat) (g : List GNode) (hg : Nodes w0 Ag cg g) (hok : GraphOk g) (hx0 : w0.cell? ⟨xb, 0, none⟩ = some (.slice Ag g.length cg)) (f : Fact) (Aw : Option Addr) (cw : Nat) (hw : Ints w0 Aw cw f.why) (hf : FactOk g f) (hi : 0 ≤ iat f.why 0 ∧ iat f.why 0 < (membersG g f.b).length) (hpos : 0 < f.why.length) :
    Calls Tryd.prog 74 [.pointer (some ⟨xb, 0, none⟩), .agg (factCells f Aw cw).toArray].toArray w0 (RuleRes w0 (looseF g f)) := by
  have hE : Ext0 w0 w0 := Ext.refl _ _
  have hL : Has w0 [] := trivial
  have ha := hf.a
  obtain ⟨Ak, ck, Al, cl, hcell, hsk, hsl⟩ := hg.node f.a hf.a.1 hf.a.2
  have hch := chosen_in hok hi
  obtain ⟨Bk, dk, Bl, dl, hcell2, htk, htl⟩ := hg.node _ hch.1 hch.2.1
  refine calls [4, 5, 6] Tryd.func74 rfl rfl rfl rfl ?_
  refine c_seq ?_
  -- region 0
  refine c_ops ?_
  refine l_new rfl rfl rfl (n_box rfl hL hE) ?_
  rintro _ w ⟨b3, rfl, hb3, hL, hE, hX⟩
  refine l_val rfl rfl rfl (r_assign rfl) ?_
  refine l_val rfl rfl rfl (r_assign rfl) ?_
  refine l_val rfl rfl rfl (r_assign rfl) ?_
  refine l_nil ?_
  refine c_seq ?_
  -- region 1
  refine c_draw mixed (hL) hE ?_
  replace hL := hL.drew
  replace hE := hE.drew
  have hK := hL
  refine h_t 0 rfl rfl (by kernel_rfl) (fun _ _ _ h => h) ⟨hK, hE⟩ rfl (fun W hW => r_move rfl) ?_
  refine h_t 1 rfl rfl (by kernel_rfl) (fun _ _ _ h => h) ⟨hK, hE⟩ rfl (fun W hW => r_nilCheck rfl rfl) ?_
  refine h_t 2 rfl rfl (by kernel_rfl) (fun _ _ _ h => h) ⟨hK, hE⟩ rfl (fun W hW => r_fieldAddr (n := 0) rfl Tryd.underlying65 rfl Tryd.sizeOf22 rfl) ?_
  refine h_t 3 rfl rfl (by kernel_rfl) (fun _ _ _ h => h) ⟨hK, hE⟩ rfl (fun W hW => r_load rfl Tryd.isAgg22 rfl (Ext0.cells hW.2 _ _ hx0)) ?_
  refine h_t 4 rfl rfl (by kernel_rfl) (fun _ _ _ h => h) ⟨hK, hE⟩ rfl (fun W hW => r_fieldAddr (n := 0) rfl Tryd.underlying37 rfl Tryd.sizeOf3 rfl) ?_
  refine h_t 5 rfl rfl (by kernel_rfl) (fun _ _ _ h => h) ⟨hK, hE⟩ rfl (fun W hW => r_load_blk rfl Tryd.isAgg3 rfl (hW.1.get 0 rfl) rfl) ?_
  refine h_t 6 rfl rfl (by kernel_rfl) (fun _ _ _ h => h) ⟨hK, hE⟩ rfl (fun W hW => r_indexAddr_sl rfl Tryd.underlying22 Tryd.sizeOf45 rfl hg.is rfl ha.1 ha.2) ?_
  refine h_t 7 rfl rfl (by kernel_rfl) (fun _ _ _ h => h) ⟨hK, hE⟩ rfl (fun W hW => r_fieldAddr (n := 0) rfl Tryd.underlying45 rfl Tryd.sizeOf3 rfl) ?_
  refine h_t 8 rfl rfl (by kernel_rfl) (fun _ _ _ h => h) ⟨hK, hE⟩ rfl (fun W hW => r_load rfl Tryd.isAgg3 rfl (Ext0.cells hW.2 _ _ (hcell 0 _ rfl))) ?_
  refine h_t 9 rfl rfl (by kernel_rfl) (fun _ _ _ h => h) ⟨hK, hE⟩ rfl (fun W hW => r_eql rfl rfl rfl) ?_
  refine h_t 10 rfl rfl (by kernel_rfl) (fun _ _ _ h => h) ⟨hK, hE⟩ rfl (fun W hW => r_move rfl) ?_
  refine h_case 18 rfl (fun hb => ?_) (fun hb => ?_)
  · -- slot 18 is True
    have hr18 := hb
    replace hb := of_decide_eq_true hb
    have hd : looseF g f = (true, [], true) := by unfold looseF; simp [hb]
    refine h_n 11 rfl rfl (by kernel_rfl) (fun _ _ _ h => h) ⟨hK, hE⟩ rfl ?_
    refine h_n 12 rfl rfl (by kernel_rfl) (fun _ _ _ h => h) ⟨hK, hE⟩ rfl ?_
    refine h_n 13 rfl rfl (by kernel_rfl) (fun _ _ _ h => h) ⟨hK, hE⟩ rfl ?_
    refine h_n 14 rfl rfl (by kernel_rfl) (fun _ _ _ h => h) ⟨hK, hE⟩ rfl ?_
    refine h_n 15 rfl rfl (by kernel_rfl) (fun _ _ _ h => h) ⟨hK, hE⟩ rfl ?_
    refine h_t 16 rfl rfl (by kernel_rfl) (fun _ _ _ h => h) ⟨hK, hE⟩ rfl (fun W hW => r_pick rfl rfl) ?_
    refine h_t 17 rfl rfl (by kernel_rfl) (fun _ _ _ h => h) ⟨hK, hE⟩ rfl (fun W hW => r_assign rfl) ?_
    refine h_done (by kernel_rfl) ?_
    refine c_seq ?_
    -- region 2
    refine c_ops ?_
    refine l_val rfl rfl rfl (r_move rfl) ?_
    refine l_val rfl rfl rfl (r_move rfl) ?_
    refine l_val rfl rfl rfl (r_assign rfl) ?_
    refine l_val rfl rfl rfl (r_assign rfl) ?_
    refine l_val rfl rfl rfl (r_assign rfl) ?_
    refine l_nil ?_
    refine c_ret ?_
    rw [hd]
    exact ⟨_, rfl, nil_row _ _ _ _, hE⟩
  · -- slot 18 is False
    have hr18 := hb
    replace hb := of_decide_eq_false hb
    have hd : looseF g f = (decide ((chosenF g f).kind = 1), [], decide ((chosenF g f).kind = 1)) := by unfold looseF; simp [hb]
    refine h_t 11 rfl rfl (by kernel_rfl) (fun _ _ _ h => h) ⟨hK, hE⟩ rfl (fun W hW => r_move rfl) ?_
    refine h_t 12 rfl rfl (by kernel_rfl) (fun _ _ _ h => h) ⟨hK, hE⟩ rfl (fun W hW => r_load_blk_agg rfl Tryd.isAgg37 Tryd.sizeOf37 rfl (hW.1.get 0 rfl) rfl) ?_
    refine h_by 13 rfl rfl (by kernel_rfl) rfl (r_call rfl rfl Tryd.func65 rfl rfl) (chosen_calls _ xb Ag cg g (hg.keep RNode.kept (Ext0.cells hE)) hok (Ext0.cells hE _ _ hx0) f Aw cw (hw.keep RInt.kept (Ext0.cells hE)) hf hi hpos Bk dk Bl dl (fun j v hj => Ext0.cells hE _ _ (hcell2 j v hj))) ?_   -- fact.go:50 slot 21 := (call {callee=(value (func 65)), args=[(tmp 19), (tmp 20)], argTypes=[73, 37]})
    rintro _ w ⟨rfl, hX⟩
    replace hL := hL.ext0 hX
    replace hE := hE.trans hX
    have hK := hL
    refine ⟨_, rfl, ⟨hK, hE⟩, ?_⟩
    refine h_t 14 rfl rfl (by kernel_rfl) (fun _ _ _ h => h) ⟨hK, hE⟩ rfl (fun W hW => r_field rfl Tryd.underlying45 rfl Tryd.isAgg3 rfl rfl) ?_
    refine h_t 15 rfl rfl (by kernel_rfl) (fun _ _ _ h => h) ⟨hK, hE⟩ rfl (fun W hW => r_eql rfl rfl rfl) ?_
    refine h_t 16 rfl rfl (by kernel_rfl) (fun _ _ _ h => h) ⟨hK, hE⟩ rfl (fun W hW => r_pick rfl rfl) ?_
    refine h_t 17 rfl rfl (by kernel_rfl) (fun _ _ _ h => h) ⟨hK, hE⟩ rfl (fun W hW => r_assign rfl) ?_
    refine h_done (by kernel_rfl) ?_
    refine c_seq ?_
    -- region 2
    refine c_ops ?_
    refine l_val rfl rfl rfl (r_move rfl) ?_
    refine l_val rfl rfl rfl (r_move rfl) ?_
    refine l_val rfl rfl rfl (r_assign rfl) ?_
    refine l_val rfl rfl rfl (r_assign rfl) ?_
    refine l_val rfl rfl rfl (r_assign rfl) ?_
    refine l_nil ?_
    refine c_ret ?_
    rw [hd]
    exact ⟨_, rfl, nil_row _ _ _ _, hE⟩
end Go.Proofs.YtndophlnapjkhaaDoor.Vc
