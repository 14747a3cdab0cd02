/- Laws and walks for what the last text proves, part 6: FactLooks of the layer 'fact'. Conditions: those of each statement. -/
import Derived.Test.YtndophlnapjkhaaGreatDoorRows
import Derived.ChangeSame
import Derived.ChangeVars
import Derived.ProofKit
import Derived.LaidMore
import Derived.OpenShut
import Derived.Stop.Joined
import Derived.Deep.Slices
import Derived.LaidLaws
import Derived.Lay
import Derived.ReadAgain
import Derived.Test.YtndophlnapjkhaaGreatDoorPl5
set_option linter.unusedVariables false
set_option linter.unusedSimpArgs false
set_option linter.unusedSectionVars false
namespace Go.Proofs.YtndophlnapjkhaaGreatDoor.Vc
open Go Go.RowKit
set_option linter.unusedVariables false
set_option linter.unusedSimpArgs false
theorem fact12_nat {l : List Fact} {p : Fact → Bool} (h : ∀ j : Nat, j < l.length → p (fat l j) = false) : l.any p = false := by
  rw [List.any_eq_false]
  intro x hx
  obtain ⟨j, hj⟩ := List.mem_iff_getElem?.1 hx
  have hl := (List.getElem?_eq_some_iff.1 hj).1
  have := h j hl
  rw [fat_nat hl] at hj
  cases hj
  simp [this]
theorem rfCheck_calls (w0 : World) (Ag : Option Addr) (cg : Nat) (g : List GNode) (hg : Nodes w0 Ag cg g) (hfit : Fits g) (hn : g.length ≤ 1000000) (Af : Option Addr) (cf : Nat) (l : List Fact) (hl : FactsAt w0 Af cf l) :
    Calls Tryz.prog 16 [.slice Ag g.length cg, .slice Af l.length cf].toArray w0 fun en w' => en = .returned (.int .i64 (checkF g l)) ∧ Ext0 w0 w' := by
  have hE : Ext0 w0 w0 := Ext.refl _ _
  refine calls [4] Tryz.func16 rfl rfl rfl rfl ?_
  refine c_seq ?_
  refine c_ops ?_
  refine l_val rfl rfl rfl (r_assign rfl) ?_
  refine l_nil ?_
  refine c_seq ?_
  refine c_seq ?_
  refine c_ops ?_
  refine l_val rfl rfl rfl (r_move rfl) ?_
  refine l_by rfl rfl rfl (r_call rfl rfl Tryz.func30 rfl rfl) (rCheck_calls _ Ag cg g hg hfit hn) ?_
  rintro _ w ⟨rfl, hX⟩
  replace hE := hE.trans hX
  refine ⟨_, rfl, ?_⟩
  refine l_val rfl rfl rfl (r_assign rfl) ?_
  refine l_nil ?_
  refine c_seq ?_
  refine c_ops ?_
  refine l_val rfl rfl rfl (r_move rfl) ?_
  refine l_val rfl rfl rfl (r_neq rfl rfl rfl) ?_
  refine l_nil ?_
  refine c_cond rfl (fun hb => ?_) (fun hb => ?_)
  · have hr10 := hb
    replace hb := of_decide_eq_false (by simpa using hb)
    have hck : ¬ checkG g = 0 := hb
    refine c_seq ?_
 
    refine c_ops ?_
    refine l_val rfl rfl rfl (r_move rfl) ?_
    refine l_val rfl rfl rfl (r_assign rfl) ?_
    refine l_nil ?_
    refine c_ret ?_
    exact ⟨ret_int rfl (by unfold checkF; rw [if_neg hck]), hE⟩
  · have hr10 := hb
    replace hb := of_decide_eq_true (by simpa using hb)
    have hck : checkG g = 0 := hb
    obtain ⟨hok, _⟩ := ok_of hfit hck
    refine c_skip ?_
    refine c_seq ?_
    refine c_seq ?_
 
    refine c_ops ?_
    refine l_val rfl rfl rfl (r_move rfl) ?_
    refine l_val rfl rfl rfl (r_len rfl Tryz.underlying25 rfl) ?_
    refine l_val rfl rfl rfl (r_gtr rfl rfl rfl) ?_
    refine l_nil ?_
    refine c_cond rfl (fun hb => ?_) (fun hb => ?_)
    · have hr14 := hb
      replace hb := of_decide_eq_true hb
      refine c_seq ?_
   
      refine c_ops ?_
      refine l_val rfl rfl rfl (r_assign rfl) ?_
      refine l_nil ?_
      refine c_ret ?_
      exact ⟨ret_int rfl (by unfold checkF; rw [if_pos hck, if_pos hb]), hE⟩
    · have hr14 := hb
      replace hb := of_decide_eq_false hb
      have h8 : ¬ 8000 < (l.length : Int) := hb
      refine c_skip ?_
      refine c_seq ?_
      refine c_seq ?_
   
      refine c_ops ?_
      refine l_val rfl rfl rfl (r_assign rfl) ?_
      refine l_nil ?_
      refine c_block ?_
   
      refine c_loop [4, 6, 15, 16, 17, 18, 19, 20, 21, 22, 23, 24, 25, 26, 27, 28, 29] (fun m1 e w => ∃ (k : Nat), k ≤ l.length ∧ m1 = l.length - k ∧ e 6 = .int .i64 (k : Nat) ∧ (∀ j : Nat, j < k → (!formedF g l.length (fat l j)) = false) ∧ Ext0 w0 w) (l.length) ?_ ?_
      · exact ⟨0, Nat.zero_le _, rfl, rfl, fun j hj => absurd hj (Nat.not_lt_zero _), hE⟩
      intro m1 e w hI
      obtain ⟨k, hkl, hkm, h6s, hall, hE⟩ := hI
      refine c_know (t := 6) (by exact h6s) ?_
      have hL : Has w [] := trivial
      refine c_seq ?_
      refine c_seq ?_
   
      refine c_ops ?_
      refine l_val rfl rfl rfl (r_move rfl) ?_
      refine l_val rfl rfl rfl (r_move rfl) ?_
      refine l_val rfl rfl rfl (r_len rfl Tryz.underlying25 rfl) ?_
      refine l_val rfl rfl rfl (r_lss rfl rfl rfl) ?_
      refine l_nil ?_
      refine c_cond rfl (fun hb => ?_) (fun hb => ?_)
      · have hr18 := hb
        replace hb := of_decide_eq_true hb
        have hklt : k < l.length := by omega
        refine c_skip ?_
        refine c_seq ?_
        refine c_block ?_
        refine c_seq ?_
     
        refine c_ops ?_
        refine l_val rfl rfl rfl (r_move rfl) ?_
        refine l_val rfl rfl rfl (r_move rfl) ?_
        refine l_val rfl rfl rfl (r_len rfl Tryz.underlying25 rfl) ?_
        refine l_val rfl rfl rfl (r_move rfl) ?_
        refine l_val rfl rfl rfl (r_move rfl) ?_
        refine l_val rfl rfl rfl (r_indexAddr_sl rfl Tryz.underlying25 Tryz.sizeOf43 rfl hl.is rfl (by omega) (by omega)) ?_
        obtain ⟨A1, c1, hfc, hfw⟩ := hl.fact k (by omega) (by omega)
        refine l_val rfl rfl rfl (r_load_agg (vs := factCells (fat l k) A1 c1) rfl Tryz.isAgg43 Tryz.sizeOf43 rfl (fun j v hj => Ext0.cells hE _ _ (hfc j v hj))) ?_
        refine l_by rfl rfl rfl (r_call rfl rfl Tryz.func39 rfl rfl) (formed_rcalls _ Ag cg g (hg.keep RNode.kept (Ext0.cells hE)) hok l.length (fat l k) A1 c1 (hfw.keep RInt.kept (Ext0.cells hE))) ?_
        rintro _ w ⟨rfl, hX⟩
        replace hL := hL.ext0 hX
        replace hE := hE.step0 hX
        refine ⟨_, rfl, ?_⟩
        refine l_val rfl rfl rfl (r_not rfl rfl) ?_
        refine l_nil ?_
        refine c_cond rfl (fun hb => ?_) (fun hb => ?_)
        · have hr29 := hb
          have hno : l.any (fun f => !formedF g l.length f) = true := any_get (fat_nat hklt) hb
          refine c_seq ?_
       
          refine c_ops ?_
          refine l_val rfl rfl rfl (r_assign rfl) ?_
          refine l_nil ?_
          refine c_ret ?_
          exact ⟨ret_int rfl (by unfold checkF; rw [if_pos hck, if_neg h8, if_pos hno]), hE⟩
        · have hr29 := hb
          refine c_skip ?_
       
          refine c_ops ?_
          refine l_val rfl rfl rfl (r_move rfl) ?_
          refine l_val rfl rfl rfl (r_add rfl rfl rfl) ?_
          refine l_val rfl rfl rfl (r_assign rfl) ?_
          refine l_nil ?_
          refine ⟨by repeat (first | exact Agree.over _ _ _ | exact Agree.refl _ _ | (refine Agree.puto ?_ _ _ rfl) | (refine Agree.put ?_ _ _ rfl) | (refine Agree.sub ?_ rfl)), ?_⟩
          exact ⟨l.length - (k + 1), by omega, k + 1, by omega, rfl, by show Value.int .i64 (IntKind.i64.wrap ((k : Int) + 1)) = _; rw [wrap_succ hklt hl.max], fun j hj => by rcases Nat.lt_or_eq_of_le (Nat.le_of_lt_succ hj) with h | rfl <;> first | exact hall j h | exact hb, hE⟩
      · have hr18 := hb
        replace hb := of_decide_eq_false hb
        have hyes : l.any (fun f => !formedF g l.length f) = false := fact12_nat (fun j hj => hall j (by omega))
        refine c_exit ?_
        refine c_seq ?_
     
        refine c_ops ?_
        refine l_val rfl rfl rfl (r_assign rfl) ?_
        refine l_nil ?_
        refine c_ret ?_
        exact ⟨ret_int rfl (by unfold checkF; rw [if_pos hck, if_neg h8, if_neg (by rw [hyes]; decide)]), hE⟩
set_option maxHeartbeats 2000000 in
theorem holds_rcalls (w0 : World) (Ag : Option Addr) (cg : Nat) (g : List GNode) (hg : Nodes w0 Ag cg g) (hok : GraphOk g) (Af : Option Addr) (cf : Nat) (l : List Fact) (hl : FactsAt w0 Af cf l) (k : Int) (hk0 : 0 ≤ k) (hk1 : k < l.length) (hform : formedF g l.length (fat l k) = true) :
    Calls Tryz.prog 38 [.slice Ag g.length cg, .slice Af l.length cf, .int .i64 k].toArray w0 fun en w' => en = .returned (.bool (holdsF g l (fat l k))) ∧ Ext0 w0 w' := by
  have hE : Ext0 w0 w0 := Ext.refl _ _
  have hL : Has w0 [] := trivial
  obtain ⟨hf, hin⟩ := formed_ok hform
  obtain ⟨A1, c1, hfc, hfw⟩ := hl.fact k hk0 hk1
  obtain ⟨on, hon⟩ : ∃ on, on = (byF g (fat l k)).1 := ⟨_, rfl⟩
  obtain ⟨to, hto⟩ : ∃ to, to = onF g (fat l k) := ⟨_, rfl⟩
  have hh : holdsF g l (fat l k) = ((byF g (fat l k)).2 && decide ((on.length : Int) = to.length) && matchF l on to) := by rw [hon, hto]; rfl
  rw [← hto] at hin
  refine calls [6] Tryz.func38 rfl rfl rfl rfl ?_
  refine c_seq ?_
  refine c_ops ?_
  refine l_val rfl rfl rfl (r_assign rfl) ?_
  refine l_nil ?_
  refine c_seq ?_
  refine c_ops ?_
  refine l_val rfl rfl rfl (r_move rfl) ?_
  refine l_val rfl rfl rfl (r_move rfl) ?_
  refine l_val rfl rfl rfl (r_move rfl) ?_
  refine l_val rfl rfl rfl (r_indexAddr_sl rfl Tryz.underlying25 Tryz.sizeOf43 rfl hl.is rfl hk0 hk1) ?_
  refine l_val rfl rfl rfl (r_load_agg (vs := factCells (fat l k) A1 c1) rfl Tryz.isAgg43 Tryz.sizeOf43 rfl (fun j v hj => Ext0.cells hE _ _ (hfc j v hj))) ?_
  refine l_by rfl rfl rfl (r_call rfl rfl Tryz.func58 rfl rfl) (next_rcalls _ Ag cg g (hg.keep RNode.kept (Ext0.cells hE)) hok (fat l k) A1 c1 (hfw.keep RInt.kept (Ext0.cells hE)) hf) ?_
  rintro _ w ⟨v, rfl, hrow, hX⟩
  rw [← hon] at hrow
  replace hL := hL.addRow hX hrow
  replace hE := hE.step0 hX
  obtain ⟨A5, c5, rfl⟩ := ownsRow_slice hrow
  obtain ⟨bm, hL⟩ : ∃ bm, Has w (.row bm _ _ _ _ _ :: _) := ⟨_, hL⟩
  replace hL : Has w [.row bm 32 2 (.slice A5 on.length c5) on.length (on.map cells2).flatten] := hL
  refine ⟨_, rfl, ?_⟩
  refine l_val rfl rfl rfl (r_move rfl) ?_
  refine l_val rfl rfl rfl (r_extract rfl rfl rfl) ?_
  refine l_val rfl rfl rfl (r_extract rfl rfl rfl) ?_
  refine l_val rfl rfl rfl (r_assign rfl) ?_
  refine l_val rfl rfl rfl (r_assign rfl) ?_
  refine l_nil ?_
  refine c_seq ?_
  refine c_ops ?_
  refine l_val rfl rfl rfl (r_move rfl) ?_
  refine l_val rfl rfl rfl (r_move rfl) ?_
  refine l_val rfl rfl rfl (r_move rfl) ?_
  refine l_val rfl rfl rfl (r_indexAddr_sl rfl Tryz.underlying25 Tryz.sizeOf43 rfl hl.is rfl hk0 hk1) ?_
  refine l_val rfl rfl rfl (r_load_agg (vs := factCells (fat l k) A1 c1) rfl Tryz.isAgg43 Tryz.sizeOf43 rfl (fun j v hj => Ext0.cells hE _ _ (hfc j v hj))) ?_
  refine l_by rfl rfl rfl (r_call rfl rfl Tryz.func46 rfl rfl) (on_rcalls _ Ag cg g (hg.keep RNode.kept (Ext0.cells hE)) (fat l k) A1 c1 (hfw.keep RInt.kept (Ext0.cells hE)) hf.a hf.why) ?_
  rintro _ w ⟨A7, c7, rfl, htoI, hX⟩
  replace hL := hL.ext0 hX
  replace hE := hE.step0 hX
  rw [← hto] at htoI ⊢
  have hto0 := htoI w0 hfw
  refine ⟨_, rfl, ?_⟩
  refine l_val rfl rfl rfl (r_assign rfl) ?_
  refine l_nil ?_
  refine c_seq ?_
  refine c_seq ?_
  refine c_ops ?_
  refine l_val rfl rfl rfl (r_move rfl) ?_
  refine l_val rfl rfl rfl (r_not rfl rfl) ?_
  refine l_val rfl rfl rfl (r_move rfl) ?_
  refine l_case 29 rfl (fun hb => ?_) (fun hb => ?_)
  · have hr29 := hb
    have h22 : (byF g (fat l k)).2 = false := by simpa using hb
    have hres : holdsF g l (fat l k) = false := by rw [hh, h22]; rfl
    refine l_not rfl rfl rfl ?_
    refine l_not rfl rfl rfl ?_
    refine l_not rfl rfl rfl ?_
    refine l_not rfl rfl rfl ?_
    refine l_not rfl rfl rfl ?_
    refine l_val rfl rfl rfl (r_pick rfl rfl) ?_
    refine l_nil ?_
    refine c_yes rfl ?_
    refine c_seq ?_
 
    refine c_ops ?_
    refine l_val rfl rfl rfl (r_assign rfl) ?_
    refine l_nil ?_
    refine c_ret ?_
    exact ⟨ret_bool rfl hres.symm, hE⟩
  · have hr29 := hb
    have h22 : (byF g (fat l k)).2 = true := by simpa using hb
    refine l_val rfl rfl rfl (r_move rfl) ?_
    refine l_val rfl rfl rfl (r_len rfl Tryz.underlying23 rfl) ?_
    refine l_val rfl rfl rfl (r_move rfl) ?_
    refine l_val rfl rfl rfl (r_len rfl Tryz.underlying26 rfl) ?_
    refine l_val rfl rfl rfl (r_neq rfl rfl rfl) ?_
    refine l_val rfl rfl rfl (r_pick rfl rfl) ?_
    refine l_nil ?_
    refine c_cond rfl (fun hb => ?_) (fun hb => ?_)
    · have hr35 := hb
      replace hb := of_decide_eq_false (by simpa using hb)
      have h28 : decide ((on.length : Int) = to.length) = false := decide_eq_false hb
      have hres : holdsF g l (fat l k) = false := by rw [hh, h22, h28]; rfl
      refine c_seq ?_
   
      refine c_ops ?_
      refine l_val rfl rfl rfl (r_assign rfl) ?_
      refine l_nil ?_
      refine c_ret ?_
      exact ⟨ret_bool rfl hres.symm, hE⟩
    · have hr35 := hb
      replace hb := of_decide_eq_true (by simpa using hb)
      have h28 : decide ((on.length : Int) = to.length) = true := decide_eq_true hb
      rw [h22, h28, Bool.true_and, Bool.true_and] at hh
      have hlen : on.length = to.length := by omega
      refine c_skip ?_
      refine c_seq ?_
      refine c_seq ?_
   
      refine c_ops ?_
      refine l_val rfl rfl rfl (r_assign rfl) ?_
      refine l_nil ?_
      refine c_block ?_
   
      refine c_loop [6, 10, 11, 36, 37, 38, 39, 40, 41, 42, 43, 44, 45, 46, 47, 48, 49, 50, 51, 52, 53, 54, 55, 56, 57, 58, 59, 60, 61, 62, 63, 64, 65, 66] (fun m1 e w => ∃ (i : Nat), i ≤ on.length ∧ m1 = on.length - i ∧ e 10 = .int .i64 (i : Nat) ∧ matchF l on to = matchF l (on.drop i) (to.drop i) ∧ Has w [.row bm 32 2 (.slice A5 on.length c5) on.length (on.map cells2).flatten] ∧ Ext0 w0 w) (on.length) ?_ ?_
      · exact ⟨0, Nat.zero_le _, rfl, rfl, rfl, hL, hE⟩
      intro m1 e w hI
      obtain ⟨i, hil, him, h10s, hmf, hL, hE⟩ := hI
      refine c_know (t := 10) (by exact h10s) ?_
      refine c_seq ?_
      refine c_seq ?_
   
      refine c_ops ?_
      refine l_val rfl rfl rfl (r_move rfl) ?_
      refine l_val rfl rfl rfl (r_move rfl) ?_
      refine l_val rfl rfl rfl (r_len rfl Tryz.underlying23 rfl) ?_
      refine l_val rfl rfl rfl (r_lss rfl rfl rfl) ?_
      refine l_nil ?_
      refine c_cond rfl (fun hb => ?_) (fun hb => ?_)
      · have hr39 := hb
        replace hb := of_decide_eq_true hb
        have hilt : i < on.length := by omega
        have hpk := pat_nat hilt
        have hik := iat_nat (show i < to.length by omega)
        have hkk := hin _ (List.mem_of_getElem? hik)
        have hstep := matchF_step l hpk hik
        obtain ⟨A2, c2, hfc2, _⟩ := hl.fact (iat to i) hkk.1 hkk.2
        refine c_skip ?_
        refine c_seq ?_
        refine c_block ?_
        refine c_seq ?_
     
        refine c_ops ?_
        refine l_val rfl rfl rfl (r_move rfl) ?_
        refine l_val rfl rfl rfl (r_move rfl) ?_
        refine l_val rfl rfl rfl (r_move rfl) ?_
        refine l_val rfl rfl rfl (r_indexAddr_sl rfl Tryz.underlying26 Tryz.sizeOf3 rfl hto0.is rfl (by omega) (by omega)) ?_
        refine l_val rfl rfl rfl (r_load (v := .int .i64 (iat to i)) rfl Tryz.isAgg3 rfl ((hto0.keep RInt.kept (Ext0.cells hE)).int i (by omega) (by omega))) ?_
        refine l_val rfl rfl rfl (r_indexAddr_sl rfl Tryz.underlying25 Tryz.sizeOf43 rfl hl.is rfl hkk.1 hkk.2) ?_
        refine l_val rfl rfl rfl (r_load_agg (vs := factCells (fat l (iat to i)) A2 c2) rfl Tryz.isAgg43 Tryz.sizeOf43 rfl (fun j v hj => Ext0.cells hE _ _ (hfc2 j v hj))) ?_
        refine l_new rfl rfl rfl (n_alloc rfl Tryz.zeroValue43 hL hE) ?_
        rintro _ w ⟨b11, rfl, hb11, hL, hE, hX⟩
        refine l_new_do rfl rfl (r_store 0 rfl Tryz.sizeOf43 rfl hL hE rfl rfl rfl rfl (fun h => absurd h (Nat.not_lt.2 hb11))) ?_
        rintro w ⟨hL, hE, hz, hk⟩; replace hL : Has w [.blk b11 (.cells (factCells (fat l (iat to i)) A2 c2).toArray 43 (0, 0)), .row bm 32 2 (.slice A5 on.length c5) on.length (on.map cells2).flatten] := hL
        refine l_nil ?_
        refine c_seq ?_
     
        refine c_draw mixed (hL) hE ?_
        replace hL := hL.drew
        replace hE := hE.drew
        have hK := hL
        refine h_t 0 rfl rfl (by kernel_rfl) (fun _ _ _ h => h) ⟨hK, hE⟩ rfl (fun W hW => r_fieldAddr (n := 0) rfl Tryz.underlying43 rfl Tryz.sizeOf3 rfl) ?_
        refine h_listed (listed' := #[T',F',F',F',F',F',F',F',F',F',F',F',F',F',F',F',F',F']) (by kernel_rfl) ?_
        refine h_t 1 rfl rfl (by kernel_rfl) (fun _ _ _ h => h) ⟨hK, hE⟩ rfl (fun W hW => r_load_blk rfl Tryz.isAgg3 rfl (hW.1.get 0 rfl) rfl) ?_
        refine h_listed (listed' := #[T',T',F',F',F',F',F',F',F',F',F',F',F',F',F',F',F',F']) (by kernel_rfl) ?_
        refine h_t 2 rfl rfl (by kernel_rfl) (fun _ _ _ h => h) ⟨hK, hE⟩ rfl (fun W hW => r_move rfl) ?_
        refine h_listed (listed' := #[T',T',T',F',F',F',F',F',F',F',F',F',F',F',F',F',F',F']) (by kernel_rfl) ?_
        refine h_t 3 rfl rfl (by kernel_rfl) (fun _ _ _ h => h) ⟨hK, hE⟩ rfl (fun W hW => r_move rfl) ?_
        refine h_listed (listed' := #[T',T',T',T',F',F',F',F',F',F',F',F',F',F',F',F',F',F']) (by kernel_rfl) ?_
        refine h_t 4 rfl rfl (by kernel_rfl) (fun _ _ _ h => h) ⟨hK, hE⟩ rfl (fun W hW => r_indexAddr_sl rfl Tryz.underlying23 Tryz.sizeOf32 rfl (Sl.pairs_at (hL.row 1 rfl)).is rfl (by omega) (by omega)) ?_
        refine h_listed (listed' := #[T',T',T',T',T',F',F',F',F',F',F',F',F',F',F',F',F',F']) (by kernel_rfl) ?_
        refine h_t 5 rfl rfl (by kernel_rfl) (fun _ _ _ h => h) ⟨hK, hE⟩ rfl (fun W hW => r_indexAddr_arr rfl Tryz.underlying32 Tryz.sizeOf3 rfl rfl (by decide) (by decide)) ?_
        refine h_listed (listed' := #[T',T',T',T',T',T',F',F',F',F',F',F',F',F',F',F',F',F']) (by kernel_rfl) ?_
        refine h_t 6 rfl rfl (by kernel_rfl) (fun _ _ _ h => h) ⟨hK, hE⟩ rfl (fun W hW => r_load (v := .int .i64 (on.getD (i : Int).toNat (0, 0)).1) rfl Tryz.isAgg3 rfl ((Sl.pairs_at (hW.1.row 1 rfl)).pair i (by omega) (by omega) 0 _ rfl)) ?_
        refine h_listed (listed' := #[T',T',T',T',T',T',T',F',F',F',F',F',F',F',F',F',F',F']) (by kernel_rfl) ?_
        refine h_t 7 rfl rfl (by kernel_rfl) (fun _ _ _ h => h) ⟨hK, hE⟩ rfl (fun W hW => r_neq rfl rfl rfl) ?_
        refine h_listed (listed' := #[T',T',T',T',T',T',T',T',F',F',F',F',F',F',F',F',F',F']) (by kernel_rfl) ?_
        refine h_t 8 rfl rfl (by kernel_rfl) (fun _ _ _ h => h) ⟨hK, hE⟩ rfl (fun W hW => r_move rfl) ?_
        refine h_listed (listed' := #[T',T',T',T',T',T',T',T',T',F',F',F',F',F',F',F',F',F']) (by kernel_rfl) ?_
        refine h_case 57 rfl (fun hb => ?_) (fun hb => ?_)
        · have hr57 := hb
          replace hb := of_decide_eq_false (by simpa using hb)
          have h52 : decide ((on.getD (i : Int).toNat (0, 0)) = ((fat l (iat to i)).a, (fat l (iat to i)).b)) = false := decide_eq_false fun e => hb (congrArg Prod.fst e).symm
          have hres : holdsF g l (fat l k) = false := by rw [hh, hmf, hstep, h52]; rfl
          refine h_listed (listed' := #[T',T',T',T',T',T',T',T',T',F',F',F',F',F',F',F',F',F']) (by kernel_rfl) ?_
          refine h_n 9 rfl rfl (by kernel_rfl) (fun _ _ _ h => h) ⟨hK, hE⟩ rfl ?_
          refine h_listed (listed' := #[T',T',T',T',T',T',T',T',T',T',F',F',F',F',F',F',F',F']) (by kernel_rfl) ?_
          refine h_n 10 rfl rfl (by kernel_rfl) (fun _ _ _ h => h) ⟨hK, hE⟩ rfl ?_
          refine h_listed (listed' := #[T',T',T',T',T',T',T',T',T',T',T',F',F',F',F',F',F',F']) (by kernel_rfl) ?_
          refine h_n 11 rfl rfl (by kernel_rfl) (fun _ _ _ h => h) ⟨hK, hE⟩ rfl ?_
          refine h_listed (listed' := #[T',T',T',T',T',T',T',T',T',T',T',T',F',F',F',F',F',F']) (by kernel_rfl) ?_
          refine h_n 12 rfl rfl (by kernel_rfl) (fun _ _ _ h => h) ⟨hK, hE⟩ rfl ?_
          refine h_listed (listed' := #[T',T',T',T',T',T',T',T',T',T',T',T',T',F',F',F',F',F']) (by kernel_rfl) ?_
          refine h_n 13 rfl rfl (by kernel_rfl) (fun _ _ _ h => h) ⟨hK, hE⟩ rfl ?_
          refine h_listed (listed' := #[T',T',T',T',T',T',T',T',T',T',T',T',T',T',F',F',F',F']) (by kernel_rfl) ?_
          refine h_n 14 rfl rfl (by kernel_rfl) (fun _ _ _ h => h) ⟨hK, hE⟩ rfl ?_
          refine h_listed (listed' := #[T',T',T',T',T',T',T',T',T',T',T',T',T',T',T',F',F',F']) (by kernel_rfl) ?_
          refine h_n 15 rfl rfl (by kernel_rfl) (fun _ _ _ h => h) ⟨hK, hE⟩ rfl ?_
          refine h_listed (listed' := #[T',T',T',T',T',T',T',T',T',T',T',T',T',T',T',T',F',F']) (by kernel_rfl) ?_
          refine h_n 16 rfl rfl (by kernel_rfl) (fun _ _ _ h => h) ⟨hK, hE⟩ rfl ?_
          refine h_listed (listed' := #[T',T',T',T',T',T',T',T',T',T',T',T',T',T',T',T',T',F']) (by kernel_rfl) ?_
          refine h_t 17 rfl rfl (by kernel_rfl) (fun _ _ _ h => h) ⟨hK, hE⟩ rfl (fun W hW => r_pick rfl rfl) ?_
          refine h_listed (listed' := #[T',T',T',T',T',T',T',T',T',T',T',T',T',T',T',T',T',T']) (by kernel_rfl) ?_
          refine h_done (by kernel_rfl) ?_
          refine c_yes rfl ?_
          refine c_seq ?_
       
          refine c_ops ?_
          refine l_val rfl rfl rfl (r_assign rfl) ?_
          refine l_nil ?_
          refine c_ret ?_
          exact ⟨ret_bool rfl hres.symm, hE⟩
        · have hr57 := hb
          replace hb := of_decide_eq_true (by simpa using hb)
          have hfst := hb
          refine h_listed (listed' := #[T',T',T',T',T',T',T',T',T',F',F',F',F',F',F',F',F',F']) (by kernel_rfl) ?_
          refine h_t 9 rfl rfl (by kernel_rfl) (fun _ _ _ h => h) ⟨hK, hE⟩ rfl (fun W hW => r_fieldAddr (n := 0) rfl Tryz.underlying43 rfl Tryz.sizeOf3 rfl) ?_
          refine h_listed (listed' := #[T',T',T',T',T',T',T',T',T',T',F',F',F',F',F',F',F',F']) (by kernel_rfl) ?_
          refine h_t 10 rfl rfl (by kernel_rfl) (fun _ _ _ h => h) ⟨hK, hE⟩ rfl (fun W hW => r_load_blk rfl Tryz.isAgg3 rfl (hW.1.get 0 rfl) rfl) ?_
          refine h_listed (listed' := #[T',T',T',T',T',T',T',T',T',T',T',F',F',F',F',F',F',F']) (by kernel_rfl) ?_
          refine h_t 11 rfl rfl (by kernel_rfl) (fun _ _ _ h => h) ⟨hK, hE⟩ rfl (fun W hW => r_move rfl) ?_
          refine h_listed (listed' := #[T',T',T',T',T',T',T',T',T',T',T',T',F',F',F',F',F',F']) (by kernel_rfl) ?_
          refine h_t 12 rfl rfl (by kernel_rfl) (fun _ _ _ h => h) ⟨hK, hE⟩ rfl (fun W hW => r_move rfl) ?_
          refine h_listed (listed' := #[T',T',T',T',T',T',T',T',T',T',T',T',T',F',F',F',F',F']) (by kernel_rfl) ?_
          refine h_t 13 rfl rfl (by kernel_rfl) (fun _ _ _ h => h) ⟨hK, hE⟩ rfl (fun W hW => r_indexAddr_sl rfl Tryz.underlying23 Tryz.sizeOf32 rfl (Sl.pairs_at (hL.row 1 rfl)).is rfl (by omega) (by omega)) ?_
          refine h_listed (listed' := #[T',T',T',T',T',T',T',T',T',T',T',T',T',T',F',F',F',F']) (by kernel_rfl) ?_
          refine h_t 14 rfl rfl (by kernel_rfl) (fun _ _ _ h => h) ⟨hK, hE⟩ rfl (fun W hW => r_indexAddr_arr rfl Tryz.underlying32 Tryz.sizeOf3 rfl rfl (by decide) (by decide)) ?_
          refine h_listed (listed' := #[T',T',T',T',T',T',T',T',T',T',T',T',T',T',T',F',F',F']) (by kernel_rfl) ?_
          refine h_t 15 rfl rfl (by kernel_rfl) (fun _ _ _ h => h) ⟨hK, hE⟩ rfl (fun W hW => r_load (v := .int .i64 (on.getD (i : Int).toNat (0, 0)).2) rfl Tryz.isAgg3 rfl ((Sl.pairs_at (hW.1.row 1 rfl)).pair i (by omega) (by omega) 1 _ rfl)) ?_
          refine h_listed (listed' := #[T',T',T',T',T',T',T',T',T',T',T',T',T',T',T',T',F',F']) (by kernel_rfl) ?_
          refine h_t 16 rfl rfl (by kernel_rfl) (fun _ _ _ h => h) ⟨hK, hE⟩ rfl (fun W hW => r_neq rfl rfl rfl) ?_
          refine h_listed (listed' := #[T',T',T',T',T',T',T',T',T',T',T',T',T',T',T',T',T',F']) (by kernel_rfl) ?_
          refine h_t 17 rfl rfl (by kernel_rfl) (fun _ _ _ h => h) ⟨hK, hE⟩ rfl (fun W hW => r_pick rfl rfl) ?_
          refine h_listed (listed' := #[T',T',T',T',T',T',T',T',T',T',T',T',T',T',T',T',T',T']) (by kernel_rfl) ?_
          refine h_done (by kernel_rfl) ?_
          refine c_cond rfl (fun hb => ?_) (fun hb => ?_)
          · have hr66 := hb
            replace hb := of_decide_eq_false (by simpa using hb)
            have h52 : decide ((on.getD (i : Int).toNat (0, 0)) = ((fat l (iat to i)).a, (fat l (iat to i)).b)) = false := decide_eq_false fun e => hb (congrArg Prod.snd e).symm
            have hres : holdsF g l (fat l k) = false := by rw [hh, hmf, hstep, h52]; rfl
            refine c_seq ?_
         
            refine c_ops ?_
            refine l_val rfl rfl rfl (r_assign rfl) ?_
            refine l_nil ?_
            refine c_ret ?_
            exact ⟨ret_bool rfl hres.symm, hE⟩
          · have hr66 := hb
            replace hb := of_decide_eq_true (by simpa using hb)
            have h52 : decide ((on.getD (i : Int).toNat (0, 0)) = ((fat l (iat to i)).a, (fat l (iat to i)).b)) = true := decide_eq_true (Prod.ext (Eq.symm hfst) (Eq.symm hb))
            have hmf2 : matchF l on to = matchF l (on.drop (i + 1)) (to.drop (i + 1)) := by rw [hmf, hstep, h52]; rfl
            refine c_skip ?_
         
            refine c_ops ?_
            refine l_val rfl rfl rfl (r_move rfl) ?_
            refine l_val rfl rfl rfl (r_add rfl rfl rfl) ?_
            refine l_val rfl rfl rfl (r_assign rfl) ?_
            refine l_nil ?_
            refine ⟨by repeat (first | exact Agree.over _ _ _ | exact Agree.refl _ _ | (refine Agree.puto ?_ _ _ rfl) | (refine Agree.put ?_ _ _ rfl) | (refine Agree.sub ?_ rfl)), ?_⟩
            exact ⟨on.length - (i + 1), by omega, i + 1, by omega, rfl, by show Value.int .i64 (IntKind.i64.wrap ((i : Int) + 1)) = _; rw [wrap_succ hilt (Sl.pairs_at (hL.row 1 rfl)).max], hmf2, hL.tail, hE⟩
      · have hr39 := hb
        replace hb := of_decide_eq_false hb
        have hres : holdsF g l (fat l k) = true := by rw [hh, hmf, List.drop_eq_nil_of_le (by omega)]; rfl
        refine c_exit ?_
        refine c_seq ?_
     
        refine c_ops ?_
        refine l_val rfl rfl rfl (r_assign rfl) ?_
        refine l_nil ?_
        refine c_ret ?_
        exact ⟨ret_bool rfl hres.symm, hE⟩
end Go.Proofs.YtndophlnapjkhaaGreatDoor.Vc
namespace Go.Proofs.YtndophlnapjkhaaGreatDoor.Vc
open Go Go.RowKit
set_option linter.unusedVariables false
set_option linter.unusedSimpArgs false
theorem rHolds_calls (w0 : World) (Ag : Option Addr) (cg : Nat) (g : List GNode) (hg : Nodes w0 Ag cg g) (hfit : Fits g) (hn : g.length ≤ 1000000) (Af : Option Addr) (cf : Nat) (l : List Fact) (hl : FactsAt w0 Af cf l) (k : Int) :
    Calls Tryz.prog 18 [.slice Ag g.length cg, .slice Af l.length cf, .int .i64 k].toArray w0 fun en w' => en = .returned (.bool (holdsAt g l k)) ∧ Ext0 w0 w' := by
  have hE : Ext0 w0 w0 := Ext.refl _ _
  refine calls [6] Tryz.func18 rfl rfl rfl rfl ?_
  refine c_seq ?_
  refine c_ops ?_
  refine l_val rfl rfl rfl (r_assign rfl) ?_
  refine l_nil ?_
  refine c_seq ?_
  refine c_ops ?_
  refine l_val rfl rfl rfl (r_move rfl) ?_
  refine l_val rfl rfl rfl (r_move rfl) ?_
  refine l_by rfl rfl rfl (r_call rfl rfl Tryz.func16 rfl rfl) (rfCheck_calls _ Ag cg g hg hfit hn Af cf l hl) ?_
  rintro _ w ⟨rfl, hX⟩
  replace hE := hE.trans hX
  refine ⟨_, rfl, ?_⟩
  refine l_val rfl rfl rfl (r_eql rfl rfl rfl) ?_
  refine l_val rfl rfl rfl (r_move rfl) ?_
  refine l_case 11 rfl (fun hb => ?_) (fun hb => ?_)
  · have hr11 := hb
    replace hb := of_decide_eq_true hb
    have hck : checkF g l = 0 := hb
    obtain ⟨hok, _, hall⟩ := checkF_ok hfit hck
    refine l_val rfl rfl rfl (r_move rfl) ?_
    refine l_val rfl rfl rfl (r_geq rfl rfl rfl) ?_
    refine l_val rfl rfl rfl (r_pick rfl rfl) ?_
    refine l_val rfl rfl rfl (r_move rfl) ?_
    refine l_case 15 rfl (fun hb => ?_) (fun hb => ?_)
    · have hr15 := hb
      replace hb := of_decide_eq_true hb
      have h1 : 0 ≤ k := hb
      refine l_val rfl rfl rfl (r_move rfl) ?_
      refine l_val rfl rfl rfl (r_move rfl) ?_
      refine l_val rfl rfl rfl (r_len rfl Tryz.underlying25 rfl) ?_
      refine l_val rfl rfl rfl (r_lss rfl rfl rfl) ?_
      refine l_val rfl rfl rfl (r_pick rfl rfl) ?_
      refine l_val rfl rfl rfl (r_move rfl) ?_
      refine l_case 21 rfl (fun hb => ?_) (fun hb => ?_)
      · have hr21 := hb
        replace hb := of_decide_eq_true hb
        have h2 : k < l.length := hb
        refine l_val rfl rfl rfl (r_move rfl) ?_
        refine l_val rfl rfl rfl (r_move rfl) ?_
        refine l_val rfl rfl rfl (r_move rfl) ?_
        refine l_by rfl rfl rfl (r_call rfl rfl Tryz.func38 rfl rfl) (holds_rcalls _ Ag cg g (hg.keep RNode.kept (Ext0.cells hE)) hok Af cf l (hl.keep RFact.kept (Ext0.cells hE)) k h1 h2 (hall _ (fat_mem h1 h2))) ?_
        rintro _ w ⟨rfl, hX⟩
        replace hE := hE.trans hX
        refine ⟨_, rfl, ?_⟩
        refine l_val rfl rfl rfl (r_pick rfl rfl) ?_
        refine l_val rfl rfl rfl (r_assign rfl) ?_
        refine l_nil ?_
        refine c_ret ?_
        exact ⟨ret_bool rfl (by simp only [holdsAt, hr11, hr15, hr21, Bool.true_and, Bool.and_true, Bool.false_and, Bool.and_false, Bool.true_or, Bool.or_true, Bool.false_or, Bool.or_false, Bool.not_true, Bool.not_false, cond_true, cond_false]), hE⟩
      · have hr21 := hb
        replace hb := of_decide_eq_false hb
        refine l_not rfl rfl rfl ?_
        refine l_not rfl rfl rfl ?_
        refine l_not rfl rfl rfl ?_
        refine l_not rfl rfl rfl ?_
        refine l_val rfl rfl rfl (r_pick rfl rfl) ?_
        refine l_val rfl rfl rfl (r_assign rfl) ?_
        refine l_nil ?_
        refine c_ret ?_
        exact ⟨ret_bool rfl (by simp only [holdsAt, hr11, hr15, hr21, Bool.true_and, Bool.and_true, Bool.false_and, Bool.and_false, Bool.true_or, Bool.or_true, Bool.false_or, Bool.or_false, Bool.not_true, Bool.not_false, cond_true, cond_false]), hE⟩
    · have hr15 := hb
      replace hb := of_decide_eq_false hb
      refine l_not rfl rfl rfl ?_
      refine l_not rfl rfl rfl ?_
      refine l_not rfl rfl rfl ?_
      refine l_not rfl rfl rfl ?_
      refine l_val rfl rfl rfl (r_pick rfl rfl) ?_
      refine l_val rfl rfl rfl (r_move rfl) ?_
      refine l_not rfl rfl rfl ?_
      refine l_not rfl rfl rfl ?_
      refine l_not rfl rfl rfl ?_
      refine l_not rfl rfl rfl ?_
      refine l_val rfl rfl rfl (r_pick rfl rfl) ?_
      refine l_val rfl rfl rfl (r_assign rfl) ?_
      refine l_nil ?_
      refine c_ret ?_
      exact ⟨ret_bool rfl (by simp only [holdsAt, hr11, hr15, Bool.true_and, Bool.and_true, Bool.false_and, Bool.and_false, Bool.true_or, Bool.or_true, Bool.false_or, Bool.or_false, Bool.not_true, Bool.not_false, cond_true, cond_false]), hE⟩
  · have hr11 := hb
    replace hb := of_decide_eq_false hb
    refine l_not rfl rfl rfl ?_
    refine l_not rfl rfl rfl ?_
    refine l_val rfl rfl rfl (r_pick rfl rfl) ?_
    refine l_val rfl rfl rfl (r_move rfl) ?_
    refine l_not rfl rfl rfl ?_
    refine l_not rfl rfl rfl ?_
    refine l_not rfl rfl rfl ?_
    refine l_not rfl rfl rfl ?_
    refine l_val rfl rfl rfl (r_pick rfl rfl) ?_
    refine l_val rfl rfl rfl (r_move rfl) ?_
    refine l_not rfl rfl rfl ?_
    refine l_not rfl rfl rfl ?_
    refine l_not rfl rfl rfl ?_
    refine l_not rfl rfl rfl ?_
    refine l_val rfl rfl rfl (r_pick rfl rfl) ?_
    refine l_val rfl rfl rfl (r_assign rfl) ?_
    refine l_nil ?_
    refine c_ret ?_
    exact ⟨ret_bool rfl (by simp only [holdsAt, hr11, Bool.true_and, Bool.and_true, Bool.false_and, Bool.and_false, Bool.true_or, Bool.or_true, Bool.false_or, Bool.or_false, Bool.not_true, Bool.not_false, cond_true, cond_false]), hE⟩
theorem first_step {g : List GNode} {l : List Fact} {k : Nat} (hk : k < l.length) : findS (fun (_ : Unit) f => (!holdsF g l f, ())) k () (l.drop k) = if holdsF g l (fat l k) then findS (fun (_ : Unit) f => (!holdsF g l f, ())) (k + 1) () (l.drop (k + 1)) else (some k, ()) := by
  rw [findS_step (fun (_ : Unit) f => (!holdsF g l f, ())) () l k _ (fat_nat hk)]
  cases holdsF g l (fat l k) <;> rfl
theorem rFirst_calls (w0 : World) (Ag : Option Addr) (cg : Nat) (g : List GNode) (hg : Nodes w0 Ag cg g) (hfit : Fits g) (hn : g.length ≤ 1000000) (Af : Option Addr) (cf : Nat) (l : List Fact) (hl : FactsAt w0 Af cf l) :
    Calls Tryz.prog 14 [.slice Ag g.length cg, .slice Af l.length cf].toArray w0 fun en w' => en = .returned (.tuple #[.int .i64 (if checkF g l = 0 then firstF g l else 0), .int .i64 (checkF g l)]) ∧ Ext0 w0 w' := by
  have hE : Ext0 w0 w0 := Ext.refl _ _
  refine calls [4, 5] Tryz.func14 rfl rfl rfl rfl ?_
  refine c_seq ?_
  refine c_ops ?_
  refine l_val rfl rfl rfl (r_assign rfl) ?_
  refine l_val rfl rfl rfl (r_assign rfl) ?_
  refine l_nil ?_
  refine c_seq ?_
  refine c_seq ?_
  refine c_ops ?_
  refine l_val rfl rfl rfl (r_move rfl) ?_
  refine l_val rfl rfl rfl (r_move rfl) ?_
  refine l_by rfl rfl rfl (r_call rfl rfl Tryz.func16 rfl rfl) (rfCheck_calls _ Ag cg g hg hfit hn Af cf l hl) ?_
  rintro _ w ⟨rfl, hX⟩
  replace hE := hE.trans hX
  refine ⟨_, rfl, ?_⟩
  refine l_val rfl rfl rfl (r_assign rfl) ?_
  refine l_nil ?_
  refine c_seq ?_
  refine c_ops ?_
  refine l_val rfl rfl rfl (r_move rfl) ?_
  refine l_val rfl rfl rfl (r_neq rfl rfl rfl) ?_
  refine l_nil ?_
  refine c_cond rfl (fun hb => ?_) (fun hb => ?_)
  · have hr12 := hb
    replace hb := of_decide_eq_false (by simpa using hb)
    have hck : ¬ checkF g l = 0 := hb
    refine c_seq ?_
 
    refine c_ops ?_
    refine l_val rfl rfl rfl (r_move rfl) ?_
    refine l_val rfl rfl rfl (r_assign rfl) ?_
    refine l_val rfl rfl rfl (r_assign rfl) ?_
    refine l_nil ?_
    refine c_ret ?_
    exact ⟨by rw [if_neg hck]; rfl, hE⟩
  · have hr12 := hb
    replace hb := of_decide_eq_true (by simpa using hb)
    have hck : checkF g l = 0 := hb
    obtain ⟨hok, _, hall⟩ := checkF_ok hfit hck
    refine c_skip ?_
    refine c_seq ?_
    refine c_seq ?_
 
    refine c_ops ?_
    refine l_val rfl rfl rfl (r_assign rfl) ?_
    refine l_nil ?_
    refine c_block ?_
 
    refine c_loop [4, 5, 7, 14, 15, 16, 17, 18, 19, 20, 21, 22, 23, 24, 25] (fun m1 e w => ∃ (k : Nat), k ≤ l.length ∧ m1 = l.length - k ∧ e 7 = .int .i64 (k : Nat) ∧ firstF g l = idxV (findS (fun (_ : Unit) f => (!holdsF g l f, ())) k () (l.drop k)).1 ∧ Ext0 w0 w) (l.length) ?_ ?_
    · exact ⟨0, Nat.zero_le _, rfl, rfl, rfl, hE⟩
    intro m1 e w hI
    obtain ⟨k, hkl, hkm, h7s, hfind, hE⟩ := hI
    refine c_know (t := 7) (by exact h7s) ?_
    have hL : Has w [] := trivial
    refine c_seq ?_
    refine c_seq ?_
 
    refine c_ops ?_
    refine l_val rfl rfl rfl (r_move rfl) ?_
    refine l_val rfl rfl rfl (r_move rfl) ?_
    refine l_val rfl rfl rfl (r_len rfl Tryz.underlying25 rfl) ?_
    refine l_val rfl rfl rfl (r_lss rfl rfl rfl) ?_
    refine l_nil ?_
    refine c_cond rfl (fun hb => ?_) (fun hb => ?_)
    · have hr17 := hb
      replace hb := of_decide_eq_true hb
      have hklt : k < l.length := by omega
      refine c_skip ?_
      refine c_seq ?_
      refine c_block ?_
      refine c_seq ?_
   
      refine c_ops ?_
      refine l_val rfl rfl rfl (r_move rfl) ?_
      refine l_val rfl rfl rfl (r_move rfl) ?_
      refine l_val rfl rfl rfl (r_move rfl) ?_
      refine l_by rfl rfl rfl (r_call rfl rfl Tryz.func38 rfl rfl) (holds_rcalls _ Ag cg g (hg.keep RNode.kept (Ext0.cells hE)) hok Af cf l (hl.keep RFact.kept (Ext0.cells hE)) k (by omega) (by omega) (hall _ (fat_mem (by omega) (by omega)))) ?_
      rintro _ w ⟨rfl, hX⟩
      replace hL := hL.ext0 hX
      replace hE := hE.step0 hX
      refine ⟨_, rfl, ?_⟩
      refine l_val rfl rfl rfl (r_not rfl rfl) ?_
      refine l_nil ?_
      refine c_cond rfl (fun hb => ?_) (fun hb => ?_)
      · have hr24 := hb
        refine c_seq ?_
     
        refine c_ops ?_
        refine l_val rfl rfl rfl (r_move rfl) ?_
        refine l_val rfl rfl rfl (r_assign rfl) ?_
        refine l_val rfl rfl rfl (r_assign rfl) ?_
        refine l_nil ?_
        refine c_ret ?_
        exact ⟨by rw [if_pos hck, hck, hfind, first_step hklt, if_neg (by rw [show holdsF g l (fat l k) = false by simpa using hb]; decide)]; rfl, hE⟩
      · have hr24 := hb
        refine c_skip ?_
     
        refine c_ops ?_
        refine l_val rfl rfl rfl (r_move rfl) ?_
        refine l_val rfl rfl rfl (r_add rfl rfl rfl) ?_
        refine l_val rfl rfl rfl (r_assign rfl) ?_
        refine l_nil ?_
        refine ⟨by repeat (first | exact Agree.over _ _ _ | exact Agree.refl _ _ | (refine Agree.puto ?_ _ _ rfl) | (refine Agree.put ?_ _ _ rfl) | (refine Agree.sub ?_ rfl)), ?_⟩
        exact ⟨l.length - (k + 1), by omega, k + 1, by omega, rfl, by show Value.int .i64 (IntKind.i64.wrap ((k : Int) + 1)) = _; rw [wrap_succ hklt hl.max], by rw [hfind, first_step hklt, if_pos (by simpa using hb)], hE⟩
    · have hr17 := hb
      replace hb := of_decide_eq_false hb
      refine c_exit ?_
      refine c_seq ?_
   
      refine c_ops ?_
      refine l_val rfl rfl rfl (r_assign rfl) ?_
      refine l_val rfl rfl rfl (r_assign rfl) ?_
      refine l_nil ?_
      refine c_ret ?_
      exact ⟨by rw [if_pos hck, hck, hfind, findS_end _ _ _ _ (by omega)]; rfl, hE⟩
theorem fat_ne {a b : List Fact} {k : Nat} (h : ¬ fat a k = fat b k) : a ≠ b := fun e => h (by rw [e])
theorem rSame_calls (w0 : World) (A : Option Addr) (c : Nat) (a : List Fact) (ha : FactsAt w0 A c a) (B : Option Addr) (d : Nat) (b : List Fact) (hb' : FactsAt w0 B d b) :
    Calls Tryz.prog 9 [.slice A a.length c, .slice B b.length d].toArray w0 fun en w' => en = .returned (.bool (decide (a = b))) ∧ Ext0 w0 w' := by
  have hE : Ext0 w0 w0 := Ext.refl _ _
  refine calls [4] Tryz.func9 rfl rfl rfl rfl ?_
  refine c_seq ?_
  refine c_ops ?_
  refine l_val rfl rfl rfl (r_assign rfl) ?_
  refine l_nil ?_
  refine c_seq ?_
  refine c_seq ?_
  refine c_ops ?_
  refine l_val rfl rfl rfl (r_move rfl) ?_
  refine l_val rfl rfl rfl (r_len rfl Tryz.underlying25 rfl) ?_
  refine l_val rfl rfl rfl (r_move rfl) ?_
  refine l_val rfl rfl rfl (r_len rfl Tryz.underlying25 rfl) ?_
  refine l_val rfl rfl rfl (r_neq rfl rfl rfl) ?_
  refine l_nil ?_
  refine c_cond rfl (fun hb => ?_) (fun hb => ?_)
  · have hr10 := hb
    replace hb := of_decide_eq_false (by simpa using hb)
    have hne : a ≠ b := fun e => hb (by rw [e])
    refine c_seq ?_
 
    refine c_ops ?_
    refine l_val rfl rfl rfl (r_assign rfl) ?_
    refine l_nil ?_
    refine c_ret ?_
    exact ⟨ret_bool rfl (decide_eq_false hne).symm, hE⟩
  · have hr10 := hb
    replace hb := of_decide_eq_true (by simpa using hb)
    have hll : a.length = b.length := by omega
    refine c_skip ?_
    refine c_seq ?_
    refine c_seq ?_
 
    refine c_ops ?_
    refine l_val rfl rfl rfl (r_assign rfl) ?_
    refine l_nil ?_
    refine c_block ?_
 
    refine c_loop [4, 5, 11, 12, 13, 14, 15, 16, 17, 18, 19, 20, 21, 22, 23, 24, 25, 26, 27, 28, 29, 30, 31, 32, 33, 34, 35, 36, 37, 38, 39, 40, 41, 42, 43, 44, 45, 46, 47, 48, 49, 50, 51, 52, 53, 54] (fun m1 e w => ∃ (k : Nat), k ≤ a.length ∧ m1 = a.length - k ∧ e 5 = .int .i64 (k : Nat) ∧ (∀ j : Nat, j < k → fat a j = fat b j) ∧ Ext0 w0 w) (a.length) ?_ ?_
    · exact ⟨0, Nat.zero_le _, rfl, rfl, fun j hj => absurd hj (Nat.not_lt_zero _), hE⟩
    intro m1 e w hI
    obtain ⟨k, hkl, hkm, h5s, hall, hE⟩ := hI
    refine c_know (t := 5) (by exact h5s) ?_
    have hL : Has w [] := trivial
    refine c_seq ?_
    refine c_seq ?_
 
    refine c_ops ?_
    refine l_val rfl rfl rfl (r_move rfl) ?_
    refine l_val rfl rfl rfl (r_move rfl) ?_
    refine l_val rfl rfl rfl (r_len rfl Tryz.underlying25 rfl) ?_
    refine l_val rfl rfl rfl (r_lss rfl rfl rfl) ?_
    refine l_nil ?_
    refine c_cond rfl (fun hb => ?_) (fun hb => ?_)
    · have hr14 := hb
      replace hb := of_decide_eq_true hb
      have hklt : k < a.length := by omega
      obtain ⟨A1, c1, hfa, hwa⟩ := ha.fact k (by omega) (by omega)
      obtain ⟨B1, d1, hfb, hwb⟩ := hb'.fact k (by omega) (by omega)
      refine c_skip ?_
      refine c_seq ?_
      refine c_block ?_
      refine c_seq ?_
   
      refine c_draw mixed (hL) hE ?_
      replace hL := hL.drew
      replace hE := hE.drew
      have hK := hL
      refine h_t 0 rfl rfl (by kernel_rfl) (fun _ _ _ h => h) ⟨hK, hE⟩ rfl (fun W hW => r_move rfl) ?_
      refine h_listed (listed' := #[T',F',F',F',F',F',F',F',F',F',F',F',F',F',F',F',F',F',F',F',F',F',F',F',F',F',F',F',F',F',F',F',F',F',F',F',F',F']) (by kernel_rfl) ?_
      refine h_t 1 rfl rfl (by kernel_rfl) (fun _ _ _ h => h) ⟨hK, hE⟩ rfl (fun W hW => r_move rfl) ?_
      refine h_listed (listed' := #[T',T',F',F',F',F',F',F',F',F',F',F',F',F',F',F',F',F',F',F',F',F',F',F',F',F',F',F',F',F',F',F',F',F',F',F',F',F']) (by kernel_rfl) ?_
      refine h_t 2 rfl rfl (by kernel_rfl) (fun _ _ _ h => h) ⟨hK, hE⟩ rfl (fun W hW => r_indexAddr_sl rfl Tryz.underlying25 Tryz.sizeOf43 rfl ha.is rfl (by omega) (by omega)) ?_
      refine h_listed (listed' := #[T',T',T',F',F',F',F',F',F',F',F',F',F',F',F',F',F',F',F',F',F',F',F',F',F',F',F',F',F',F',F',F',F',F',F',F',F',F']) (by kernel_rfl) ?_
      refine h_t 3 rfl rfl (by kernel_rfl) (fun _ _ _ h => h) ⟨hK, hE⟩ rfl (fun W hW => r_fieldAddr (n := 0) rfl Tryz.underlying43 rfl Tryz.sizeOf3 rfl) ?_
      refine h_listed (listed' := #[T',T',T',T',F',F',F',F',F',F',F',F',F',F',F',F',F',F',F',F',F',F',F',F',F',F',F',F',F',F',F',F',F',F',F',F',F',F']) (by kernel_rfl) ?_
      refine h_t 4 rfl rfl (by kernel_rfl) (fun _ _ _ h => h) ⟨hK, hE⟩ rfl (fun W hW => r_load rfl Tryz.isAgg3 rfl (Ext0.cells hW.2 _ _ (hfa 0 _ rfl))) ?_
      refine h_listed (listed' := #[T',T',T',T',T',F',F',F',F',F',F',F',F',F',F',F',F',F',F',F',F',F',F',F',F',F',F',F',F',F',F',F',F',F',F',F',F',F']) (by kernel_rfl) ?_
      refine h_t 5 rfl rfl (by kernel_rfl) (fun _ _ _ h => h) ⟨hK, hE⟩ rfl (fun W hW => r_move rfl) ?_
      refine h_listed (listed' := #[T',T',T',T',T',T',F',F',F',F',F',F',F',F',F',F',F',F',F',F',F',F',F',F',F',F',F',F',F',F',F',F',F',F',F',F',F',F']) (by kernel_rfl) ?_
      refine h_t 6 rfl rfl (by kernel_rfl) (fun _ _ _ h => h) ⟨hK, hE⟩ rfl (fun W hW => r_move rfl) ?_
      refine h_listed (listed' := #[T',T',T',T',T',T',T',F',F',F',F',F',F',F',F',F',F',F',F',F',F',F',F',F',F',F',F',F',F',F',F',F',F',F',F',F',F',F']) (by kernel_rfl) ?_
      refine h_t 7 rfl rfl (by kernel_rfl) (fun _ _ _ h => h) ⟨hK, hE⟩ rfl (fun W hW => r_indexAddr_sl rfl Tryz.underlying25 Tryz.sizeOf43 rfl hb'.is rfl (by omega) (by omega)) ?_
      refine h_listed (listed' := #[T',T',T',T',T',T',T',T',F',F',F',F',F',F',F',F',F',F',F',F',F',F',F',F',F',F',F',F',F',F',F',F',F',F',F',F',F',F']) (by kernel_rfl) ?_
      refine h_t 8 rfl rfl (by kernel_rfl) (fun _ _ _ h => h) ⟨hK, hE⟩ rfl (fun W hW => r_fieldAddr (n := 0) rfl Tryz.underlying43 rfl Tryz.sizeOf3 rfl) ?_
      refine h_listed (listed' := #[T',T',T',T',T',T',T',T',T',F',F',F',F',F',F',F',F',F',F',F',F',F',F',F',F',F',F',F',F',F',F',F',F',F',F',F',F',F']) (by kernel_rfl) ?_
      refine h_t 9 rfl rfl (by kernel_rfl) (fun _ _ _ h => h) ⟨hK, hE⟩ rfl (fun W hW => r_load rfl Tryz.isAgg3 rfl (Ext0.cells hW.2 _ _ (hfb 0 _ rfl))) ?_
      refine h_listed (listed' := #[T',T',T',T',T',T',T',T',T',T',F',F',F',F',F',F',F',F',F',F',F',F',F',F',F',F',F',F',F',F',F',F',F',F',F',F',F',F']) (by kernel_rfl) ?_
      refine h_t 10 rfl rfl (by kernel_rfl) (fun _ _ _ h => h) ⟨hK, hE⟩ rfl (fun W hW => r_neq rfl rfl rfl) ?_
      refine h_listed (listed' := #[T',T',T',T',T',T',T',T',T',T',T',F',F',F',F',F',F',F',F',F',F',F',F',F',F',F',F',F',F',F',F',F',F',F',F',F',F',F']) (by kernel_rfl) ?_
      refine h_t 11 rfl rfl (by kernel_rfl) (fun _ _ _ h => h) ⟨hK, hE⟩ rfl (fun W hW => r_move rfl) ?_
      refine h_listed (listed' := #[T',T',T',T',T',T',T',T',T',T',T',T',F',F',F',F',F',F',F',F',F',F',F',F',F',F',F',F',F',F',F',F',F',F',F',F',F',F']) (by kernel_rfl) ?_
      refine h_case 28 rfl (fun hb => ?_) (fun hb => ?_)
      · have hr28 := hb
        replace hb := of_decide_eq_false (by simpa using hb)
        have hne : a ≠ b := fat_ne (k := k) fun e => hb (by rw [e])
        refine h_listed (listed' := #[T',T',T',T',T',T',T',T',T',T',T',T',F',F',F',F',F',F',F',F',F',F',F',F',F',F',F',F',F',F',F',F',F',F',F',F',F',F']) (by kernel_rfl) ?_
        refine h_n 12 rfl rfl (by kernel_rfl) (fun _ _ _ h => h) ⟨hK, hE⟩ rfl ?_
        refine h_listed (listed' := #[T',T',T',T',T',T',T',T',T',T',T',T',T',F',F',F',F',F',F',F',F',F',F',F',F',F',F',F',F',F',F',F',F',F',F',F',F',F']) (by kernel_rfl) ?_
        refine h_n 13 rfl rfl (by kernel_rfl) (fun _ _ _ h => h) ⟨hK, hE⟩ rfl ?_
        refine h_listed (listed' := #[T',T',T',T',T',T',T',T',T',T',T',T',T',T',F',F',F',F',F',F',F',F',F',F',F',F',F',F',F',F',F',F',F',F',F',F',F',F']) (by kernel_rfl) ?_
        refine h_n 14 rfl rfl (by kernel_rfl) (fun _ _ _ h => h) ⟨hK, hE⟩ rfl ?_
        refine h_listed (listed' := #[T',T',T',T',T',T',T',T',T',T',T',T',T',T',T',F',F',F',F',F',F',F',F',F',F',F',F',F',F',F',F',F',F',F',F',F',F',F']) (by kernel_rfl) ?_
        refine h_n 15 rfl rfl (by kernel_rfl) (fun _ _ _ h => h) ⟨hK, hE⟩ rfl ?_
        refine h_listed (listed' := #[T',T',T',T',T',T',T',T',T',T',T',T',T',T',T',T',F',F',F',F',F',F',F',F',F',F',F',F',F',F',F',F',F',F',F',F',F',F']) (by kernel_rfl) ?_
        refine h_n 16 rfl rfl (by kernel_rfl) (fun _ _ _ h => h) ⟨hK, hE⟩ rfl ?_
        refine h_listed (listed' := #[T',T',T',T',T',T',T',T',T',T',T',T',T',T',T',T',T',F',F',F',F',F',F',F',F',F',F',F',F',F',F',F',F',F',F',F',F',F']) (by kernel_rfl) ?_
        refine h_n 17 rfl rfl (by kernel_rfl) (fun _ _ _ h => h) ⟨hK, hE⟩ rfl ?_
        refine h_listed (listed' := #[T',T',T',T',T',T',T',T',T',T',T',T',T',T',T',T',T',T',F',F',F',F',F',F',F',F',F',F',F',F',F',F',F',F',F',F',F',F']) (by kernel_rfl) ?_
        refine h_n 18 rfl rfl (by kernel_rfl) (fun _ _ _ h => h) ⟨hK, hE⟩ rfl ?_
        refine h_listed (listed' := #[T',T',T',T',T',T',T',T',T',T',T',T',T',T',T',T',T',T',T',F',F',F',F',F',F',F',F',F',F',F',F',F',F',F',F',F',F',F']) (by kernel_rfl) ?_
        refine h_n 19 rfl rfl (by kernel_rfl) (fun _ _ _ h => h) ⟨hK, hE⟩ rfl ?_
        refine h_listed (listed' := #[T',T',T',T',T',T',T',T',T',T',T',T',T',T',T',T',T',T',T',T',F',F',F',F',F',F',F',F',F',F',F',F',F',F',F',F',F',F']) (by kernel_rfl) ?_
        refine h_n 20 rfl rfl (by kernel_rfl) (fun _ _ _ h => h) ⟨hK, hE⟩ rfl ?_
        refine h_listed (listed' := #[T',T',T',T',T',T',T',T',T',T',T',T',T',T',T',T',T',T',T',T',T',F',F',F',F',F',F',F',F',F',F',F',F',F',F',F',F',F']) (by kernel_rfl) ?_
        refine h_n 21 rfl rfl (by kernel_rfl) (fun _ _ _ h => h) ⟨hK, hE⟩ rfl ?_
        refine h_listed (listed' := #[T',T',T',T',T',T',T',T',T',T',T',T',T',T',T',T',T',T',T',T',T',T',F',F',F',F',F',F',F',F',F',F',F',F',F',F',F',F']) (by kernel_rfl) ?_
        refine h_n 22 rfl rfl (by kernel_rfl) (fun _ _ _ h => h) ⟨hK, hE⟩ rfl ?_
        refine h_listed (listed' := #[T',T',T',T',T',T',T',T',T',T',T',T',T',T',T',T',T',T',T',T',T',T',T',F',F',F',F',F',F',F',F',F',F',F',F',F',F',F']) (by kernel_rfl) ?_
        refine h_t 23 rfl rfl (by kernel_rfl) (fun _ _ _ h => h) ⟨hK, hE⟩ rfl (fun W hW => r_pick rfl rfl) ?_
        refine h_listed (listed' := #[T',T',T',T',T',T',T',T',T',T',T',T',T',T',T',T',T',T',T',T',T',T',T',T',F',F',F',F',F',F',F',F',F',F',F',F',F',F']) (by kernel_rfl) ?_
        refine h_t 24 rfl rfl (by kernel_rfl) (fun _ _ _ h => h) ⟨hK, hE⟩ rfl (fun W hW => r_move rfl) ?_
        refine h_listed (listed' := #[T',T',T',T',T',T',T',T',T',T',T',T',T',T',T',T',T',T',T',T',T',T',T',T',T',F',F',F',F',F',F',F',F',F',F',F',F',F']) (by kernel_rfl) ?_
        refine h_n 25 rfl rfl (by kernel_rfl) (fun _ _ _ h => h) ⟨hK, hE⟩ rfl ?_
        refine h_listed (listed' := #[T',T',T',T',T',T',T',T',T',T',T',T',T',T',T',T',T',T',T',T',T',T',T',T',T',T',F',F',F',F',F',F',F',F',F',F',F',F']) (by kernel_rfl) ?_
        refine h_n 26 rfl rfl (by kernel_rfl) (fun _ _ _ h => h) ⟨hK, hE⟩ rfl ?_
        refine h_listed (listed' := #[T',T',T',T',T',T',T',T',T',T',T',T',T',T',T',T',T',T',T',T',T',T',T',T',T',T',T',F',F',F',F',F',F',F',F',F',F',F']) (by kernel_rfl) ?_
        refine h_n 27 rfl rfl (by kernel_rfl) (fun _ _ _ h => h) ⟨hK, hE⟩ rfl ?_
        refine h_listed (listed' := #[T',T',T',T',T',T',T',T',T',T',T',T',T',T',T',T',T',T',T',T',T',T',T',T',T',T',T',T',F',F',F',F',F',F',F',F',F',F']) (by kernel_rfl) ?_
        refine h_n 28 rfl rfl (by kernel_rfl) (fun _ _ _ h => h) ⟨hK, hE⟩ rfl ?_
        refine h_listed (listed' := #[T',T',T',T',T',T',T',T',T',T',T',T',T',T',T',T',T',T',T',T',T',T',T',T',T',T',T',T',T',F',F',F',F',F',F',F',F',F']) (by kernel_rfl) ?_
        refine h_n 29 rfl rfl (by kernel_rfl) (fun _ _ _ h => h) ⟨hK, hE⟩ rfl ?_
        refine h_listed (listed' := #[T',T',T',T',T',T',T',T',T',T',T',T',T',T',T',T',T',T',T',T',T',T',T',T',T',T',T',T',T',T',F',F',F',F',F',F',F',F']) (by kernel_rfl) ?_
        refine h_n 30 rfl rfl (by kernel_rfl) (fun _ _ _ h => h) ⟨hK, hE⟩ rfl ?_
        refine h_listed (listed' := #[T',T',T',T',T',T',T',T',T',T',T',T',T',T',T',T',T',T',T',T',T',T',T',T',T',T',T',T',T',T',T',F',F',F',F',F',F',F']) (by kernel_rfl) ?_
        refine h_n 31 rfl rfl (by kernel_rfl) (fun _ _ _ h => h) ⟨hK, hE⟩ rfl ?_
        refine h_listed (listed' := #[T',T',T',T',T',T',T',T',T',T',T',T',T',T',T',T',T',T',T',T',T',T',T',T',T',T',T',T',T',T',T',T',F',F',F',F',F',F']) (by kernel_rfl) ?_
        refine h_n 32 rfl rfl (by kernel_rfl) (fun _ _ _ h => h) ⟨hK, hE⟩ rfl ?_
        refine h_listed (listed' := #[T',T',T',T',T',T',T',T',T',T',T',T',T',T',T',T',T',T',T',T',T',T',T',T',T',T',T',T',T',T',T',T',T',F',F',F',F',F']) (by kernel_rfl) ?_
        refine h_n 33 rfl rfl (by kernel_rfl) (fun _ _ _ h => h) ⟨hK, hE⟩ rfl ?_
        refine h_listed (listed' := #[T',T',T',T',T',T',T',T',T',T',T',T',T',T',T',T',T',T',T',T',T',T',T',T',T',T',T',T',T',T',T',T',T',T',F',F',F',F']) (by kernel_rfl) ?_
        refine h_n 34 rfl rfl (by kernel_rfl) (fun _ _ _ h => h) ⟨hK, hE⟩ rfl ?_
        refine h_listed (listed' := #[T',T',T',T',T',T',T',T',T',T',T',T',T',T',T',T',T',T',T',T',T',T',T',T',T',T',T',T',T',T',T',T',T',T',T',F',F',F']) (by kernel_rfl) ?_
        refine h_n 35 rfl rfl (by kernel_rfl) (fun _ _ _ h => h) ⟨hK, hE⟩ rfl ?_
        refine h_listed (listed' := #[T',T',T',T',T',T',T',T',T',T',T',T',T',T',T',T',T',T',T',T',T',T',T',T',T',T',T',T',T',T',T',T',T',T',T',T',F',F']) (by kernel_rfl) ?_
        refine h_n 36 rfl rfl (by kernel_rfl) (fun _ _ _ h => h) ⟨hK, hE⟩ rfl ?_
        refine h_listed (listed' := #[T',T',T',T',T',T',T',T',T',T',T',T',T',T',T',T',T',T',T',T',T',T',T',T',T',T',T',T',T',T',T',T',T',T',T',T',T',F']) (by kernel_rfl) ?_
        refine h_t 37 rfl rfl (by kernel_rfl) (fun _ _ _ h => h) ⟨hK, hE⟩ rfl (fun W hW => r_pick rfl rfl) ?_
        refine h_listed (listed' := #[T',T',T',T',T',T',T',T',T',T',T',T',T',T',T',T',T',T',T',T',T',T',T',T',T',T',T',T',T',T',T',T',T',T',T',T',T',T']) (by kernel_rfl) ?_
        refine h_done (by kernel_rfl) ?_
        refine c_yes rfl ?_
        refine c_seq ?_
     
        refine c_ops ?_
        refine l_val rfl rfl rfl (r_assign rfl) ?_
        refine l_nil ?_
        refine c_ret ?_
        exact ⟨ret_bool rfl (decide_eq_false hne).symm, hE⟩
      · have hr28 := hb
        replace hb := of_decide_eq_true (by simpa using hb)
        have hea := hb
        refine h_listed (listed' := #[T',T',T',T',T',T',T',T',T',T',T',T',F',F',F',F',F',F',F',F',F',F',F',F',F',F',F',F',F',F',F',F',F',F',F',F',F',F']) (by kernel_rfl) ?_
        refine h_t 12 rfl rfl (by kernel_rfl) (fun _ _ _ h => h) ⟨hK, hE⟩ rfl (fun W hW => r_move rfl) ?_
        refine h_listed (listed' := #[T',T',T',T',T',T',T',T',T',T',T',T',T',F',F',F',F',F',F',F',F',F',F',F',F',F',F',F',F',F',F',F',F',F',F',F',F',F']) (by kernel_rfl) ?_
        refine h_t 13 rfl rfl (by kernel_rfl) (fun _ _ _ h => h) ⟨hK, hE⟩ rfl (fun W hW => r_move rfl) ?_
        refine h_listed (listed' := #[T',T',T',T',T',T',T',T',T',T',T',T',T',T',F',F',F',F',F',F',F',F',F',F',F',F',F',F',F',F',F',F',F',F',F',F',F',F']) (by kernel_rfl) ?_
        refine h_t 14 rfl rfl (by kernel_rfl) (fun _ _ _ h => h) ⟨hK, hE⟩ rfl (fun W hW => r_indexAddr_sl rfl Tryz.underlying25 Tryz.sizeOf43 rfl ha.is rfl (by omega) (by omega)) ?_
        refine h_listed (listed' := #[T',T',T',T',T',T',T',T',T',T',T',T',T',T',T',F',F',F',F',F',F',F',F',F',F',F',F',F',F',F',F',F',F',F',F',F',F',F']) (by kernel_rfl) ?_
        refine h_t 15 rfl rfl (by kernel_rfl) (fun _ _ _ h => h) ⟨hK, hE⟩ rfl (fun W hW => r_fieldAddr (n := 0) rfl Tryz.underlying43 rfl Tryz.sizeOf3 rfl) ?_
        refine h_listed (listed' := #[T',T',T',T',T',T',T',T',T',T',T',T',T',T',T',T',F',F',F',F',F',F',F',F',F',F',F',F',F',F',F',F',F',F',F',F',F',F']) (by kernel_rfl) ?_
        refine h_t 16 rfl rfl (by kernel_rfl) (fun _ _ _ h => h) ⟨hK, hE⟩ rfl (fun W hW => r_load rfl Tryz.isAgg3 rfl (Ext0.cells hW.2 _ _ (hfa 1 _ rfl))) ?_
        refine h_listed (listed' := #[T',T',T',T',T',T',T',T',T',T',T',T',T',T',T',T',T',F',F',F',F',F',F',F',F',F',F',F',F',F',F',F',F',F',F',F',F',F']) (by kernel_rfl) ?_
        refine h_t 17 rfl rfl (by kernel_rfl) (fun _ _ _ h => h) ⟨hK, hE⟩ rfl (fun W hW => r_move rfl) ?_
        refine h_listed (listed' := #[T',T',T',T',T',T',T',T',T',T',T',T',T',T',T',T',T',T',F',F',F',F',F',F',F',F',F',F',F',F',F',F',F',F',F',F',F',F']) (by kernel_rfl) ?_
        refine h_t 18 rfl rfl (by kernel_rfl) (fun _ _ _ h => h) ⟨hK, hE⟩ rfl (fun W hW => r_move rfl) ?_
        refine h_listed (listed' := #[T',T',T',T',T',T',T',T',T',T',T',T',T',T',T',T',T',T',T',F',F',F',F',F',F',F',F',F',F',F',F',F',F',F',F',F',F',F']) (by kernel_rfl) ?_
        refine h_t 19 rfl rfl (by kernel_rfl) (fun _ _ _ h => h) ⟨hK, hE⟩ rfl (fun W hW => r_indexAddr_sl rfl Tryz.underlying25 Tryz.sizeOf43 rfl hb'.is rfl (by omega) (by omega)) ?_
        refine h_listed (listed' := #[T',T',T',T',T',T',T',T',T',T',T',T',T',T',T',T',T',T',T',T',F',F',F',F',F',F',F',F',F',F',F',F',F',F',F',F',F',F']) (by kernel_rfl) ?_
        refine h_t 20 rfl rfl (by kernel_rfl) (fun _ _ _ h => h) ⟨hK, hE⟩ rfl (fun W hW => r_fieldAddr (n := 0) rfl Tryz.underlying43 rfl Tryz.sizeOf3 rfl) ?_
        refine h_listed (listed' := #[T',T',T',T',T',T',T',T',T',T',T',T',T',T',T',T',T',T',T',T',T',F',F',F',F',F',F',F',F',F',F',F',F',F',F',F',F',F']) (by kernel_rfl) ?_
        refine h_t 21 rfl rfl (by kernel_rfl) (fun _ _ _ h => h) ⟨hK, hE⟩ rfl (fun W hW => r_load rfl Tryz.isAgg3 rfl (Ext0.cells hW.2 _ _ (hfb 1 _ rfl))) ?_
        refine h_listed (listed' := #[T',T',T',T',T',T',T',T',T',T',T',T',T',T',T',T',T',T',T',T',T',T',F',F',F',F',F',F',F',F',F',F',F',F',F',F',F',F']) (by kernel_rfl) ?_
        refine h_t 22 rfl rfl (by kernel_rfl) (fun _ _ _ h => h) ⟨hK, hE⟩ rfl (fun W hW => r_neq rfl rfl rfl) ?_
        refine h_listed (listed' := #[T',T',T',T',T',T',T',T',T',T',T',T',T',T',T',T',T',T',T',T',T',T',T',F',F',F',F',F',F',F',F',F',F',F',F',F',F',F']) (by kernel_rfl) ?_
        refine h_t 23 rfl rfl (by kernel_rfl) (fun _ _ _ h => h) ⟨hK, hE⟩ rfl (fun W hW => r_pick rfl rfl) ?_
        refine h_listed (listed' := #[T',T',T',T',T',T',T',T',T',T',T',T',T',T',T',T',T',T',T',T',T',T',T',T',F',F',F',F',F',F',F',F',F',F',F',F',F',F']) (by kernel_rfl) ?_
        refine h_t 24 rfl rfl (by kernel_rfl) (fun _ _ _ h => h) ⟨hK, hE⟩ rfl (fun W hW => r_move rfl) ?_
        refine h_listed (listed' := #[T',T',T',T',T',T',T',T',T',T',T',T',T',T',T',T',T',T',T',T',T',T',T',T',T',F',F',F',F',F',F',F',F',F',F',F',F',F']) (by kernel_rfl) ?_
        refine h_case 41 rfl (fun hb => ?_) (fun hb => ?_)
        · have hr41 := hb
          replace hb := of_decide_eq_false (by simpa using hb)
          have hne : a ≠ b := fat_ne (k := k) fun e => hb (by rw [e])
          refine h_listed (listed' := #[T',T',T',T',T',T',T',T',T',T',T',T',T',T',T',T',T',T',T',T',T',T',T',T',T',F',F',F',F',F',F',F',F',F',F',F',F',F']) (by kernel_rfl) ?_
          refine h_n 25 rfl rfl (by kernel_rfl) (fun _ _ _ h => h) ⟨hK, hE⟩ rfl ?_
          refine h_listed (listed' := #[T',T',T',T',T',T',T',T',T',T',T',T',T',T',T',T',T',T',T',T',T',T',T',T',T',T',F',F',F',F',F',F',F',F',F',F',F',F']) (by kernel_rfl) ?_
          refine h_n 26 rfl rfl (by kernel_rfl) (fun _ _ _ h => h) ⟨hK, hE⟩ rfl ?_
          refine h_listed (listed' := #[T',T',T',T',T',T',T',T',T',T',T',T',T',T',T',T',T',T',T',T',T',T',T',T',T',T',T',F',F',F',F',F',F',F',F',F',F',F']) (by kernel_rfl) ?_
          refine h_n 27 rfl rfl (by kernel_rfl) (fun _ _ _ h => h) ⟨hK, hE⟩ rfl ?_
          refine h_listed (listed' := #[T',T',T',T',T',T',T',T',T',T',T',T',T',T',T',T',T',T',T',T',T',T',T',T',T',T',T',T',F',F',F',F',F',F',F',F',F',F']) (by kernel_rfl) ?_
          refine h_n 28 rfl rfl (by kernel_rfl) (fun _ _ _ h => h) ⟨hK, hE⟩ rfl ?_
          refine h_listed (listed' := #[T',T',T',T',T',T',T',T',T',T',T',T',T',T',T',T',T',T',T',T',T',T',T',T',T',T',T',T',T',F',F',F',F',F',F',F',F',F']) (by kernel_rfl) ?_
          refine h_n 29 rfl rfl (by kernel_rfl) (fun _ _ _ h => h) ⟨hK, hE⟩ rfl ?_
          refine h_listed (listed' := #[T',T',T',T',T',T',T',T',T',T',T',T',T',T',T',T',T',T',T',T',T',T',T',T',T',T',T',T',T',T',F',F',F',F',F',F',F',F']) (by kernel_rfl) ?_
          refine h_n 30 rfl rfl (by kernel_rfl) (fun _ _ _ h => h) ⟨hK, hE⟩ rfl ?_
          refine h_listed (listed' := #[T',T',T',T',T',T',T',T',T',T',T',T',T',T',T',T',T',T',T',T',T',T',T',T',T',T',T',T',T',T',T',F',F',F',F',F',F',F']) (by kernel_rfl) ?_
          refine h_n 31 rfl rfl (by kernel_rfl) (fun _ _ _ h => h) ⟨hK, hE⟩ rfl ?_
          refine h_listed (listed' := #[T',T',T',T',T',T',T',T',T',T',T',T',T',T',T',T',T',T',T',T',T',T',T',T',T',T',T',T',T',T',T',T',F',F',F',F',F',F']) (by kernel_rfl) ?_
          refine h_n 32 rfl rfl (by kernel_rfl) (fun _ _ _ h => h) ⟨hK, hE⟩ rfl ?_
          refine h_listed (listed' := #[T',T',T',T',T',T',T',T',T',T',T',T',T',T',T',T',T',T',T',T',T',T',T',T',T',T',T',T',T',T',T',T',T',F',F',F',F',F']) (by kernel_rfl) ?_
          refine h_n 33 rfl rfl (by kernel_rfl) (fun _ _ _ h => h) ⟨hK, hE⟩ rfl ?_
          refine h_listed (listed' := #[T',T',T',T',T',T',T',T',T',T',T',T',T',T',T',T',T',T',T',T',T',T',T',T',T',T',T',T',T',T',T',T',T',T',F',F',F',F']) (by kernel_rfl) ?_
          refine h_n 34 rfl rfl (by kernel_rfl) (fun _ _ _ h => h) ⟨hK, hE⟩ rfl ?_
          refine h_listed (listed' := #[T',T',T',T',T',T',T',T',T',T',T',T',T',T',T',T',T',T',T',T',T',T',T',T',T',T',T',T',T',T',T',T',T',T',T',F',F',F']) (by kernel_rfl) ?_
          refine h_n 35 rfl rfl (by kernel_rfl) (fun _ _ _ h => h) ⟨hK, hE⟩ rfl ?_
          refine h_listed (listed' := #[T',T',T',T',T',T',T',T',T',T',T',T',T',T',T',T',T',T',T',T',T',T',T',T',T',T',T',T',T',T',T',T',T',T',T',T',F',F']) (by kernel_rfl) ?_
          refine h_n 36 rfl rfl (by kernel_rfl) (fun _ _ _ h => h) ⟨hK, hE⟩ rfl ?_
          refine h_listed (listed' := #[T',T',T',T',T',T',T',T',T',T',T',T',T',T',T',T',T',T',T',T',T',T',T',T',T',T',T',T',T',T',T',T',T',T',T',T',T',F']) (by kernel_rfl) ?_
          refine h_t 37 rfl rfl (by kernel_rfl) (fun _ _ _ h => h) ⟨hK, hE⟩ rfl (fun W hW => r_pick rfl rfl) ?_
          refine h_listed (listed' := #[T',T',T',T',T',T',T',T',T',T',T',T',T',T',T',T',T',T',T',T',T',T',T',T',T',T',T',T',T',T',T',T',T',T',T',T',T',T']) (by kernel_rfl) ?_
          refine h_done (by kernel_rfl) ?_
          refine c_yes rfl ?_
          refine c_seq ?_
       
          refine c_ops ?_
          refine l_val rfl rfl rfl (r_assign rfl) ?_
          refine l_nil ?_
          refine c_ret ?_
          exact ⟨ret_bool rfl (decide_eq_false hne).symm, hE⟩
        · have hr41 := hb
          replace hb := of_decide_eq_true (by simpa using hb)
          have heb := hb
          refine h_listed (listed' := #[T',T',T',T',T',T',T',T',T',T',T',T',T',T',T',T',T',T',T',T',T',T',T',T',T',F',F',F',F',F',F',F',F',F',F',F',F',F']) (by kernel_rfl) ?_
          refine h_t 25 rfl rfl (by kernel_rfl) (fun _ _ _ h => h) ⟨hK, hE⟩ rfl (fun W hW => r_move rfl) ?_
          refine h_listed (listed' := #[T',T',T',T',T',T',T',T',T',T',T',T',T',T',T',T',T',T',T',T',T',T',T',T',T',T',F',F',F',F',F',F',F',F',F',F',F',F']) (by kernel_rfl) ?_
          refine h_t 26 rfl rfl (by kernel_rfl) (fun _ _ _ h => h) ⟨hK, hE⟩ rfl (fun W hW => r_move rfl) ?_
          refine h_listed (listed' := #[T',T',T',T',T',T',T',T',T',T',T',T',T',T',T',T',T',T',T',T',T',T',T',T',T',T',T',F',F',F',F',F',F',F',F',F',F',F']) (by kernel_rfl) ?_
          refine h_t 27 rfl rfl (by kernel_rfl) (fun _ _ _ h => h) ⟨hK, hE⟩ rfl (fun W hW => r_indexAddr_sl rfl Tryz.underlying25 Tryz.sizeOf43 rfl ha.is rfl (by omega) (by omega)) ?_
          refine h_listed (listed' := #[T',T',T',T',T',T',T',T',T',T',T',T',T',T',T',T',T',T',T',T',T',T',T',T',T',T',T',T',F',F',F',F',F',F',F',F',F',F']) (by kernel_rfl) ?_
          refine h_t 28 rfl rfl (by kernel_rfl) (fun _ _ _ h => h) ⟨hK, hE⟩ rfl (fun W hW => r_fieldAddr (n := 0) rfl Tryz.underlying43 rfl Tryz.sizeOf26 rfl) ?_
          refine h_listed (listed' := #[T',T',T',T',T',T',T',T',T',T',T',T',T',T',T',T',T',T',T',T',T',T',T',T',T',T',T',T',T',F',F',F',F',F',F',F',F',F']) (by kernel_rfl) ?_
          refine h_t 29 rfl rfl (by kernel_rfl) (fun _ _ _ h => h) ⟨hK, hE⟩ rfl (fun W hW => r_load rfl Tryz.isAgg26 rfl (Ext0.cells hW.2 _ _ (hfa 2 _ rfl))) ?_
          refine h_listed (listed' := #[T',T',T',T',T',T',T',T',T',T',T',T',T',T',T',T',T',T',T',T',T',T',T',T',T',T',T',T',T',T',F',F',F',F',F',F',F',F']) (by kernel_rfl) ?_
          refine h_t 30 rfl rfl (by kernel_rfl) (fun _ _ _ h => h) ⟨hK, hE⟩ rfl (fun W hW => r_move rfl) ?_
          refine h_listed (listed' := #[T',T',T',T',T',T',T',T',T',T',T',T',T',T',T',T',T',T',T',T',T',T',T',T',T',T',T',T',T',T',T',F',F',F',F',F',F',F']) (by kernel_rfl) ?_
          refine h_t 31 rfl rfl (by kernel_rfl) (fun _ _ _ h => h) ⟨hK, hE⟩ rfl (fun W hW => r_move rfl) ?_
          refine h_listed (listed' := #[T',T',T',T',T',T',T',T',T',T',T',T',T',T',T',T',T',T',T',T',T',T',T',T',T',T',T',T',T',T',T',T',F',F',F',F',F',F']) (by kernel_rfl) ?_
          refine h_t 32 rfl rfl (by kernel_rfl) (fun _ _ _ h => h) ⟨hK, hE⟩ rfl (fun W hW => r_indexAddr_sl rfl Tryz.underlying25 Tryz.sizeOf43 rfl hb'.is rfl (by omega) (by omega)) ?_
          refine h_listed (listed' := #[T',T',T',T',T',T',T',T',T',T',T',T',T',T',T',T',T',T',T',T',T',T',T',T',T',T',T',T',T',T',T',T',T',F',F',F',F',F']) (by kernel_rfl) ?_
          refine h_t 33 rfl rfl (by kernel_rfl) (fun _ _ _ h => h) ⟨hK, hE⟩ rfl (fun W hW => r_fieldAddr (n := 0) rfl Tryz.underlying43 rfl Tryz.sizeOf26 rfl) ?_
          refine h_listed (listed' := #[T',T',T',T',T',T',T',T',T',T',T',T',T',T',T',T',T',T',T',T',T',T',T',T',T',T',T',T',T',T',T',T',T',T',F',F',F',F']) (by kernel_rfl) ?_
          refine h_t 34 rfl rfl (by kernel_rfl) (fun _ _ _ h => h) ⟨hK, hE⟩ rfl (fun W hW => r_load rfl Tryz.isAgg26 rfl (Ext0.cells hW.2 _ _ (hfb 2 _ rfl))) ?_
          refine h_listed (listed' := #[T',T',T',T',T',T',T',T',T',T',T',T',T',T',T',T',T',T',T',T',T',T',T',T',T',T',T',T',T',T',T',T',T',T',T',F',F',F']) (by kernel_rfl) ?_
          refine h_by 35 rfl rfl (by kernel_rfl) rfl (r_call rfl rfl Tryz.func10 rfl rfl) (EqInts_calls _ A1 c1 (fat a k).why (hwa.keep RInt.kept (Ext0.cells hE)) B1 d1 (fat b k).why (hwb.keep RInt.kept (Ext0.cells hE))) ?_
          rintro _ w ⟨rfl, hX⟩
          replace hL := hL.ext0 hX
          replace hE := hE.step0 hX
          have hK := hL
          refine ⟨_, rfl, ⟨hK, hE⟩, ?_⟩
          refine h_listed (listed' := #[T',T',T',T',T',T',T',T',T',T',T',T',T',T',T',T',T',T',T',T',T',T',T',T',T',T',T',T',T',T',T',T',T',T',T',T',F',F']) (by kernel_rfl) ?_
          refine h_t 36 rfl rfl (by kernel_rfl) (fun _ _ _ h => h) ⟨hK, hE⟩ rfl (fun W hW => r_not rfl rfl) ?_
          refine h_listed (listed' := #[T',T',T',T',T',T',T',T',T',T',T',T',T',T',T',T',T',T',T',T',T',T',T',T',T',T',T',T',T',T',T',T',T',T',T',T',T',F']) (by kernel_rfl) ?_
          refine h_t 37 rfl rfl (by kernel_rfl) (fun _ _ _ h => h) ⟨hK, hE⟩ rfl (fun W hW => r_pick rfl rfl) ?_
          refine h_listed (listed' := #[T',T',T',T',T',T',T',T',T',T',T',T',T',T',T',T',T',T',T',T',T',T',T',T',T',T',T',T',T',T',T',T',T',T',T',T',T',T']) (by kernel_rfl) ?_
          refine h_done (by kernel_rfl) ?_
          refine c_cond rfl (fun hb => ?_) (fun hb => ?_)
          · have hr54 := hb
            have hne : a ≠ b := fat_ne (k := k) fun e => by rw [e] at hb; simp at hb
            refine c_seq ?_
         
            refine c_ops ?_
            refine l_val rfl rfl rfl (r_assign rfl) ?_
            refine l_nil ?_
            refine c_ret ?_
            exact ⟨ret_bool rfl (decide_eq_false hne).symm, hE⟩
          · have hr54 := hb
            have hwe : (fat a k).why = (fat b k).why := by simpa using hb
            have heqk : fat a k = fat b k := by
              cases hx : fat a k
              cases hy : fat b k
              rw [hx, hy] at hea heb hwe
              simp only at hea heb hwe
              rw [hea, heb, hwe]
            refine c_skip ?_
         
            refine c_ops ?_
            refine l_val rfl rfl rfl (r_move rfl) ?_
            refine l_val rfl rfl rfl (r_add rfl rfl rfl) ?_
            refine l_val rfl rfl rfl (r_assign rfl) ?_
            refine l_nil ?_
            refine ⟨by repeat (first | exact Agree.over _ _ _ | exact Agree.refl _ _ | (refine Agree.puto ?_ _ _ rfl) | (refine Agree.put ?_ _ _ rfl) | (refine Agree.sub ?_ rfl)), ?_⟩
            exact ⟨a.length - (k + 1), by omega, k + 1, by omega, rfl, by show Value.int .i64 (IntKind.i64.wrap ((k : Int) + 1)) = _; rw [wrap_succ hklt ha.max], fun j hj => by rcases Nat.lt_or_eq_of_le (Nat.le_of_lt_succ hj) with h | rfl <;> first | exact hall j h | exact heqk, hE⟩
    · have hr14 := hb
      replace hb := of_decide_eq_false hb
      refine c_exit ?_
      refine c_seq ?_
   
      refine c_ops ?_
      refine l_val rfl rfl rfl (r_assign rfl) ?_
      refine l_nil ?_
      refine c_ret ?_
      exact ⟨ret_bool rfl (decide_eq_true (eq_of_fat hll (fun k hk => hall k (by omega)))).symm, hE⟩
theorem dyn_rcalls (w0 : World) (Ag : Option Addr) (cg : Nat) (g : List GNode) (hg : Nodes w0 Ag cg g) (hok : GraphOk g) (n : Int) :
    Calls Tryz.prog 45 [.slice Ag g.length cg, .int .i64 n].toArray w0 fun en w' => en = .returned (.bool ((membersG g n).any (dynB g))) ∧ Ext0 w0 w' := by
  have hE : Ext0 w0 w0 := Ext.refl _ _
  have hL : Has w0 [] := trivial
  refine calls [4] Tryz.func45 rfl rfl rfl rfl ?_
  refine c_seq ?_
  refine c_ops ?_
  refine l_val rfl rfl rfl (r_assign rfl) ?_
  refine l_nil ?_
  refine c_seq ?_
  refine c_ops ?_
  refine l_val rfl rfl rfl (r_move rfl) ?_
  refine l_val rfl rfl rfl (r_move rfl) ?_
  refine l_by rfl rfl rfl (r_call rfl rfl Tryz.func63 rfl rfl) (rMembers_calls _ Ag cg g (hg.keep RNode.kept (Ext0.cells hE)) hok.fits n) ?_
  rintro _ w ⟨v, rfl, hrow, hX⟩
  replace hE := hE.trans hX
  obtain ⟨Am, cm, rfl, hmem, _⟩ := Sl.ofInts hrow
  clear hrow
  obtain ⟨wa, hwa⟩ : ∃ x, x = w := ⟨_, rfl⟩
  rw [← hwa] at hmem hE
  have hE0 : Ext0 w0 wa := hE
  replace hE : Ext0 wa w := hwa ▸ Ext.refl _ _
  replace hg := hg.keep RNode.kept (Ext0.cells hE0)
  have hL : Has w [] := trivial
  refine ⟨_, rfl, ?_⟩
  refine l_val rfl rfl rfl (r_assign rfl) ?_
  refine l_nil ?_
  refine c_seq ?_
  refine c_seq ?_
  refine c_ops ?_
  refine l_val rfl rfl rfl (r_assign rfl) ?_
  refine l_nil ?_
  refine c_block ?_
  refine c_loop [4, 6, 10, 11, 12, 13, 14, 15, 16, 17, 18, 19, 20, 21, 22, 23, 24] (fun m1 e w => ∃ (k : Nat), k ≤ (membersG g n).length ∧ m1 = (membersG g n).length - k ∧ e 6 = .int .i64 (k : Nat) ∧ (∀ j : Nat, j < k → dynB g (iat (membersG g n) j) = false) ∧ Ext0 wa w) ((membersG g n).length) ?_ ?_
  · exact ⟨0, Nat.zero_le _, rfl, rfl, fun j hj => absurd hj (Nat.not_lt_zero _), hE⟩
  intro m1 e w hI
  obtain ⟨k, hkl, hkm, h6s, hall, hE⟩ := hI
  refine c_know (t := 6) (by exact h6s) ?_
  have hL : Has w [] := trivial
  refine c_seq ?_
  refine c_seq ?_
  refine c_ops ?_
  refine l_val rfl rfl rfl (r_move rfl) ?_
  refine l_val rfl rfl rfl (r_move rfl) ?_
  refine l_val rfl rfl rfl (r_len rfl Tryz.underlying26 rfl) ?_
  refine l_val rfl rfl rfl (r_lss rfl rfl rfl) ?_
  refine l_nil ?_
  refine c_cond rfl (fun hb => ?_) (fun hb => ?_)
  · have hr13 := hb
    replace hb := of_decide_eq_true hb
    have hklt : k < (membersG g n).length := by omega
    have hk := iat_nat hklt
    have hin := hok.members (List.mem_of_getElem? hk)
    obtain ⟨Bk, dk, Bl, dl, hcell, _, _⟩ := hg.node (iat (membersG g n) k) hin.1 hin.2.1
    refine c_skip ?_
    refine c_seq ?_
    refine c_block ?_
    refine c_seq ?_
 
    refine c_ops ?_
    refine l_val rfl rfl rfl (r_move rfl) ?_
    refine l_val rfl rfl rfl (r_move rfl) ?_
    refine l_val rfl rfl rfl (r_move rfl) ?_
    refine l_val rfl rfl rfl (r_indexAddr_sl rfl Tryz.underlying26 Tryz.sizeOf3 rfl hmem.is rfl (by omega) (by omega)) ?_
    refine l_val rfl rfl rfl (r_load (v := .int .i64 (iat (membersG g n) k)) rfl Tryz.isAgg3 rfl ((hmem.keep RInt.kept (Ext0.cells hE)).int k (by omega) (by omega))) ?_
    refine l_val rfl rfl rfl (r_indexAddr_sl rfl Tryz.underlying22 Tryz.sizeOf46 rfl hg.is rfl hin.1 hin.2.1) ?_
    refine l_val rfl rfl rfl (r_fieldAddr (n := 0) rfl Tryz.underlying46 rfl Tryz.sizeOf3 rfl) ?_
    refine l_val rfl rfl rfl (r_load rfl Tryz.isAgg3 rfl (Ext0.cells hE _ _ (hcell 0 _ rfl))) ?_
    refine l_val rfl rfl rfl (r_eql rfl rfl rfl) ?_
    refine l_nil ?_
    refine c_cond rfl (fun hb => ?_) (fun hb => ?_)
    · have hr24 := hb
      replace hb := of_decide_eq_true hb
      refine c_seq ?_
   
      refine c_ops ?_
      refine l_val rfl rfl rfl (r_assign rfl) ?_
      refine l_nil ?_
      refine c_ret ?_
      exact ⟨ret_bool rfl (any_get hk (decide_eq_true hb)).symm, hE0.trans hE⟩
    · have hr24 := hb
      replace hb := of_decide_eq_false hb
      refine c_skip ?_
   
      refine c_ops ?_
      refine l_val rfl rfl rfl (r_move rfl) ?_
      refine l_val rfl rfl rfl (r_add rfl rfl rfl) ?_
      refine l_val rfl rfl rfl (r_assign rfl) ?_
      refine l_nil ?_
      refine ⟨by repeat (first | exact Agree.over _ _ _ | exact Agree.refl _ _ | (refine Agree.puto ?_ _ _ rfl) | (refine Agree.put ?_ _ _ rfl) | (refine Agree.sub ?_ rfl)), ?_⟩
      exact ⟨(membersG g n).length - (k + 1), by omega, k + 1, by omega, rfl, by show Value.int .i64 (IntKind.i64.wrap ((k : Int) + 1)) = _; rw [wrap_succ hklt hmem.max], fun j hj => by rcases Nat.lt_or_eq_of_le (Nat.le_of_lt_succ hj) with h | rfl <;> first | exact hall j h | exact decide_eq_false hb, hE⟩
  · have hr13 := hb
    replace hb := of_decide_eq_false hb
    refine c_exit ?_
    refine c_seq ?_
 
    refine c_ops ?_
    refine l_val rfl rfl rfl (r_assign rfl) ?_
    refine l_nil ?_
    refine c_ret ?_
    exact ⟨ret_bool rfl (any_none (fun j hj => hall j (by omega))).symm, hE0.trans hE⟩
end Go.Proofs.YtndophlnapjkhaaGreatDoor.Vc
namespace Go.Proofs.YtndophlnapjkhaaGreatDoor.Vc
open Go Go.RowKit
set_option linter.unusedVariables false
set_option linter.unusedSimpArgs false
theorem setCells_heap {b : Nat} {t : TypeId} : ∀ (vs : List Value) (w : World) (cs : Array Value) (off : Nat), w.heap[b]? = some (.cells cs t (0, 0)) → off + vs.length ≤ cs.size →
    (w.setCells b off vs).heap[b]? = some (.cells (putAt cs off vs) t (0, 0)) ∧ (∀ k, k ≠ b → (w.setCells b off vs).heap[k]? = w.heap[k]?) ∧ (w.setCells b off vs).os = w.os ∧ (w.setCells b off vs).tape = w.tape ∧ (w.setCells b off vs).output = w.output ∧ (w.setCells b off vs).heap.size = w.heap.size
  | [], w, cs, off, hb, _ => ⟨hb, fun _ _ => rfl, rfl, rfl, rfl, rfl⟩
  | v :: r, w, cs, off, hb, hl => by
    have hset : (w.setCell ⟨b, off, none⟩ v).heap[b]? = some (.cells (cs.setIfInBounds off v) t (0, 0)) := by simp [World.setCell, Array.getElem?_modify, hb]
    obtain ⟨h1, h2, h3, h4, h5, h6⟩ := setCells_heap r (w.setCell ⟨b, off, none⟩ v) (cs.setIfInBounds off v) (off + 1) hset (by simp at hl ⊢; omega)
    refine ⟨h1, fun k hk => (h2 k hk).trans (Below.heap_setCell _ _ _ _ hk), h3, h4, h5, ?_⟩
    show ((w.setCell ⟨b, off, none⟩ v).setCells b (off + 1) r).heap.size = _
    rw [h6]
    simp
theorem putAt_get {cs : Array Value} {off : Nat} {vs : List Value} (h : off + vs.length ≤ cs.size) (j : Nat) : (putAt cs off vs)[j]? = if j < off then cs[j]? else if j < off + vs.length then vs[j - off]? else cs[j]? := by
  have ht := toList_putAt vs cs off h
  rw [← Array.getElem?_toList, ht]
  have hcl : cs.toList.length = cs.size := Array.length_toList
  split
  · rename_i h1
    rw [List.getElem?_append_left (by simp; omega), List.getElem?_append_left (by simp; omega), List.getElem?_take, if_pos h1, Array.getElem?_toList]
  · rename_i h1
    split
    · rename_i h2
      rw [List.getElem?_append_left (by simp; omega), List.getElem?_append_right (by simp; omega)]
      congr 1
      simp
      omega
    · rename_i h2
      rw [List.getElem?_append_right (by simp; omega), List.getElem?_drop, Array.getElem?_toList]
      congr 1
      simp
      omega
theorem n_pushN {P : Program} {w w0 : World} {ρ : Operand → Value} {o : Oper} {S : Nat → Prop} {L : List Res} {x y : Operand} {t el : TypeId} {b off cap n c : Nat} {A : Option Addr} {cur : Array Value} {l ys : List Int} (i : Nat) (h : o.op = .call { callee := .builtin .append, args := #[x, y], argTypes := #[t, t] })
    (hu : P.underlying t = some (.slice el)) (hinfo : (P.info? el).map (fun i => (i.zero, i.size, i.bytes)) = some (some (.int .i64 0), 1, 8)) (hx : ρ x = .slice (some ⟨b, off, none⟩) l.length cap) (hy : ρ y = .slice A n c) (hys : Sl w 1 RInt A n c ys)
    (hL : Has w L) (hE : Ext S w0 w) (hi : L[i]? = some (.blk b (.cells cur el (0, 0)))) (hq : QAt cur off cap l) (hS : b < w0.heap.size → S b) (hbig : l.length + n ≤ 1000000000000) :
    ∃ v' w', (execOp ρ o).run P w = .ok (.value v') w' ∧ ∃ b' off' cap' cur', v' = .slice (some ⟨b', off', none⟩) (l ++ ys).length cap' ∧ QAt cur' off' cap' (l ++ ys) ∧ Has w' (L.set i (.blk b' (.cells cur' el (0, 0)))) ∧ Ext S w0 w' ∧ (b' < w0.heap.size → S b') := by
  obtain ⟨i0, hinf, hzz⟩ := Option.map_eq_some_iff.1 hinfo
  simp only [Prod.mk.injEq] at hzz
  obtain ⟨hz0, hz1, hz2⟩ := hzz
  have hb := hL.get i hi
  have hil : i < L.length := (List.getElem?_eq_some_iff.1 hi).1
  have hsame : L.set i (.blk b (.cells cur el (0, 0))) = L := by
    apply List.ext_getElem?
    intro j
    rw [List.getElem?_set]
    split
    · rename_i e
      subst e
      exact hi.symm
    · rfl
  have hfit := hq.fit
  have hle := hq.le
  have hyl := hys.len
  rw [show (l ++ ys).length = l.length + n by simp [hyl]]
  rcases Nat.eq_zero_or_pos n with h0 | hpos
  · have hy0 : ys = [] := List.eq_nil_of_length_eq_zero (by omega)
    subst h0; subst hy0
    have hrun : (Builtin.append_ #[t, t] o.type #[.slice (some ⟨b, off, none⟩) l.length cap, .slice A 0 c]).run P w = .ok (.slice (some ⟨b, off, none⟩) l.length cap) w := by
      cases A with
      | none => simp [Builtin.append_, run_underlying hu, sizeOf, typeInfo, hinf, Builtin.lenOf, Builtin.firstCells, hle, storeCells]
      | some a => simp [Builtin.append_, run_underlying hu, sizeOf, typeInfo, hinf, Builtin.lenOf, Builtin.firstCells, hle, storeCells, loadCells, loadCellsFrom]
    refine ⟨_, w, by simp [execOp, h, resolve, invoke, builtin, hx, hy, hrun], b, off, cap, cur, rfl, by simpa using hq, by rw [hsame]; exact hL, hE, hS⟩
  · obtain ⟨a, rfl⟩ : ∃ a, A = some a := Option.isSome_iff_exists.1 (hys.is hpos)
    have hnews : ∀ j u, (ys.map (Value.int .i64))[j]? = some u → w.cell? (a.add j) = some u := fun j u hj => hys.raw_int j u hj
    have hone : ∀ u ∈ ys.map (Value.int .i64), u.oneCell' = true := fun u hu => by
      obtain ⟨z, _, rfl⟩ := List.mem_map.1 hu
      rfl
    by_cases hr : l.length + n ≤ cap
    · have hrun := run_append_room_cells (P := P) w t o.type el i0 hu hinf b off l.length cap a n c (ys.map (Value.int .i64)) (by rw [hz1]; simp [hyl]) hnews hone hr
        (fun j hj => by
          rw [hz1, Nat.mul_one, blk_cell hb]
          have hj' : j < ys.length := by simpa using hj
          simp only [Option.isSome_iff_exists]
          exact ⟨_, Array.getElem?_eq_getElem (by omega)⟩)
        (fun j hj => by simp [World.frozen?, hb])
      obtain ⟨hb', hk', e1, e2, e3, e4⟩ := setCells_heap (b := b) (t := el) (ys.map (Value.int .i64)) w cur (off + l.length * i0.size) hb (by rw [hz1]; simp; omega)
      refine ⟨_, _, by simp [execOp, h, resolve, invoke, builtin, hx, hy, hrun], b, off, cap, _, rfl, ⟨?_, by simp [hyl]; exact hr, fun j u hj => ?_⟩, hL.setAt (r' := .blk b _) i hi hb' (fun c hc => .inl hc) (fun k _ hne => hk' k (fun e => hne (by rw [e]; rfl))), ⟨e1.trans hE.os, e2.trans hE.tape, e3.trans hE.output, by rw [e4]; exact hE.size, fun k hk hs => ?_⟩, hS⟩
      · rw [size_putAt]; exact hfit
      · rw [putAt_get (by rw [hz1]; simp; omega), hz1, Nat.mul_one]
        rcases Nat.lt_or_ge j l.length with hj1 | hj1
        · rw [List.getElem?_append_left hj1] at hj
          rw [if_pos (by omega)]
          exact hq.at_ j u hj
        · rw [List.getElem?_append_right hj1] at hj
          have hjl := (List.getElem?_eq_some_iff.1 hj).1
          rw [if_neg (by omega), if_pos (by simp; omega), show off + j - (off + l.length) = j - l.length by omega, List.getElem?_map, hj]
          rfl
      · have hkb : k ≠ b := fun e => hs (by subst e; exact hS hk)
        rw [hk' k hkb]
        exact hE.block k hk hs
    · obtain ⟨v', w', hrun, hown, hg⟩ := run_append_arg_grows (P := P) w t o.type el i0 (.int .i64 0) 1 8 hu hinf hz0 hz1 hz2 rfl (by decide) ⟨b, off, none⟩ l.length cap (l.map (Value.int .i64)) (by simp) (fun j u hj => by
        rw [List.getElem?_map, Option.map_eq_some_iff] at hj
        obtain ⟨x, hx1, rfl⟩ := hj
        rw [blk_add, blk_cell hb]
        exact hq.at_ j x hx1) a n c (ys.map (Value.int .i64)) (by simp [hyl]) hnews (by omega) (by unfold maxLen; omega) (by omega)
      have he := ext0_grown hg
      rcases hown.2 with ⟨rfl, h0⟩ | ⟨g, cap', cur', rfl, hgb, hh, hn, hm, hsz, htake⟩
      · omega
      · refine ⟨_, w', by simp [execOp, h, resolve, invoke, builtin, hx, hy, hrun], g, 0, cap', cur', rfl, ⟨by omega, by simp [hyl]; exact hn, fun j u hj => ?_⟩, hL.setAt (r' := .blk g _) i hi hh (fun c hc => .inr (by simp [Res.foot] at hc; omega)) (fun k hk _ => he.block k hk (fun hf => hf)), hE.step0 he, fun hlt => absurd hlt (by have := hE.size; omega)⟩
        have h1 : (l.map (Value.int .i64) ++ ys.map (Value.int .i64))[j]? = some (.int .i64 u) := by
          rw [← List.map_append, List.getElem?_map, hj]
          rfl
        rw [← htake, List.getElem?_take] at h1
        split at h1
        · rw [Nat.zero_add]
          simpa using h1
        · cases h1
structure Walk (g : List GNode) (l : List Fact) (k : Int) (S q : List Int) : Prop where
  inn : ∀ i ∈ S ++ q, 0 ≤ i ∧ i < l.length ∧ Reach g l k i
  start : k ∈ S ++ q
  done : ∀ i ∈ S, hereF g l i = false ∧ ∀ j ∈ onF g (fat l i), j ∈ S ++ q
section
variable {g : List GNode} {l : List Fact} {k : Int} {S q : List Int}
theorem Walk.begin (h0 : 0 ≤ k) (h1 : k < l.length) : Walk g l k [] [k] := ⟨fun i hi => by simp at hi; subst hi; exact ⟨h0, h1, .refl⟩, by simp, fun i hi => by simp at hi⟩
theorem Walk.seen {i : Int} (h : Walk g l k S (i :: q)) (hi : i ∈ S) : Walk g l k S q := by
  have sub : ∀ x, x ∈ S ++ (i :: q) → x ∈ S ++ q := fun x hx => by
    rcases List.mem_append.1 hx with hx | hx
    · exact List.mem_append_left _ hx
    · rcases List.mem_cons.1 hx with rfl | hx
      · exact List.mem_append_left _ hi
      · exact List.mem_append_right _ hx
  exact ⟨fun x hx => h.inn x (by rcases List.mem_append.1 hx with hx | hx <;> simp [hx]), sub _ h.start, fun x hx => ⟨(h.done x hx).1, fun j hj => sub j ((h.done x hx).2 j hj)⟩⟩
theorem Walk.go {i : Int} (h : Walk g l k S (i :: q)) (hh : hereF g l i = false) (hin : ∀ j ∈ onF g (fat l i), 0 ≤ j ∧ j < l.length) : Walk g l k (S ++ [i]) (q ++ onF g (fat l i)) := by
  have hi := h.inn i (by simp)
  have sub : ∀ x, x ∈ S ++ (i :: q) → x ∈ (S ++ [i]) ++ (q ++ onF g (fat l i)) := fun x hx => by
    rcases List.mem_append.1 hx with hx | hx
    · simp [hx]
    · rcases List.mem_cons.1 hx with rfl | hx <;> simp_all
  refine ⟨fun x hx => ?_, sub _ h.start, fun x hx => ?_⟩
  · simp only [List.mem_append, List.mem_singleton] at hx
    rcases hx with (hx | rfl) | hx | hx
    · exact h.inn x (by simp [hx])
    · exact hi
    · exact h.inn x (by simp [hx])
    · exact ⟨(hin x hx).1, (hin x hx).2, .step hi.2.2 hx⟩
  · rcases List.mem_append.1 hx with hx | hx
    · exact ⟨(h.done x hx).1, fun j hj => sub j ((h.done x hx).2 j hj)⟩
    · rw [List.mem_singleton] at hx
      subst hx
      exact ⟨hh, fun j hj => by simp [hj]⟩
theorem Walk.all (h : Walk g l k S []) {j : Int} (hj : Reach g l k j) : j ∈ S ∧ hereF g l j = false := by
  have : j ∈ S := by
    induction hj with
    | refl => simpa using h.start
    | step _ hj ih => simpa using (h.done _ ih).2 _ hj
  exact ⟨this, (h.done j this).1⟩
def leftN (g : List GNode) (l : List Fact) (S : List Int) : Nat := ((List.range l.length).map fun (i : Nat) => if (i : Int) ∈ S then 0 else (onF g (fat l i)).length + 1).sum
theorem sum_split (f h : Nat → Nat) : ∀ (U : List Nat) (i : Nat), i ∈ U → U.Nodup → (∀ x ∈ U, x ≠ i → h x = f x) → (U.map h).sum + f i = (U.map f).sum + h i
  | [], i, hi, _, _ => by simp at hi
  | u :: U, i, hi, hn, hx => by
    rw [List.nodup_cons] at hn
    simp only [List.map_cons, List.sum_cons]
    rcases List.mem_cons.1 hi with rfl | hi
    · have : U.map h = U.map f := List.map_congr_left fun x hxu => hx x (List.mem_cons_of_mem _ hxu) (fun e => hn.1 (e ▸ hxu))
      rw [this]
      omega
    · have ih := sum_split f h U i hi hn.2 (fun x hxu => hx x (List.mem_cons_of_mem _ hxu))
      have hu := hx u List.mem_cons_self (fun e => hn.1 (e ▸ hi))
      rw [hu]
      omega
theorem leftN_go {i : Int} (h0 : 0 ≤ i) (h1 : i < l.length) (hi : i ∉ S) : leftN g l (S ++ [i]) + (onF g (fat l i)).length + 1 = leftN g l S := by
  have := sum_split (fun (x : Nat) => if (x : Int) ∈ S then 0 else (onF g (fat l x)).length + 1) (fun (x : Nat) => if (x : Int) ∈ S ++ [i] then 0 else (onF g (fat l x)).length + 1) (List.range l.length) i.toNat (List.mem_range.2 (by omega)) List.nodup_range (fun x _ hx => by
    have : ¬ (x : Int) = i := fun e => hx (by omega)
    simp [this])
  unfold leftN
  simp only [Int.toNat_of_nonneg h0] at this
  rw [if_neg hi, if_pos (by simp)] at this
  omega
theorem leftN_le {B : Nat} (h : ∀ f ∈ l, (onF g f).length ≤ B) : leftN g l S ≤ l.length * (B + 1) := by
  have h1 := sum_le (fun (i : Nat) => if (i : Int) ∈ S then 0 else (onF g (fat l i)).length + 1) (fun _ => B + 1) (List.range l.length) (fun i hi => by
    have hil := List.mem_range.1 hi
    split
    · omega
    · have := h _ (fat_mem (l := l) (k := (i : Int)) (by omega) (by omega))
      omega)
  have h2 : ∀ (m : List Nat), (m.map fun _ => B + 1).sum = m.length * (B + 1) := fun m => by
    induction m with
    | nil => simp
    | cons x r ih => simp [ih, Nat.add_mul]; omega
  rw [h2, List.length_range] at h1
  exact h1
end
theorem onF_le {g : List GNode} {f : Fact} : (onF g f).length ≤ f.why.length := by
  unfold onF
  split
  · exact Nat.le_refl _
  · simp
set_option maxHeartbeats 8000000 in
theorem rCasts_calls (w0 : World) (Ag : Option Addr) (cg : Nat) (g : List GNode) (hg : Nodes w0 Ag cg g) (hfit : Fits g) (hn : g.length ≤ 1000000) (Af : Option Addr) (cf : Nat) (l : List Fact) (hl : FactsAt w0 Af cf l) (hsmall : ∀ f ∈ l, f.why.length ≤ 1000000) (k : Int) :
    Calls Tryz.prog 20 [.slice Ag g.length cg, .slice Af l.length cf, .int .i64 k].toArray w0 fun en w' => ∃ b, en = .returned (.bool b) ∧ (b = true ↔ checkF g l = 0 ∧ 0 ≤ k ∧ k < l.length ∧ ∃ j, Reach g l k j ∧ hereF g l j = true) ∧ Ext0 w0 w' := by
  have hE : Ext0 w0 w0 := Ext.refl _ _
  have hL : Has w0 [] := trivial
  have hlb : ∀ S, leftN g l S ≤ l.length * (1000000 + 1) := fun S => leftN_le (fun f hf => Nat.le_trans onF_le (hsmall f hf))
  refine calls [6] Tryz.func20 rfl rfl rfl rfl ?_
  refine c_seq ?_
  refine c_ops ?_
  refine l_val rfl rfl rfl (r_assign rfl) ?_
  refine l_nil ?_
  refine c_seq ?_
  refine c_seq ?_
  refine c_ops ?_
  refine l_val rfl rfl rfl (r_move rfl) ?_
  refine l_val rfl rfl rfl (r_move rfl) ?_
  refine l_by rfl rfl rfl (r_call rfl rfl Tryz.func16 rfl rfl) (rfCheck_calls _ Ag cg g hg hfit hn Af cf l hl) ?_
  rintro _ w ⟨rfl, hX⟩
  replace hL := hL.ext0 hX
  replace hE := hE.step0 hX
  refine ⟨_, rfl, ?_⟩
  refine l_val rfl rfl rfl (r_neq rfl rfl rfl) ?_
  refine l_val rfl rfl rfl (r_move rfl) ?_
  refine l_case 14 rfl (fun hb => ?_) (fun hb => ?_)
  · have hr14 := hb
    replace hb := of_decide_eq_false (by simpa using hb)
    refine l_not rfl rfl rfl ?_
    refine l_not rfl rfl rfl ?_
    refine l_val rfl rfl rfl (r_pick rfl rfl) ?_
    refine l_val rfl rfl rfl (r_move rfl) ?_
    refine l_not rfl rfl rfl ?_
    refine l_not rfl rfl rfl ?_
    refine l_not rfl rfl rfl ?_
    refine l_not rfl rfl rfl ?_
    refine l_val rfl rfl rfl (r_pick rfl rfl) ?_
    refine l_nil ?_
    refine c_yes rfl ?_
    refine c_seq ?_
 
    refine c_ops ?_
    refine l_val rfl rfl rfl (r_assign rfl) ?_
    refine l_nil ?_
    refine c_ret ?_
    exact ⟨false, rfl, ⟨fun h => absurd h (by decide), fun h => absurd h.1 hb⟩, hE⟩
  · have hr14 := hb
    replace hb := of_decide_eq_true (by simpa using hb)
    have hck0 := hb
    refine l_val rfl rfl rfl (r_move rfl) ?_
    refine l_val rfl rfl rfl (r_lss rfl rfl rfl) ?_
    refine l_val rfl rfl rfl (r_pick rfl rfl) ?_
    refine l_val rfl rfl rfl (r_move rfl) ?_
    refine l_case 18 rfl (fun hb => ?_) (fun hb => ?_)
    · have hr18 := hb
      replace hb := of_decide_eq_true hb
      refine l_not rfl rfl rfl ?_
      refine l_not rfl rfl rfl ?_
      refine l_not rfl rfl rfl ?_
      refine l_not rfl rfl rfl ?_
      refine l_val rfl rfl rfl (r_pick rfl rfl) ?_
      refine l_nil ?_
      refine c_yes rfl ?_
      refine c_seq ?_
   
      refine c_ops ?_
      refine l_val rfl rfl rfl (r_assign rfl) ?_
      refine l_nil ?_
      refine c_ret ?_
      exact ⟨false, rfl, ⟨fun h => absurd h (by decide), fun h => by have := h.2.1; omega⟩, hE⟩
    · have hr18 := hb
      replace hb := of_decide_eq_false hb
      refine l_val rfl rfl rfl (r_move rfl) ?_
      refine l_val rfl rfl rfl (r_move rfl) ?_
      refine l_val rfl rfl rfl (r_len rfl Tryz.underlying25 rfl) ?_
      refine l_val rfl rfl rfl (r_geq rfl rfl rfl) ?_
      refine l_val rfl rfl rfl (r_pick rfl rfl) ?_
      refine l_nil ?_
      refine c_cond rfl (fun hb => ?_) (fun hb => ?_)
      · have hr23 := hb
        replace hb := of_decide_eq_true hb
        refine c_seq ?_
     
        refine c_ops ?_
        refine l_val rfl rfl rfl (r_assign rfl) ?_
        refine l_nil ?_
        refine c_ret ?_
        exact ⟨false, rfl, ⟨fun h => absurd h (by decide), fun h => by have := h.2.2.1; omega⟩, hE⟩
      · have hr23 := hb
        replace hb := of_decide_eq_false hb
        have hyes : checkF g l = 0 ∧ 0 ≤ k ∧ k < l.length := by have h2 := of_decide_eq_false hr18; exact ⟨hck0, by omega, by omega⟩
        obtain ⟨hok, _, hall⟩ := checkF_ok hfit hyes.1
        have hl8 : l.length ≤ 8000 := by
          have h := hyes.1
          unfold checkF at h
          split at h
          · split at h
            · cases h
            · omega
          · rename_i h1; exact absurd h h1
        refine c_skip ?_
        refine c_seq ?_
     
        refine c_ops ?_
        refine l_val rfl rfl rfl (r_move rfl) ?_
        refine l_new rfl rfl rfl (n_slice (cells := #[.int .i64 k]) rfl Tryz.underlying26 Tryz.sizeOf3 Tryz.zeroValue3 rfl rfl (fill_int1 _) hL hE) ?_
        rintro _ w ⟨s25, rfl, hs25, hL, hE, hX⟩
        refine l_val rfl rfl rfl (r_assign rfl) ?_
        refine l_nil ?_
        refine c_seq ?_
     
        refine c_ops ?_
        refine l_val rfl rfl rfl (r_move rfl) ?_
        refine l_val rfl rfl rfl (r_len rfl Tryz.underlying25 rfl) ?_
        refine l_new rfl rfl rfl (n_make rfl Tryz.underlying62 info_bool rfl rfl hL hE (by omega) (by omega)) ?_
        rintro _ w ⟨s28, rfl, hs28, hL, hE, hX⟩
        replace hL : Has w [.blk s28 (.cells (inCells l.length []).toArray 4 (0, 0)), .blk s25 (.cells #[.int .i64 k] 3 (0, 0))] := by rw [← made_none]; exact hL
        refine l_val rfl rfl rfl (r_assign rfl) ?_
        refine l_nil ?_
        refine c_seq ?_
        refine c_block ?_
     
        refine c_loop0 (fun m1 e w => (e 0 = .slice Ag g.length cg ∧ e 1 = .slice Af l.length cf ∧ e 8 = .slice (some ⟨s28, 0, none⟩) l.length l.length) ∧ ∃ (S q : List Int) (bq off cap : Nat) (cur : Array Value), m1 = leftN g l S + q.length ∧ leftN g l S + q.length ≤ l.length * (1000000 + 1) + 1 ∧ e 7 = .slice (some ⟨bq, off, none⟩) q.length cap ∧ QAt cur off cap q ∧ Walk g l k S q ∧ (bq < w0.heap.size → False) ∧ Has w [.blk s28 (.cells (inCells l.length S).toArray 4 (0, 0)), .blk bq (.cells cur 3 (0, 0))] ∧ Ext0 w0 w) (leftN g l [] + 1) ?_ ?_
        · exact ⟨⟨rfl, rfl, rfl⟩, [], [k], s25, 0, 1, #[.int .i64 k], rfl, by have := hlb []; simp; omega, rfl, ⟨by simp, by simp, fun i x hi => by cases i with | zero => (simp at hi; subst hi; rfl) | succ i => simp at hi⟩, Walk.begin hyes.2.1 hyes.2.2, fun h => absurd h (Nat.not_lt.2 hs25), hL, hE⟩
        rintro m1 e w ⟨⟨hq0, hq1, hq8⟩, hI⟩
        refine c_know (t := 0) (by exact hq0) ?_
        refine c_know (t := 1) (by exact hq1) ?_
        refine c_know (t := 8) (by exact hq8) ?_
        clear hq0 hq1 hq8
        obtain ⟨S, q, bq, off, cap, cur, hm, hmb, h7, hq, hW, hS, hL, hE⟩ := hI
        refine c_know (t := 7) (by exact h7) ?_
        refine c_seq ?_
        refine c_seq ?_
     
        refine c_ops ?_
        refine l_val rfl rfl rfl (r_move rfl) ?_
        refine l_val rfl rfl rfl (r_len rfl Tryz.underlying26 rfl) ?_
        refine l_val rfl rfl rfl (r_gtr rfl rfl rfl) ?_
        refine l_nil ?_
        refine c_cond rfl (fun hb => ?_) (fun hb => ?_)
        · have hr31 := hb
          replace hb := of_decide_eq_true hb
          obtain ⟨i0, q', rfl⟩ : ∃ i0 q', q = i0 :: q' := by
            cases q with
            | nil => simp at hb
            | cons a r => exact ⟨a, r, rfl⟩
          have hi0 := hW.inn i0 (by simp)
          obtain ⟨A1, c1, hfc, hfw⟩ := hl.fact i0 hi0.1 hi0.2.1
          have hfm := fat_mem hi0.1 hi0.2.1
          obtain ⟨hfo, hfi⟩ := formed_ok (hall _ hfm)
          obtain ⟨Ak, ck, Al, cl, hcell, _, _⟩ := hg.node (fat l i0).a hfo.a.1 hfo.a.2
          have hlen0 : (i0 :: q').length = q'.length + 1 := rfl
          have hqm : (i0 :: q').length ≤ 9223372036854775807 := by omega
          have hsml := Nat.le_trans (onF_le (g := g)) (hsmall _ hfm)
          have hsn : w.cell? ((⟨s28, 0, none⟩ : Addr).add (i0.toNat * 1)) = some (.bool (decide (i0 ∈ S))) := by
            rw [blk_add, blk_cell (hL.get 0 rfl), Nat.zero_add, Nat.mul_one]
            have := inCells_get (n := l.length) (l := S) (i := i0.toNat) (by omega)
            rw [Int.toNat_of_nonneg hi0.1] at this
            simpa using this
          refine c_skip ?_
          refine c_block ?_
          refine c_seq ?_
       
          refine c_ops ?_
          refine l_val rfl rfl rfl (r_move rfl) ?_
          refine l_val rfl rfl rfl (r_indexAddr_sl rfl Tryz.underlying26 Tryz.sizeOf3 rfl (fun _ => rfl) rfl (by decide) (by simp)) ?_
          refine l_val rfl rfl rfl (r_load (v := .int .i64 i0) rfl Tryz.isAgg3 rfl ((hq.sl (hL.get 1 rfl) hqm).int 0 (by decide) (by simp))) ?_
          refine l_val rfl rfl rfl (r_assign rfl) ?_
          refine l_nil ?_
          refine c_seq ?_
       
          refine c_ops ?_
          refine l_val rfl rfl rfl (r_move rfl) ?_
          refine l_new rfl rfl rfl (n_pop rfl Tryz.underlying26 Tryz.sizeOf3 rfl rfl hq) ?_
          rintro _ w ⟨off2, rfl, hq2, rfl⟩
          refine l_val rfl rfl rfl (r_assign rfl) ?_
          refine l_nil ?_
          refine c_seq ?_
          refine c_seq ?_
       
          refine c_ops ?_
          refine l_val rfl rfl rfl (r_move rfl) ?_
          refine l_val rfl rfl rfl (r_move rfl) ?_
          refine l_val rfl rfl rfl (r_indexAddr rfl Tryz.underlying62 Tryz.sizeOf4 rfl rfl hi0.1 hi0.2.1) ?_
          refine l_val rfl rfl rfl (r_load (v := .bool (decide (i0 ∈ S))) rfl Tryz.isAgg4 rfl hsn) ?_
          refine l_nil ?_
          refine c_cond rfl (fun hb => ?_) (fun hb => ?_)
          · have hr40 := hb
            have hWs := hW.seen (of_decide_eq_true hb)
            refine c_exit ?_
            first | exact ⟨leftN g l S + q'.length, by omega, ⟨rfl, rfl, rfl⟩, S, q', bq, off2, cap - 1, cur, rfl, by omega, rfl, hq2, hWs, hS, hL, hE⟩ | exact ⟨leftN g l (S ++ [i0]) + (q' ++ onF g (fat l i0)).length, by omega, ⟨rfl, rfl, rfl⟩, S ++ [i0], q' ++ onF g (fat l i0), bq2, off3, cap3, cur3, rfl, by omega, rfl, hq3, hWg, hS3, hL, hE⟩
          · have hr40 := hb
            have hns : i0 ∉ S := of_decide_eq_false hb
            have hW2 := hW
            have hlg := leftN_go (g := g) (l := l) hi0.1 hi0.2.1 hns
            have hql : (q' ++ onF g (fat l i0)).length = q'.length + (onF g (fat l i0)).length := List.length_append
            refine c_skip ?_
            refine c_seq ?_
         
            refine c_ops ?_
            refine l_val rfl rfl rfl (r_move rfl) ?_
            refine l_val rfl rfl rfl (r_move rfl) ?_
            refine l_val rfl rfl rfl (r_indexAddr rfl Tryz.underlying62 Tryz.sizeOf4 rfl rfl hi0.1 hi0.2.1) ?_
            refine l_new_do rfl rfl (r_store1 (v := .bool true) 0 rfl Tryz.sizeOf4 rfl rfl rfl rfl hL hE rfl (by rw [Nat.mul_one]; simp [inCells]; omega) (fun h => absurd h (Nat.not_lt.2 hs28))) ?_
            rintro w ⟨hL, hE, hz, hk'⟩; rw [Nat.mul_one, inCells_set hi0.1] at hL
            refine l_nil ?_
            refine c_seq ?_
            refine c_seq ?_
         
            refine c_ops ?_
            refine l_val rfl rfl rfl (r_move rfl) ?_
            refine l_val rfl rfl rfl (r_move rfl) ?_
            refine l_val rfl rfl rfl (r_move rfl) ?_
            refine l_val rfl rfl rfl (r_indexAddr_sl rfl Tryz.underlying25 Tryz.sizeOf43 rfl hl.is rfl hi0.1 hi0.2.1) ?_
            refine l_val rfl rfl rfl (r_fieldAddr (n := 0) rfl Tryz.underlying43 rfl Tryz.sizeOf3 rfl) ?_
            refine l_val rfl rfl rfl (r_load rfl Tryz.isAgg3 rfl (Ext0.cells hE _ _ (hfc 0 _ rfl))) ?_
            refine l_val rfl rfl rfl (r_indexAddr_sl rfl Tryz.underlying22 Tryz.sizeOf46 rfl hg.is rfl hfo.a.1 hfo.a.2) ?_
            refine l_val rfl rfl rfl (r_fieldAddr (n := 0) rfl Tryz.underlying46 rfl Tryz.sizeOf3 rfl) ?_
            refine l_val rfl rfl rfl (r_load rfl Tryz.isAgg3 rfl (Ext0.cells hE _ _ (hcell 0 _ rfl))) ?_
            refine l_val rfl rfl rfl (r_eql rfl rfl rfl) ?_
            refine l_val rfl rfl rfl (r_move rfl) ?_
            refine l_case 54 rfl (fun hb => ?_) (fun hb => ?_)
            · have hr54 := hb
              replace hb := of_decide_eq_true hb
              have hdy : dynB g (fat l i0).a = true := decide_eq_true hb
              refine l_val rfl rfl rfl (r_move rfl) ?_
              refine l_val rfl rfl rfl (r_move rfl) ?_
              refine l_val rfl rfl rfl (r_move rfl) ?_
              refine l_val rfl rfl rfl (r_indexAddr_sl rfl Tryz.underlying25 Tryz.sizeOf43 rfl hl.is rfl hi0.1 hi0.2.1) ?_
              refine l_val rfl rfl rfl (r_fieldAddr (n := 0) rfl Tryz.underlying43 rfl Tryz.sizeOf3 rfl) ?_
              refine l_val rfl rfl rfl (r_load rfl Tryz.isAgg3 rfl (Ext0.cells hE _ _ (hfc 1 _ rfl))) ?_
              refine l_by rfl rfl rfl (r_call rfl rfl Tryz.func45 rfl rfl) (dyn_rcalls _ Ag cg g (hg.keep RNode.kept (Ext0.cells hE)) hok (fat l i0).b) ?_
              rintro _ w ⟨rfl, hX⟩
              replace hL := hL.ext0 hX
              replace hE := hE.step0 hX
              refine ⟨_, rfl, ?_⟩
              refine l_val rfl rfl rfl (r_not rfl rfl) ?_
              refine l_val rfl rfl rfl (r_pick rfl rfl) ?_
              refine l_nil ?_
              refine c_cond rfl (fun hb => ?_) (fun hb => ?_)
              · have hr63 := hb
                have hh : hereF g l i0 = true := by unfold hereF; rw [hdy]; simpa using hb
                refine c_seq ?_
             
                refine c_ops ?_
                refine l_val rfl rfl rfl (r_assign rfl) ?_
                refine l_nil ?_
                refine c_ret ?_
                exact ⟨true, rfl, ⟨fun _ => ⟨hyes.1, hyes.2.1, hyes.2.2, i0, hi0.2.2, hh⟩, fun _ => rfl⟩, hE⟩
              · have hr63 := hb
                have hh : hereF g l i0 = false := by unfold hereF; rw [hdy]; simpa using hb
                have hWg := hW2.go hh hfi
                refine c_skip ?_
             
                refine c_ops ?_
                refine l_val rfl rfl rfl (r_move rfl) ?_
                refine l_val rfl rfl rfl (r_move rfl) ?_
                refine l_val rfl rfl rfl (r_move rfl) ?_
                refine l_val rfl rfl rfl (r_move rfl) ?_
                refine l_val rfl rfl rfl (r_indexAddr_sl rfl Tryz.underlying25 Tryz.sizeOf43 rfl hl.is rfl hi0.1 hi0.2.1) ?_
                refine l_val rfl rfl rfl (r_load_agg (vs := factCells (fat l i0) A1 c1) rfl Tryz.isAgg43 Tryz.sizeOf43 rfl (fun j v hj => Ext0.cells hE _ _ (hfc j v hj))) ?_
                refine l_by rfl rfl rfl (r_call rfl rfl Tryz.func46 rfl rfl) (on_rcalls _ Ag cg g (hg.keep RNode.kept (Ext0.cells hE)) (fat l i0) A1 c1 (hfw.keep RInt.kept (Ext0.cells hE)) hfo.a hfo.why) ?_
                rintro _ w ⟨A7, c7, rfl, honI, hX⟩
                replace hL := hL.ext0 hX
                replace hE := hE.step0 hX
                have hon := (honI w0 hfw).keep RInt.kept (Ext0.cells hE)
                refine ⟨_, rfl, ?_⟩
                refine l_new rfl rfl rfl (n_pushN 1 rfl Tryz.underlying26 info_int rfl rfl hon hL hE rfl hq2 hS (by omega)) ?_
                rintro _ w ⟨bq2, off3, cap3, cur3, rfl, hq3, hL, hE, hS3⟩
                refine l_val rfl rfl rfl (r_assign rfl) ?_
                refine l_nil ?_
                first | exact ⟨leftN g l S + q'.length, by omega, ⟨rfl, rfl, rfl⟩, S, q', bq, off2, cap - 1, cur, rfl, by omega, rfl, hq2, hWs, hS, hL, hE⟩ | exact ⟨leftN g l (S ++ [i0]) + (q' ++ onF g (fat l i0)).length, by omega, ⟨rfl, rfl, rfl⟩, S ++ [i0], q' ++ onF g (fat l i0), bq2, off3, cap3, cur3, rfl, by omega, rfl, hq3, hWg, hS3, hL, hE⟩
            · have hr54 := hb
              replace hb := of_decide_eq_false hb
              have hdy : dynB g (fat l i0).a = false := decide_eq_false hb
              have hh : hereF g l i0 = false := by unfold hereF; rw [hdy]; rfl
              have hWg := hW2.go hh hfi
              refine l_not rfl rfl rfl ?_
              refine l_not rfl rfl rfl ?_
              refine l_not rfl rfl rfl ?_
              refine l_not rfl rfl rfl ?_
              refine l_not rfl rfl rfl ?_
              refine l_not rfl rfl rfl ?_
              refine l_not rfl rfl rfl ?_
              refine l_not rfl rfl rfl ?_
              refine l_val rfl rfl rfl (r_pick rfl rfl) ?_
              refine l_nil ?_
              refine c_no rfl ?_
              refine c_skip ?_
           
              refine c_ops ?_
              refine l_val rfl rfl rfl (r_move rfl) ?_
              refine l_val rfl rfl rfl (r_move rfl) ?_
              refine l_val rfl rfl rfl (r_move rfl) ?_
              refine l_val rfl rfl rfl (r_move rfl) ?_
              refine l_val rfl rfl rfl (r_indexAddr_sl rfl Tryz.underlying25 Tryz.sizeOf43 rfl hl.is rfl hi0.1 hi0.2.1) ?_
              refine l_val rfl rfl rfl (r_load_agg (vs := factCells (fat l i0) A1 c1) rfl Tryz.isAgg43 Tryz.sizeOf43 rfl (fun j v hj => Ext0.cells hE _ _ (hfc j v hj))) ?_
              refine l_by rfl rfl rfl (r_call rfl rfl Tryz.func46 rfl rfl) (on_rcalls _ Ag cg g (hg.keep RNode.kept (Ext0.cells hE)) (fat l i0) A1 c1 (hfw.keep RInt.kept (Ext0.cells hE)) hfo.a hfo.why) ?_
              rintro _ w ⟨A7, c7, rfl, honI, hX⟩
              replace hL := hL.ext0 hX
              replace hE := hE.step0 hX
              have hon := (honI w0 hfw).keep RInt.kept (Ext0.cells hE)
              refine ⟨_, rfl, ?_⟩
              refine l_new rfl rfl rfl (n_pushN 1 rfl Tryz.underlying26 info_int rfl rfl hon hL hE rfl hq2 hS (by omega)) ?_
              rintro _ w ⟨bq2, off3, cap3, cur3, rfl, hq3, hL, hE, hS3⟩
              refine l_val rfl rfl rfl (r_assign rfl) ?_
              refine l_nil ?_
              first | exact ⟨leftN g l S + q'.length, by omega, ⟨rfl, rfl, rfl⟩, S, q', bq, off2, cap - 1, cur, rfl, by omega, rfl, hq2, hWs, hS, hL, hE⟩ | exact ⟨leftN g l (S ++ [i0]) + (q' ++ onF g (fat l i0)).length, by omega, ⟨rfl, rfl, rfl⟩, S ++ [i0], q' ++ onF g (fat l i0), bq2, off3, cap3, cur3, rfl, by omega, rfl, hq3, hWg, hS3, hL, hE⟩
        · have hr31 := hb
          replace hb := of_decide_eq_false hb
          obtain rfl : q = [] := List.eq_nil_of_length_eq_zero (by omega)
          refine c_exit ?_
          refine c_seq ?_
       
          refine c_ops ?_
          refine l_val rfl rfl rfl (r_assign rfl) ?_
          refine l_nil ?_
          refine c_ret ?_
          exact ⟨false, rfl, ⟨fun h => absurd h (by decide), fun h => by
      obtain ⟨_, _, _, j, hj, hh⟩ := h
      rw [(hW.all hj).2] at hh
      cases hh⟩, hE⟩
end Go.Proofs.YtndophlnapjkhaaGreatDoor.Vc
namespace Go.Proofs.YtndophlnapjkhaaGreatDoor.Vc
open Go Go.RowKit
set_option linter.unusedVariables false
set_option linter.unusedSimpArgs false
def RFV (_ : World) (x : FV) (cs : List Value) : Prop := cs = fcell x
theorem RFV.kept : Kept RFV := fun _ _ _ _ _ h => h
theorem fv_sl {w : World} {B e n' c : Nat} {A : Option Addr} {fv : List FV} (h : w.ownsRow B e 3 (.slice A n' c) fv.length (fv.map fcell).flatten) : Sl w 3 RFV A fv.length c fv ∧ n' = fv.length := by
  have hE : Els w 3 RFV fv (fv.map fcell) := by
    refine ⟨by simp, fun i x cs h1 h2 => ?_⟩
    rw [List.getElem?_map, h1] at h2
    cases h2
    exact ⟨rfl, rfl⟩
  obtain ⟨A', c', hv, hs, _⟩ := Sl.ofRow h hE rfl
  injection hv with h1 h2 h3
  subst h1; subst h2; subst h3
  exact ⟨hs, rfl⟩
end Go.Proofs.YtndophlnapjkhaaGreatDoor.Vc
namespace Go.Proofs.YtndophlnapjkhaaGreatDoor.Vc
open Go Go.RowKit
set_option linter.unusedVariables false
set_option linter.unusedSimpArgs false
def fewOne (f : Fact) : Fact := ⟨f.a, f.b, f.why.take 20⟩
def fewF (l : List Fact) : List Fact := (l.take 30).map fewOne
theorem fewF_len (l : List Fact) : (fewF l).length ≤ 30 := by simp [fewF]; omega
theorem fewF_why {l : List Fact} {f : Fact} (h : f ∈ fewF l) : f.why.length ≤ 20 := by
  unfold fewF at h
  obtain ⟨x, _, rfl⟩ := List.mem_map.1 h
  simp [fewOne]
  omega
theorem fewF_few (l : List Fact) : fewF (fewF l) = fewF l := by
  have h1 : (fewF l).take 30 = fewF l := List.take_of_length_le (fewF_len l)
  have h2 : fewF (fewF l) = (fewF l).map fewOne := by
    show ((fewF l).take 30).map fewOne = _
    rw [h1]
  rw [h2]
  unfold fewF
  rw [List.map_map]
  apply List.map_congr_left
  intro x _
  simp [fewOne, List.take_take]
theorem r_cutF {P : Program} {w : World} {ρ : Operand → Value} {o : Oper} {x i : Operand} {t el : TypeId} {A : Option Addr} {n c sz : Nat} {k : IntKind} (h : o.op = .slice t x none (some i) none) (hu : P.underlying t = some (.slice el)) (hs : Sized P el sz) (hx : ρ x = .slice A n c) (hi : ρ i = .int k (if (20 : Int) < (n : Int) then 20 else (n : Int))) (hc : n ≤ c) : (execOp ρ o).run P w = .ok (.value (.slice A (min n 20) c)) w := by
  have := r_slice_to (P := P) (w := w) h hu hs hx hi (by split <;> omega) (by split <;> omega)
  rw [show (20 : Int) = ((20 : Nat) : Int) from rfl, cut_nat] at this
  exact this
theorem few_perm {α : Type} (a b : α) (T : List α) : (a :: b :: T).Perm (b :: (T ++ [a])) :=
  (List.Perm.swap b a T).trans (List.Perm.cons b (List.perm_append_comm (l₁ := [a]) (l₂ := T)))
theorem few_calls (w0 : World) (A : Option Addr) (c : Nat) (l : List Fact) (hl : FactsAt w0 A c l) :
    Calls Tryz.prog 12 [.slice A l.length c].toArray w0 fun en w' => ∃ A' c', en = .returned (.slice A' (fewF l).length c') ∧ FactsAt w' A' c' (fewF l) ∧ Ext0 w0 w' := by
  have hE : Ext0 w0 w0 := Ext.refl _ _
  have hL : Has w0 [] := trivial
  refine calls [2] Tryz.func12 rfl rfl rfl rfl ?_
  refine c_seq ?_
  refine c_ops ?_
  refine l_val rfl rfl rfl (r_assign rfl) ?_
  refine l_nil ?_
  refine c_seq ?_
  refine c_ops ?_
  refine l_val rfl rfl rfl (r_assign rfl) ?_
  refine l_nil ?_
  refine c_seq ?_
  refine c_seq ?_
  refine c_ops ?_
  refine l_val rfl rfl rfl (r_assign rfl) ?_
  refine l_nil ?_
  refine c_block ?_
  refine c_loop0 (fun m1 e w => (e 0 = .slice A l.length c) ∧ ∃ (n : Nat) (v : Value) (fv : List FV), n ≤ l.length ∧ n ≤ 30 ∧ m1 = 30 - n ∧ e 4 = .int .i64 (n : Nat) ∧ e 3 = v ∧ fv.map (·.1) = (l.take n).map fewOne ∧ Has w (.row w0.heap.size 43 3 v (fv).length ((fv).map fcell).flatten :: (fv).map (fres 3 w0.heap.size)) ∧ Ext0 w0 w) 30 ?_ ?_
  · exact ⟨rfl, 0, .slice none 0 0, [], Nat.zero_le _, Nat.zero_le _, rfl, rfl, rfl, rfl, hL.nilRow _ _ _, hE⟩
  rintro m1 e w ⟨hq0, hI⟩
  refine c_know (t := 0) (by exact hq0) ?_
  clear hq0
  obtain ⟨n, v, fv, hnl, hn30', hmn, h4, h3, hfv, hL, hE⟩ := hI
  refine c_know (t := 4) (by exact h4) ?_
  refine c_know (t := 3) (by exact h3) ?_
  have hfl : fv.length = n := by have := congrArg List.length hfv; simpa [Nat.min_eq_left hnl] using this
  have hmx := hl.max
  refine c_seq ?_
  refine c_seq ?_
  refine c_ops ?_
  refine l_val rfl rfl rfl (r_move rfl) ?_
  refine l_val rfl rfl rfl (r_move rfl) ?_
  refine l_val rfl rfl rfl (r_len rfl Tryz.underlying25 rfl) ?_
  refine l_val rfl rfl rfl (r_lss rfl rfl rfl) ?_
  refine l_val rfl rfl rfl (r_move rfl) ?_
  refine l_case 9 rfl (fun hb => ?_) (fun hb => ?_)
  · have hr9 := hb
    replace hb := of_decide_eq_true hb
    have hnn : n < l.length := by omega
    refine l_val rfl rfl rfl (r_move rfl) ?_
    refine l_val rfl rfl rfl (r_lss rfl rfl rfl) ?_
    refine l_val rfl rfl rfl (r_pick rfl rfl) ?_
    refine l_nil ?_
    refine c_cond rfl (fun hb => ?_) (fun hb => ?_)
    · have hr12 := hb
      replace hb := of_decide_eq_true hb
      have hn30 : n < 30 := by omega
      obtain ⟨A1, c1, hfc, hfw⟩ := hl.fact n (by omega) (by omega)
      have hwm := hfw.max
      refine c_skip ?_
      refine c_seq ?_
      refine c_block ?_
   
      refine c_draw mixed (hL.sub (.cons _ (.refl _))) hE ?_
      replace hL := hL.drew
      replace hE := hE.drew
      have hK := hL.sub (.cons _ (.refl _))
      refine h_t 0 rfl rfl (by kernel_rfl) (fun _ _ _ h => h) ⟨hK, hE⟩ rfl (fun W hW => r_move rfl) ?_
      refine h_listed (listed' := #[T',F',F',F',F',F',F',F',F',F',F',F',F',F',F',F',F',F',F',F',F',F',F',F',F',F',F',F',F']) (by kernel_rfl) ?_
      refine h_t 1 rfl rfl (by kernel_rfl) (fun _ _ _ h => h) ⟨hK, hE⟩ rfl (fun W hW => r_move rfl) ?_
      refine h_listed (listed' := #[T',T',F',F',F',F',F',F',F',F',F',F',F',F',F',F',F',F',F',F',F',F',F',F',F',F',F',F',F']) (by kernel_rfl) ?_
      refine h_t 2 rfl rfl (by kernel_rfl) (fun _ _ _ h => h) ⟨hK, hE⟩ rfl (fun W hW => r_move rfl) ?_
      refine h_listed (listed' := #[T',T',T',F',F',F',F',F',F',F',F',F',F',F',F',F',F',F',F',F',F',F',F',F',F',F',F',F',F']) (by kernel_rfl) ?_
      refine h_t 3 rfl rfl (by kernel_rfl) (fun _ _ _ h => h) ⟨hK, hE⟩ rfl (fun W hW => r_indexAddr_sl rfl Tryz.underlying25 Tryz.sizeOf43 rfl hl.is rfl (by omega) (by omega)) ?_
      refine h_listed (listed' := #[T',T',T',T',F',F',F',F',F',F',F',F',F',F',F',F',F',F',F',F',F',F',F',F',F',F',F',F',F']) (by kernel_rfl) ?_
      refine h_t 4 rfl rfl (by kernel_rfl) (fun _ _ _ h => h) ⟨hK, hE⟩ rfl (fun W hW => r_fieldAddr (n := 0) rfl Tryz.underlying43 rfl Tryz.sizeOf3 rfl) ?_
      refine h_listed (listed' := #[T',T',T',T',T',F',F',F',F',F',F',F',F',F',F',F',F',F',F',F',F',F',F',F',F',F',F',F',F']) (by kernel_rfl) ?_
      refine h_t 5 rfl rfl (by kernel_rfl) (fun _ _ _ h => h) ⟨hK, hE⟩ rfl (fun W hW => r_load rfl Tryz.isAgg3 rfl (Ext0.cells hW.2 _ _ (hfc 0 _ rfl))) ?_
      refine h_listed (listed' := #[T',T',T',T',T',T',F',F',F',F',F',F',F',F',F',F',F',F',F',F',F',F',F',F',F',F',F',F',F']) (by kernel_rfl) ?_
      refine h_t 6 rfl rfl (by kernel_rfl) (fun _ _ _ h => h) ⟨hK, hE⟩ rfl (fun W hW => r_move rfl) ?_
      refine h_listed (listed' := #[T',T',T',T',T',T',T',F',F',F',F',F',F',F',F',F',F',F',F',F',F',F',F',F',F',F',F',F',F']) (by kernel_rfl) ?_
      refine h_t 7 rfl rfl (by kernel_rfl) (fun _ _ _ h => h) ⟨hK, hE⟩ rfl (fun W hW => r_move rfl) ?_
      refine h_listed (listed' := #[T',T',T',T',T',T',T',T',F',F',F',F',F',F',F',F',F',F',F',F',F',F',F',F',F',F',F',F',F']) (by kernel_rfl) ?_
      refine h_t 8 rfl rfl (by kernel_rfl) (fun _ _ _ h => h) ⟨hK, hE⟩ rfl (fun W hW => r_indexAddr_sl rfl Tryz.underlying25 Tryz.sizeOf43 rfl hl.is rfl (by omega) (by omega)) ?_
      refine h_listed (listed' := #[T',T',T',T',T',T',T',T',T',F',F',F',F',F',F',F',F',F',F',F',F',F',F',F',F',F',F',F',F']) (by kernel_rfl) ?_
      refine h_t 9 rfl rfl (by kernel_rfl) (fun _ _ _ h => h) ⟨hK, hE⟩ rfl (fun W hW => r_fieldAddr (n := 0) rfl Tryz.underlying43 rfl Tryz.sizeOf3 rfl) ?_
      refine h_listed (listed' := #[T',T',T',T',T',T',T',T',T',T',F',F',F',F',F',F',F',F',F',F',F',F',F',F',F',F',F',F',F']) (by kernel_rfl) ?_
      refine h_t 10 rfl rfl (by kernel_rfl) (fun _ _ _ h => h) ⟨hK, hE⟩ rfl (fun W hW => r_load rfl Tryz.isAgg3 rfl (Ext0.cells hW.2 _ _ (hfc 1 _ rfl))) ?_
      refine h_listed (listed' := #[T',T',T',T',T',T',T',T',T',T',T',F',F',F',F',F',F',F',F',F',F',F',F',F',F',F',F',F',F']) (by kernel_rfl) ?_
      refine h_t 11 rfl rfl (by kernel_rfl) (fun _ _ _ h => h) ⟨hK, hE⟩ rfl (fun W hW => r_move rfl) ?_
      refine h_listed (listed' := #[T',T',T',T',T',T',T',T',T',T',T',T',F',F',F',F',F',F',F',F',F',F',F',F',F',F',F',F',F']) (by kernel_rfl) ?_
      refine h_t 12 rfl rfl (by kernel_rfl) (fun _ _ _ h => h) ⟨hK, hE⟩ rfl (fun W hW => r_move rfl) ?_
      refine h_listed (listed' := #[T',T',T',T',T',T',T',T',T',T',T',T',T',F',F',F',F',F',F',F',F',F',F',F',F',F',F',F',F']) (by kernel_rfl) ?_
      refine h_t 13 rfl rfl (by kernel_rfl) (fun _ _ _ h => h) ⟨hK, hE⟩ rfl (fun W hW => r_indexAddr_sl rfl Tryz.underlying25 Tryz.sizeOf43 rfl hl.is rfl (by omega) (by omega)) ?_
      refine h_listed (listed' := #[T',T',T',T',T',T',T',T',T',T',T',T',T',T',F',F',F',F',F',F',F',F',F',F',F',F',F',F',F']) (by kernel_rfl) ?_
      refine h_t 14 rfl rfl (by kernel_rfl) (fun _ _ _ h => h) ⟨hK, hE⟩ rfl (fun W hW => r_fieldAddr (n := 0) rfl Tryz.underlying43 rfl Tryz.sizeOf26 rfl) ?_
      refine h_listed (listed' := #[T',T',T',T',T',T',T',T',T',T',T',T',T',T',T',F',F',F',F',F',F',F',F',F',F',F',F',F',F']) (by kernel_rfl) ?_
      refine h_t 15 rfl rfl (by kernel_rfl) (fun _ _ _ h => h) ⟨hK, hE⟩ rfl (fun W hW => r_load rfl Tryz.isAgg26 rfl (Ext0.cells hW.2 _ _ (hfc 2 _ rfl))) ?_
      refine h_listed (listed' := #[T',T',T',T',T',T',T',T',T',T',T',T',T',T',T',T',F',F',F',F',F',F',F',F',F',F',F',F',F']) (by kernel_rfl) ?_
      refine h_t 16 rfl rfl (by kernel_rfl) (fun _ _ _ h => h) ⟨hK, hE⟩ rfl (fun W hW => r_move rfl) ?_
      refine h_listed (listed' := #[T',T',T',T',T',T',T',T',T',T',T',T',T',T',T',T',T',F',F',F',F',F',F',F',F',F',F',F',F']) (by kernel_rfl) ?_
      refine h_t 17 rfl rfl (by kernel_rfl) (fun _ _ _ h => h) ⟨hK, hE⟩ rfl (fun W hW => r_move rfl) ?_
      refine h_listed (listed' := #[T',T',T',T',T',T',T',T',T',T',T',T',T',T',T',T',T',T',F',F',F',F',F',F',F',F',F',F',F']) (by kernel_rfl) ?_
      refine h_t 18 rfl rfl (by kernel_rfl) (fun _ _ _ h => h) ⟨hK, hE⟩ rfl (fun W hW => r_indexAddr_sl rfl Tryz.underlying25 Tryz.sizeOf43 rfl hl.is rfl (by omega) (by omega)) ?_
      refine h_listed (listed' := #[T',T',T',T',T',T',T',T',T',T',T',T',T',T',T',T',T',T',T',F',F',F',F',F',F',F',F',F',F']) (by kernel_rfl) ?_
      refine h_t 19 rfl rfl (by kernel_rfl) (fun _ _ _ h => h) ⟨hK, hE⟩ rfl (fun W hW => r_fieldAddr (n := 0) rfl Tryz.underlying43 rfl Tryz.sizeOf26 rfl) ?_
      refine h_listed (listed' := #[T',T',T',T',T',T',T',T',T',T',T',T',T',T',T',T',T',T',T',T',F',F',F',F',F',F',F',F',F']) (by kernel_rfl) ?_
      refine h_t 20 rfl rfl (by kernel_rfl) (fun _ _ _ h => h) ⟨hK, hE⟩ rfl (fun W hW => r_load rfl Tryz.isAgg26 rfl (Ext0.cells hW.2 _ _ (hfc 2 _ rfl))) ?_
      refine h_listed (listed' := #[T',T',T',T',T',T',T',T',T',T',T',T',T',T',T',T',T',T',T',T',T',F',F',F',F',F',F',F',F']) (by kernel_rfl) ?_
      refine h_t 21 rfl rfl (by kernel_rfl) (fun _ _ _ h => h) ⟨hK, hE⟩ rfl (fun W hW => r_len rfl Tryz.underlying26 rfl) ?_
      refine h_listed (listed' := #[T',T',T',T',T',T',T',T',T',T',T',T',T',T',T',T',T',T',T',T',T',T',F',F',F',F',F',F',F']) (by kernel_rfl) ?_
      refine h_t 22 rfl rfl (by kernel_rfl) (fun _ _ _ h => h) ⟨hK, hE⟩ rfl (fun W hW => r_min rfl rfl rfl) ?_
      refine h_listed (listed' := #[T',T',T',T',T',T',T',T',T',T',T',T',T',T',T',T',T',T',T',T',T',T',T',F',F',F',F',F',F']) (by kernel_rfl) ?_
      refine h_t 23 rfl rfl (by kernel_rfl) (fun _ _ _ h => h) ⟨hK, hE⟩ rfl (fun W hW => r_cutF rfl Tryz.underlying26 Tryz.sizeOf3 rfl rfl hfw.cap) ?_
      refine h_listed (listed' := #[T',T',T',T',T',T',T',T',T',T',T',T',T',T',T',T',T',T',T',T',T',T',T',T',F',F',F',F',F']) (by kernel_rfl) ?_
      refine h_by 24 rfl rfl (by kernel_rfl) rfl (r_call rfl rfl Tryz.func25 rfl rfl) (CopyInts_calls _ A1 (min (fat l n).why.length 20) c1 ((fat l n).why.take 20) ((hfw.keep RInt.kept (Ext0.cells hE)).take 20) (by omega)) ?_
      rintro _ w ⟨lv0, rfl, hrow, hX⟩
      rw [show min (fat l n).why.length 20 = ((fat l n).why.take 20).length from by rw [List.length_take, Nat.min_comm]] at hrow
      have h1v := one_row hrow
      obtain ⟨A12, c12, rfl⟩ := ownsRow_slice hrow
      replace hL := hL.cons hX (r := .row w0.heap.size 3 1 (Value.slice A12 ((fat l n).why.take 20).length c12) ((fat l n).why.take 20).length (((fat l n).why.take 20).map (Value.int .i64))) (ownsRow_base hrow hE.size) (fun b hb => (ownsRow_lt hrow hb).2)
      replace hE := hE.step0 hX
      have hK := hL.sub (.cons _ (.cons _ (.refl _)))
      refine ⟨_, rfl, ⟨hK, hE⟩, ?_⟩
      refine h_listed (listed' := #[T',T',T',T',T',T',T',T',T',T',T',T',T',T',T',T',T',T',T',T',T',T',T',T',T',F',F',F',F']) (by kernel_rfl) ?_
      refine h_t 25 rfl rfl (by kernel_rfl) (fun _ _ _ h => h) ⟨hK, hE⟩ rfl (fun W hW => r_build rfl rfl (built_f3 _ _ _ _ _)) ?_
      refine h_listed (listed' := #[T',T',T',T',T',T',T',T',T',T',T',T',T',T',T',T',T',T',T',T',T',T',T',T',T',T',F',F',F']) (by kernel_rfl) ?_
      refine h_new 26 rfl rfl (by kernel_rfl) rfl (n_slice (cells := #[.int .i64 (fat l n).a, .int .i64 (fat l n).b, (Value.slice A12 ((fat l n).why.take 20).length c12)]) rfl Tryz.underlying25 Tryz.sizeOf43 Tryz.zeroValue43 rfl rfl (fill_fact _ _ _) hL hE) ?_
      rintro _ w ⟨s41, rfl, hs41, hL, hE, hX⟩
      have hK := hL.sub (.cons _ (.cons _ (.cons _ (.refl _))))
      refine ⟨⟨hK, hE⟩, ?_⟩
      refine h_listed (listed' := #[T',T',T',T',T',T',T',T',T',T',T',T',T',T',T',T',T',T',T',T',T',T',T',T',T',T',T',F',F']) (by kernel_rfl) ?_
      refine h_new 27 rfl rfl (by kernel_rfl) rfl (r_append (ys := fcell (fewOne (fat l n), (Value.slice A12 ((fat l n).why.take 20).length c12))) 2 rfl Tryz.underlying25 info_fact rfl (by decide) rfl rfl hL hE rfl rfl (blk_raw (cs := #[.int .i64 (fat l n).a, .int .i64 (fat l n).b, (Value.slice A12 ((fat l n).why.take 20).length c12)]) (hL.get 0 rfl) rfl) (fun u hu => List.all_eq_true.1 (all3 h1v) u hu) (by omega) (by omega) (Nat.le_refl _) hE.size) ?_
      rintro _ w ⟨hL, hE, hk⟩
      obtain ⟨A4, c4, rfl⟩ := ownsRow_slice (hL.row 2 rfl)
      replace hL : Has w (.blk s41 (.cells #[.int .i64 (fat l n).a, .int .i64 (fat l n).b, (Value.slice A12 ((fat l n).why.take 20).length c12)] 43 (0, 0)) :: .row w0.heap.size 3 1 (Value.slice A12 ((fat l n).why.take 20).length c12) ((fat l n).why.take 20).length (((fat l n).why.take 20).map (Value.int .i64)) :: .row w0.heap.size 43 3 (.slice A4 (fv.length + 1) c4) (fv ++ [(fewOne (fat l n), (Value.slice A12 ((fat l n).why.take 20).length c12))]).length ((fv ++ [(fewOne (fat l n), (Value.slice A12 ((fat l n).why.take 20).length c12))]).map fcell).flatten :: (fv).map (fres 3 w0.heap.size)) := by rw [← fcells_snoc, List.length_append]; exact hL
      have hK := hL.sub (.cons _ (.cons _ (.cons _ (.refl _))))
      refine ⟨⟨hK, hE⟩, ?_⟩
      refine h_listed (listed' := #[T',T',T',T',T',T',T',T',T',T',T',T',T',T',T',T',T',T',T',T',T',T',T',T',T',T',T',T',F']) (by kernel_rfl) ?_
      refine h_t 28 rfl rfl (by kernel_rfl) (fun _ _ _ h => h) ⟨hK, hE⟩ rfl (fun W hW => r_assign rfl) ?_
      refine h_listed (listed' := #[T',T',T',T',T',T',T',T',T',T',T',T',T',T',T',T',T',T',T',T',T',T',T',T',T',T',T',T',T']) (by kernel_rfl) ?_
      refine h_done (by kernel_rfl) ?_
   
      refine c_ops ?_
      refine l_val rfl rfl rfl (r_move rfl) ?_
      refine l_val rfl rfl rfl (r_add rfl rfl rfl) ?_
      refine l_val rfl rfl rfl (r_assign rfl) ?_
      refine l_nil ?_
      refine ⟨30 - (n + 1), by omega, rfl, n + 1, (.slice A4 (fv.length + 1) c4), fv ++ [(fewOne (fat l n), (Value.slice A12 ((fat l n).why.take 20).length c12))], by omega, by omega, rfl, by show Value.int .i64 (IntKind.i64.wrap ((n : Int) + 1)) = _; rw [wrap_succ hnn hmx], rfl, by rw [take_snoc (fat_nat hnn), List.map_append, List.map_append, ← hfv]; rfl, ?_, hE⟩
      rw [List.map_append (f := fres 3 w0.heap.size)]
      exact Has.perm (few_perm _ _ _) hL.tail
    · have hr12 := hb
      replace hb := of_decide_eq_false hb
      have hend : (l.take n).map fewOne = fewF l := by unfold fewF; rw [show n = 30 by omega]
      refine c_exit ?_
      refine c_seq ?_
   
      refine c_ops ?_
      refine l_val rfl rfl rfl (r_move rfl) ?_
      refine l_val rfl rfl rfl (r_assign rfl) ?_
      refine l_nil ?_
      refine c_ret ?_
      obtain ⟨A9, c9, rfl⟩ := ownsRow_slice (hL.row 0 rfl)
      have hns := (facts_at (hL.sub (.cons _ (.refl _))) (fun x hx => List.mem_map.2 ⟨x, hx, rfl⟩) (hL.row 0 rfl) rfl).1
      rw [hfv, hend] at hns
      exact ⟨A9, c9, congrArg (fun n => Ending.returned (.slice A9 n c9)) (show fv.length = (fewF l).length by rw [← hend, ← hfv, List.length_map]), hns, hE⟩
  · have hr9 := hb
    replace hb := of_decide_eq_false hb
    have hend : (l.take n).map fewOne = fewF l := by unfold fewF; rw [List.take_of_length_le (by omega), List.take_of_length_le (by omega)]
    refine l_not rfl rfl rfl ?_
    refine l_not rfl rfl rfl ?_
    refine l_val rfl rfl rfl (r_pick rfl rfl) ?_
    refine l_nil ?_
    refine c_no rfl ?_
    refine c_exit ?_
    refine c_seq ?_
 
    refine c_ops ?_
    refine l_val rfl rfl rfl (r_move rfl) ?_
    refine l_val rfl rfl rfl (r_assign rfl) ?_
    refine l_nil ?_
    refine c_ret ?_
    obtain ⟨A9, c9, rfl⟩ := ownsRow_slice (hL.row 0 rfl)
    have hns := (facts_at (hL.sub (.cons _ (.refl _))) (fun x hx => List.mem_map.2 ⟨x, hx, rfl⟩) (hL.row 0 rfl) rfl).1
    rw [hfv, hend] at hns
    exact ⟨A9, c9, congrArg (fun n => Ending.returned (.slice A9 n c9)) (show fv.length = (fewF l).length by rw [← hend, ← hfv, List.length_map]), hns, hE⟩
theorem fCheck_calls (w0 : World) (Ag : Option Addr) (cg : Nat) (g : List GNode) (hg : Nodes w0 Ag cg g) (hfit : Fits g) (hk0 : KeysLaid w0) (Af : Option Addr) (cf : Nat) (l : List Fact) (hl : FactsAt w0 Af cf l) :
    Calls Tryz.prog 15 [.slice Ag g.length cg, .slice Af l.length cf].toArray w0 fun en w' => en = .returned (.int .i64 (checkF g l)) ∧ Ext0 w0 w' := by
  have hE : Ext0 w0 w0 := Ext.refl _ _
  have hL : Has w0 [] := trivial
  refine calls [4] Tryz.func15 rfl rfl rfl rfl ?_
  refine c_seq ?_
  refine c_ops ?_
  refine l_val rfl rfl rfl (r_assign rfl) ?_
  refine l_nil ?_
  refine c_seq ?_
  refine c_ops ?_
  refine l_val rfl rfl rfl (r_move rfl) ?_
  refine l_val rfl rfl rfl (r_move rfl) ?_
  refine l_val rfl rfl rfl (r_build rfl rfl (built_facts _ _ _ _ _ _)) ?_
  refine l_new rfl rfl rfl (n_box rfl hL hE) ?_
  rintro _ w ⟨b9, rfl, hb9, hL, hE, hX⟩
  refine l_val rfl rfl rfl (r_assign rfl) ?_
  refine l_nil ?_
  refine c_seq ?_
  refine c_ops ?_
  refine l_val rfl rfl rfl (r_move rfl) ?_
  refine l_by rfl rfl rfl (r_call rfl rfl Tryz.func34 rfl rfl) (check_calls _ b9 Ag cg g (hg.keep RNode.kept (Ext0.cells hE)) hfit (hk0.keep (Ext0.cells hE)) (by rw [blk_cell (hL.get 0 rfl)]; rfl) Af cf l (hl.keep RFact.kept (Ext0.cells hE)) (by rw [blk_cell (hL.get 0 rfl)]; rfl)) ?_
  rintro _ w ⟨rfl, hX⟩
  replace hL := hL.ext0 hX
  replace hE := hE.step0 hX
  refine ⟨_, rfl, ?_⟩
  refine l_val rfl rfl rfl (r_assign rfl) ?_
  refine l_nil ?_
  refine c_ret ?_
  exact ⟨rfl, hE⟩
def spF : FV := (⟨-9, 0, []⟩, .slice none 0 0)
def spL (fv : List FV) (i : Nat) : List FV := List.replicate i spF ++ fv.drop i
theorem spL_len {fv : List FV} {i : Nat} (h : i ≤ fv.length) : (spL fv i).length = fv.length := by simp [spL]; omega
theorem spL_get {fv : List FV} {i : Nat} (h : i < fv.length) : (spL fv i)[i]? = some (fv.getD i spF) := by
  unfold spL
  rw [List.getElem?_append_right (by simp), List.length_replicate, Nat.sub_self, List.getElem?_drop, Nat.add_zero, List.getD_eq_getElem?_getD, List.getElem?_eq_getElem h]
  rfl
theorem spL_set {fv : List FV} {i : Nat} (h : i < fv.length) : (spL fv i).set i spF = spL fv (i + 1) := by
  unfold spL
  rw [List.set_append_right _ _ (by simp), List.length_replicate, Nat.sub_self, List.drop_eq_getElem_cons h, List.set_cons_zero, List.replicate_succ', List.append_assoc]
  rfl
theorem drop_fres {fv : List FV} {i : Nat} {ie B : Nat} (h : i < fv.length) : (fv.drop i).map (fres ie B) = fres ie B (fv.getD i spF) :: (fv.drop (i + 1)).map (fres ie B) := by
  rw [List.drop_eq_getElem_cons h, List.map_cons, List.getD_eq_getElem?_getD, List.getElem?_eq_getElem h]
  rfl
theorem row_cell {w : World} {B e n' c : Nat} {A : Option Addr} {fv : List FV} (h : w.ownsRow B e 3 (.slice A n' c) fv.length (fv.map fcell).flatten) {i : Nat} {x : FV} (hx : fv[i]? = some x) : (0 < n' → A.isSome = true) ∧ n' = fv.length ∧ ∀ j v, (fcell x)[j]? = some v → w.cell? (((adr A).add ((i : Int).toNat * 3)).add j) = some v := by
  obtain ⟨h1, h2⟩ := fv_sl h
  subst h2
  obtain ⟨cs, _, hcs, hcell⟩ := h1.at_ i x hx
  exact ⟨h1.is, rfl, fun j v hj => by rw [adr_add, Int.toNat_natCast]; exact hcell j v (hcs ▸ hj)⟩
theorem spoilt_facts {w : World} {B e n' c : Nat} {A : Option Addr} {fv : List FV} (h : w.ownsRow B e 3 (.slice A n' c) (spL fv fv.length).length ((spL fv fv.length).map fcell).flatten) : FactsAt w A c (List.replicate fv.length ⟨-9, 0, []⟩) := by
  have hsp : spL fv fv.length = List.replicate fv.length spF := by unfold spL; simp
  rw [hsp] at h
  have hE : Els w 3 RFact (List.replicate fv.length (⟨-9, 0, []⟩ : Fact)) ((List.replicate fv.length spF).map fcell) := by
    refine ⟨by simp, fun i x cs h1 h2 => ?_⟩
    rw [List.getElem?_map, List.getElem?_replicate] at h2
    rw [List.getElem?_replicate] at h1
    split at h1
    · rename_i hi
      rw [if_pos hi] at h2
      cases h1; cases h2
      exact ⟨rfl, none, 0, rfl, Sl.nil _ _ _ _ _⟩
    · cases h1
  obtain ⟨A', c', hv, hs, _⟩ := Sl.ofRow h hE (by simp)
  injection hv with h1 h2 h3
  subst h1; subst h3
  simp only [List.length_replicate] at hs
  unfold FactsAt
  rw [List.length_replicate]
  exact hs
theorem built_f1 (a : Int) : Tryz.prog.built 43 [(0, .int .i64 a)] = some #[.int .i64 a, .int .i64 0, .slice none 0 0] := by kernel_rfl
set_option maxHeartbeats 4000000 in
theorem spoil_calls (w0 : World) (B : Nat) (A : Option Addr) (c : Nat) (fv : List FV) (hL : Has w0 (.row B 43 3 (.slice A fv.length c) fv.length (fv.map fcell).flatten :: fv.map (fres 3 B))) :
    Calls Tryz.prog 23 [.slice A fv.length c].toArray w0 fun en w' => (∃ v, en = .returned v) ∧ FactsAt w' A c (List.replicate fv.length ⟨-9, 0, []⟩) ∧ Ext (fun k => B ≤ k) w0 w' := by
  have hE : Ext (fun k => B ≤ k) w0 w0 := Ext.refl _ _
  have hmx : fv.length ≤ 9223372036854775807 := (fv_sl (hL.row 0 rfl)).1.max
  refine calls [] Tryz.func23 rfl rfl rfl rfl ?_
  refine c_seq ?_
  refine c_ops ?_
  refine l_val rfl rfl rfl (r_assign rfl) ?_
  refine l_nil ?_
  refine c_block ?_
  refine c_loop0 (fun m1 e w => (e 0 = .slice A fv.length c) ∧ ∃ (i : Nat), i ≤ fv.length ∧ m1 = fv.length - i ∧ e 2 = .int .i64 (i : Nat) ∧ Has w (.row B 43 3 (.slice A fv.length c) (spL fv i).length ((spL fv i).map fcell).flatten :: (fv.drop i).map (fres 3 B)) ∧ Ext (fun k => B ≤ k) w0 w) (fv.length) ?_ ?_
  · exact ⟨rfl, 0, Nat.zero_le _, rfl, rfl, hL, hE⟩
  rintro m1 e w ⟨hq0, hI⟩
  refine c_know (t := 0) (by exact hq0) ?_
  clear hq0
  obtain ⟨i, hil, him, h2s, hL, hE⟩ := hI
  refine c_know (t := 2) (by exact h2s) ?_
  refine c_seq ?_
  refine c_seq ?_
  refine c_ops ?_
  refine l_val rfl rfl rfl (r_move rfl) ?_
  refine l_val rfl rfl rfl (r_move rfl) ?_
  refine l_val rfl rfl rfl (r_len rfl Tryz.underlying25 rfl) ?_
  refine l_val rfl rfl rfl (r_lss rfl rfl rfl) ?_
  refine l_nil ?_
  refine c_cond rfl (fun hb => ?_) (fun hb => ?_)
  · have hr7 := hb
    replace hb := of_decide_eq_true hb
    have hilt : i < fv.length := by omega
    rw [drop_fres hilt] at hL
    have hwv : ∃ Aw cw, (fv.getD i spF).2 = .slice Aw (fv.getD i spF).1.why.length cw := ownsRow_slice (hL.row 1 rfl)
    obtain ⟨Aw, cw, hwv⟩ := hwv
    have hr1 := hL.row 1 rfl
    rw [hwv] at hr1
    have hwm := (Sl.ints_at hr1).max
    replace hL : ∃ ys, ys.length = (fv.getD i spF).1.why.length ∧ Has w (.row B 43 3 (.slice A fv.length c) (spL fv i).length ((spL fv i).map fcell).flatten :: .row B 3 1 (.slice Aw (fv.getD i spF).1.why.length cw) (fv.getD i spF).1.why.length ys :: (fv.drop (i + 1)).map (fres 3 B)) := ⟨(fv.getD i spF).1.why.map (Value.int .i64), List.length_map .., by rw [← hwv]; exact hL⟩
    obtain ⟨ys, hys, hL⟩ := hL
    refine c_skip ?_
    refine c_seq ?_
    refine c_block ?_
    refine c_seq ?_
    refine c_seq ?_
 
    refine c_ops ?_
    refine l_val rfl rfl rfl (r_assign rfl) ?_
    refine l_nil ?_
    refine c_block ?_
 
    refine c_loop0 (fun m1 e w => (e 0 = .slice A fv.length c ∧ e 2 = .int .i64 (i : Nat)) ∧ ∃ (k : Nat) (ys : List Value), k ≤ (fv.getD i spF).1.why.length ∧ m1 = (fv.getD i spF).1.why.length - k ∧ e 3 = .int .i64 (k : Nat) ∧ ys.length = (fv.getD i spF).1.why.length ∧ Has w (.row B 43 3 (.slice A fv.length c) (spL fv i).length ((spL fv i).map fcell).flatten :: .row B 3 1 (.slice Aw (fv.getD i spF).1.why.length cw) (fv.getD i spF).1.why.length ys :: (fv.drop (i + 1)).map (fres 3 B)) ∧ Ext (fun k => B ≤ k) w0 w) ((fv.getD i spF).1.why.length) ?_ ?_
    · exact ⟨⟨rfl, rfl⟩, 0, ys, Nat.zero_le _, rfl, rfl, hys, hL, hE⟩
    rintro m1 e w ⟨⟨hq0, hq2⟩, hI⟩
    refine c_know (t := 0) (by exact hq0) ?_
    refine c_know (t := 2) (by exact hq2) ?_
    clear hq0 hq2
    obtain ⟨k, ys, hkl, hkm, h3s, hys, hL, hE⟩ := hI
    refine c_know (t := 3) (by exact h3s) ?_
    refine c_seq ?_
    refine c_seq ?_
 
    refine c_ops ?_
    refine l_val rfl rfl rfl (r_move rfl) ?_
    refine l_val rfl rfl rfl (r_move rfl) ?_
    refine l_val rfl rfl rfl (r_move rfl) ?_
    refine l_val rfl rfl rfl (r_indexAddr_sl rfl Tryz.underlying25 Tryz.sizeOf43 rfl (row_cell (hL.row 0 rfl) (spL_get hilt)).1 rfl (by omega) (by omega)) ?_
    refine l_val rfl rfl rfl (r_fieldAddr (n := 0) rfl Tryz.underlying43 rfl Tryz.sizeOf26 rfl) ?_
    refine l_val rfl rfl rfl (r_load (v := .slice Aw (fv.getD i spF).1.why.length cw) rfl Tryz.isAgg26 rfl (by rw [← hwv]; exact (row_cell (hL.row 0 rfl) (spL_get hilt)).2.2 2 _ rfl)) ?_
    refine l_val rfl rfl rfl (r_len rfl Tryz.underlying26 rfl) ?_
    refine l_val rfl rfl rfl (r_lss rfl rfl rfl) ?_
    refine l_nil ?_
    refine c_cond rfl (fun hb => ?_) (fun hb => ?_)
    · have hr17 := hb
      replace hb := of_decide_eq_true hb
      have hklt : k < (fv.getD i spF).1.why.length := by omega
      refine c_skip ?_
      refine c_seq ?_
      refine c_block ?_
   
      refine c_ops ?_
      refine l_val rfl rfl rfl (r_move rfl) ?_
      refine l_val rfl rfl rfl (r_move rfl) ?_
      refine l_val rfl rfl rfl (r_indexAddr_sl rfl Tryz.underlying25 Tryz.sizeOf43 rfl (row_cell (hL.row 0 rfl) (spL_get hilt)).1 rfl (by omega) (by omega)) ?_
      refine l_val rfl rfl rfl (r_fieldAddr (n := 0) rfl Tryz.underlying43 rfl Tryz.sizeOf26 rfl) ?_
      refine l_val rfl rfl rfl (r_load (v := .slice Aw (fv.getD i spF).1.why.length cw) rfl Tryz.isAgg26 rfl (by rw [← hwv]; exact (row_cell (hL.row 0 rfl) (spL_get hilt)).2.2 2 _ rfl)) ?_
      refine l_val rfl rfl rfl (r_move rfl) ?_
      obtain ⟨gw, capw, hAw⟩ := row_pos (hL.row 1 rfl) (show 0 < (fv.getD i spF).1.why.length by omega)
      injection hAw with hAw1 _ hAw2
      subst hAw1; subst hAw2
      refine l_val rfl rfl rfl (r_indexAddr_row rfl Tryz.underlying26 Tryz.sizeOf3 rfl rfl hklt) ?_
      refine l_new_do rfl rfl (r_setRow (vs := [.int .i64 (-7)]) (k := k) 1 rfl Tryz.sizeOf3 rfl rfl rfl rfl hL hE rfl (by omega) (fun _ => (ownsRow_lt (hL.row 1 rfl) (b := gw) rfl).2)) ?_
      rintro w ⟨hL, hE, hz, hk⟩
      refine l_nil ?_
   
      refine c_ops ?_
      refine l_val rfl rfl rfl (r_move rfl) ?_
      refine l_val rfl rfl rfl (r_add rfl rfl rfl) ?_
      refine l_val rfl rfl rfl (r_assign rfl) ?_
      refine l_nil ?_
      exact ⟨(fv.getD i spF).1.why.length - (k + 1), by omega, ⟨rfl, rfl⟩, k + 1, _, by omega, rfl, by show Value.int .i64 (IntKind.i64.wrap ((k : Int) + 1)) = _; rw [wrap_succ hklt hwm], by rw [List.length_append, List.length_append, List.length_take, List.length_drop, hys, List.length_singleton]; omega, hL, hE⟩
    · have hr17 := hb
      replace hb := of_decide_eq_false hb
      refine c_exit ?_
   
      refine c_ops ?_
      refine l_val rfl rfl rfl (r_move rfl) ?_
      refine l_val rfl rfl rfl (r_move rfl) ?_
      refine l_val rfl rfl rfl (r_build rfl rfl (built_f1 _)) ?_
      obtain ⟨ga, capa, hAa⟩ := row_pos (hL.row 0 rfl) (by rw [spL_len hil]; omega)
      injection hAa with hAa1 _ hAa2
      subst hAa1; subst hAa2
      have hgB := (ownsRow_lt (hL.row 0 rfl) rfl).2
      rw [spL_len hil] at hL
      refine l_val rfl rfl rfl (r_indexAddr_row rfl Tryz.underlying25 Tryz.sizeOf43 rfl rfl hilt) ?_
      refine l_new_do rfl rfl (r_setRow (vs := fcell spF) (k := i) 0 rfl Tryz.sizeOf43 rfl rfl rfl rfl hL hE rfl hilt (fun _ => hgB)) ?_
      rintro w ⟨hL, hE, hz, hk⟩
      refine l_nil ?_
   
      refine c_ops ?_
      refine l_val rfl rfl rfl (r_move rfl) ?_
      refine l_val rfl rfl rfl (r_add rfl rfl rfl) ?_
      refine l_val rfl rfl rfl (r_assign rfl) ?_
      refine l_nil ?_
      have hset := fcells_set (spL fv i) i spF (by rw [spL_len hil]; exact hilt); rw [spL_set hilt] at hset; rw [hset] at hL; exact ⟨fv.length - (i + 1), by omega, rfl, i + 1, by omega, rfl, by show Value.int .i64 (IntKind.i64.wrap ((i : Int) + 1)) = _; rw [wrap_succ hilt hmx], by rw [spL_len hilt]; exact hL.sub (.cons_cons _ (.cons _ (.refl _))), hE⟩
  · have hr7 := hb
    replace hb := of_decide_eq_false hb
    obtain rfl : i = fv.length := by omega
    refine c_exit ?_
    exact ⟨⟨_, rfl⟩, spoilt_facts (hL.row 0 rfl), hE⟩
end Go.Proofs.YtndophlnapjkhaaGreatDoor.Vc
namespace Go.Proofs.YtndophlnapjkhaaGreatDoor.Vc
open Go Go.RowKit
set_option linter.unusedVariables false
set_option linter.unusedSimpArgs false
theorem r_beqlR {w : World} {ρ : Operand → Value} {o : Oper} {x y : Operand} {t' : TypeId} {a b : Bool} (h : o.op = .binOp .eql 4 x y t') (hx : ρ x = .bool a) (hy : ρ y = .bool b) : (execOp ρ o).run Tryz.prog w = .ok (.value (.bool (a == b))) w := by
  have := run_eql_bool (P := Tryz.prog) w 4 a b Tryz.underlying4
  simp [execOp, h, hx, hy, eqGuard, this]
theorem r_bneqR {w : World} {ρ : Operand → Value} {o : Oper} {x y : Operand} {t' : TypeId} {a b : Bool} (h : o.op = .binOp .neq 4 x y t') (hx : ρ x = .bool a) (hy : ρ y = .bool b) (hab : a = b) : (execOp ρ o).run Tryz.prog w = .ok (.value (.bool false)) w := by
  subst hab
  have : (binOp .neq 4 (.bool a) (.bool a)).run Tryz.prog w = .ok (.bool false) w := by
    rw [run_neq_bool (P := Tryz.prog) w 4 a a Tryz.underlying4]
    simp
  simp [execOp, h, hx, hy, eqGuard, this]
theorem iff_bool {a b : Bool} {p : Prop} (h : a = true ↔ p) (k : b = true ↔ p) : a = b := by
  rw [Bool.eq_iff_iff, h, k]
theorem rSame_true2 (w0 : World) (A : Option Addr) (c : Nat) (a : List Fact) (ha : FactsAt w0 A c a) (B : Option Addr) (d : Nat) (hb' : FactsAt w0 B d a) :
    Calls Tryz.prog 9 [.slice A a.length c, .slice B a.length d].toArray w0 fun en w' => en = .returned (.bool true) ∧ Ext0 w0 w' :=
  (rSame_calls w0 A c a ha B d a hb').mono fun en w' ⟨h1, h2⟩ => ⟨by rw [h1, decide_eq_true rfl], h2⟩
set_option maxHeartbeats 8000000 in
theorem Looks_calls (w0 : World) (hk0 : KeysLaid w0) (A : Option Addr) (c : Nat) (g : List GNode) (hg : Nodes w0 A c g) (Af : Option Addr) (cf : Nat) (l0 : List Fact) (hl0 : FactsAt w0 Af cf l0) (k : Int) :
    Calls Tryz.prog 4 [.slice A g.length c, .slice Af l0.length cf, .int .i64 k].toArray w0 fun en w' => en = .returned (.bool true) ∧ Ext0 w0 w' := by
  have hE : Ext0 w0 w0 := Ext.refl _ _
  have hL : Has w0 [] := trivial
  refine calls [6] Tryz.func4 rfl rfl rfl rfl ?_
  refine c_seq ?_
  refine c_ops ?_
  refine l_val rfl rfl rfl (r_assign rfl) ?_
  refine l_nil ?_
  refine c_seq ?_
  refine c_ops ?_
  refine l_val rfl rfl rfl (r_move rfl) ?_
  refine l_by rfl rfl rfl (r_call rfl rfl Tryz.func6 rfl rfl) (cut_calls _ A c g hg) ?_
  rintro _ w ⟨A1, c1, hen, hn, hX⟩
  obtain ⟨gg, hgg⟩ : ∃ x, x = cutF g := ⟨_, rfl⟩
  have hlen := cutF_len g
  have hfit := cutF_fits g
  rw [← hgg] at hen hn hlen hfit
  subst hen
  replace hE := hE.trans hX
  obtain ⟨wa, hwa⟩ : ∃ x, x = w := ⟨_, rfl⟩
  rw [← hwa] at hn hE
  have hE0 := hE
  replace hE : Ext0 wa w := hwa ▸ Ext.refl _ _
  refine ⟨_, rfl, ?_⟩
  refine l_val rfl rfl rfl (r_move rfl) ?_
  refine l_by rfl rfl rfl (r_call rfl rfl Tryz.func12 rfl rfl) (few_calls _ Af cf l0 (hl0.keep RFact.kept (Ext0.cells (hE0.trans hE)))) ?_
  rintro _ w ⟨A2, c2, hen, hl, hX⟩
  obtain ⟨ll, hll⟩ : ∃ x, x = fewF l0 := ⟨_, rfl⟩
  have hl30 := fewF_len l0
  have hwhy := fun f => @fewF_why l0 f
  have hfew := fewF_few l0
  rw [← hll] at hen hl hl30 hwhy hfew
  subst hen
  replace hE := hE.trans hX
  replace hn := hn.keep RNode.kept (Ext0.cells hE)
  obtain ⟨wb, hwb⟩ : ∃ x, x = w := ⟨_, rfl⟩
  rw [← hwb] at hn hl hE
  replace hE0 := hE0.trans hE
  replace hE : Ext0 wb w := hwb ▸ Ext.refl _ _
  refine ⟨_, rfl, ?_⟩
  refine l_val rfl rfl rfl (r_assign rfl) ?_
  refine l_val rfl rfl rfl (r_assign rfl) ?_
  refine l_nil ?_
  refine c_seq ?_
  refine c_ops ?_
  refine l_val rfl rfl rfl (r_move rfl) ?_
  refine l_by rfl rfl rfl (r_call rfl rfl Tryz.func12 rfl rfl) (few_calls _ A2 c2 ll (hl.keep RFact.kept (Ext0.cells hE))) ?_
  rintro _ w ⟨A3, c3, hen, hin, hX⟩
  rw [hfew] at hen hin
  subst hen
  replace hE := hE.trans hX
  replace hn := hn.keep RNode.kept (Ext0.cells hE)
  replace hl := hl.keep RFact.kept (Ext0.cells hE)
  obtain ⟨wc, hwc⟩ : ∃ x, x = w := ⟨_, rfl⟩
  rw [← hwc] at hn hl hin hE
  replace hE0 := hE0.trans hE
  replace hE : Ext0 wc w := hwc ▸ Ext.refl _ _
  refine ⟨_, rfl, ?_⟩
  refine l_val rfl rfl rfl (r_assign rfl) ?_
  refine l_nil ?_
  refine c_fresh (fun e => e 0 = .slice A1 gg.length c1 ∧ e 1 = .slice A2 ll.length c2 ∧ e 7 = .slice A3 ll.length c3 ∧ e 2 = .int .i64 k) ⟨rfl, rfl, rfl, rfl⟩ ?_
  rintro e ⟨hq0, hq1, hq7, hq2⟩
  refine c_know (t := 0) (by exact hq0) ?_
  refine c_know (t := 1) (by exact hq1) ?_
  refine c_know (t := 7) (by exact hq7) ?_
  refine c_know (t := 2) (by exact hq2) ?_
  clear hq0 hq1 hq7 hq2
  refine c_seq ?_
  refine c_ops ?_
  refine l_val rfl rfl rfl (r_move rfl) ?_
  refine l_val rfl rfl rfl (r_move rfl) ?_
  refine l_by rfl rfl rfl (r_call rfl rfl Tryz.func13 rfl rfl) (First_calls _ A1 c1 gg (hn.keep RNode.kept (Ext0.cells hE)) hfit (hk0.keep (Ext0.cells (hE0.trans hE))) A3 c3 ll (hin.keep RFact.kept (Ext0.cells hE))) ?_
  rintro _ w ⟨rfl, hX⟩
  replace hE := hE.trans hX
  refine ⟨_, rfl, ?_⟩
  refine l_val rfl rfl rfl (r_move rfl) ?_
  refine l_val rfl rfl rfl (r_extract rfl rfl rfl) ?_
  refine l_val rfl rfl rfl (r_extract rfl rfl rfl) ?_
  refine l_val rfl rfl rfl (r_assign rfl) ?_
  refine l_val rfl rfl rfl (r_assign rfl) ?_
  refine l_nil ?_
  refine c_seq ?_
  refine c_ops ?_
  refine l_val rfl rfl rfl (r_move rfl) ?_
  refine l_val rfl rfl rfl (r_move rfl) ?_
  refine l_by rfl rfl rfl (r_call rfl rfl Tryz.func14 rfl rfl) (rFirst_calls _ A1 c1 gg (hn.keep RNode.kept (Ext0.cells hE)) hfit (by omega) A2 c2 ll (hl.keep RFact.kept (Ext0.cells hE))) ?_
  rintro _ w ⟨rfl, hX⟩
  replace hE := hE.trans hX
  refine ⟨_, rfl, ?_⟩
  refine l_val rfl rfl rfl (r_move rfl) ?_
  refine l_val rfl rfl rfl (r_extract rfl rfl rfl) ?_
  refine l_val rfl rfl rfl (r_extract rfl rfl rfl) ?_
  refine l_val rfl rfl rfl (r_assign rfl) ?_
  refine l_val rfl rfl rfl (r_assign rfl) ?_
  refine l_nil ?_
  refine c_fresh (fun e => e 0 = .slice A1 gg.length c1 ∧ e 1 = .slice A2 ll.length c2 ∧ e 7 = .slice A3 ll.length c3 ∧ e 2 = .int .i64 k ∧ e 8 = .int .i64 (if checkF gg ll = 0 then firstF gg ll else 0) ∧ e 9 = .int .i64 (checkF gg ll) ∧ e 10 = .int .i64 (if checkF gg ll = 0 then firstF gg ll else 0) ∧ e 11 = .int .i64 (checkF gg ll)) ⟨rfl, rfl, rfl, rfl, rfl, rfl, rfl, rfl⟩ ?_
  rintro e ⟨hq0, hq1, hq7, hq2, hq8, hq9, hq10, hq11⟩
  refine c_know (t := 0) (by exact hq0) ?_
  refine c_know (t := 1) (by exact hq1) ?_
  refine c_know (t := 7) (by exact hq7) ?_
  refine c_know (t := 2) (by exact hq2) ?_
  refine c_know (t := 8) (by exact hq8) ?_
  refine c_know (t := 9) (by exact hq9) ?_
  refine c_know (t := 10) (by exact hq10) ?_
  refine c_know (t := 11) (by exact hq11) ?_
  clear hq0 hq1 hq7 hq2 hq8 hq9 hq10 hq11
  refine c_seq ?_
  refine c_seq ?_
  refine c_ops ?_
  refine l_val rfl rfl rfl (r_move rfl) ?_
  refine l_val rfl rfl rfl (r_move rfl) ?_
  refine l_by rfl rfl rfl (r_call rfl rfl Tryz.func15 rfl rfl) (fCheck_calls _ A1 c1 gg (hn.keep RNode.kept (Ext0.cells hE)) hfit (hk0.keep (Ext0.cells (hE0.trans hE))) A3 c3 ll (hin.keep RFact.kept (Ext0.cells hE))) ?_
  rintro _ w ⟨rfl, hX⟩
  replace hE := hE.trans hX
  refine ⟨_, rfl, ?_⟩
  refine l_val rfl rfl rfl (r_move rfl) ?_
  refine l_val rfl rfl rfl (r_move rfl) ?_
  refine l_by rfl rfl rfl (r_call rfl rfl Tryz.func16 rfl rfl) (rfCheck_calls _ A1 c1 gg (hn.keep RNode.kept (Ext0.cells hE)) hfit (by omega) A2 c2 ll (hl.keep RFact.kept (Ext0.cells hE))) ?_
  rintro _ w ⟨rfl, hX⟩
  replace hE := hE.trans hX
  refine ⟨_, rfl, ?_⟩
  refine l_val rfl rfl rfl (r_neq rfl rfl rfl) ?_
  refine l_know (t := 39) (v := .bool false) (congrArg Value.bool (by simp)) ?_
  refine l_val rfl rfl rfl (r_move rfl) ?_
  refine l_val rfl rfl rfl (r_move rfl) ?_
  refine l_val rfl rfl rfl (r_move rfl) ?_
  refine l_val rfl rfl rfl (r_neq rfl rfl rfl) ?_
  refine l_know (t := 43) (v := .bool false) (congrArg Value.bool (by simp)) ?_
  refine l_val rfl rfl rfl (r_pick rfl rfl) ?_
  refine l_val rfl rfl rfl (r_move rfl) ?_
  refine l_val rfl rfl rfl (r_move rfl) ?_
  refine l_val rfl rfl rfl (r_move rfl) ?_
  refine l_val rfl rfl rfl (r_neq rfl rfl rfl) ?_
  refine l_know (t := 48) (v := .bool false) (congrArg Value.bool (by simp)) ?_
  refine l_val rfl rfl rfl (r_pick rfl rfl) ?_
  refine l_val rfl rfl rfl (r_move rfl) ?_
  refine l_val rfl rfl rfl (r_move rfl) ?_
  refine l_val rfl rfl rfl (r_move rfl) ?_
  refine l_val rfl rfl rfl (r_move rfl) ?_
  refine l_by rfl rfl rfl (r_call rfl rfl Tryz.func17 rfl rfl) (Holds_calls _ A1 c1 gg (hn.keep RNode.kept (Ext0.cells hE)) hfit (hk0.keep (Ext0.cells (hE0.trans hE))) A3 c3 ll (hin.keep RFact.kept (Ext0.cells hE)) k) ?_
  rintro _ w ⟨rfl, hX⟩
  replace hE := hE.trans hX
  refine ⟨_, rfl, ?_⟩
  refine l_val rfl rfl rfl (r_move rfl) ?_
  refine l_val rfl rfl rfl (r_move rfl) ?_
  refine l_val rfl rfl rfl (r_move rfl) ?_
  refine l_by rfl rfl rfl (r_call rfl rfl Tryz.func18 rfl rfl) (rHolds_calls _ A1 c1 gg (hn.keep RNode.kept (Ext0.cells hE)) hfit (by omega) A2 c2 ll (hl.keep RFact.kept (Ext0.cells hE)) k) ?_
  rintro _ w ⟨rfl, hX⟩
  replace hE := hE.trans hX
  refine ⟨_, rfl, ?_⟩
  refine l_val rfl rfl rfl (r_bneqR rfl rfl rfl rfl) ?_
  refine l_val rfl rfl rfl (r_pick rfl rfl) ?_
  refine l_val rfl rfl rfl (r_move rfl) ?_
  refine l_val rfl rfl rfl (r_move rfl) ?_
  refine l_val rfl rfl rfl (r_move rfl) ?_
  refine l_val rfl rfl rfl (r_move rfl) ?_
  refine l_by rfl rfl rfl (r_call rfl rfl Tryz.func19 rfl rfl) (Casts_calls _ A1 c1 gg (hn.keep RNode.kept (Ext0.cells hE)) hfit (hk0.keep (Ext0.cells (hE0.trans hE))) A3 c3 ll (hin.keep RFact.kept (Ext0.cells hE)) k) ?_
  rintro _ w ⟨cb1, rfl, hcb1, hX⟩
  replace hE := hE.trans hX
  refine ⟨_, rfl, ?_⟩
  refine l_val rfl rfl rfl (r_move rfl) ?_
  refine l_val rfl rfl rfl (r_move rfl) ?_
  refine l_val rfl rfl rfl (r_move rfl) ?_
  refine l_by rfl rfl rfl (r_call rfl rfl Tryz.func20 rfl rfl) (rCasts_calls _ A1 c1 gg (hn.keep RNode.kept (Ext0.cells hE)) hfit (by omega) A2 c2 ll (hl.keep RFact.kept (Ext0.cells hE)) (fun f hf => Nat.le_trans (hwhy f hf) (by decide)) k) ?_
  rintro _ w ⟨cb2, rfl, hcb2, hX⟩
  replace hE := hE.trans hX
  refine ⟨_, rfl, ?_⟩
  refine l_val rfl rfl rfl (r_bneqR rfl rfl rfl (iff_bool hcb1 hcb2)) ?_
  refine l_val rfl rfl rfl (r_pick rfl rfl) ?_
  refine l_nil ?_
  refine c_no rfl ?_
  refine c_skip ?_
  refine c_seq ?_
  refine c_seq ?_
  refine c_ops ?_
  refine l_val rfl rfl rfl (r_assign rfl) ?_
  refine l_nil ?_
  refine c_block ?_
  refine c_loop0 (fun m1 e w => (e 0 = .slice A1 gg.length c1 ∧ e 1 = .slice A2 ll.length c2 ∧ e 7 = .slice A3 ll.length c3) ∧ ∃ (i : Nat), i ≤ ll.length ∧ m1 = ll.length - i ∧ e 12 = .int .i64 (i : Nat) ∧ Ext0 wc w) (ll.length) ?_ ?_
  · exact ⟨⟨rfl, rfl, rfl⟩, 0, Nat.zero_le _, rfl, rfl, hE⟩
  rintro m1 e w ⟨⟨hq0, hq1, hq7⟩, hI⟩
  refine c_know (t := 0) (by exact hq0) ?_
  refine c_know (t := 1) (by exact hq1) ?_
  refine c_know (t := 7) (by exact hq7) ?_
  clear hq0 hq1 hq7
  obtain ⟨i, hil, him, h12s, hE⟩ := hI
  refine c_know (t := 12) (by exact h12s) ?_
  have hL : Has w [] := trivial
  refine c_seq ?_
  refine c_seq ?_
  refine c_ops ?_
  refine l_val rfl rfl rfl (r_move rfl) ?_
  refine l_val rfl rfl rfl (r_move rfl) ?_
  refine l_val rfl rfl rfl (r_len rfl Tryz.underlying25 rfl) ?_
  refine l_val rfl rfl rfl (r_lss rfl rfl rfl) ?_
  refine l_nil ?_
  refine c_cond rfl (fun hb => ?_) (fun hb => ?_)
  · have hr75 := hb
    replace hb := of_decide_eq_true hb
    have hilt : i < ll.length := by omega
    refine c_skip ?_
    refine c_seq ?_
    refine c_block ?_
    refine c_seq ?_
 
    refine c_ops ?_
    refine l_val rfl rfl rfl (r_move rfl) ?_
    refine l_val rfl rfl rfl (r_move rfl) ?_
    refine l_val rfl rfl rfl (r_move rfl) ?_
    refine l_by rfl rfl rfl (r_call rfl rfl Tryz.func17 rfl rfl) (Holds_calls _ A1 c1 gg (hn.keep RNode.kept (Ext0.cells hE)) hfit (hk0.keep (Ext0.cells (hE0.trans hE))) A3 c3 ll (hin.keep RFact.kept (Ext0.cells hE)) i) ?_
    rintro _ w ⟨rfl, hX⟩
    replace hE := hE.trans hX
    refine ⟨_, rfl, ?_⟩
    refine l_val rfl rfl rfl (r_move rfl) ?_
    refine l_val rfl rfl rfl (r_move rfl) ?_
    refine l_val rfl rfl rfl (r_move rfl) ?_
    refine l_by rfl rfl rfl (r_call rfl rfl Tryz.func18 rfl rfl) (rHolds_calls _ A1 c1 gg (hn.keep RNode.kept (Ext0.cells hE)) hfit (by omega) A2 c2 ll (hl.keep RFact.kept (Ext0.cells hE)) i) ?_
    rintro _ w ⟨rfl, hX⟩
    replace hE := hE.trans hX
    refine ⟨_, rfl, ?_⟩
    refine l_val rfl rfl rfl (r_bneqR rfl rfl rfl rfl) ?_
    refine l_val rfl rfl rfl (r_move rfl) ?_
    refine l_val rfl rfl rfl (r_move rfl) ?_
    refine l_val rfl rfl rfl (r_move rfl) ?_
    refine l_val rfl rfl rfl (r_move rfl) ?_
    refine l_by rfl rfl rfl (r_call rfl rfl Tryz.func19 rfl rfl) (Casts_calls _ A1 c1 gg (hn.keep RNode.kept (Ext0.cells hE)) hfit (hk0.keep (Ext0.cells (hE0.trans hE))) A3 c3 ll (hin.keep RFact.kept (Ext0.cells hE)) i) ?_
    rintro _ w ⟨cb1, rfl, hcb1, hX⟩
    replace hE := hE.trans hX
    refine ⟨_, rfl, ?_⟩
    refine l_val rfl rfl rfl (r_move rfl) ?_
    refine l_val rfl rfl rfl (r_move rfl) ?_
    refine l_val rfl rfl rfl (r_move rfl) ?_
    refine l_by rfl rfl rfl (r_call rfl rfl Tryz.func20 rfl rfl) (rCasts_calls _ A1 c1 gg (hn.keep RNode.kept (Ext0.cells hE)) hfit (by omega) A2 c2 ll (hl.keep RFact.kept (Ext0.cells hE)) (fun f hf => Nat.le_trans (hwhy f hf) (by decide)) i) ?_
    rintro _ w ⟨cb2, rfl, hcb2, hX⟩
    replace hE := hE.trans hX
    refine ⟨_, rfl, ?_⟩
    refine l_val rfl rfl rfl (r_bneqR rfl rfl rfl (iff_bool hcb1 hcb2)) ?_
    refine l_val rfl rfl rfl (r_pick rfl rfl) ?_
    refine l_nil ?_
    refine c_no rfl ?_
    refine c_skip ?_
 
    refine c_ops ?_
    refine l_val rfl rfl rfl (r_move rfl) ?_
    refine l_val rfl rfl rfl (r_add rfl rfl rfl) ?_
    refine l_val rfl rfl rfl (r_assign rfl) ?_
    refine l_nil ?_
    exact ⟨ll.length - (i + 1), by omega, ⟨rfl, rfl, rfl⟩, i + 1, by omega, rfl, by show Value.int .i64 (IntKind.i64.wrap ((i : Int) + 1)) = _; rw [wrap_succ hilt hl.max], hE⟩
  · have hr75 := hb
    replace hb := of_decide_eq_false hb
    refine c_exit ?_
    refine c_fresh (fun e => e 0 = .slice A1 gg.length c1 ∧ e 1 = .slice A2 ll.length c2 ∧ e 7 = .slice A3 ll.length c3) ⟨rfl, rfl, rfl⟩ ?_
    rintro e ⟨hq0, hq1, hq7⟩
    refine c_know (t := 0) (by exact hq0) ?_
    refine c_know (t := 1) (by exact hq1) ?_
    refine c_know (t := 7) (by exact hq7) ?_
    clear hq0 hq1 hq7
    refine c_seq ?_
 
    refine c_ops ?_
    refine l_val rfl rfl rfl (r_move rfl) ?_
    replace hn := hn.keep RNode.kept (Ext0.cells hE)
    replace hl := hl.keep RFact.kept (Ext0.cells hE)
    replace hin := hin.keep RFact.kept (Ext0.cells hE)
    obtain ⟨wp, hwp⟩ : ∃ x, x = w := ⟨_, rfl⟩
    rw [← hwp] at hn hl hin hE
    replace hE0 := hE0.trans hE
    replace hE : Ext0 wp w := hwp ▸ Ext.refl _ _
    rw [← hwp]
    refine l_by rfl rfl rfl (r_call rfl rfl Tryz.func21 rfl rfl) (Copy_calls _ A3 c3 ll hin (by omega) (fun f hf => Nat.le_trans (hwhy f hf) (by decide))) ?_
    rintro _ w ⟨v, fv, rfl, hfv, hL, hX⟩
    replace hE : Ext0 wp w := hX
    obtain ⟨A4, c4, rfl⟩ := ownsRow_slice (hL.row 0 rfl)
    have hfc := (facts_at (hL.sub (.cons _ (.refl _))) (fun x hx => List.mem_map.2 ⟨x, hx, rfl⟩) (hL.row 0 rfl) rfl).1
    rw [hfv] at hfc
    have hfl : fv.length = ll.length := by rw [← hfv, List.length_map]
    obtain ⟨wq, hwq⟩ : ∃ x, x = w := ⟨_, rfl⟩
    have hEc : Ext0 wq w := hwq ▸ Ext.refl _ _
    rw [← hwq] at hfc
    refine ⟨_, rfl, ?_⟩
    refine l_val rfl rfl rfl (r_assign rfl) ?_
    refine l_nil ?_
    refine c_fresh (fun e => e 0 = .slice A1 gg.length c1 ∧ e 1 = .slice A2 ll.length c2 ∧ e 7 = .slice A3 ll.length c3 ∧ e 13 = .slice A4 ll.length c4) ⟨rfl, rfl, rfl, (congrArg (fun n => Value.slice A4 n c4) hfl)⟩ ?_
    rintro e ⟨hq0, hq1, hq7, hq13⟩
    refine c_know (t := 0) (by exact hq0) ?_
    refine c_know (t := 1) (by exact hq1) ?_
    refine c_know (t := 7) (by exact hq7) ?_
    refine c_know (t := 13) (by exact hq13) ?_
    clear hq0 hq1 hq7 hq13
    refine c_merge [14, 100, 101, 102, 103, 104, 105, 106, 107, 108, 109, 110, 111, 112, 113, 114, 115, 116, 117, 118, 119, 120, 121, 122] (fun e w => e 14 = .bool true ∧ Has w (.row wp.heap.size 43 3 (.slice A4 fv.length c4) fv.length (fv.map fcell).flatten :: fv.map (fres 3 wp.heap.size)) ∧ Ext0 wp w) ?_ ?_
    · skip
   
      refine c_ops ?_
      refine l_val rfl rfl rfl (r_move rfl) ?_
      refine l_val rfl rfl rfl (r_move rfl) ?_
      refine l_by rfl rfl rfl (r_call rfl rfl Tryz.func9 rfl rfl) (rSame_true2 _ A4 c4 ll (hfc.keep RFact.kept (Ext0.cells hEc)) A2 c2 (hl.keep RFact.kept (Ext0.cells hE))) ?_
      rintro _ w ⟨rfl, hX⟩
      replace hL := hL.ext0 hX
      replace hE := hE.trans hX
      replace hEc := hEc.trans hX
      refine ⟨_, rfl, ?_⟩
      refine l_val rfl rfl rfl (r_move rfl) ?_
      refine l_val rfl rfl rfl (r_move rfl) ?_
      refine l_val rfl rfl rfl (r_move rfl) ?_
      refine l_by rfl rfl rfl (r_call rfl rfl Tryz.func22 rfl rfl) (Same_true _ A4 c4 ll (hfc.keep RFact.kept (Ext0.cells hEc)) A3 c3 (hin.keep RFact.kept (Ext0.cells hE))) ?_
      rintro _ w ⟨rfl, hX⟩
      replace hL := hL.ext0 hX
      replace hE := hE.trans hX
      replace hEc := hEc.trans hX
      refine ⟨_, rfl, ?_⟩
      refine l_val rfl rfl rfl (r_pick rfl rfl) ?_
      refine l_val rfl rfl rfl (r_move rfl) ?_
      refine l_val rfl rfl rfl (r_move rfl) ?_
      refine l_val rfl rfl rfl (r_len rfl Tryz.underlying25 rfl) ?_
      refine l_val rfl rfl rfl (r_eql rfl rfl rfl) ?_
      refine l_val rfl rfl rfl (r_move rfl) ?_
      refine l_case 112 rfl (fun hb => ?_) (fun hb => ?_)
      · have hr112 := hb
        replace hb := of_decide_eq_true hb
        refine l_not rfl rfl rfl ?_
        refine l_not rfl rfl rfl ?_
        refine l_not rfl rfl rfl ?_
        refine l_not rfl rfl rfl ?_
        refine l_not rfl rfl rfl ?_
        refine l_not rfl rfl rfl ?_
        refine l_not rfl rfl rfl ?_
        refine l_not rfl rfl rfl ?_
        refine l_val rfl rfl rfl (r_pick rfl rfl) ?_
        refine l_val rfl rfl rfl (r_pick rfl rfl) ?_
        refine l_val rfl rfl rfl (r_assign rfl) ?_
        refine l_nil ?_
        refine ⟨by repeat (first | exact Agree.over _ _ _ | exact Agree.refl _ _ | (refine Agree.puto ?_ _ _ rfl) | (refine Agree.put ?_ _ _ rfl) | (refine Agree.sub ?_ rfl)), ?_⟩
        exact ⟨rfl, hL, hE⟩
      · have hr112 := hb
        replace hb := of_decide_eq_false hb
        have hlp : 0 < ll.length := by omega
        have hwr : IntKind.i64.wrap ((ll.length : Int) - 1) = ((ll.length - 1 : Nat) : Int) := by rw [wrap_small (by omega) (by omega)]; omega
        have hne : ¬ ll.take (ll.length - 1) = ll := fun e => by have := congrArg List.length e; rw [List.length_take] at this; omega
        have hst : Value.slice A4 ((ll.length - 1 : Nat) : Int).toNat c4 = Value.slice A4 (ll.take (ll.length - 1)).length c4 := by rw [List.length_take, Int.toNat_natCast]; congr 1; omega
        have htk : FactsAt wq A4 c4 (ll.take (ll.length - 1)) := by have := Sl.take hfc (ll.length - 1); unfold FactsAt; rw [List.length_take, Nat.min_comm]; exact this
        refine l_val rfl rfl rfl (r_move rfl) ?_
        refine l_val rfl rfl rfl (r_move rfl) ?_
        refine l_val rfl rfl rfl (r_len rfl Tryz.underlying25 rfl) ?_
        refine l_val rfl rfl rfl ((r_sub rfl rfl rfl).trans (by rw [hwr])) ?_
        refine l_val rfl rfl rfl ((r_slice_to rfl Tryz.underlying25 Tryz.sizeOf43 rfl rfl (by omega) (by have := hfc.cap; omega)).trans (by rw [hst])) ?_
        refine l_val rfl rfl rfl (r_move rfl) ?_
        refine l_by rfl rfl rfl (r_call rfl rfl Tryz.func22 rfl rfl) (Same_calls _ A4 c4 (ll.take (ll.length - 1)) (htk.keep RFact.kept (Ext0.cells hEc)) A3 c3 ll (hin.keep RFact.kept (Ext0.cells hE))) ?_
        rintro _ w ⟨hen, hX⟩
        rw [decide_eq_false hne] at hen
        subst hen
        replace hL := hL.ext0 hX
        replace hE := hE.trans hX
        replace hEc := hEc.trans hX
        refine ⟨_, rfl, ?_⟩
        refine l_val rfl rfl rfl (r_not rfl rfl) ?_
        refine l_val rfl rfl rfl (r_pick rfl rfl) ?_
        refine l_val rfl rfl rfl (r_pick rfl rfl) ?_
        refine l_val rfl rfl rfl (r_assign rfl) ?_
        refine l_nil ?_
        refine ⟨by repeat (first | exact Agree.over _ _ _ | exact Agree.refl _ _ | (refine Agree.puto ?_ _ _ rfl) | (refine Agree.put ?_ _ _ rfl) | (refine Agree.sub ?_ rfl)), ?_⟩
        exact ⟨rfl, hL, hE⟩
    rintro e w hI
    obtain ⟨h14, hL, hE⟩ := hI
    refine c_know (t := 14) (by exact h14) ?_
    refine c_fresh (fun e => e 0 = .slice A1 gg.length c1 ∧ e 1 = .slice A2 ll.length c2 ∧ e 7 = .slice A3 ll.length c3 ∧ e 13 = .slice A4 fv.length c4 ∧ e 14 = .bool true) ⟨rfl, rfl, rfl, (congrArg (fun n => Value.slice A4 n c4) hfl.symm), rfl⟩ ?_
    rintro e ⟨hq0, hq1, hq7, hq13, hq14⟩
    refine c_know (t := 0) (by exact hq0) ?_
    refine c_know (t := 1) (by exact hq1) ?_
    refine c_know (t := 7) (by exact hq7) ?_
    refine c_know (t := 13) (by exact hq13) ?_
    refine c_know (t := 14) (by exact hq14) ?_
    clear hq0 hq1 hq7 hq13 hq14
    refine c_seq ?_
 
    refine c_ops ?_
    refine l_val rfl rfl rfl (r_move rfl) ?_
    refine l_by rfl rfl rfl (r_call rfl rfl Tryz.func23 rfl rfl) (spoil_calls _ wp.heap.size A4 c4 fv hL) ?_
    rintro _ w ⟨⟨sv, rfl⟩, hsp, hX⟩
    replace hE := hE.step hX (fun i hi hB => absurd hi (Nat.not_lt.2 hB))
    have hL : Has w [] := trivial
    obtain ⟨spl, hspl⟩ : ∃ x, x = List.replicate fv.length (⟨-9, 0, []⟩ : Fact) := ⟨_, rfl⟩
    rw [← hspl] at hsp
    have hsplen : fv.length = spl.length := by rw [hspl]; simp
    obtain ⟨wr, hwr⟩ : ∃ x, x = w := ⟨_, rfl⟩
    have hEs : Ext0 wr w := hwr ▸ Ext.refl _ _
    rw [← hwr] at hsp
    refine ⟨_, rfl, ?_⟩
    refine l_nil ?_
    refine c_fresh (fun e => e 0 = .slice A1 gg.length c1 ∧ e 1 = .slice A2 ll.length c2 ∧ e 7 = .slice A3 ll.length c3 ∧ e 13 = .slice A4 spl.length c4 ∧ e 14 = .bool true) ⟨rfl, rfl, rfl, (congrArg (fun n => Value.slice A4 n c4) hsplen), rfl⟩ ?_
    rintro e ⟨hq0, hq1, hq7, hq13, hq14⟩
    refine c_know (t := 0) (by exact hq0) ?_
    refine c_know (t := 1) (by exact hq1) ?_
    refine c_know (t := 7) (by exact hq7) ?_
    refine c_know (t := 13) (by exact hq13) ?_
    refine c_know (t := 14) (by exact hq14) ?_
    clear hq0 hq1 hq7 hq13 hq14
    refine c_seq ?_
 
    refine c_ops ?_
    refine l_val rfl rfl rfl (r_move rfl) ?_
    refine l_val rfl rfl rfl (r_move rfl) ?_
    refine l_val rfl rfl rfl (r_move rfl) ?_
    refine l_val rfl rfl rfl (r_move rfl) ?_
    refine l_by rfl rfl rfl (r_call rfl rfl Tryz.func9 rfl rfl) (rSame_true2 _ A3 c3 ll (hin.keep RFact.kept (Ext0.cells hE)) A2 c2 (hl.keep RFact.kept (Ext0.cells hE))) ?_
    rintro _ w ⟨rfl, hX⟩
    replace hE := hE.trans hX
    replace hEs := hEs.trans hX
    refine ⟨_, rfl, ?_⟩
    refine l_val rfl rfl rfl (r_pick rfl rfl) ?_
    refine l_val rfl rfl rfl (r_move rfl) ?_
    refine l_val rfl rfl rfl (r_move rfl) ?_
    refine l_val rfl rfl rfl (r_move rfl) ?_
    refine l_by rfl rfl rfl (r_call rfl rfl Tryz.func22 rfl rfl) (Same_calls _ A4 c4 spl (hsp.keep RFact.kept (Ext0.cells hEs)) A3 c3 ll (hin.keep RFact.kept (Ext0.cells hE))) ?_
    rintro _ w ⟨rfl, hX⟩
    replace hE := hE.trans hX
    replace hEs := hEs.trans hX
    refine ⟨_, rfl, ?_⟩
    refine l_val rfl rfl rfl (r_move rfl) ?_
    refine l_val rfl rfl rfl (r_move rfl) ?_
    refine l_by rfl rfl rfl (r_call rfl rfl Tryz.func9 rfl rfl) (rSame_calls _ A4 c4 spl (hsp.keep RFact.kept (Ext0.cells hEs)) A2 c2 ll (hl.keep RFact.kept (Ext0.cells hE))) ?_
    rintro _ w ⟨rfl, hX⟩
    replace hE := hE.trans hX
    replace hEs := hEs.trans hX
    refine ⟨_, rfl, ?_⟩
    refine l_val rfl rfl rfl (r_beqlR rfl rfl rfl) ?_
    refine l_know (t := 138) (v := .bool true) (congrArg Value.bool (by simp)) ?_
    refine l_val rfl rfl rfl (r_pick rfl rfl) ?_
    refine l_val rfl rfl rfl (r_move rfl) ?_
    refine l_by rfl rfl rfl (r_call rfl rfl Tryz.func11 rfl rfl) (works_calls _ (hk0.keep (Ext0.cells (hE0.trans hE)))) ?_
    rintro _ w ⟨rfl, hX⟩
    replace hE := hE.trans hX
    refine ⟨_, rfl, ?_⟩
    refine l_val rfl rfl rfl (r_pick rfl rfl) ?_
    refine l_val rfl rfl rfl (r_assign rfl) ?_
    refine l_nil ?_
    refine c_ret ?_
    exact ⟨rfl, hE0.trans hE⟩
end Go.Proofs.YtndophlnapjkhaaGreatDoor.Vc
namespace Go.Proofs.YtndophlnapjkhaaGreatDoor.Vc
open Go Go.RowKit Go.ChangeShapes Go.WideShapes Go.Deep
set_option linter.unusedVariables false
set_option maxRecDepth 100000
set_option linter.unusedSimpArgs false
section
variable {H : Type} {enc : TypeId × Value → H} {w : World} {base : Nat} {spare : Nat → Bool} {held : Bool}
theorem sl_of_trod {P : Program} {α : Type} [Inhabited α] {R : World → α → List Value → Prop} {t e : TypeId} {sz fuel : Nat} {cs : List Value} {x : DataW H × List MemPlace} (ht : P.underlying t = some (.slice e)) (hc : P.cellsOf e = sz)
    (he : ∀ n cs x, DataW.trod enc P w base spare held n e cs = some x → ∃ y : α, R w y cs) (h : DataW.trod enc P w base spare held fuel t cs = some x) : ∃ A len cap xs, cs = [.slice A len cap] ∧ Sl w sz R A len cap (xs : List α) := by
  rcases open_slice ht h with ⟨rfl, _⟩ | ⟨a, len, cap, m, n, D, Pl, rfl, hb, hl, hm, hmm, _, hx⟩
  · exact ⟨none, 0, 0, [], rfl, Sl.nil _ _ _ _ _⟩
  · have hlm : len ≤ m := by rw [hmm]; split <;> omega
    have each : ∀ i, i < len → ∃ y : α, ∃ cs', cs'.length = sz ∧ R w y cs' ∧ ∀ j v, cs'[j]? = some v → w.cell? (a.add (i * sz + j)) = some v := fun i hi => by
      obtain ⟨cs', h1, h2⟩ := hx i (by omega)
      obtain ⟨y, hy⟩ := he _ _ _ h2
      obtain ⟨_, hlen, hcell⟩ := World.cells?_some h1
      rw [hc] at hlen hcell
      refine ⟨y, cs', hlen, hy, fun j v hj => ?_⟩
      have hjl := (List.getElem?_eq_some_iff.1 hj).1
      have := hcell j (by omega)
      rw [adr_add, hj] at this
      exact this
    obtain ⟨q, hq⟩ := choose_lt each
    refine ⟨some a, len, cap, (List.range len).map q, rfl, ⟨by simp, hl, by simp only [maxLen] at hm; omega, fun _ => rfl, fun i y hy => ?_⟩⟩
    rw [List.getElem?_map, Option.map_eq_some_iff] at hy
    obtain ⟨i', hi', rfl⟩ := hy
    have hil := (List.getElem?_eq_some_iff.1 hi').1
    have he' : i' = i := by
      have := (List.getElem?_eq_some_iff.1 hi').2
      simpa using this.symm
    subst he'
    obtain ⟨cs', h1, h2, h3⟩ := hq i' (by simpa using hil)
    exact ⟨cs', h1, h2, h3⟩
theorem int_of_trod (n : Nat) (cs : List Value) (x : DataW H × List MemPlace) (h : DataW.trod enc Tryz.prog w base spare held n 3 cs = some x) : ∃ y : Int, RInt w y cs := by
  obtain ⟨k, rfl, _⟩ := DataW.trod_int Tryz.underlying3 h
  exact ⟨k, rfl⟩
theorem str_of_trod (n : Nat) (cs : List Value) (x : DataW H × List MemPlace) (h : DataW.trod enc Tryz.prog w base spare held n 9 cs = some x) : ∃ y : ByteArray, RStr w y cs := by
  obtain ⟨k, rfl, _⟩ := DataW.trod_string Tryz.underlying9 h
  exact ⟨k, rfl⟩
instance : Inhabited GNode := ⟨GNode.nil⟩
theorem node_of_trod (n : Nat) (cs : List Value) (x : DataW H × List MemPlace) (h : DataW.trod enc Tryz.prog w base spare held n 46 cs = some x) : ∃ y : GNode, RNode w y cs := by
  obtain ⟨xs, m, _, _, hlen, hxl, hel⟩ := DataW.trod_struct Tryz.underlying46 h
  have c1 : Tryz.prog.cellsOf 3 = 1 := by kernel_rfl
  have c2 : Tryz.prog.cellsOf 9 = 1 := by kernel_rfl
  have c3 : Tryz.prog.cellsOf 44 = 1 := by kernel_rfl
  have c4 : Tryz.prog.cellsOf 26 = 1 := by kernel_rfl
  have c5 : Tryz.prog.cellsOf 46 = 5 := by kernel_rfl
  rw [c5] at hlen
  match cs, hlen, xs, hxl with
  | [v0, v1, v2, v3, v4], _, [x0, x1, x2, x3, x4], _ =>
    have h0 := hel 0 _ rfl
    have h1 := hel 1 _ rfl
    have h2 := hel 2 _ rfl
    have h3 := hel 3 _ rfl
    have h4 := hel 4 _ rfl
    simp [c1, c2, c3, c4] at h0 h1 h2 h3 h4
    obtain ⟨a, e0, _⟩ := DataW.trod_int Tryz.underlying3 h0
    obtain ⟨b, e1, _⟩ := DataW.trod_int Tryz.underlying3 h1
    obtain ⟨s, e2, _⟩ := DataW.trod_string Tryz.underlying9 h2
    obtain ⟨Ak, nk, ck, ks, e3, hk⟩ := sl_of_trod Tryz.underlying44 c2 str_of_trod h3
    obtain ⟨Al, nl, cl, l, e4, hl⟩ := sl_of_trod Tryz.underlying26 c1 int_of_trod h4
    simp at e0 e1 e2 e3 e4
    subst e0; subst e1; subst e2; subst e3; subst e4
    refine ⟨⟨a, b, s, ks, l⟩, Ak, ck, Al, cl, ?_, ?_, ?_⟩
    · simp [nodeCells, hk.len, hl.len]
    · rw [hk.len]; exact hk
    · rw [hl.len]; exact hl
theorem nodes_of {v : Value} {d : DataW H} {ps : List MemPlace} (hv : ∃ a len cap, v = .slice a len cap) (h : DataW.Trod enc Tryz.prog w base spare held 22 v d ps) : ∃ A c g, v = .slice A (List.length g) c ∧ Nodes w A c g := by
  obtain ⟨a, len, cap, rfl⟩ := hv
  obtain ⟨fuel, hf⟩ := h
  obtain ⟨A, n, c, g, e, hs⟩ := sl_of_trod Tryz.underlying22 (by kernel_rfl : Tryz.prog.cellsOf 46 = 5) node_of_trod hf
  have e' : Value.slice a len cap = .slice A n c := by simpa [Value.cells] using e
  refine ⟨A, c, g, by rw [e', hs.len], ?_⟩
  unfold Nodes
  rw [hs.len]
  exact hs
theorem trod_ext {P : Program} {W W' : World} (h : Ext0 W W') {t : TypeId} {v : Value} {d : DataW H} {ps : List MemPlace} (hlt : ∀ p ∈ ps, p.block < W.heap.size) (hd : DataW.Trod enc P W base spare held t v d ps) : DataW.Trod enc P W' base spare held t v d ps := by
  obtain ⟨fuel, hf⟩ := hd
  exact ⟨fuel, DataW.trod_carry fuel t _ _ hf (fun p hp => h.below0.same (hlt p hp))⟩
theorem trodAll_ext {P : Program} {W W' : World} (h : Ext0 W W') : ∀ {ts : List TypeId} {vs : List Value} {ds : List (DataW H)} {ps : List MemPlace}, (∀ p ∈ ps, p.block < W.heap.size) → DataW.TrodAll enc P W base spare held ts vs ds ps → DataW.TrodAll enc P W' base spare held ts vs ds ps
  | [], [], [], _, _, hd => hd
  | _ :: _, _ :: _, _ :: _, _, hlt, hd => by
    obtain ⟨p, q, h1, h2, rfl⟩ := hd
    exact ⟨p, q, trod_ext h (fun x hx => hlt x (List.mem_append_left _ hx)) h1, trodAll_ext h (fun x hx => hlt x (List.mem_append_right _ hx)) h2, rfl⟩
end
theorem kids : Kids Tryz.prog (· < Tryz.prog.types.size) := kids_rows (by kernel_rfl) (by kernel_rfl)
theorem full : ∀ t e, t < Tryz.prog.types.size → Tryz.prog.underlying t = some (.slice e) → 0 < Tryz.prog.cellsOf e := slices_full_of Tryz.prog (by kernel_rfl)
theorem own : ownKnob Tryz.prog.godebug = none := by kernel_rfl
theorem gKeys : Tryz.prog.globalNamed "armillary/lex.keys" = some 0 := by kernel_rfl
theorem tKeys : (Tryz.prog.globals[0]?).map (·.type) = some 120 := by kernel_rfl
noncomputable abbrev laidRow : List (String × DataW Unit) := [("armillary/lex.keys", Rows.laid_armillary_lex_keys)]
theorem laid_is : (Rows.laid_armillary_lex_keys : DataW Unit) = .agg (keysL.map fun s => .lit (.string s.data.toList)) := by kernel_rfl
theorem keys_of_laid {W : World} (h : laidMetH Tryz.prog laidRow W) : KeysLaid W := by
  rw [MakeChecks.laidMetH_plain _ _ _ (by kernel_rfl)] at h
  obtain ⟨ps, ⟨g0, t0, cs0, f0, p0, q0, hg0, ht0, hv0, hd0, _, _⟩, _, _⟩ := h
  obtain rfl := Option.some.inj (gKeys.symm.trans hg0)
  obtain rfl := Option.some.inj (tKeys.symm.trans ht0)
  obtain ⟨xs, m1, rfl, hx1, hlen, hn, hel⟩ := DataW.trod_array Tryz.underlying120 hd0
  have c1 : Tryz.prog.cellsOf 9 = 1 := by kernel_rfl
  simp only [Prod.mk.injEq] at hx1
  have hxs : xs.map (·.1) = keysL.map fun s => DataW.lit (.string s.data.toList) := by
    have := hx1.1
    rw [laid_is] at this
    injection this with this
    exact this.symm
  intro i s hs
  have hk18 : keysL.length = 18 := by decide
  have hi : i < 18 := by have := (List.getElem?_eq_some_iff.1 hs).1; omega
  have h0 := hel i hi
  rw [c1, Nat.mul_one] at h0
  have hxi : xs[i]? = some (xs[i]'(by omega)) := List.getElem?_eq_getElem (by omega)
  rw [hxi] at h0
  obtain ⟨s', e1, e2, _⟩ := DataW.trod_string Tryz.underlying9 h0
  have h2 : (xs.map (·.1))[i]? = some (xs[i]'(by omega)).1 := by rw [List.getElem?_map, hxi]; rfl
  rw [hxs, List.getElem?_map, hs, e2] at h2
  have h3 : s.data.toList = s'.data.toList := by simpa using h2
  have h4 : s = s' := ByteArray.ext (Array.toList_inj.1 h3)
  subst h4
  have hv := World.var?_cell hg0 hv0 i
  rw [hv]
  have h5 : ((cs0.toList.drop i).take 1)[0]? = some (.string s) := by rw [e1]; rfl
  rw [List.getElem?_take, if_pos (by decide), List.getElem?_drop, Nat.add_zero] at h5
  simpa using h5
theorem post_of_ext {H : Type} {enc : TypeId × Value → H} {P : Program} {f : Func} {s : ChangeSpec} {apart fresh handsOn again : Bool} {W W' : World} {args : Array Value} {v : Value} {ds gs : List (DataW H)} {before : List MemPlace}
    (hW : DataW.Whole enc P f.params.toList s.vars apart W args.toList ds gs before)
    (hres : ∀ (b : Nat) (sp : Nat → Bool) (hd : Bool), DataW.TrodAll enc P W' b sp hd f.resultTypes.toList (v.resultList f.resultTypes.size) (s.fn H (ds ++ gs)).results [])
    (hargs : ∀ sp : Nat → Bool, (∀ p ∈ before, sp p.block = true) → DataW.TrodAll enc P W' 0 sp true f.params.toList args.toList (s.fn H (ds ++ gs)).args before)
    (hvars : ∀ sp : Nat → Bool, DataW.TrodVars enc P W' sp s.vars (s.fn H (ds ++ gs)).vars [])
    (hE : Ext0 W W')
    (hok : ∀ (j : Nat) (t : TypeId) (r : Value), f.resultTypes[j]? = some t → (v.resultList f.resultTypes.size)[j]? = some r → Value.okWide P W' .any 0 t r) :
    s.post enc P f apart fresh handsOn again W args v W' := by
  have hold : ∀ p ∈ before, (fun b => decide (b < W.heap.size)) p.block = true := fun p hp => by simpa using hW.lt p hp
  refine ⟨ds, gs, before, [], before, [], hW, hres _ _ _, hargs _ hold, hvars _, hE.below0.frame _, fun _ => ?_⟩
  have hlt := hW.lt
  obtain ⟨_, _, _, _, _, hz, hn⟩ := hW
  refine ⟨hok, _, _, ([] ++ before) ++ [], ⟨[] ++ before, [], trodAll_append (hargs _ (fun _ _ => rfl)) (hres _ _ _), hvars _, rfl, ?_, ?_⟩, ?_⟩
  · intro b off hp
    have hp' : MemPlace.cell b off ∈ before := by simpa using hp
    rw [World.frozen?_of_block (w := W) (hE.block b (hlt _ hp') (fun h => h))]
    exact hz b off hp'
  · intro ha
    simpa using hn ha
  · intro p hp _
    simpa using hp
end Go.Proofs.YtndophlnapjkhaaGreatDoor.Vc
