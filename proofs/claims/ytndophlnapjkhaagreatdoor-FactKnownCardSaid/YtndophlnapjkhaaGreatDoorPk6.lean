/- Laws and walks for what the last text proves, part 6: FactKnown of the layer 'fact'. Conditions: those of each statement. -/
import Derived.ChangeKeysEq
import Derived.Test.YtndophlnapjkhaaGreatDoorPk5
set_option linter.unusedVariables false
set_option linter.unusedSimpArgs false
set_option linter.unusedSectionVars false
namespace Go.Proofs.YtndophlnapjkhaaGreatDoor.Vc
open Go Go.RowKit
set_option linter.unusedVariables false
set_option linter.unusedSimpArgs false
theorem rHolds_calls (w0 : World) (Ag : Option Addr) (cg : Nat) (g : List GNode) (hg : Nodes w0 Ag cg g) (hfit : Fits g) (hn : g.length ≤ 1000000) (Af : Option Addr) (cf : Nat) (l : List Fact) (hl : FactsAt w0 Af cf l) (k : Int) :
    Calls Tryz.prog 18 [.slice Ag g.length cg, .slice Af l.length cf, .int .i64 k].toArray w0 fun en w' => en = .returned (.bool (holdsAt g l k)) ∧ Ext0 w0 w' := by
 have hE : Ext0 w0 w0 := Ext.refl _ _
 refine calls [6] Tryz.func18 rfl rfl rfl rfl ?_
 refine c_seq ?_
 refine c_ops ?_
 refine as' rfl rfl rfl rfl ?_
 refine l_nil ?_
 refine c_seq ?_
 refine c_ops ?_
 refine mv' rfl rfl rfl rfl ?_
 refine mv' rfl rfl rfl rfl ?_
 refine l_by rfl rfl rfl (r_call rfl rfl Tryz.func16 rfl rfl) (rfCheck_calls _ Ag cg g hg hfit hn Af cf l hl) ?_
 rintro _ w ⟨rfl, hX⟩
 replace hE := hE.trans hX
 refine ⟨_, rfl, ?_⟩
 refine l_val rfl rfl rfl (r_eql rfl rfl rfl) ?_
 refine mv' rfl rfl rfl rfl ?_
 refine l_case 11 rfl (fun hb => ?_) (fun hb => ?_)
 ·have hr11 := hb
  replace hb := of_decide_eq_true hb
  have hck : checkF g l = 0 := hb
  obtain ⟨hok, _, hall⟩ := checkF_ok hfit hck
  refine mv' rfl rfl rfl rfl ?_
  refine l_val rfl rfl rfl (r_geq rfl rfl rfl) ?_
  refine l_val rfl rfl rfl (r_pick rfl rfl) ?_
  refine mv' rfl rfl rfl rfl ?_
  refine l_case 15 rfl (fun hb => ?_) (fun hb => ?_)
  ·have hr15 := hb
   replace hb := of_decide_eq_true hb
   have h1 : 0 ≤ k := hb
   refine mv' rfl rfl rfl rfl ?_
   refine mv' rfl rfl rfl rfl ?_
   refine l_val rfl rfl rfl (r_len rfl Tryz.underlying25 rfl) ?_
   refine l_val rfl rfl rfl (r_lss rfl rfl rfl) ?_
   refine l_val rfl rfl rfl (r_pick rfl rfl) ?_
   refine mv' rfl rfl rfl rfl ?_
   refine l_case 21 rfl (fun hb => ?_) (fun hb => ?_)
   ·have hr21 := hb
    replace hb := of_decide_eq_true hb
    have h2 : k < l.length := hb
    refine mv' rfl rfl rfl rfl ?_
    refine mv' rfl rfl rfl rfl ?_
    refine mv' rfl rfl rfl rfl ?_
    refine l_by rfl rfl rfl (r_call rfl rfl Tryz.func38 rfl rfl) (holds_rcalls _ Ag cg g (hg.keep RNode.kept (Ext0.cells hE)) hok Af cf l (hl.keep RFact.kept (Ext0.cells hE)) k h1 h2 (hall _ (fat_mem h1 h2))) ?_
    rintro _ w ⟨rfl, hX⟩
    replace hE := hE.trans hX
    refine ⟨_, rfl, ?_⟩
    refine l_val rfl rfl rfl (r_pick rfl rfl) ?_
    refine as' rfl rfl rfl rfl ?_
    refine l_nil ?_
    refine c_ret ?_
    exact ⟨ret_bool rfl (by simp only [holdsAt, hr11, hr15, hr21, Bool.true_and, Bool.and_true, Bool.false_and, Bool.and_false, Bool.true_or, Bool.or_true, Bool.false_or, Bool.or_false, Bool.not_true, Bool.not_false, cond_true, cond_false]), hE⟩
   ·have hr21 := hb
    replace hb := of_decide_eq_false hb
    refine l_not rfl rfl rfl ?_
    refine l_not rfl rfl rfl ?_
    refine l_not rfl rfl rfl ?_
    refine l_not rfl rfl rfl ?_
    refine l_val rfl rfl rfl (r_pick rfl rfl) ?_
    refine as' rfl rfl rfl rfl ?_
    refine l_nil ?_
    refine c_ret ?_
    exact ⟨ret_bool rfl (by simp only [holdsAt, hr11, hr15, hr21, Bool.true_and, Bool.and_true, Bool.false_and, Bool.and_false, Bool.true_or, Bool.or_true, Bool.false_or, Bool.or_false, Bool.not_true, Bool.not_false, cond_true, cond_false]), hE⟩
  ·have hr15 := hb
   replace hb := of_decide_eq_false hb
   refine l_not rfl rfl rfl ?_
   refine l_not rfl rfl rfl ?_
   refine l_not rfl rfl rfl ?_
   refine l_not rfl rfl rfl ?_
   refine l_val rfl rfl rfl (r_pick rfl rfl) ?_
   refine mv' rfl rfl rfl rfl ?_
   refine l_not rfl rfl rfl ?_
   refine l_not rfl rfl rfl ?_
   refine l_not rfl rfl rfl ?_
   refine l_not rfl rfl rfl ?_
   refine l_val rfl rfl rfl (r_pick rfl rfl) ?_
   refine as' rfl rfl rfl rfl ?_
   refine l_nil ?_
   refine c_ret ?_
   exact ⟨ret_bool rfl (by simp only [holdsAt, hr11, hr15, Bool.true_and, Bool.and_true, Bool.false_and, Bool.and_false, Bool.true_or, Bool.or_true, Bool.false_or, Bool.or_false, Bool.not_true, Bool.not_false, cond_true, cond_false]), hE⟩
 ·have hr11 := hb
  replace hb := of_decide_eq_false hb
  refine l_not rfl rfl rfl ?_
  refine l_not rfl rfl rfl ?_
  refine l_val rfl rfl rfl (r_pick rfl rfl) ?_
  refine mv' rfl rfl rfl rfl ?_
  refine l_not rfl rfl rfl ?_
  refine l_not rfl rfl rfl ?_
  refine l_not rfl rfl rfl ?_
  refine l_not rfl rfl rfl ?_
  refine l_val rfl rfl rfl (r_pick rfl rfl) ?_
  refine mv' rfl rfl rfl rfl ?_
  refine l_not rfl rfl rfl ?_
  refine l_not rfl rfl rfl ?_
  refine l_not rfl rfl rfl ?_
  refine l_not rfl rfl rfl ?_
  refine l_val rfl rfl rfl (r_pick rfl rfl) ?_
  refine as' rfl rfl rfl rfl ?_
  refine l_nil ?_
  refine c_ret ?_
  exact ⟨ret_bool rfl (by simp only [holdsAt, hr11, Bool.true_and, Bool.and_true, Bool.false_and, Bool.and_false, Bool.true_or, Bool.or_true, Bool.false_or, Bool.or_false, Bool.not_true, Bool.not_false, cond_true, cond_false]), hE⟩
theorem first_step {g : List GNode} {l : List Fact} {k : Nat} (hk : k < l.length) : findS (fun (_ : Unit) f => (!holdsF g l f, ())) k () (l.drop k) = if holdsF g l (fat l k) then findS (fun (_ : Unit) f => (!holdsF g l f, ())) (k + 1) () (l.drop (k + 1)) else (some k, ()) := by
 rw [findS_step (fun (_ : Unit) f => (!holdsF g l f, ())) () l k _ (fat_nat hk)]
 cases holdsF g l (fat l k) <;> rfl
theorem rFirst_calls (w0 : World) (Ag : Option Addr) (cg : Nat) (g : List GNode) (hg : Nodes w0 Ag cg g) (hfit : Fits g) (hn : g.length ≤ 1000000) (Af : Option Addr) (cf : Nat) (l : List Fact) (hl : FactsAt w0 Af cf l) :
    Calls Tryz.prog 14 [.slice Ag g.length cg, .slice Af l.length cf].toArray w0 fun en w' => en = .returned (.tuple #[.int .i64 (if checkF g l = 0 then firstF g l else 0), .int .i64 (checkF g l)]) ∧ Ext0 w0 w' := by
 have hE : Ext0 w0 w0 := Ext.refl _ _
 refine calls [4, 5] Tryz.func14 rfl rfl rfl rfl ?_
 refine c_seq ?_
 refine c_ops ?_
 refine as' rfl rfl rfl rfl ?_
 refine as' rfl rfl rfl rfl ?_
 refine l_nil ?_
 refine c_seq ?_
 refine c_seq ?_
 refine c_ops ?_
 refine mv' rfl rfl rfl rfl ?_
 refine mv' rfl rfl rfl rfl ?_
 refine l_by rfl rfl rfl (r_call rfl rfl Tryz.func16 rfl rfl) (rfCheck_calls _ Ag cg g hg hfit hn Af cf l hl) ?_
 rintro _ w ⟨rfl, hX⟩
 replace hE := hE.trans hX
 refine ⟨_, rfl, ?_⟩
 refine as' rfl rfl rfl rfl ?_
 refine l_nil ?_
 refine c_seq ?_
 refine c_ops ?_
 refine mv' rfl rfl rfl rfl ?_
 refine l_val rfl rfl rfl (r_neq rfl rfl rfl) ?_
 refine l_nil ?_
 refine c_cond rfl (fun hb => ?_) (fun hb => ?_)
 ·have hr12 := hb
  replace hb := of_decide_eq_false (by simpa using hb)
  have hck : ¬ checkF g l = 0 := hb
  refine c_seq ?_
  refine c_ops ?_
  refine mv' rfl rfl rfl rfl ?_
  refine as' rfl rfl rfl rfl ?_
  refine as' rfl rfl rfl rfl ?_
  refine l_nil ?_
  refine c_ret ?_
  exact ⟨by rw [if_neg hck]; rfl, hE⟩
 ·have hr12 := hb
  replace hb := of_decide_eq_true (by simpa using hb)
  have hck : checkF g l = 0 := hb
  obtain ⟨hok, _, hall⟩ := checkF_ok hfit hck
  refine c_skip ?_
  refine c_seq ?_
  refine c_seq ?_
  refine c_ops ?_
  refine as' rfl rfl rfl rfl ?_
  refine l_nil ?_
  refine c_block ?_
  refine c_loop [4, 5, 7, 14, 15, 16, 17, 18, 19, 20, 21, 22, 23, 24, 25] (fun m1 e w => ∃ (k : Nat), k ≤ l.length ∧ m1 = l.length - k ∧ e 7 = .int .i64 (k : Nat) ∧ firstF g l = idxV (findS (fun (_ : Unit) f => (!holdsF g l f, ())) k () (l.drop k)).1 ∧ Ext0 w0 w) (l.length) ?_ ?_
  ·exact ⟨0, Nat.zero_le _, rfl, rfl, rfl, hE⟩
  intro m1 e w hI
  obtain ⟨k, hkl, hkm, h7s, hfind, hE⟩ := hI
  refine c_know (t := 7) (by exact h7s) ?_
  have hL : Has w [] := trivial
  refine c_seq ?_
  refine c_seq ?_
  refine c_ops ?_
  refine mv' rfl rfl rfl rfl ?_
  refine mv' rfl rfl rfl rfl ?_
  refine l_val rfl rfl rfl (r_len rfl Tryz.underlying25 rfl) ?_
  refine l_val rfl rfl rfl (r_lss rfl rfl rfl) ?_
  refine l_nil ?_
  refine c_cond rfl (fun hb => ?_) (fun hb => ?_)
  ·have hr17 := hb
   replace hb := of_decide_eq_true hb
   have hklt : k < l.length := by omega
   refine c_skip ?_
   refine c_seq ?_
   refine c_block ?_
   refine c_seq ?_
   refine c_ops ?_
   refine mv' rfl rfl rfl rfl ?_
   refine mv' rfl rfl rfl rfl ?_
   refine mv' rfl rfl rfl rfl ?_
   refine l_by rfl rfl rfl (r_call rfl rfl Tryz.func38 rfl rfl) (holds_rcalls _ Ag cg g (hg.keep RNode.kept (Ext0.cells hE)) hok Af cf l (hl.keep RFact.kept (Ext0.cells hE)) k (by omega) (by omega) (hall _ (fat_mem (by omega) (by omega)))) ?_
   rintro _ w ⟨rfl, hX⟩
   replace hL := hL.ext0 hX
   replace hE := hE.step0 hX
   refine ⟨_, rfl, ?_⟩
   refine l_val rfl rfl rfl (r_not rfl rfl) ?_
   refine l_nil ?_
   refine c_cond rfl (fun hb => ?_) (fun hb => ?_)
   ·have hr24 := hb
    refine c_seq ?_
    refine c_ops ?_
    refine mv' rfl rfl rfl rfl ?_
    refine as' rfl rfl rfl rfl ?_
    refine as' rfl rfl rfl rfl ?_
    refine l_nil ?_
    refine c_ret ?_
    exact ⟨by rw [if_pos hck, hck, hfind, first_step hklt, if_neg (by rw [show holdsF g l (fat l k) = false by simpa using hb]; decide)]; rfl, hE⟩
   ·have hr24 := hb
    refine c_skip ?_
    refine c_ops ?_
    refine mv' rfl rfl rfl rfl ?_
    refine l_val rfl rfl rfl (r_add rfl rfl rfl) ?_
    refine as' rfl rfl rfl rfl ?_
    refine l_nil ?_
    refine ag' ?_
    exact ⟨l.length - (k + 1), by omega, k + 1, by omega, rfl, by show Value.int .i64 (IntKind.i64.wrap ((k : Int) + 1)) = _; rw [wrap_succ hklt hl.max], by rw [hfind, first_step hklt, if_pos (by simpa using hb)], hE⟩
  ·have hr17 := hb
   replace hb := of_decide_eq_false hb
   refine c_exit ?_
   refine c_seq ?_
   refine c_ops ?_
   refine as' rfl rfl rfl rfl ?_
   refine as' rfl rfl rfl rfl ?_
   refine l_nil ?_
   refine c_ret ?_
   exact ⟨by rw [if_pos hck, hck, hfind, findS_end _ _ _ _ (by omega)]; rfl, hE⟩
theorem fat_ne {a b : List Fact} {k : Nat} (h : ¬ fat a k = fat b k) : a ≠ b := fun e => h (by rw [e])
theorem rSame_calls (w0 : World) (A : Option Addr) (c : Nat) (a : List Fact) (ha : FactsAt w0 A c a) (B : Option Addr) (d : Nat) (b : List Fact) (hb' : FactsAt w0 B d b) :
    Calls Tryz.prog 9 [.slice A a.length c, .slice B b.length d].toArray w0 fun en w' => en = .returned (.bool (decide (a = b))) ∧ Ext0 w0 w' := by
 have hE : Ext0 w0 w0 := Ext.refl _ _
 refine calls [4] Tryz.func9 rfl rfl rfl rfl ?_
 refine c_seq ?_
 refine c_ops ?_
 refine as' rfl rfl rfl rfl ?_
 refine l_nil ?_
 refine c_seq ?_
 refine c_seq ?_
 refine c_ops ?_
 refine mv' rfl rfl rfl rfl ?_
 refine l_val rfl rfl rfl (r_len rfl Tryz.underlying25 rfl) ?_
 refine mv' rfl rfl rfl rfl ?_
 refine l_val rfl rfl rfl (r_len rfl Tryz.underlying25 rfl) ?_
 refine l_val rfl rfl rfl (r_neq rfl rfl rfl) ?_
 refine l_nil ?_
 refine c_cond rfl (fun hb => ?_) (fun hb => ?_)
 ·have hr10 := hb
  replace hb := of_decide_eq_false (by simpa using hb)
  have hne : a ≠ b := fun e => hb (by rw [e])
  refine c_seq ?_
  refine c_ops ?_
  refine as' rfl rfl rfl rfl ?_
  refine l_nil ?_
  refine c_ret ?_
  exact ⟨ret_bool rfl (decide_eq_false hne).symm, hE⟩
 ·have hr10 := hb
  replace hb := of_decide_eq_true (by simpa using hb)
  have hll : a.length = b.length := by omega
  refine c_skip ?_
  refine c_seq ?_
  refine c_seq ?_
  refine c_ops ?_
  refine as' rfl rfl rfl rfl ?_
  refine l_nil ?_
  refine c_block ?_
  refine c_loop [4, 5, 11, 12, 13, 14, 15, 16, 17, 18, 19, 20, 21, 22, 23, 24, 25, 26, 27, 28, 29, 30, 31, 32, 33, 34, 35, 36, 37, 38, 39, 40, 41, 42, 43, 44, 45, 46, 47, 48, 49, 50, 51, 52, 53, 54] (fun m1 e w => ∃ (k : Nat), k ≤ a.length ∧ m1 = a.length - k ∧ e 5 = .int .i64 (k : Nat) ∧ (∀ j : Nat, j < k → fat a j = fat b j) ∧ Ext0 w0 w) (a.length) ?_ ?_
  ·exact ⟨0, Nat.zero_le _, rfl, rfl, fun j hj => absurd hj (Nat.not_lt_zero _), hE⟩
  intro m1 e w hI
  obtain ⟨k, hkl, hkm, h5s, hall, hE⟩ := hI
  refine c_know (t := 5) (by exact h5s) ?_
  have hL : Has w [] := trivial
  refine c_seq ?_
  refine c_seq ?_
  refine c_ops ?_
  refine mv' rfl rfl rfl rfl ?_
  refine mv' rfl rfl rfl rfl ?_
  refine l_val rfl rfl rfl (r_len rfl Tryz.underlying25 rfl) ?_
  refine l_val rfl rfl rfl (r_lss rfl rfl rfl) ?_
  refine l_nil ?_
  refine c_cond rfl (fun hb => ?_) (fun hb => ?_)
  ·have hr14 := hb
   replace hb := of_decide_eq_true hb
   have hklt : k < a.length := by omega
   obtain ⟨A1, c1, hfa, hwa⟩ := ha.fact k (by omega) (by omega)
   obtain ⟨B1, d1, hfb, hwb⟩ := hb'.fact k (by omega) (by omega)
   refine c_skip ?_
   refine c_seq ?_
   refine c_block ?_
   refine c_seq ?_
   refine c_draw mixed (hL) hE ?_
   replace hL := hL.drew
   replace hE := hE.drew
   have hK := hL
   refine h_t 0 rfl rfl (by kernel_rfl) (fun _ _ _ h => h) ⟨hK, hE⟩ rfl (fun W hW => r_move rfl) ?_
   refine h_listed (listed' := #[T',F',F',F',F',F',F',F',F',F',F',F',F',F',F',F',F',F',F',F',F',F',F',F',F',F',F',F',F',F',F',F',F',F',F',F',F',F']) (by kernel_rfl) ?_
   refine h_t 1 rfl rfl (by kernel_rfl) (fun _ _ _ h => h) ⟨hK, hE⟩ rfl (fun W hW => r_move rfl) ?_
   refine h_listed (listed' := #[T',T',F',F',F',F',F',F',F',F',F',F',F',F',F',F',F',F',F',F',F',F',F',F',F',F',F',F',F',F',F',F',F',F',F',F',F',F']) (by kernel_rfl) ?_
   refine h_t 2 rfl rfl (by kernel_rfl) (fun _ _ _ h => h) ⟨hK, hE⟩ rfl (fun W hW => r_indexAddr_sl rfl Tryz.underlying25 Tryz.sizeOf43 rfl ha.is rfl (by omega) (by omega)) ?_
   refine h_listed (listed' := #[T',T',T',F',F',F',F',F',F',F',F',F',F',F',F',F',F',F',F',F',F',F',F',F',F',F',F',F',F',F',F',F',F',F',F',F',F',F']) (by kernel_rfl) ?_
   refine h_t 3 rfl rfl (by kernel_rfl) (fun _ _ _ h => h) ⟨hK, hE⟩ rfl (fun W hW => r_fieldAddr (n := 0) rfl Tryz.underlying43 rfl Tryz.sizeOf3 rfl) ?_
   refine h_listed (listed' := #[T',T',T',T',F',F',F',F',F',F',F',F',F',F',F',F',F',F',F',F',F',F',F',F',F',F',F',F',F',F',F',F',F',F',F',F',F',F']) (by kernel_rfl) ?_
   refine h_t 4 rfl rfl (by kernel_rfl) (fun _ _ _ h => h) ⟨hK, hE⟩ rfl (fun W hW => r_load rfl Tryz.isAgg3 rfl (Ext0.cells hW.2 _ _ (hfa 0 _ rfl))) ?_
   refine h_listed (listed' := #[T',T',T',T',T',F',F',F',F',F',F',F',F',F',F',F',F',F',F',F',F',F',F',F',F',F',F',F',F',F',F',F',F',F',F',F',F',F']) (by kernel_rfl) ?_
   refine h_t 5 rfl rfl (by kernel_rfl) (fun _ _ _ h => h) ⟨hK, hE⟩ rfl (fun W hW => r_move rfl) ?_
   refine h_listed (listed' := #[T',T',T',T',T',T',F',F',F',F',F',F',F',F',F',F',F',F',F',F',F',F',F',F',F',F',F',F',F',F',F',F',F',F',F',F',F',F']) (by kernel_rfl) ?_
   refine h_t 6 rfl rfl (by kernel_rfl) (fun _ _ _ h => h) ⟨hK, hE⟩ rfl (fun W hW => r_move rfl) ?_
   refine h_listed (listed' := #[T',T',T',T',T',T',T',F',F',F',F',F',F',F',F',F',F',F',F',F',F',F',F',F',F',F',F',F',F',F',F',F',F',F',F',F',F',F']) (by kernel_rfl) ?_
   refine h_t 7 rfl rfl (by kernel_rfl) (fun _ _ _ h => h) ⟨hK, hE⟩ rfl (fun W hW => r_indexAddr_sl rfl Tryz.underlying25 Tryz.sizeOf43 rfl hb'.is rfl (by omega) (by omega)) ?_
   refine h_listed (listed' := #[T',T',T',T',T',T',T',T',F',F',F',F',F',F',F',F',F',F',F',F',F',F',F',F',F',F',F',F',F',F',F',F',F',F',F',F',F',F']) (by kernel_rfl) ?_
   refine h_t 8 rfl rfl (by kernel_rfl) (fun _ _ _ h => h) ⟨hK, hE⟩ rfl (fun W hW => r_fieldAddr (n := 0) rfl Tryz.underlying43 rfl Tryz.sizeOf3 rfl) ?_
   refine h_listed (listed' := #[T',T',T',T',T',T',T',T',T',F',F',F',F',F',F',F',F',F',F',F',F',F',F',F',F',F',F',F',F',F',F',F',F',F',F',F',F',F']) (by kernel_rfl) ?_
   refine h_t 9 rfl rfl (by kernel_rfl) (fun _ _ _ h => h) ⟨hK, hE⟩ rfl (fun W hW => r_load rfl Tryz.isAgg3 rfl (Ext0.cells hW.2 _ _ (hfb 0 _ rfl))) ?_
   refine h_listed (listed' := #[T',T',T',T',T',T',T',T',T',T',F',F',F',F',F',F',F',F',F',F',F',F',F',F',F',F',F',F',F',F',F',F',F',F',F',F',F',F']) (by kernel_rfl) ?_
   refine h_t 10 rfl rfl (by kernel_rfl) (fun _ _ _ h => h) ⟨hK, hE⟩ rfl (fun W hW => r_neq rfl rfl rfl) ?_
   refine h_listed (listed' := #[T',T',T',T',T',T',T',T',T',T',T',F',F',F',F',F',F',F',F',F',F',F',F',F',F',F',F',F',F',F',F',F',F',F',F',F',F',F']) (by kernel_rfl) ?_
   refine h_t 11 rfl rfl (by kernel_rfl) (fun _ _ _ h => h) ⟨hK, hE⟩ rfl (fun W hW => r_move rfl) ?_
   refine h_listed (listed' := #[T',T',T',T',T',T',T',T',T',T',T',T',F',F',F',F',F',F',F',F',F',F',F',F',F',F',F',F',F',F',F',F',F',F',F',F',F',F']) (by kernel_rfl) ?_
   refine h_case 28 rfl (fun hb => ?_) (fun hb => ?_)
   ·have hr28 := hb
    replace hb := of_decide_eq_false (by simpa using hb)
    have hne : a ≠ b := fat_ne (k := k) fun e => hb (by rw [e])
    refine h_listed (listed' := #[T',T',T',T',T',T',T',T',T',T',T',T',F',F',F',F',F',F',F',F',F',F',F',F',F',F',F',F',F',F',F',F',F',F',F',F',F',F']) (by kernel_rfl) ?_
    refine h_n 12 rfl rfl (by kernel_rfl) (fun _ _ _ h => h) ⟨hK, hE⟩ rfl ?_
    refine h_listed (listed' := #[T',T',T',T',T',T',T',T',T',T',T',T',T',F',F',F',F',F',F',F',F',F',F',F',F',F',F',F',F',F',F',F',F',F',F',F',F',F']) (by kernel_rfl) ?_
    refine h_n 13 rfl rfl (by kernel_rfl) (fun _ _ _ h => h) ⟨hK, hE⟩ rfl ?_
    refine h_listed (listed' := #[T',T',T',T',T',T',T',T',T',T',T',T',T',T',F',F',F',F',F',F',F',F',F',F',F',F',F',F',F',F',F',F',F',F',F',F',F',F']) (by kernel_rfl) ?_
    refine h_n 14 rfl rfl (by kernel_rfl) (fun _ _ _ h => h) ⟨hK, hE⟩ rfl ?_
    refine h_listed (listed' := #[T',T',T',T',T',T',T',T',T',T',T',T',T',T',T',F',F',F',F',F',F',F',F',F',F',F',F',F',F',F',F',F',F',F',F',F',F',F']) (by kernel_rfl) ?_
    refine h_n 15 rfl rfl (by kernel_rfl) (fun _ _ _ h => h) ⟨hK, hE⟩ rfl ?_
    refine h_listed (listed' := #[T',T',T',T',T',T',T',T',T',T',T',T',T',T',T',T',F',F',F',F',F',F',F',F',F',F',F',F',F',F',F',F',F',F',F',F',F',F']) (by kernel_rfl) ?_
    refine h_n 16 rfl rfl (by kernel_rfl) (fun _ _ _ h => h) ⟨hK, hE⟩ rfl ?_
    refine h_listed (listed' := #[T',T',T',T',T',T',T',T',T',T',T',T',T',T',T',T',T',F',F',F',F',F',F',F',F',F',F',F',F',F',F',F',F',F',F',F',F',F']) (by kernel_rfl) ?_
    refine h_n 17 rfl rfl (by kernel_rfl) (fun _ _ _ h => h) ⟨hK, hE⟩ rfl ?_
    refine h_listed (listed' := #[T',T',T',T',T',T',T',T',T',T',T',T',T',T',T',T',T',T',F',F',F',F',F',F',F',F',F',F',F',F',F',F',F',F',F',F',F',F']) (by kernel_rfl) ?_
    refine h_n 18 rfl rfl (by kernel_rfl) (fun _ _ _ h => h) ⟨hK, hE⟩ rfl ?_
    refine h_listed (listed' := #[T',T',T',T',T',T',T',T',T',T',T',T',T',T',T',T',T',T',T',F',F',F',F',F',F',F',F',F',F',F',F',F',F',F',F',F',F',F']) (by kernel_rfl) ?_
    refine h_n 19 rfl rfl (by kernel_rfl) (fun _ _ _ h => h) ⟨hK, hE⟩ rfl ?_
    refine h_listed (listed' := #[T',T',T',T',T',T',T',T',T',T',T',T',T',T',T',T',T',T',T',T',F',F',F',F',F',F',F',F',F',F',F',F',F',F',F',F',F',F']) (by kernel_rfl) ?_
    refine h_n 20 rfl rfl (by kernel_rfl) (fun _ _ _ h => h) ⟨hK, hE⟩ rfl ?_
    refine h_listed (listed' := #[T',T',T',T',T',T',T',T',T',T',T',T',T',T',T',T',T',T',T',T',T',F',F',F',F',F',F',F',F',F',F',F',F',F',F',F',F',F']) (by kernel_rfl) ?_
    refine h_n 21 rfl rfl (by kernel_rfl) (fun _ _ _ h => h) ⟨hK, hE⟩ rfl ?_
    refine h_listed (listed' := #[T',T',T',T',T',T',T',T',T',T',T',T',T',T',T',T',T',T',T',T',T',T',F',F',F',F',F',F',F',F',F',F',F',F',F',F',F',F']) (by kernel_rfl) ?_
    refine h_n 22 rfl rfl (by kernel_rfl) (fun _ _ _ h => h) ⟨hK, hE⟩ rfl ?_
    refine h_listed (listed' := #[T',T',T',T',T',T',T',T',T',T',T',T',T',T',T',T',T',T',T',T',T',T',T',F',F',F',F',F',F',F',F',F',F',F',F',F',F',F']) (by kernel_rfl) ?_
    refine h_t 23 rfl rfl (by kernel_rfl) (fun _ _ _ h => h) ⟨hK, hE⟩ rfl (fun W hW => r_pick rfl rfl) ?_
    refine h_listed (listed' := #[T',T',T',T',T',T',T',T',T',T',T',T',T',T',T',T',T',T',T',T',T',T',T',T',F',F',F',F',F',F',F',F',F',F',F',F',F',F']) (by kernel_rfl) ?_
    refine h_t 24 rfl rfl (by kernel_rfl) (fun _ _ _ h => h) ⟨hK, hE⟩ rfl (fun W hW => r_move rfl) ?_
    refine h_listed (listed' := #[T',T',T',T',T',T',T',T',T',T',T',T',T',T',T',T',T',T',T',T',T',T',T',T',T',F',F',F',F',F',F',F',F',F',F',F',F',F']) (by kernel_rfl) ?_
    refine h_n 25 rfl rfl (by kernel_rfl) (fun _ _ _ h => h) ⟨hK, hE⟩ rfl ?_
    refine h_listed (listed' := #[T',T',T',T',T',T',T',T',T',T',T',T',T',T',T',T',T',T',T',T',T',T',T',T',T',T',F',F',F',F',F',F',F',F',F',F',F',F']) (by kernel_rfl) ?_
    refine h_n 26 rfl rfl (by kernel_rfl) (fun _ _ _ h => h) ⟨hK, hE⟩ rfl ?_
    refine h_listed (listed' := #[T',T',T',T',T',T',T',T',T',T',T',T',T',T',T',T',T',T',T',T',T',T',T',T',T',T',T',F',F',F',F',F',F',F',F',F',F',F']) (by kernel_rfl) ?_
    refine h_n 27 rfl rfl (by kernel_rfl) (fun _ _ _ h => h) ⟨hK, hE⟩ rfl ?_
    refine h_listed (listed' := #[T',T',T',T',T',T',T',T',T',T',T',T',T',T',T',T',T',T',T',T',T',T',T',T',T',T',T',T',F',F',F',F',F',F',F',F',F',F']) (by kernel_rfl) ?_
    refine h_n 28 rfl rfl (by kernel_rfl) (fun _ _ _ h => h) ⟨hK, hE⟩ rfl ?_
    refine h_listed (listed' := #[T',T',T',T',T',T',T',T',T',T',T',T',T',T',T',T',T',T',T',T',T',T',T',T',T',T',T',T',T',F',F',F',F',F',F',F',F',F']) (by kernel_rfl) ?_
    refine h_n 29 rfl rfl (by kernel_rfl) (fun _ _ _ h => h) ⟨hK, hE⟩ rfl ?_
    refine h_listed (listed' := #[T',T',T',T',T',T',T',T',T',T',T',T',T',T',T',T',T',T',T',T',T',T',T',T',T',T',T',T',T',T',F',F',F',F',F',F',F',F']) (by kernel_rfl) ?_
    refine h_n 30 rfl rfl (by kernel_rfl) (fun _ _ _ h => h) ⟨hK, hE⟩ rfl ?_
    refine h_listed (listed' := #[T',T',T',T',T',T',T',T',T',T',T',T',T',T',T',T',T',T',T',T',T',T',T',T',T',T',T',T',T',T',T',F',F',F',F',F',F',F']) (by kernel_rfl) ?_
    refine h_n 31 rfl rfl (by kernel_rfl) (fun _ _ _ h => h) ⟨hK, hE⟩ rfl ?_
    refine h_listed (listed' := #[T',T',T',T',T',T',T',T',T',T',T',T',T',T',T',T',T',T',T',T',T',T',T',T',T',T',T',T',T',T',T',T',F',F',F',F',F',F']) (by kernel_rfl) ?_
    refine h_n 32 rfl rfl (by kernel_rfl) (fun _ _ _ h => h) ⟨hK, hE⟩ rfl ?_
    refine h_listed (listed' := #[T',T',T',T',T',T',T',T',T',T',T',T',T',T',T',T',T',T',T',T',T',T',T',T',T',T',T',T',T',T',T',T',T',F',F',F',F',F']) (by kernel_rfl) ?_
    refine h_n 33 rfl rfl (by kernel_rfl) (fun _ _ _ h => h) ⟨hK, hE⟩ rfl ?_
    refine h_listed (listed' := #[T',T',T',T',T',T',T',T',T',T',T',T',T',T',T',T',T',T',T',T',T',T',T',T',T',T',T',T',T',T',T',T',T',T',F',F',F',F']) (by kernel_rfl) ?_
    refine h_n 34 rfl rfl (by kernel_rfl) (fun _ _ _ h => h) ⟨hK, hE⟩ rfl ?_
    refine h_listed (listed' := #[T',T',T',T',T',T',T',T',T',T',T',T',T',T',T',T',T',T',T',T',T',T',T',T',T',T',T',T',T',T',T',T',T',T',T',F',F',F']) (by kernel_rfl) ?_
    refine h_n 35 rfl rfl (by kernel_rfl) (fun _ _ _ h => h) ⟨hK, hE⟩ rfl ?_
    refine h_listed (listed' := #[T',T',T',T',T',T',T',T',T',T',T',T',T',T',T',T',T',T',T',T',T',T',T',T',T',T',T',T',T',T',T',T',T',T',T',T',F',F']) (by kernel_rfl) ?_
    refine h_n 36 rfl rfl (by kernel_rfl) (fun _ _ _ h => h) ⟨hK, hE⟩ rfl ?_
    refine h_listed (listed' := #[T',T',T',T',T',T',T',T',T',T',T',T',T',T',T',T',T',T',T',T',T',T',T',T',T',T',T',T',T',T',T',T',T',T',T',T',T',F']) (by kernel_rfl) ?_
    refine h_t 37 rfl rfl (by kernel_rfl) (fun _ _ _ h => h) ⟨hK, hE⟩ rfl (fun W hW => r_pick rfl rfl) ?_
    refine h_listed (listed' := #[T',T',T',T',T',T',T',T',T',T',T',T',T',T',T',T',T',T',T',T',T',T',T',T',T',T',T',T',T',T',T',T',T',T',T',T',T',T']) (by kernel_rfl) ?_
    refine h_done (by kernel_rfl) ?_
    refine c_yes rfl ?_
    refine c_seq ?_
    refine c_ops ?_
    refine as' rfl rfl rfl rfl ?_
    refine l_nil ?_
    refine c_ret ?_
    exact ⟨ret_bool rfl (decide_eq_false hne).symm, hE⟩
   ·have hr28 := hb
    replace hb := of_decide_eq_true (by simpa using hb)
    have hea := hb
    refine h_listed (listed' := #[T',T',T',T',T',T',T',T',T',T',T',T',F',F',F',F',F',F',F',F',F',F',F',F',F',F',F',F',F',F',F',F',F',F',F',F',F',F']) (by kernel_rfl) ?_
    refine h_t 12 rfl rfl (by kernel_rfl) (fun _ _ _ h => h) ⟨hK, hE⟩ rfl (fun W hW => r_move rfl) ?_
    refine h_listed (listed' := #[T',T',T',T',T',T',T',T',T',T',T',T',T',F',F',F',F',F',F',F',F',F',F',F',F',F',F',F',F',F',F',F',F',F',F',F',F',F']) (by kernel_rfl) ?_
    refine h_t 13 rfl rfl (by kernel_rfl) (fun _ _ _ h => h) ⟨hK, hE⟩ rfl (fun W hW => r_move rfl) ?_
    refine h_listed (listed' := #[T',T',T',T',T',T',T',T',T',T',T',T',T',T',F',F',F',F',F',F',F',F',F',F',F',F',F',F',F',F',F',F',F',F',F',F',F',F']) (by kernel_rfl) ?_
    refine h_t 14 rfl rfl (by kernel_rfl) (fun _ _ _ h => h) ⟨hK, hE⟩ rfl (fun W hW => r_indexAddr_sl rfl Tryz.underlying25 Tryz.sizeOf43 rfl ha.is rfl (by omega) (by omega)) ?_
    refine h_listed (listed' := #[T',T',T',T',T',T',T',T',T',T',T',T',T',T',T',F',F',F',F',F',F',F',F',F',F',F',F',F',F',F',F',F',F',F',F',F',F',F']) (by kernel_rfl) ?_
    refine h_t 15 rfl rfl (by kernel_rfl) (fun _ _ _ h => h) ⟨hK, hE⟩ rfl (fun W hW => r_fieldAddr (n := 0) rfl Tryz.underlying43 rfl Tryz.sizeOf3 rfl) ?_
    refine h_listed (listed' := #[T',T',T',T',T',T',T',T',T',T',T',T',T',T',T',T',F',F',F',F',F',F',F',F',F',F',F',F',F',F',F',F',F',F',F',F',F',F']) (by kernel_rfl) ?_
    refine h_t 16 rfl rfl (by kernel_rfl) (fun _ _ _ h => h) ⟨hK, hE⟩ rfl (fun W hW => r_load rfl Tryz.isAgg3 rfl (Ext0.cells hW.2 _ _ (hfa 1 _ rfl))) ?_
    refine h_listed (listed' := #[T',T',T',T',T',T',T',T',T',T',T',T',T',T',T',T',T',F',F',F',F',F',F',F',F',F',F',F',F',F',F',F',F',F',F',F',F',F']) (by kernel_rfl) ?_
    refine h_t 17 rfl rfl (by kernel_rfl) (fun _ _ _ h => h) ⟨hK, hE⟩ rfl (fun W hW => r_move rfl) ?_
    refine h_listed (listed' := #[T',T',T',T',T',T',T',T',T',T',T',T',T',T',T',T',T',T',F',F',F',F',F',F',F',F',F',F',F',F',F',F',F',F',F',F',F',F']) (by kernel_rfl) ?_
    refine h_t 18 rfl rfl (by kernel_rfl) (fun _ _ _ h => h) ⟨hK, hE⟩ rfl (fun W hW => r_move rfl) ?_
    refine h_listed (listed' := #[T',T',T',T',T',T',T',T',T',T',T',T',T',T',T',T',T',T',T',F',F',F',F',F',F',F',F',F',F',F',F',F',F',F',F',F',F',F']) (by kernel_rfl) ?_
    refine h_t 19 rfl rfl (by kernel_rfl) (fun _ _ _ h => h) ⟨hK, hE⟩ rfl (fun W hW => r_indexAddr_sl rfl Tryz.underlying25 Tryz.sizeOf43 rfl hb'.is rfl (by omega) (by omega)) ?_
    refine h_listed (listed' := #[T',T',T',T',T',T',T',T',T',T',T',T',T',T',T',T',T',T',T',T',F',F',F',F',F',F',F',F',F',F',F',F',F',F',F',F',F',F']) (by kernel_rfl) ?_
    refine h_t 20 rfl rfl (by kernel_rfl) (fun _ _ _ h => h) ⟨hK, hE⟩ rfl (fun W hW => r_fieldAddr (n := 0) rfl Tryz.underlying43 rfl Tryz.sizeOf3 rfl) ?_
    refine h_listed (listed' := #[T',T',T',T',T',T',T',T',T',T',T',T',T',T',T',T',T',T',T',T',T',F',F',F',F',F',F',F',F',F',F',F',F',F',F',F',F',F']) (by kernel_rfl) ?_
    refine h_t 21 rfl rfl (by kernel_rfl) (fun _ _ _ h => h) ⟨hK, hE⟩ rfl (fun W hW => r_load rfl Tryz.isAgg3 rfl (Ext0.cells hW.2 _ _ (hfb 1 _ rfl))) ?_
    refine h_listed (listed' := #[T',T',T',T',T',T',T',T',T',T',T',T',T',T',T',T',T',T',T',T',T',T',F',F',F',F',F',F',F',F',F',F',F',F',F',F',F',F']) (by kernel_rfl) ?_
    refine h_t 22 rfl rfl (by kernel_rfl) (fun _ _ _ h => h) ⟨hK, hE⟩ rfl (fun W hW => r_neq rfl rfl rfl) ?_
    refine h_listed (listed' := #[T',T',T',T',T',T',T',T',T',T',T',T',T',T',T',T',T',T',T',T',T',T',T',F',F',F',F',F',F',F',F',F',F',F',F',F',F',F']) (by kernel_rfl) ?_
    refine h_t 23 rfl rfl (by kernel_rfl) (fun _ _ _ h => h) ⟨hK, hE⟩ rfl (fun W hW => r_pick rfl rfl) ?_
    refine h_listed (listed' := #[T',T',T',T',T',T',T',T',T',T',T',T',T',T',T',T',T',T',T',T',T',T',T',T',F',F',F',F',F',F',F',F',F',F',F',F',F',F']) (by kernel_rfl) ?_
    refine h_t 24 rfl rfl (by kernel_rfl) (fun _ _ _ h => h) ⟨hK, hE⟩ rfl (fun W hW => r_move rfl) ?_
    refine h_listed (listed' := #[T',T',T',T',T',T',T',T',T',T',T',T',T',T',T',T',T',T',T',T',T',T',T',T',T',F',F',F',F',F',F',F',F',F',F',F',F',F']) (by kernel_rfl) ?_
    refine h_case 41 rfl (fun hb => ?_) (fun hb => ?_)
    ·have hr41 := hb
     replace hb := of_decide_eq_false (by simpa using hb)
     have hne : a ≠ b := fat_ne (k := k) fun e => hb (by rw [e])
     refine h_listed (listed' := #[T',T',T',T',T',T',T',T',T',T',T',T',T',T',T',T',T',T',T',T',T',T',T',T',T',F',F',F',F',F',F',F',F',F',F',F',F',F']) (by kernel_rfl) ?_
     refine h_n 25 rfl rfl (by kernel_rfl) (fun _ _ _ h => h) ⟨hK, hE⟩ rfl ?_
     refine h_listed (listed' := #[T',T',T',T',T',T',T',T',T',T',T',T',T',T',T',T',T',T',T',T',T',T',T',T',T',T',F',F',F',F',F',F',F',F',F',F',F',F']) (by kernel_rfl) ?_
     refine h_n 26 rfl rfl (by kernel_rfl) (fun _ _ _ h => h) ⟨hK, hE⟩ rfl ?_
     refine h_listed (listed' := #[T',T',T',T',T',T',T',T',T',T',T',T',T',T',T',T',T',T',T',T',T',T',T',T',T',T',T',F',F',F',F',F',F',F',F',F',F',F']) (by kernel_rfl) ?_
     refine h_n 27 rfl rfl (by kernel_rfl) (fun _ _ _ h => h) ⟨hK, hE⟩ rfl ?_
     refine h_listed (listed' := #[T',T',T',T',T',T',T',T',T',T',T',T',T',T',T',T',T',T',T',T',T',T',T',T',T',T',T',T',F',F',F',F',F',F',F',F',F',F']) (by kernel_rfl) ?_
     refine h_n 28 rfl rfl (by kernel_rfl) (fun _ _ _ h => h) ⟨hK, hE⟩ rfl ?_
     refine h_listed (listed' := #[T',T',T',T',T',T',T',T',T',T',T',T',T',T',T',T',T',T',T',T',T',T',T',T',T',T',T',T',T',F',F',F',F',F',F',F',F',F']) (by kernel_rfl) ?_
     refine h_n 29 rfl rfl (by kernel_rfl) (fun _ _ _ h => h) ⟨hK, hE⟩ rfl ?_
     refine h_listed (listed' := #[T',T',T',T',T',T',T',T',T',T',T',T',T',T',T',T',T',T',T',T',T',T',T',T',T',T',T',T',T',T',F',F',F',F',F',F',F',F']) (by kernel_rfl) ?_
     refine h_n 30 rfl rfl (by kernel_rfl) (fun _ _ _ h => h) ⟨hK, hE⟩ rfl ?_
     refine h_listed (listed' := #[T',T',T',T',T',T',T',T',T',T',T',T',T',T',T',T',T',T',T',T',T',T',T',T',T',T',T',T',T',T',T',F',F',F',F',F',F',F']) (by kernel_rfl) ?_
     refine h_n 31 rfl rfl (by kernel_rfl) (fun _ _ _ h => h) ⟨hK, hE⟩ rfl ?_
     refine h_listed (listed' := #[T',T',T',T',T',T',T',T',T',T',T',T',T',T',T',T',T',T',T',T',T',T',T',T',T',T',T',T',T',T',T',T',F',F',F',F',F',F']) (by kernel_rfl) ?_
     refine h_n 32 rfl rfl (by kernel_rfl) (fun _ _ _ h => h) ⟨hK, hE⟩ rfl ?_
     refine h_listed (listed' := #[T',T',T',T',T',T',T',T',T',T',T',T',T',T',T',T',T',T',T',T',T',T',T',T',T',T',T',T',T',T',T',T',T',F',F',F',F',F']) (by kernel_rfl) ?_
     refine h_n 33 rfl rfl (by kernel_rfl) (fun _ _ _ h => h) ⟨hK, hE⟩ rfl ?_
     refine h_listed (listed' := #[T',T',T',T',T',T',T',T',T',T',T',T',T',T',T',T',T',T',T',T',T',T',T',T',T',T',T',T',T',T',T',T',T',T',F',F',F',F']) (by kernel_rfl) ?_
     refine h_n 34 rfl rfl (by kernel_rfl) (fun _ _ _ h => h) ⟨hK, hE⟩ rfl ?_
     refine h_listed (listed' := #[T',T',T',T',T',T',T',T',T',T',T',T',T',T',T',T',T',T',T',T',T',T',T',T',T',T',T',T',T',T',T',T',T',T',T',F',F',F']) (by kernel_rfl) ?_
     refine h_n 35 rfl rfl (by kernel_rfl) (fun _ _ _ h => h) ⟨hK, hE⟩ rfl ?_
     refine h_listed (listed' := #[T',T',T',T',T',T',T',T',T',T',T',T',T',T',T',T',T',T',T',T',T',T',T',T',T',T',T',T',T',T',T',T',T',T',T',T',F',F']) (by kernel_rfl) ?_
     refine h_n 36 rfl rfl (by kernel_rfl) (fun _ _ _ h => h) ⟨hK, hE⟩ rfl ?_
     refine h_listed (listed' := #[T',T',T',T',T',T',T',T',T',T',T',T',T',T',T',T',T',T',T',T',T',T',T',T',T',T',T',T',T',T',T',T',T',T',T',T',T',F']) (by kernel_rfl) ?_
     refine h_t 37 rfl rfl (by kernel_rfl) (fun _ _ _ h => h) ⟨hK, hE⟩ rfl (fun W hW => r_pick rfl rfl) ?_
     refine h_listed (listed' := #[T',T',T',T',T',T',T',T',T',T',T',T',T',T',T',T',T',T',T',T',T',T',T',T',T',T',T',T',T',T',T',T',T',T',T',T',T',T']) (by kernel_rfl) ?_
     refine h_done (by kernel_rfl) ?_
     refine c_yes rfl ?_
     refine c_seq ?_
     refine c_ops ?_
     refine as' rfl rfl rfl rfl ?_
     refine l_nil ?_
     refine c_ret ?_
     exact ⟨ret_bool rfl (decide_eq_false hne).symm, hE⟩
    ·have hr41 := hb
     replace hb := of_decide_eq_true (by simpa using hb)
     have heb := hb
     refine h_listed (listed' := #[T',T',T',T',T',T',T',T',T',T',T',T',T',T',T',T',T',T',T',T',T',T',T',T',T',F',F',F',F',F',F',F',F',F',F',F',F',F']) (by kernel_rfl) ?_
     refine h_t 25 rfl rfl (by kernel_rfl) (fun _ _ _ h => h) ⟨hK, hE⟩ rfl (fun W hW => r_move rfl) ?_
     refine h_listed (listed' := #[T',T',T',T',T',T',T',T',T',T',T',T',T',T',T',T',T',T',T',T',T',T',T',T',T',T',F',F',F',F',F',F',F',F',F',F',F',F']) (by kernel_rfl) ?_
     refine h_t 26 rfl rfl (by kernel_rfl) (fun _ _ _ h => h) ⟨hK, hE⟩ rfl (fun W hW => r_move rfl) ?_
     refine h_listed (listed' := #[T',T',T',T',T',T',T',T',T',T',T',T',T',T',T',T',T',T',T',T',T',T',T',T',T',T',T',F',F',F',F',F',F',F',F',F',F',F']) (by kernel_rfl) ?_
     refine h_t 27 rfl rfl (by kernel_rfl) (fun _ _ _ h => h) ⟨hK, hE⟩ rfl (fun W hW => r_indexAddr_sl rfl Tryz.underlying25 Tryz.sizeOf43 rfl ha.is rfl (by omega) (by omega)) ?_
     refine h_listed (listed' := #[T',T',T',T',T',T',T',T',T',T',T',T',T',T',T',T',T',T',T',T',T',T',T',T',T',T',T',T',F',F',F',F',F',F',F',F',F',F']) (by kernel_rfl) ?_
     refine h_t 28 rfl rfl (by kernel_rfl) (fun _ _ _ h => h) ⟨hK, hE⟩ rfl (fun W hW => r_fieldAddr (n := 0) rfl Tryz.underlying43 rfl Tryz.sizeOf26 rfl) ?_
     refine h_listed (listed' := #[T',T',T',T',T',T',T',T',T',T',T',T',T',T',T',T',T',T',T',T',T',T',T',T',T',T',T',T',T',F',F',F',F',F',F',F',F',F']) (by kernel_rfl) ?_
     refine h_t 29 rfl rfl (by kernel_rfl) (fun _ _ _ h => h) ⟨hK, hE⟩ rfl (fun W hW => r_load rfl Tryz.isAgg26 rfl (Ext0.cells hW.2 _ _ (hfa 2 _ rfl))) ?_
     refine h_listed (listed' := #[T',T',T',T',T',T',T',T',T',T',T',T',T',T',T',T',T',T',T',T',T',T',T',T',T',T',T',T',T',T',F',F',F',F',F',F',F',F']) (by kernel_rfl) ?_
     refine h_t 30 rfl rfl (by kernel_rfl) (fun _ _ _ h => h) ⟨hK, hE⟩ rfl (fun W hW => r_move rfl) ?_
     refine h_listed (listed' := #[T',T',T',T',T',T',T',T',T',T',T',T',T',T',T',T',T',T',T',T',T',T',T',T',T',T',T',T',T',T',T',F',F',F',F',F',F',F']) (by kernel_rfl) ?_
     refine h_t 31 rfl rfl (by kernel_rfl) (fun _ _ _ h => h) ⟨hK, hE⟩ rfl (fun W hW => r_move rfl) ?_
     refine h_listed (listed' := #[T',T',T',T',T',T',T',T',T',T',T',T',T',T',T',T',T',T',T',T',T',T',T',T',T',T',T',T',T',T',T',T',F',F',F',F',F',F']) (by kernel_rfl) ?_
     refine h_t 32 rfl rfl (by kernel_rfl) (fun _ _ _ h => h) ⟨hK, hE⟩ rfl (fun W hW => r_indexAddr_sl rfl Tryz.underlying25 Tryz.sizeOf43 rfl hb'.is rfl (by omega) (by omega)) ?_
     refine h_listed (listed' := #[T',T',T',T',T',T',T',T',T',T',T',T',T',T',T',T',T',T',T',T',T',T',T',T',T',T',T',T',T',T',T',T',T',F',F',F',F',F']) (by kernel_rfl) ?_
     refine h_t 33 rfl rfl (by kernel_rfl) (fun _ _ _ h => h) ⟨hK, hE⟩ rfl (fun W hW => r_fieldAddr (n := 0) rfl Tryz.underlying43 rfl Tryz.sizeOf26 rfl) ?_
     refine h_listed (listed' := #[T',T',T',T',T',T',T',T',T',T',T',T',T',T',T',T',T',T',T',T',T',T',T',T',T',T',T',T',T',T',T',T',T',T',F',F',F',F']) (by kernel_rfl) ?_
     refine h_t 34 rfl rfl (by kernel_rfl) (fun _ _ _ h => h) ⟨hK, hE⟩ rfl (fun W hW => r_load rfl Tryz.isAgg26 rfl (Ext0.cells hW.2 _ _ (hfb 2 _ rfl))) ?_
     refine h_listed (listed' := #[T',T',T',T',T',T',T',T',T',T',T',T',T',T',T',T',T',T',T',T',T',T',T',T',T',T',T',T',T',T',T',T',T',T',T',F',F',F']) (by kernel_rfl) ?_
     refine h_by 35 rfl rfl (by kernel_rfl) rfl (r_call rfl rfl Tryz.func10 rfl rfl) (EqInts_calls _ A1 c1 (fat a k).why (hwa.keep RInt.kept (Ext0.cells hE)) B1 d1 (fat b k).why (hwb.keep RInt.kept (Ext0.cells hE))) ?_
     rintro _ w ⟨rfl, hX⟩
     replace hL := hL.ext0 hX
     replace hE := hE.step0 hX
     have hK := hL
     refine ⟨_, rfl, ⟨hK, hE⟩, ?_⟩
     refine h_listed (listed' := #[T',T',T',T',T',T',T',T',T',T',T',T',T',T',T',T',T',T',T',T',T',T',T',T',T',T',T',T',T',T',T',T',T',T',T',T',F',F']) (by kernel_rfl) ?_
     refine h_t 36 rfl rfl (by kernel_rfl) (fun _ _ _ h => h) ⟨hK, hE⟩ rfl (fun W hW => r_not rfl rfl) ?_
     refine h_listed (listed' := #[T',T',T',T',T',T',T',T',T',T',T',T',T',T',T',T',T',T',T',T',T',T',T',T',T',T',T',T',T',T',T',T',T',T',T',T',T',F']) (by kernel_rfl) ?_
     refine h_t 37 rfl rfl (by kernel_rfl) (fun _ _ _ h => h) ⟨hK, hE⟩ rfl (fun W hW => r_pick rfl rfl) ?_
     refine h_listed (listed' := #[T',T',T',T',T',T',T',T',T',T',T',T',T',T',T',T',T',T',T',T',T',T',T',T',T',T',T',T',T',T',T',T',T',T',T',T',T',T']) (by kernel_rfl) ?_
     refine h_done (by kernel_rfl) ?_
     refine c_cond rfl (fun hb => ?_) (fun hb => ?_)
     ·have hr54 := hb
      have hne : a ≠ b := fat_ne (k := k) fun e => by rw [e] at hb; simp at hb
      refine c_seq ?_
      refine c_ops ?_
      refine as' rfl rfl rfl rfl ?_
      refine l_nil ?_
      refine c_ret ?_
      exact ⟨ret_bool rfl (decide_eq_false hne).symm, hE⟩
     ·have hr54 := hb
      have hwe : (fat a k).why = (fat b k).why := by simpa using hb
      have heqk : fat a k = fat b k := by
       cases hx : fat a k
       cases hy : fat b k
       rw [hx, hy] at hea heb hwe
       simp only at hea heb hwe
       rw [hea, heb, hwe]
      refine c_skip ?_
      refine c_ops ?_
      refine mv' rfl rfl rfl rfl ?_
      refine l_val rfl rfl rfl (r_add rfl rfl rfl) ?_
      refine as' rfl rfl rfl rfl ?_
      refine l_nil ?_
      refine ag' ?_
      exact ⟨a.length - (k + 1), by omega, k + 1, by omega, rfl, by show Value.int .i64 (IntKind.i64.wrap ((k : Int) + 1)) = _; rw [wrap_succ hklt ha.max], fun j hj => by rcases Nat.lt_or_eq_of_le (Nat.le_of_lt_succ hj) with h | rfl <;> first | exact hall j h | exact heqk, hE⟩
  ·have hr14 := hb
   replace hb := of_decide_eq_false hb
   refine c_exit ?_
   refine c_seq ?_
   refine c_ops ?_
   refine as' rfl rfl rfl rfl ?_
   refine l_nil ?_
   refine c_ret ?_
   exact ⟨ret_bool rfl (decide_eq_true (eq_of_fat hll (fun k hk => hall k (by omega)))).symm, hE⟩
theorem dyn_rcalls (w0 : World) (Ag : Option Addr) (cg : Nat) (g : List GNode) (hg : Nodes w0 Ag cg g) (hok : GraphOk g) (n : Int) :
    Calls Tryz.prog 45 [.slice Ag g.length cg, .int .i64 n].toArray w0 fun en w' => en = .returned (.bool ((membersG g n).any (dynB g))) ∧ Ext0 w0 w' := by
 have hE : Ext0 w0 w0 := Ext.refl _ _
 have hL : Has w0 [] := trivial
 refine calls [4] Tryz.func45 rfl rfl rfl rfl ?_
 refine c_seq ?_
 refine c_ops ?_
 refine as' rfl rfl rfl rfl ?_
 refine l_nil ?_
 refine c_seq ?_
 refine c_ops ?_
 refine mv' rfl rfl rfl rfl ?_
 refine mv' rfl rfl rfl rfl ?_
 refine l_by rfl rfl rfl (r_call rfl rfl Tryz.func63 rfl rfl) (rMembers_calls _ Ag cg g (hg.keep RNode.kept (Ext0.cells hE)) hok.fits n) ?_
 rintro _ w ⟨v, rfl, hrow, hX⟩
 replace hE := hE.trans hX
 obtain ⟨Am, cm, rfl, hmem, _⟩ := Sl.ofInts hrow
 clear hrow
 obtain ⟨wa, hwa⟩ : ∃ x, x = w := ⟨_, rfl⟩
 rw [← hwa] at hmem hE
 have hE0 : Ext0 w0 wa := hE
 replace hE : Ext0 wa w := hwa ▸ Ext.refl _ _
 replace hg := hg.keep RNode.kept (Ext0.cells hE0)
 have hL : Has w [] := trivial
 refine ⟨_, rfl, ?_⟩
 refine as' rfl rfl rfl rfl ?_
 refine l_nil ?_
 refine c_seq ?_
 refine c_seq ?_
 refine c_ops ?_
 refine as' rfl rfl rfl rfl ?_
 refine l_nil ?_
 refine c_block ?_
 refine c_loop [4, 6, 10, 11, 12, 13, 14, 15, 16, 17, 18, 19, 20, 21, 22, 23, 24] (fun m1 e w => ∃ (k : Nat), k ≤ (membersG g n).length ∧ m1 = (membersG g n).length - k ∧ e 6 = .int .i64 (k : Nat) ∧ (∀ j : Nat, j < k → dynB g (iat (membersG g n) j) = false) ∧ Ext0 wa w) ((membersG g n).length) ?_ ?_
 ·exact ⟨0, Nat.zero_le _, rfl, rfl, fun j hj => absurd hj (Nat.not_lt_zero _), hE⟩
 intro m1 e w hI
 obtain ⟨k, hkl, hkm, h6s, hall, hE⟩ := hI
 refine c_know (t := 6) (by exact h6s) ?_
 have hL : Has w [] := trivial
 refine c_seq ?_
 refine c_seq ?_
 refine c_ops ?_
 refine mv' rfl rfl rfl rfl ?_
 refine mv' rfl rfl rfl rfl ?_
 refine l_val rfl rfl rfl (r_len rfl Tryz.underlying26 rfl) ?_
 refine l_val rfl rfl rfl (r_lss rfl rfl rfl) ?_
 refine l_nil ?_
 refine c_cond rfl (fun hb => ?_) (fun hb => ?_)
 ·have hr13 := hb
  replace hb := of_decide_eq_true hb
  have hklt : k < (membersG g n).length := by omega
  have hk := iat_nat hklt
  have hin := hok.members (List.mem_of_getElem? hk)
  obtain ⟨Bk, dk, Bl, dl, hcell, _, _⟩ := hg.node (iat (membersG g n) k) hin.1 hin.2.1
  refine c_skip ?_
  refine c_seq ?_
  refine c_block ?_
  refine c_seq ?_
  refine c_ops ?_
  refine mv' rfl rfl rfl rfl ?_
  refine mv' rfl rfl rfl rfl ?_
  refine mv' rfl rfl rfl rfl ?_
  refine l_val rfl rfl rfl (r_indexAddr_sl rfl Tryz.underlying26 Tryz.sizeOf3 rfl hmem.is rfl (by omega) (by omega)) ?_
  refine l_val rfl rfl rfl (r_load (v := .int .i64 (iat (membersG g n) k)) rfl Tryz.isAgg3 rfl ((hmem.keep RInt.kept (Ext0.cells hE)).int k (by omega) (by omega))) ?_
  refine l_val rfl rfl rfl (r_indexAddr_sl rfl Tryz.underlying22 Tryz.sizeOf46 rfl hg.is rfl hin.1 hin.2.1) ?_
  refine l_val rfl rfl rfl (r_fieldAddr (n := 0) rfl Tryz.underlying46 rfl Tryz.sizeOf3 rfl) ?_
  refine l_val rfl rfl rfl (r_load rfl Tryz.isAgg3 rfl (Ext0.cells hE _ _ (hcell 0 _ rfl))) ?_
  refine l_val rfl rfl rfl (r_eql rfl rfl rfl) ?_
  refine l_nil ?_
  refine c_cond rfl (fun hb => ?_) (fun hb => ?_)
  ·have hr24 := hb
   replace hb := of_decide_eq_true hb
   refine c_seq ?_
   refine c_ops ?_
   refine as' rfl rfl rfl rfl ?_
   refine l_nil ?_
   refine c_ret ?_
   exact ⟨ret_bool rfl (any_get hk (decide_eq_true hb)).symm, hE0.trans hE⟩
  ·have hr24 := hb
   replace hb := of_decide_eq_false hb
   refine c_skip ?_
   refine c_ops ?_
   refine mv' rfl rfl rfl rfl ?_
   refine l_val rfl rfl rfl (r_add rfl rfl rfl) ?_
   refine as' rfl rfl rfl rfl ?_
   refine l_nil ?_
   refine ag' ?_
   exact ⟨(membersG g n).length - (k + 1), by omega, k + 1, by omega, rfl, by show Value.int .i64 (IntKind.i64.wrap ((k : Int) + 1)) = _; rw [wrap_succ hklt hmem.max], fun j hj => by rcases Nat.lt_or_eq_of_le (Nat.le_of_lt_succ hj) with h | rfl <;> first | exact hall j h | exact decide_eq_false hb, hE⟩
 ·have hr13 := hb
  replace hb := of_decide_eq_false hb
  refine c_exit ?_
  refine c_seq ?_
  refine c_ops ?_
  refine as' rfl rfl rfl rfl ?_
  refine l_nil ?_
  refine c_ret ?_
  exact ⟨ret_bool rfl (any_none (fun j hj => hall j (by omega))).symm, hE0.trans hE⟩
end Go.Proofs.YtndophlnapjkhaaGreatDoor.Vc
namespace Go.Proofs.YtndophlnapjkhaaGreatDoor.Vc
open Go Go.RowKit
set_option linter.unusedVariables false
set_option linter.unusedSimpArgs false
theorem setCells_heap {b : Nat} {t : TypeId} : ∀ (vs : List Value) (w : World) (cs : Array Value) (off : Nat), w.heap[b]? = some (.cells cs t (0, 0)) → off + vs.length ≤ cs.size →
    (w.setCells b off vs).heap[b]? = some (.cells (putAt cs off vs) t (0, 0)) ∧ (∀ k, k ≠ b → (w.setCells b off vs).heap[k]? = w.heap[k]?) ∧ (w.setCells b off vs).os = w.os ∧ (w.setCells b off vs).tape = w.tape ∧ (w.setCells b off vs).output = w.output ∧ (w.setCells b off vs).heap.size = w.heap.size
 | [], w, cs, off, hb, _ => ⟨hb, fun _ _ => rfl, rfl, rfl, rfl, rfl⟩
 | v :: r, w, cs, off, hb, hl => by
  have hset : (w.setCell ⟨b, off, none⟩ v).heap[b]? = some (.cells (cs.setIfInBounds off v) t (0, 0)) := by simp [World.setCell, Array.getElem?_modify, hb]
  obtain ⟨h1, h2, h3, h4, h5, h6⟩ := setCells_heap r (w.setCell ⟨b, off, none⟩ v) (cs.setIfInBounds off v) (off + 1) hset (by simp at hl ⊢; omega)
  refine ⟨h1, fun k hk => (h2 k hk).trans (Below.heap_setCell _ _ _ _ hk), h3, h4, h5, ?_⟩
  show ((w.setCell ⟨b, off, none⟩ v).setCells b (off + 1) r).heap.size = _
  rw [h6]
  simp
theorem putAt_get {cs : Array Value} {off : Nat} {vs : List Value} (h : off + vs.length ≤ cs.size) (j : Nat) : (putAt cs off vs)[j]? = if j < off then cs[j]? else if j < off + vs.length then vs[j - off]? else cs[j]? := by
 have ht := toList_putAt vs cs off h
 rw [← Array.getElem?_toList, ht]
 have hcl : cs.toList.length = cs.size := Array.length_toList
 split
 ·rename_i h1
  rw [List.getElem?_append_left (by simp; omega), List.getElem?_append_left (by simp; omega), List.getElem?_take, if_pos h1, Array.getElem?_toList]
 ·rename_i h1
  split
  ·rename_i h2
   rw [List.getElem?_append_left (by simp; omega), List.getElem?_append_right (by simp; omega)]
   congr 1
   simp
   omega
  ·rename_i h2
   rw [List.getElem?_append_right (by simp; omega), List.getElem?_drop, Array.getElem?_toList]
   congr 1
   simp
   omega
theorem n_pushN {P : Program} {w w0 : World} {ρ : Operand → Value} {o : Oper} {S : Nat → Prop} {L : List Res} {x y : Operand} {t el : TypeId} {b off cap n c : Nat} {A : Option Addr} {cur : Array Value} {l ys : List Int} (i : Nat) (h : o.op = .call { callee := .builtin .append, args := #[x, y], argTypes := #[t, t] })
    (hu : P.underlying t = some (.slice el)) (hinfo : (P.info? el).map (fun i => (i.zero, i.size, i.bytes)) = some (some (.int .i64 0), 1, 8)) (hx : ρ x = .slice (some ⟨b, off, none⟩) l.length cap) (hy : ρ y = .slice A n c) (hys : Sl w 1 RInt A n c ys)
    (hL : Has w L) (hE : Ext S w0 w) (hi : L[i]? = some (.blk b (.cells cur el (0, 0)))) (hq : QAt cur off cap l) (hS : b < w0.heap.size → S b) (hbig : l.length + n ≤ 1000000000000) :
    ∃ v' w', (execOp ρ o).run P w = .ok (.value v') w' ∧ ∃ b' off' cap' cur', v' = .slice (some ⟨b', off', none⟩) (l ++ ys).length cap' ∧ QAt cur' off' cap' (l ++ ys) ∧ Has w' (L.set i (.blk b' (.cells cur' el (0, 0)))) ∧ Ext S w0 w' ∧ (b' < w0.heap.size → S b') := by
 obtain ⟨i0, hinf, hzz⟩ := Option.map_eq_some_iff.1 hinfo
 simp only [Prod.mk.injEq] at hzz
 obtain ⟨hz0, hz1, hz2⟩ := hzz
 have hb := hL.get i hi
 have hil : i < L.length := (List.getElem?_eq_some_iff.1 hi).1
 have hsame : L.set i (.blk b (.cells cur el (0, 0))) = L := by
  apply List.ext_getElem?
  intro j
  rw [List.getElem?_set]
  split
  ·rename_i e
   subst e
   exact hi.symm
  ·rfl
 have hfit := hq.fit
 have hle := hq.le
 have hyl := hys.len
 rw [show (l ++ ys).length = l.length + n by simp [hyl]]
 rcases Nat.eq_zero_or_pos n with h0 | hpos
 ·have hy0 : ys = [] := List.eq_nil_of_length_eq_zero (by omega)
  subst h0; subst hy0
  have hrun : (Builtin.append_ #[t, t] o.type #[.slice (some ⟨b, off, none⟩) l.length cap, .slice A 0 c]).run P w = .ok (.slice (some ⟨b, off, none⟩) l.length cap) w := by
   cases A with
   | none => simp [Builtin.append_, run_underlying hu, sizeOf, typeInfo, hinf, Builtin.lenOf, Builtin.firstCells, hle, storeCells]
   | some a => simp [Builtin.append_, run_underlying hu, sizeOf, typeInfo, hinf, Builtin.lenOf, Builtin.firstCells, hle, storeCells, loadCells, loadCellsFrom]
  refine ⟨_, w, by simp [execOp, h, resolve, invoke, builtin, hx, hy, hrun], b, off, cap, cur, rfl, by simpa using hq, by rw [hsame]; exact hL, hE, hS⟩
 ·obtain ⟨a, rfl⟩ : ∃ a, A = some a := Option.isSome_iff_exists.1 (hys.is hpos)
  have hnews : ∀ j u, (ys.map (Value.int .i64))[j]? = some u → w.cell? (a.add j) = some u := fun j u hj => hys.raw_int j u hj
  have hone : ∀ u ∈ ys.map (Value.int .i64), u.oneCell' = true := fun u hu => by
   obtain ⟨z, _, rfl⟩ := List.mem_map.1 hu
   rfl
  by_cases hr : l.length + n ≤ cap
  ·have hrun := run_append_room_cells (P := P) w t o.type el i0 hu hinf b off l.length cap a n c (ys.map (Value.int .i64)) (by rw [hz1]; simp [hyl]) hnews hone hr
    (fun j hj => by
     rw [hz1, Nat.mul_one, blk_cell hb]
     have hj' : j < ys.length := by simpa using hj
     simp only [Option.isSome_iff_exists]
     exact ⟨_, Array.getElem?_eq_getElem (by omega)⟩)
    (fun j hj => by simp [World.frozen?, hb])
   obtain ⟨hb', hk', e1, e2, e3, e4⟩ := setCells_heap (b := b) (t := el) (ys.map (Value.int .i64)) w cur (off + l.length * i0.size) hb (by rw [hz1]; simp; omega)
   refine ⟨_, _, by simp [execOp, h, resolve, invoke, builtin, hx, hy, hrun], b, off, cap, _, rfl, ⟨?_, by simp [hyl]; exact hr, fun j u hj => ?_⟩, hL.setAt (r' := .blk b _) i hi hb' (fun c hc => .inl hc) (fun k _ hne => hk' k (fun e => hne (by rw [e]; rfl))), ⟨e1.trans hE.os, e2.trans hE.tape, e3.trans hE.output, by rw [e4]; exact hE.size, fun k hk hs => ?_⟩, hS⟩
   ·rw [size_putAt]; exact hfit
   ·rw [putAt_get (by rw [hz1]; simp; omega), hz1, Nat.mul_one]
    rcases Nat.lt_or_ge j l.length with hj1 | hj1
    ·rw [List.getElem?_append_left hj1] at hj
     rw [if_pos (by omega)]
     exact hq.at_ j u hj
    ·rw [List.getElem?_append_right hj1] at hj
     have hjl := (List.getElem?_eq_some_iff.1 hj).1
     rw [if_neg (by omega), if_pos (by simp; omega), show off + j - (off + l.length) = j - l.length by omega, List.getElem?_map, hj]
     rfl
   ·have hkb : k ≠ b := fun e => hs (by subst e; exact hS hk)
    rw [hk' k hkb]
    exact hE.block k hk hs
  ·obtain ⟨v', w', hrun, hown, hg⟩ := run_append_arg_grows (P := P) w t o.type el i0 (.int .i64 0) 1 8 hu hinf hz0 hz1 hz2 rfl (by decide) ⟨b, off, none⟩ l.length cap (l.map (Value.int .i64)) (by simp) (fun j u hj => by
    rw [List.getElem?_map, Option.map_eq_some_iff] at hj
    obtain ⟨x, hx1, rfl⟩ := hj
    rw [blk_add, blk_cell hb]
    exact hq.at_ j x hx1) a n c (ys.map (Value.int .i64)) (by simp [hyl]) hnews (by omega) (by unfold maxLen; omega) (by omega)
   have he := ext0_grown hg
   rcases hown.2 with ⟨rfl, h0⟩ | ⟨g, cap', cur', rfl, hgb, hh, hn, hm, hsz, htake⟩
   ·omega
   ·refine ⟨_, w', by simp [execOp, h, resolve, invoke, builtin, hx, hy, hrun], g, 0, cap', cur', rfl, ⟨by omega, by simp [hyl]; exact hn, fun j u hj => ?_⟩, hL.setAt (r' := .blk g _) i hi hh (fun c hc => .inr (by simp [Res.foot] at hc; omega)) (fun k hk _ => he.block k hk (fun hf => hf)), hE.step0 he, fun hlt => absurd hlt (by have := hE.size; omega)⟩
    have h1 : (l.map (Value.int .i64) ++ ys.map (Value.int .i64))[j]? = some (.int .i64 u) := by
     rw [← List.map_append, List.getElem?_map, hj]
     rfl
    rw [← htake, List.getElem?_take] at h1
    split at h1
    ·rw [Nat.zero_add]
     simpa using h1
    ·cases h1
structure Walk (g : List GNode) (l : List Fact) (k : Int) (S q : List Int) : Prop where
 inn : ∀ i ∈ S ++ q, 0 ≤ i ∧ i < l.length ∧ Reach g l k i
 start : k ∈ S ++ q
 done : ∀ i ∈ S, hereF g l i = false ∧ ∀ j ∈ onF g (fat l i), j ∈ S ++ q
section
variable {g : List GNode} {l : List Fact} {k : Int} {S q : List Int}
theorem Walk.begin (h0 : 0 ≤ k) (h1 : k < l.length) : Walk g l k [] [k] := ⟨fun i hi => by simp at hi; subst hi; exact ⟨h0, h1, .refl⟩, by simp, fun i hi => by simp at hi⟩
theorem Walk.seen {i : Int} (h : Walk g l k S (i :: q)) (hi : i ∈ S) : Walk g l k S q := by
 have sub : ∀ x, x ∈ S ++ (i :: q) → x ∈ S ++ q := fun x hx => by
  rcases List.mem_append.1 hx with hx | hx
  ·exact List.mem_append_left _ hx
  ·rcases List.mem_cons.1 hx with rfl | hx
   ·exact List.mem_append_left _ hi
   ·exact List.mem_append_right _ hx
 exact ⟨fun x hx => h.inn x (by rcases List.mem_append.1 hx with hx | hx <;> simp [hx]), sub _ h.start, fun x hx => ⟨(h.done x hx).1, fun j hj => sub j ((h.done x hx).2 j hj)⟩⟩
theorem Walk.go {i : Int} (h : Walk g l k S (i :: q)) (hh : hereF g l i = false) (hin : ∀ j ∈ onF g (fat l i), 0 ≤ j ∧ j < l.length) : Walk g l k (S ++ [i]) (q ++ onF g (fat l i)) := by
 have hi := h.inn i (by simp)
 have sub : ∀ x, x ∈ S ++ (i :: q) → x ∈ (S ++ [i]) ++ (q ++ onF g (fat l i)) := fun x hx => by
  rcases List.mem_append.1 hx with hx | hx
  ·simp [hx]
  ·rcases List.mem_cons.1 hx with rfl | hx <;> simp_all
 refine ⟨fun x hx => ?_, sub _ h.start, fun x hx => ?_⟩
 ·simp only [List.mem_append, List.mem_singleton] at hx
  rcases hx with (hx | rfl) | hx | hx
  ·exact h.inn x (by simp [hx])
  ·exact hi
  ·exact h.inn x (by simp [hx])
  ·exact ⟨(hin x hx).1, (hin x hx).2, .step hi.2.2 hx⟩
 ·rcases List.mem_append.1 hx with hx | hx
  ·exact ⟨(h.done x hx).1, fun j hj => sub j ((h.done x hx).2 j hj)⟩
  ·rw [List.mem_singleton] at hx
   subst hx
   exact ⟨hh, fun j hj => by simp [hj]⟩
theorem Walk.all (h : Walk g l k S []) {j : Int} (hj : Reach g l k j) : j ∈ S ∧ hereF g l j = false := by
 have : j ∈ S := by
  induction hj with
  | refl => simpa using h.start
  | step _ hj ih => simpa using (h.done _ ih).2 _ hj
 exact ⟨this, (h.done j this).1⟩
def leftN (g : List GNode) (l : List Fact) (S : List Int) : Nat := ((List.range l.length).map fun (i : Nat) => if (i : Int) ∈ S then 0 else (onF g (fat l i)).length + 1).sum
theorem sum_split (f h : Nat → Nat) : ∀ (U : List Nat) (i : Nat), i ∈ U → U.Nodup → (∀ x ∈ U, x ≠ i → h x = f x) → (U.map h).sum + f i = (U.map f).sum + h i
 | [], i, hi, _, _ => by simp at hi
 | u :: U, i, hi, hn, hx => by
  rw [List.nodup_cons] at hn
  simp only [List.map_cons, List.sum_cons]
  rcases List.mem_cons.1 hi with rfl | hi
  ·have : U.map h = U.map f := List.map_congr_left fun x hxu => hx x (List.mem_cons_of_mem _ hxu) (fun e => hn.1 (e ▸ hxu))
   rw [this]
   omega
  ·have ih := sum_split f h U i hi hn.2 (fun x hxu => hx x (List.mem_cons_of_mem _ hxu))
   have hu := hx u List.mem_cons_self (fun e => hn.1 (e ▸ hi))
   rw [hu]
   omega
theorem leftN_go {i : Int} (h0 : 0 ≤ i) (h1 : i < l.length) (hi : i ∉ S) : leftN g l (S ++ [i]) + (onF g (fat l i)).length + 1 = leftN g l S := by
 have := sum_split (fun (x : Nat) => if (x : Int) ∈ S then 0 else (onF g (fat l x)).length + 1) (fun (x : Nat) => if (x : Int) ∈ S ++ [i] then 0 else (onF g (fat l x)).length + 1) (List.range l.length) i.toNat (List.mem_range.2 (by omega)) List.nodup_range (fun x _ hx => by
  have : ¬ (x : Int) = i := fun e => hx (by omega)
  simp [this])
 unfold leftN
 simp only [Int.toNat_of_nonneg h0] at this
 rw [if_neg hi, if_pos (by simp)] at this
 omega
theorem leftN_le {B : Nat} (h : ∀ f ∈ l, (onF g f).length ≤ B) : leftN g l S ≤ l.length * (B + 1) := by
 have h1 := sum_le (fun (i : Nat) => if (i : Int) ∈ S then 0 else (onF g (fat l i)).length + 1) (fun _ => B + 1) (List.range l.length) (fun i hi => by
  have hil := List.mem_range.1 hi
  split
  ·omega
  ·have := h _ (fat_mem (l := l) (k := (i : Int)) (by omega) (by omega))
   omega)
 have h2 : ∀ (m : List Nat), (m.map fun _ => B + 1).sum = m.length * (B + 1) := fun m => by
  induction m with
  | nil => simp
  | cons x r ih => simp [ih, Nat.add_mul]; omega
 rw [h2, List.length_range] at h1
 exact h1
end
theorem onF_le {g : List GNode} {f : Fact} : (onF g f).length ≤ f.why.length := by
 unfold onF
 split
 ·exact Nat.le_refl _
 ·simp
set_option maxHeartbeats 8000000 in
theorem rCasts_calls (w0 : World) (Ag : Option Addr) (cg : Nat) (g : List GNode) (hg : Nodes w0 Ag cg g) (hfit : Fits g) (hn : g.length ≤ 1000000) (Af : Option Addr) (cf : Nat) (l : List Fact) (hl : FactsAt w0 Af cf l) (hsmall : ∀ f ∈ l, f.why.length ≤ 1000000) (k : Int) :
    Calls Tryz.prog 20 [.slice Ag g.length cg, .slice Af l.length cf, .int .i64 k].toArray w0 fun en w' => ∃ b, en = .returned (.bool b) ∧ (b = true ↔ checkF g l = 0 ∧ 0 ≤ k ∧ k < l.length ∧ ∃ j, Reach g l k j ∧ hereF g l j = true) ∧ Ext0 w0 w' := by
 have hE : Ext0 w0 w0 := Ext.refl _ _
 have hL : Has w0 [] := trivial
 have hlb : ∀ S, leftN g l S ≤ l.length * (1000000 + 1) := fun S => leftN_le (fun f hf => Nat.le_trans onF_le (hsmall f hf))
 refine calls [6] Tryz.func20 rfl rfl rfl rfl ?_
 refine c_seq ?_
 refine c_ops ?_
 refine as' rfl rfl rfl rfl ?_
 refine l_nil ?_
 refine c_seq ?_
 refine c_seq ?_
 refine c_ops ?_
 refine mv' rfl rfl rfl rfl ?_
 refine mv' rfl rfl rfl rfl ?_
 refine l_by rfl rfl rfl (r_call rfl rfl Tryz.func16 rfl rfl) (rfCheck_calls _ Ag cg g hg hfit hn Af cf l hl) ?_
 rintro _ w ⟨rfl, hX⟩
 replace hL := hL.ext0 hX
 replace hE := hE.step0 hX
 refine ⟨_, rfl, ?_⟩
 refine l_val rfl rfl rfl (r_neq rfl rfl rfl) ?_
 refine mv' rfl rfl rfl rfl ?_
 refine l_case 14 rfl (fun hb => ?_) (fun hb => ?_)
 ·have hr14 := hb
  replace hb := of_decide_eq_false (by simpa using hb)
  refine l_not rfl rfl rfl ?_
  refine l_not rfl rfl rfl ?_
  refine l_val rfl rfl rfl (r_pick rfl rfl) ?_
  refine mv' rfl rfl rfl rfl ?_
  refine l_not rfl rfl rfl ?_
  refine l_not rfl rfl rfl ?_
  refine l_not rfl rfl rfl ?_
  refine l_not rfl rfl rfl ?_
  refine l_val rfl rfl rfl (r_pick rfl rfl) ?_
  refine l_nil ?_
  refine c_yes rfl ?_
  refine c_seq ?_
  refine c_ops ?_
  refine as' rfl rfl rfl rfl ?_
  refine l_nil ?_
  refine c_ret ?_
  exact ⟨false, rfl, ⟨fun h => absurd h (by decide), fun h => absurd h.1 hb⟩, hE⟩
 ·have hr14 := hb
  replace hb := of_decide_eq_true (by simpa using hb)
  have hck0 := hb
  refine mv' rfl rfl rfl rfl ?_
  refine l_val rfl rfl rfl (r_lss rfl rfl rfl) ?_
  refine l_val rfl rfl rfl (r_pick rfl rfl) ?_
  refine mv' rfl rfl rfl rfl ?_
  refine l_case 18 rfl (fun hb => ?_) (fun hb => ?_)
  ·have hr18 := hb
   replace hb := of_decide_eq_true hb
   refine l_not rfl rfl rfl ?_
   refine l_not rfl rfl rfl ?_
   refine l_not rfl rfl rfl ?_
   refine l_not rfl rfl rfl ?_
   refine l_val rfl rfl rfl (r_pick rfl rfl) ?_
   refine l_nil ?_
   refine c_yes rfl ?_
   refine c_seq ?_
   refine c_ops ?_
   refine as' rfl rfl rfl rfl ?_
   refine l_nil ?_
   refine c_ret ?_
   exact ⟨false, rfl, ⟨fun h => absurd h (by decide), fun h => by have := h.2.1; omega⟩, hE⟩
  ·have hr18 := hb
   replace hb := of_decide_eq_false hb
   refine mv' rfl rfl rfl rfl ?_
   refine mv' rfl rfl rfl rfl ?_
   refine l_val rfl rfl rfl (r_len rfl Tryz.underlying25 rfl) ?_
   refine l_val rfl rfl rfl (r_geq rfl rfl rfl) ?_
   refine l_val rfl rfl rfl (r_pick rfl rfl) ?_
   refine l_nil ?_
   refine c_cond rfl (fun hb => ?_) (fun hb => ?_)
   ·have hr23 := hb
    replace hb := of_decide_eq_true hb
    refine c_seq ?_
    refine c_ops ?_
    refine as' rfl rfl rfl rfl ?_
    refine l_nil ?_
    refine c_ret ?_
    exact ⟨false, rfl, ⟨fun h => absurd h (by decide), fun h => by have := h.2.2.1; omega⟩, hE⟩
   ·have hr23 := hb
    replace hb := of_decide_eq_false hb
    have hyes : checkF g l = 0 ∧ 0 ≤ k ∧ k < l.length := by have h2 := of_decide_eq_false hr18; exact ⟨hck0, by omega, by omega⟩
    obtain ⟨hok, _, hall⟩ := checkF_ok hfit hyes.1
    have hl8 : l.length ≤ 8000 := by
     have h := hyes.1
     unfold checkF at h
     split at h
     ·split at h
      ·cases h
      ·omega
     ·rename_i h1; exact absurd h h1
    refine c_skip ?_
    refine c_seq ?_
    refine c_ops ?_
    refine mv' rfl rfl rfl rfl ?_
    refine l_new rfl rfl rfl (n_slice (cells := #[.int .i64 k]) rfl Tryz.underlying26 Tryz.sizeOf3 Tryz.zeroValue3 rfl rfl (fill_int1 _) hL hE) ?_
    rintro _ w ⟨s25, rfl, hs25, hL, hE, hX⟩
    refine as' rfl rfl rfl rfl ?_
    refine l_nil ?_
    refine c_seq ?_
    refine c_ops ?_
    refine mv' rfl rfl rfl rfl ?_
    refine l_val rfl rfl rfl (r_len rfl Tryz.underlying25 rfl) ?_
    refine l_new rfl rfl rfl (n_make rfl Tryz.underlying62 info_bool rfl rfl hL hE (by omega) (by omega)) ?_
    rintro _ w ⟨s28, rfl, hs28, hL, hE, hX⟩
    replace hL : Has w [.blk s28 (.cells (inCells l.length []).toArray 4 (0, 0)), .blk s25 (.cells #[.int .i64 k] 3 (0, 0))] := by rw [← made_none]; exact hL
    refine as' rfl rfl rfl rfl ?_
    refine l_nil ?_
    refine c_seq ?_
    refine c_block ?_
    refine c_loop0 (fun m1 e w => (e 0 = .slice Ag g.length cg ∧ e 1 = .slice Af l.length cf ∧ e 8 = .slice (some ⟨s28, 0, none⟩) l.length l.length) ∧ ∃ (S q : List Int) (bq off cap : Nat) (cur : Array Value), m1 = leftN g l S + q.length ∧ leftN g l S + q.length ≤ l.length * (1000000 + 1) + 1 ∧ e 7 = .slice (some ⟨bq, off, none⟩) q.length cap ∧ QAt cur off cap q ∧ Walk g l k S q ∧ (bq < w0.heap.size → False) ∧ Has w [.blk s28 (.cells (inCells l.length S).toArray 4 (0, 0)), .blk bq (.cells cur 3 (0, 0))] ∧ Ext0 w0 w) (leftN g l [] + 1) ?_ ?_
    ·exact ⟨⟨rfl, rfl, rfl⟩, [], [k], s25, 0, 1, #[.int .i64 k], rfl, by have := hlb []; simp; omega, rfl, ⟨by simp, by simp, fun i x hi => by cases i with | zero => (simp at hi; subst hi; rfl) | succ i => simp at hi⟩, Walk.begin hyes.2.1 hyes.2.2, fun h => absurd h (Nat.not_lt.2 hs25), hL, hE⟩
    rintro m1 e w ⟨⟨hq0, hq1, hq8⟩, hI⟩
    refine c_know (t := 0) (by exact hq0) ?_
    refine c_know (t := 1) (by exact hq1) ?_
    refine c_know (t := 8) (by exact hq8) ?_
    clear hq0 hq1 hq8
    obtain ⟨S, q, bq, off, cap, cur, hm, hmb, h7, hq, hW, hS, hL, hE⟩ := hI
    refine c_know (t := 7) (by exact h7) ?_
    refine c_seq ?_
    refine c_seq ?_
    refine c_ops ?_
    refine mv' rfl rfl rfl rfl ?_
    refine l_val rfl rfl rfl (r_len rfl Tryz.underlying26 rfl) ?_
    refine l_val rfl rfl rfl (r_gtr rfl rfl rfl) ?_
    refine l_nil ?_
    refine c_cond rfl (fun hb => ?_) (fun hb => ?_)
    ·have hr31 := hb
     replace hb := of_decide_eq_true hb
     obtain ⟨i0, q', rfl⟩ : ∃ i0 q', q = i0 :: q' := by
      cases q with
      | nil => simp at hb
      | cons a r => exact ⟨a, r, rfl⟩
     have hi0 := hW.inn i0 (by simp)
     obtain ⟨A1, c1, hfc, hfw⟩ := hl.fact i0 hi0.1 hi0.2.1
     have hfm := fat_mem hi0.1 hi0.2.1
     obtain ⟨hfo, hfi⟩ := formed_ok (hall _ hfm)
     obtain ⟨Ak, ck, Al, cl, hcell, _, _⟩ := hg.node (fat l i0).a hfo.a.1 hfo.a.2
     have hlen0 : (i0 :: q').length = q'.length + 1 := rfl
     have hqm : (i0 :: q').length ≤ 9223372036854775807 := by omega
     have hsml := Nat.le_trans (onF_le (g := g)) (hsmall _ hfm)
     have hsn : w.cell? ((⟨s28, 0, none⟩ : Addr).add (i0.toNat * 1)) = some (.bool (decide (i0 ∈ S))) := by
      rw [blk_add, blk_cell (hL.get 0 rfl), Nat.zero_add, Nat.mul_one]
      have := inCells_get (n := l.length) (l := S) (i := i0.toNat) (by omega)
      rw [Int.toNat_of_nonneg hi0.1] at this
      simpa using this
     refine c_skip ?_
     refine c_block ?_
     refine c_seq ?_
     refine c_ops ?_
     refine mv' rfl rfl rfl rfl ?_
     refine l_val rfl rfl rfl (r_indexAddr_sl rfl Tryz.underlying26 Tryz.sizeOf3 rfl (fun _ => rfl) rfl (by decide) (by simp)) ?_
     refine l_val rfl rfl rfl (r_load (v := .int .i64 i0) rfl Tryz.isAgg3 rfl ((hq.sl (hL.get 1 rfl) hqm).int 0 (by decide) (by simp))) ?_
     refine as' rfl rfl rfl rfl ?_
     refine l_nil ?_
     refine c_seq ?_
     refine c_ops ?_
     refine mv' rfl rfl rfl rfl ?_
     refine l_new rfl rfl rfl (n_pop rfl Tryz.underlying26 Tryz.sizeOf3 rfl rfl hq) ?_
     rintro _ w ⟨off2, rfl, hq2, rfl⟩
     refine as' rfl rfl rfl rfl ?_
     refine l_nil ?_
     refine c_seq ?_
     refine c_seq ?_
     refine c_ops ?_
     refine mv' rfl rfl rfl rfl ?_
     refine mv' rfl rfl rfl rfl ?_
     refine l_val rfl rfl rfl (r_indexAddr rfl Tryz.underlying62 Tryz.sizeOf4 rfl rfl hi0.1 hi0.2.1) ?_
     refine l_val rfl rfl rfl (r_load (v := .bool (decide (i0 ∈ S))) rfl Tryz.isAgg4 rfl hsn) ?_
     refine l_nil ?_
     refine c_cond rfl (fun hb => ?_) (fun hb => ?_)
     ·have hr40 := hb
      have hWs := hW.seen (of_decide_eq_true hb)
      refine c_exit ?_
      first | exact ⟨leftN g l S + q'.length, by omega, ⟨rfl, rfl, rfl⟩, S, q', bq, off2, cap - 1, cur, rfl, by omega, rfl, hq2, hWs, hS, hL, hE⟩ | exact ⟨leftN g l (S ++ [i0]) + (q' ++ onF g (fat l i0)).length, by omega, ⟨rfl, rfl, rfl⟩, S ++ [i0], q' ++ onF g (fat l i0), bq2, off3, cap3, cur3, rfl, by omega, rfl, hq3, hWg, hS3, hL, hE⟩
     ·have hr40 := hb
      have hns : i0 ∉ S := of_decide_eq_false hb
      have hW2 := hW
      have hlg := leftN_go (g := g) (l := l) hi0.1 hi0.2.1 hns
      have hql : (q' ++ onF g (fat l i0)).length = q'.length + (onF g (fat l i0)).length := List.length_append
      refine c_skip ?_
      refine c_seq ?_
      refine c_ops ?_
      refine mv' rfl rfl rfl rfl ?_
      refine mv' rfl rfl rfl rfl ?_
      refine l_val rfl rfl rfl (r_indexAddr rfl Tryz.underlying62 Tryz.sizeOf4 rfl rfl hi0.1 hi0.2.1) ?_
      refine l_new_do rfl rfl (r_store1 (v := .bool true) 0 rfl Tryz.sizeOf4 rfl rfl rfl rfl hL hE rfl (by rw [Nat.mul_one]; simp [inCells]; omega) (fun h => absurd h (Nat.not_lt.2 hs28))) ?_
      rintro w ⟨hL, hE, hz, hk'⟩; rw [Nat.mul_one, inCells_set hi0.1] at hL
      refine l_nil ?_
      refine c_seq ?_
      refine c_seq ?_
      refine c_ops ?_
      refine mv' rfl rfl rfl rfl ?_
      refine mv' rfl rfl rfl rfl ?_
      refine mv' rfl rfl rfl rfl ?_
      refine l_val rfl rfl rfl (r_indexAddr_sl rfl Tryz.underlying25 Tryz.sizeOf43 rfl hl.is rfl hi0.1 hi0.2.1) ?_
      refine l_val rfl rfl rfl (r_fieldAddr (n := 0) rfl Tryz.underlying43 rfl Tryz.sizeOf3 rfl) ?_
      refine l_val rfl rfl rfl (r_load rfl Tryz.isAgg3 rfl (Ext0.cells hE _ _ (hfc 0 _ rfl))) ?_
      refine l_val rfl rfl rfl (r_indexAddr_sl rfl Tryz.underlying22 Tryz.sizeOf46 rfl hg.is rfl hfo.a.1 hfo.a.2) ?_
      refine l_val rfl rfl rfl (r_fieldAddr (n := 0) rfl Tryz.underlying46 rfl Tryz.sizeOf3 rfl) ?_
      refine l_val rfl rfl rfl (r_load rfl Tryz.isAgg3 rfl (Ext0.cells hE _ _ (hcell 0 _ rfl))) ?_
      refine l_val rfl rfl rfl (r_eql rfl rfl rfl) ?_
      refine mv' rfl rfl rfl rfl ?_
      refine l_case 54 rfl (fun hb => ?_) (fun hb => ?_)
      ·have hr54 := hb
       replace hb := of_decide_eq_true hb
       have hdy : dynB g (fat l i0).a = true := decide_eq_true hb
       refine mv' rfl rfl rfl rfl ?_
       refine mv' rfl rfl rfl rfl ?_
       refine mv' rfl rfl rfl rfl ?_
       refine l_val rfl rfl rfl (r_indexAddr_sl rfl Tryz.underlying25 Tryz.sizeOf43 rfl hl.is rfl hi0.1 hi0.2.1) ?_
       refine l_val rfl rfl rfl (r_fieldAddr (n := 0) rfl Tryz.underlying43 rfl Tryz.sizeOf3 rfl) ?_
       refine l_val rfl rfl rfl (r_load rfl Tryz.isAgg3 rfl (Ext0.cells hE _ _ (hfc 1 _ rfl))) ?_
       refine l_by rfl rfl rfl (r_call rfl rfl Tryz.func45 rfl rfl) (dyn_rcalls _ Ag cg g (hg.keep RNode.kept (Ext0.cells hE)) hok (fat l i0).b) ?_
       rintro _ w ⟨rfl, hX⟩
       replace hL := hL.ext0 hX
       replace hE := hE.step0 hX
       refine ⟨_, rfl, ?_⟩
       refine l_val rfl rfl rfl (r_not rfl rfl) ?_
       refine l_val rfl rfl rfl (r_pick rfl rfl) ?_
       refine l_nil ?_
       refine c_cond rfl (fun hb => ?_) (fun hb => ?_)
       ·have hr63 := hb
        have hh : hereF g l i0 = true := by unfold hereF; rw [hdy]; simpa using hb
        refine c_seq ?_
        refine c_ops ?_
        refine as' rfl rfl rfl rfl ?_
        refine l_nil ?_
        refine c_ret ?_
        exact ⟨true, rfl, ⟨fun _ => ⟨hyes.1, hyes.2.1, hyes.2.2, i0, hi0.2.2, hh⟩, fun _ => rfl⟩, hE⟩
       ·have hr63 := hb
        have hh : hereF g l i0 = false := by unfold hereF; rw [hdy]; simpa using hb
        have hWg := hW2.go hh hfi
        refine c_skip ?_
        refine c_ops ?_
        refine mv' rfl rfl rfl rfl ?_
        refine mv' rfl rfl rfl rfl ?_
        refine mv' rfl rfl rfl rfl ?_
        refine mv' rfl rfl rfl rfl ?_
        refine l_val rfl rfl rfl (r_indexAddr_sl rfl Tryz.underlying25 Tryz.sizeOf43 rfl hl.is rfl hi0.1 hi0.2.1) ?_
        refine l_val rfl rfl rfl (r_load_agg (vs := factCells (fat l i0) A1 c1) rfl Tryz.isAgg43 Tryz.sizeOf43 rfl (fun j v hj => Ext0.cells hE _ _ (hfc j v hj))) ?_
        refine l_by rfl rfl rfl (r_call rfl rfl Tryz.func46 rfl rfl) (on_rcalls _ Ag cg g (hg.keep RNode.kept (Ext0.cells hE)) (fat l i0) A1 c1 (hfw.keep RInt.kept (Ext0.cells hE)) hfo.a hfo.why) ?_
        rintro _ w ⟨A7, c7, rfl, honI, hX⟩
        replace hL := hL.ext0 hX
        replace hE := hE.step0 hX
        have hon := (honI w0 hfw).keep RInt.kept (Ext0.cells hE)
        refine ⟨_, rfl, ?_⟩
        refine l_new rfl rfl rfl (n_pushN 1 rfl Tryz.underlying26 info_int rfl rfl hon hL hE rfl hq2 hS (by omega)) ?_
        rintro _ w ⟨bq2, off3, cap3, cur3, rfl, hq3, hL, hE, hS3⟩
        refine as' rfl rfl rfl rfl ?_
        refine l_nil ?_
        first | exact ⟨leftN g l S + q'.length, by omega, ⟨rfl, rfl, rfl⟩, S, q', bq, off2, cap - 1, cur, rfl, by omega, rfl, hq2, hWs, hS, hL, hE⟩ | exact ⟨leftN g l (S ++ [i0]) + (q' ++ onF g (fat l i0)).length, by omega, ⟨rfl, rfl, rfl⟩, S ++ [i0], q' ++ onF g (fat l i0), bq2, off3, cap3, cur3, rfl, by omega, rfl, hq3, hWg, hS3, hL, hE⟩
      ·have hr54 := hb
       replace hb := of_decide_eq_false hb
       have hdy : dynB g (fat l i0).a = false := decide_eq_false hb
       have hh : hereF g l i0 = false := by unfold hereF; rw [hdy]; rfl
       have hWg := hW2.go hh hfi
       refine l_not rfl rfl rfl ?_
       refine l_not rfl rfl rfl ?_
       refine l_not rfl rfl rfl ?_
       refine l_not rfl rfl rfl ?_
       refine l_not rfl rfl rfl ?_
       refine l_not rfl rfl rfl ?_
       refine l_not rfl rfl rfl ?_
       refine l_not rfl rfl rfl ?_
       refine l_val rfl rfl rfl (r_pick rfl rfl) ?_
       refine l_nil ?_
       refine c_no rfl ?_
       refine c_skip ?_
       refine c_ops ?_
       refine mv' rfl rfl rfl rfl ?_
       refine mv' rfl rfl rfl rfl ?_
       refine mv' rfl rfl rfl rfl ?_
       refine mv' rfl rfl rfl rfl ?_
       refine l_val rfl rfl rfl (r_indexAddr_sl rfl Tryz.underlying25 Tryz.sizeOf43 rfl hl.is rfl hi0.1 hi0.2.1) ?_
       refine l_val rfl rfl rfl (r_load_agg (vs := factCells (fat l i0) A1 c1) rfl Tryz.isAgg43 Tryz.sizeOf43 rfl (fun j v hj => Ext0.cells hE _ _ (hfc j v hj))) ?_
       refine l_by rfl rfl rfl (r_call rfl rfl Tryz.func46 rfl rfl) (on_rcalls _ Ag cg g (hg.keep RNode.kept (Ext0.cells hE)) (fat l i0) A1 c1 (hfw.keep RInt.kept (Ext0.cells hE)) hfo.a hfo.why) ?_
       rintro _ w ⟨A7, c7, rfl, honI, hX⟩
       replace hL := hL.ext0 hX
       replace hE := hE.step0 hX
       have hon := (honI w0 hfw).keep RInt.kept (Ext0.cells hE)
       refine ⟨_, rfl, ?_⟩
       refine l_new rfl rfl rfl (n_pushN 1 rfl Tryz.underlying26 info_int rfl rfl hon hL hE rfl hq2 hS (by omega)) ?_
       rintro _ w ⟨bq2, off3, cap3, cur3, rfl, hq3, hL, hE, hS3⟩
       refine as' rfl rfl rfl rfl ?_
       refine l_nil ?_
       first | exact ⟨leftN g l S + q'.length, by omega, ⟨rfl, rfl, rfl⟩, S, q', bq, off2, cap - 1, cur, rfl, by omega, rfl, hq2, hWs, hS, hL, hE⟩ | exact ⟨leftN g l (S ++ [i0]) + (q' ++ onF g (fat l i0)).length, by omega, ⟨rfl, rfl, rfl⟩, S ++ [i0], q' ++ onF g (fat l i0), bq2, off3, cap3, cur3, rfl, by omega, rfl, hq3, hWg, hS3, hL, hE⟩
    ·have hr31 := hb
     replace hb := of_decide_eq_false hb
     obtain rfl : q = [] := List.eq_nil_of_length_eq_zero (by omega)
     refine c_exit ?_
     refine c_seq ?_
     refine c_ops ?_
     refine as' rfl rfl rfl rfl ?_
     refine l_nil ?_
     refine c_ret ?_
     exact ⟨false, rfl, ⟨fun h => absurd h (by decide), fun h => by
   obtain ⟨_, _, _, j, hj, hh⟩ := h
   rw [(hW.all hj).2] at hh
   cases hh⟩, hE⟩
end Go.Proofs.YtndophlnapjkhaaGreatDoor.Vc
namespace Go.Proofs.YtndophlnapjkhaaGreatDoor.Vc
open Go Go.RowKit
set_option linter.unusedVariables false
set_option linter.unusedSimpArgs false
def RFV (_ : World) (x : FV) (cs : List Value) : Prop := cs = fcell x
theorem RFV.kept : Kept RFV := fun _ _ _ _ _ h => h
theorem fv_sl {w : World} {B e n' c : Nat} {A : Option Addr} {fv : List FV} (h : w.ownsRow B e 3 (.slice A n' c) fv.length (fv.map fcell).flatten) : Sl w 3 RFV A fv.length c fv ∧ n' = fv.length := by
 have hE : Els w 3 RFV fv (fv.map fcell) := by
  refine ⟨by simp, fun i x cs h1 h2 => ?_⟩
  rw [List.getElem?_map, h1] at h2
  cases h2
  exact ⟨rfl, rfl⟩
 obtain ⟨A', c', hv, hs, _⟩ := Sl.ofRow h hE rfl
 injection hv with h1 h2 h3
 subst h1; subst h2; subst h3
 exact ⟨hs, rfl⟩
theorem fv_nat {fv : List FV} {k : Nat} (h : k < fv.length) : fv[k]? = some (fv.getD k (Fact.nil, .slice none 0 0)) := by
 rw [List.getD_eq_getElem?_getD, List.getElem?_eq_getElem h]
 rfl
theorem atP_step {p : Int × Int} {l : List Fact} {k : Nat} {f : Fact} (h : l[k]? = some f) : atP p k (l.drop k) = if (f.a, f.b) = p then some k else atP p (k + 1) (l.drop (k + 1)) := by
 have hk : k < l.length := (List.getElem?_eq_some_iff.1 h).1
 rw [List.drop_eq_getElem_cons hk, (List.getElem?_eq_some_iff.1 h).2, atP]
theorem at_rcalls (w0 : World) (xb : Nat) (Al : Option Addr) (cl : Nat) (fv : List FV) (hx1 : w0.cell? ⟨xb, 1, none⟩ = some (.slice Al fv.length cl)) (hl : Sl w0 3 RFV Al fv.length cl fv) (p : Int × Int) :
    Calls Tryz.prog 56 [.pointer (some ⟨xb, 0, none⟩), .agg #[.int .i64 p.1, .int .i64 p.2]].toArray w0 fun en w' => en = .returned (.int .i64 (idxV (atP p 0 (fv.map (·.1))))) ∧ Ext0 w0 w' := by
 have hE : Ext0 w0 w0 := Ext.refl _ _
 have hL : Has w0 [] := trivial
 refine calls [4] Tryz.func56 rfl rfl rfl rfl ?_
 refine c_seq ?_
 refine c_ops ?_
 refine l_new rfl rfl rfl (n_box rfl hL hE) ?_
 rintro _ w ⟨b3, rfl, hb3, hL, hE, hX⟩
 refine as' rfl rfl rfl rfl ?_
 refine l_nil ?_
 refine c_seq ?_
 refine c_seq ?_
 refine c_ops ?_
 refine as' rfl rfl rfl rfl ?_
 refine l_nil ?_
 refine c_block ?_
 refine c_loop0 (fun m1 e w => (e 0 = .pointer (some ⟨xb, 0, none⟩) ∧ e 3 = .pointer (some ⟨b3, 0, none⟩)) ∧ ∃ (k : Nat), k ≤ fv.length ∧ m1 = fv.length - k ∧ e 5 = .int .i64 (k : Nat) ∧ atP p 0 (fv.map (·.1)) = atP p k ((fv.map (·.1)).drop k) ∧ Has w [.blk b3 (.cells #[.int .i64 p.1, .int .i64 p.2] 32 (0, 0))] ∧ Ext0 w0 w) (fv.length) ?_ ?_
 ·exact ⟨⟨rfl, rfl⟩, 0, Nat.zero_le _, rfl, rfl, rfl, hL, hE⟩
 rintro m1 e w ⟨⟨hq0, hq3⟩, hI⟩
 refine c_know (t := 0) (by exact hq0) ?_
 refine c_know (t := 3) (by exact hq3) ?_
 clear hq0 hq3
 obtain ⟨k, hkl, hkm, h5s, hfind, hL, hE⟩ := hI
 refine c_know (t := 5) (by exact h5s) ?_
 refine c_seq ?_
 refine c_seq ?_
 refine c_ops ?_
 refine mv' rfl rfl rfl rfl ?_
 refine mv' rfl rfl rfl rfl ?_
 refine l_val rfl rfl rfl (r_nilCheck rfl rfl) ?_
 refine l_val rfl rfl rfl (r_fieldAddr (n := 0) rfl Tryz.underlying68 rfl Tryz.sizeOf25 rfl) ?_
 refine l_val rfl rfl rfl (r_load rfl Tryz.isAgg25 rfl (Ext0.cells hE _ _ hx1)) ?_
 refine l_val rfl rfl rfl (r_len rfl Tryz.underlying25 rfl) ?_
 refine l_val rfl rfl rfl (r_lss rfl rfl rfl) ?_
 refine l_nil ?_
 refine c_cond rfl (fun hb => ?_) (fun hb => ?_)
 ·have hr12 := hb
  replace hb := of_decide_eq_true hb
  have hklt : k < fv.length := by omega
  obtain ⟨cs, _, hcs, hcell0⟩ := hl.at_ k _ (fv_nat hklt)
  have hcell : ∀ j v, (fcell (fv.getD k (Fact.nil, .slice none 0 0)))[j]? = some v → w0.cell? (((adr Al).add ((k : Int).toNat * 3)).add j) = some v := fun j v hj => by rw [adr_add, Int.toNat_natCast]; exact hcell0 j v (hcs ▸ hj)
  have hstep := atP_step (p := p) (l := fv.map (·.1)) (k := k) (f := (fv.getD k (Fact.nil, .slice none 0 0)).1) (by rw [List.getElem?_map, fv_nat hklt]; rfl)
  refine c_skip ?_
  refine c_seq ?_
  refine c_block ?_
  refine c_seq ?_
  refine c_draw mixed (hL) hE ?_
  replace hL := hL.drew
  replace hE := hE.drew
  have hK := hL
  refine h_t 0 rfl rfl (by kernel_rfl) (fun _ _ _ h => h) ⟨hK, hE⟩ rfl (fun W hW => r_move rfl) ?_
  refine h_listed (listed' := #[T',F',F',F',F',F',F',F',F',F',F',F',F',F',F',F',F',F',F',F',F',F',F',F']) (by kernel_rfl) ?_
  refine h_t 1 rfl rfl (by kernel_rfl) (fun _ _ _ h => h) ⟨hK, hE⟩ rfl (fun W hW => r_nilCheck rfl rfl) ?_
  refine h_listed (listed' := #[T',T',F',F',F',F',F',F',F',F',F',F',F',F',F',F',F',F',F',F',F',F',F',F']) (by kernel_rfl) ?_
  refine h_t 2 rfl rfl (by kernel_rfl) (fun _ _ _ h => h) ⟨hK, hE⟩ rfl (fun W hW => r_fieldAddr (n := 0) rfl Tryz.underlying68 rfl Tryz.sizeOf25 rfl) ?_
  refine h_listed (listed' := #[T',T',T',F',F',F',F',F',F',F',F',F',F',F',F',F',F',F',F',F',F',F',F',F']) (by kernel_rfl) ?_
  refine h_t 3 rfl rfl (by kernel_rfl) (fun _ _ _ h => h) ⟨hK, hE⟩ rfl (fun W hW => r_load rfl Tryz.isAgg25 rfl (Ext0.cells hW.2 _ _ hx1)) ?_
  refine h_listed (listed' := #[T',T',T',T',F',F',F',F',F',F',F',F',F',F',F',F',F',F',F',F',F',F',F',F']) (by kernel_rfl) ?_
  refine h_t 4 rfl rfl (by kernel_rfl) (fun _ _ _ h => h) ⟨hK, hE⟩ rfl (fun W hW => r_move rfl) ?_
  refine h_listed (listed' := #[T',T',T',T',T',F',F',F',F',F',F',F',F',F',F',F',F',F',F',F',F',F',F',F']) (by kernel_rfl) ?_
  refine h_t 5 rfl rfl (by kernel_rfl) (fun _ _ _ h => h) ⟨hK, hE⟩ rfl (fun W hW => r_indexAddr_sl rfl Tryz.underlying25 Tryz.sizeOf43 rfl hl.is rfl (by omega) (by omega)) ?_
  refine h_listed (listed' := #[T',T',T',T',T',T',F',F',F',F',F',F',F',F',F',F',F',F',F',F',F',F',F',F']) (by kernel_rfl) ?_
  refine h_t 6 rfl rfl (by kernel_rfl) (fun _ _ _ h => h) ⟨hK, hE⟩ rfl (fun W hW => r_fieldAddr (n := 0) rfl Tryz.underlying43 rfl Tryz.sizeOf3 rfl) ?_
  refine h_listed (listed' := #[T',T',T',T',T',T',T',F',F',F',F',F',F',F',F',F',F',F',F',F',F',F',F',F']) (by kernel_rfl) ?_
  refine h_t 7 rfl rfl (by kernel_rfl) (fun _ _ _ h => h) ⟨hK, hE⟩ rfl (fun W hW => r_load rfl Tryz.isAgg3 rfl (Ext0.cells hW.2 _ _ (hcell 0 _ rfl))) ?_
  refine h_listed (listed' := #[T',T',T',T',T',T',T',T',F',F',F',F',F',F',F',F',F',F',F',F',F',F',F',F']) (by kernel_rfl) ?_
  refine h_t 8 rfl rfl (by kernel_rfl) (fun _ _ _ h => h) ⟨hK, hE⟩ rfl (fun W hW => r_indexAddr_arr rfl Tryz.underlying32 Tryz.sizeOf3 rfl rfl (by decide) (by decide)) ?_
  refine h_listed (listed' := #[T',T',T',T',T',T',T',T',T',F',F',F',F',F',F',F',F',F',F',F',F',F',F',F']) (by kernel_rfl) ?_
  refine h_t 9 rfl rfl (by kernel_rfl) (fun _ _ _ h => h) ⟨hK, hE⟩ rfl (fun W hW => r_load (v := .int .i64 p.1) rfl Tryz.isAgg3 rfl (blk_raw (cs := #[.int .i64 p.1, .int .i64 p.2]) (hW.1.get 0 rfl) rfl 0 _ rfl)) ?_
  refine h_listed (listed' := #[T',T',T',T',T',T',T',T',T',T',F',F',F',F',F',F',F',F',F',F',F',F',F',F']) (by kernel_rfl) ?_
  refine h_t 10 rfl rfl (by kernel_rfl) (fun _ _ _ h => h) ⟨hK, hE⟩ rfl (fun W hW => r_eql rfl rfl rfl) ?_
  refine h_listed (listed' := #[T',T',T',T',T',T',T',T',T',T',T',F',F',F',F',F',F',F',F',F',F',F',F',F']) (by kernel_rfl) ?_
  refine h_t 11 rfl rfl (by kernel_rfl) (fun _ _ _ h => h) ⟨hK, hE⟩ rfl (fun W hW => r_move rfl) ?_
  refine h_listed (listed' := #[T',T',T',T',T',T',T',T',T',T',T',T',F',F',F',F',F',F',F',F',F',F',F',F']) (by kernel_rfl) ?_
  refine h_case 26 rfl (fun hb => ?_) (fun hb => ?_)
  ·have hr26 := hb
   replace hb := of_decide_eq_true hb
   have hfst := hb
   refine h_listed (listed' := #[T',T',T',T',T',T',T',T',T',T',T',T',F',F',F',F',F',F',F',F',F',F',F',F']) (by kernel_rfl) ?_
   refine h_t 12 rfl rfl (by kernel_rfl) (fun _ _ _ h => h) ⟨hK, hE⟩ rfl (fun W hW => r_move rfl) ?_
   refine h_listed (listed' := #[T',T',T',T',T',T',T',T',T',T',T',T',T',F',F',F',F',F',F',F',F',F',F',F']) (by kernel_rfl) ?_
   refine h_t 13 rfl rfl (by kernel_rfl) (fun _ _ _ h => h) ⟨hK, hE⟩ rfl (fun W hW => r_nilCheck rfl rfl) ?_
   refine h_listed (listed' := #[T',T',T',T',T',T',T',T',T',T',T',T',T',T',F',F',F',F',F',F',F',F',F',F']) (by kernel_rfl) ?_
   refine h_t 14 rfl rfl (by kernel_rfl) (fun _ _ _ h => h) ⟨hK, hE⟩ rfl (fun W hW => r_fieldAddr (n := 0) rfl Tryz.underlying68 rfl Tryz.sizeOf25 rfl) ?_
   refine h_listed (listed' := #[T',T',T',T',T',T',T',T',T',T',T',T',T',T',T',F',F',F',F',F',F',F',F',F']) (by kernel_rfl) ?_
   refine h_t 15 rfl rfl (by kernel_rfl) (fun _ _ _ h => h) ⟨hK, hE⟩ rfl (fun W hW => r_load rfl Tryz.isAgg25 rfl (Ext0.cells hW.2 _ _ hx1)) ?_
   refine h_listed (listed' := #[T',T',T',T',T',T',T',T',T',T',T',T',T',T',T',T',F',F',F',F',F',F',F',F']) (by kernel_rfl) ?_
   refine h_t 16 rfl rfl (by kernel_rfl) (fun _ _ _ h => h) ⟨hK, hE⟩ rfl (fun W hW => r_move rfl) ?_
   refine h_listed (listed' := #[T',T',T',T',T',T',T',T',T',T',T',T',T',T',T',T',T',F',F',F',F',F',F',F']) (by kernel_rfl) ?_
   refine h_t 17 rfl rfl (by kernel_rfl) (fun _ _ _ h => h) ⟨hK, hE⟩ rfl (fun W hW => r_indexAddr_sl rfl Tryz.underlying25 Tryz.sizeOf43 rfl hl.is rfl (by omega) (by omega)) ?_
   refine h_listed (listed' := #[T',T',T',T',T',T',T',T',T',T',T',T',T',T',T',T',T',T',F',F',F',F',F',F']) (by kernel_rfl) ?_
   refine h_t 18 rfl rfl (by kernel_rfl) (fun _ _ _ h => h) ⟨hK, hE⟩ rfl (fun W hW => r_fieldAddr (n := 0) rfl Tryz.underlying43 rfl Tryz.sizeOf3 rfl) ?_
   refine h_listed (listed' := #[T',T',T',T',T',T',T',T',T',T',T',T',T',T',T',T',T',T',T',F',F',F',F',F']) (by kernel_rfl) ?_
   refine h_t 19 rfl rfl (by kernel_rfl) (fun _ _ _ h => h) ⟨hK, hE⟩ rfl (fun W hW => r_load rfl Tryz.isAgg3 rfl (Ext0.cells hW.2 _ _ (hcell 1 _ rfl))) ?_
   refine h_listed (listed' := #[T',T',T',T',T',T',T',T',T',T',T',T',T',T',T',T',T',T',T',T',F',F',F',F']) (by kernel_rfl) ?_
   refine h_t 20 rfl rfl (by kernel_rfl) (fun _ _ _ h => h) ⟨hK, hE⟩ rfl (fun W hW => r_indexAddr_arr rfl Tryz.underlying32 Tryz.sizeOf3 rfl rfl (by decide) (by decide)) ?_
   refine h_listed (listed' := #[T',T',T',T',T',T',T',T',T',T',T',T',T',T',T',T',T',T',T',T',T',F',F',F']) (by kernel_rfl) ?_
   refine h_t 21 rfl rfl (by kernel_rfl) (fun _ _ _ h => h) ⟨hK, hE⟩ rfl (fun W hW => r_load (v := .int .i64 p.2) rfl Tryz.isAgg3 rfl (blk_raw (cs := #[.int .i64 p.1, .int .i64 p.2]) (hW.1.get 0 rfl) rfl 1 _ rfl)) ?_
   refine h_listed (listed' := #[T',T',T',T',T',T',T',T',T',T',T',T',T',T',T',T',T',T',T',T',T',T',F',F']) (by kernel_rfl) ?_
   refine h_t 22 rfl rfl (by kernel_rfl) (fun _ _ _ h => h) ⟨hK, hE⟩ rfl (fun W hW => r_eql rfl rfl rfl) ?_
   refine h_listed (listed' := #[T',T',T',T',T',T',T',T',T',T',T',T',T',T',T',T',T',T',T',T',T',T',T',F']) (by kernel_rfl) ?_
   refine h_t 23 rfl rfl (by kernel_rfl) (fun _ _ _ h => h) ⟨hK, hE⟩ rfl (fun W hW => r_pick rfl rfl) ?_
   refine h_listed (listed' := #[T',T',T',T',T',T',T',T',T',T',T',T',T',T',T',T',T',T',T',T',T',T',T',T']) (by kernel_rfl) ?_
   refine h_done (by kernel_rfl) ?_
   refine c_cond rfl (fun hb => ?_) (fun hb => ?_)
   ·have hr38 := hb
    replace hb := of_decide_eq_true hb
    have heq : ((fv.getD k (Fact.nil, .slice none 0 0)).1.a, (fv.getD k (Fact.nil, .slice none 0 0)).1.b) = p := Prod.ext hfst hb
    refine c_seq ?_
    refine c_ops ?_
    refine mv' rfl rfl rfl rfl ?_
    refine as' rfl rfl rfl rfl ?_
    refine l_nil ?_
    refine c_ret ?_
    exact ⟨ret_int rfl (by rw [hfind, hstep, if_pos heq]; rfl), hE⟩
   ·have hr38 := hb
    replace hb := of_decide_eq_false hb
    have hne : ¬ ((fv.getD k (Fact.nil, .slice none 0 0)).1.a, (fv.getD k (Fact.nil, .slice none 0 0)).1.b) = p := fun e => hb (congrArg Prod.snd e)
    refine c_skip ?_
    refine c_ops ?_
    refine mv' rfl rfl rfl rfl ?_
    refine l_val rfl rfl rfl (r_add rfl rfl rfl) ?_
    refine as' rfl rfl rfl rfl ?_
    refine l_nil ?_
    exact ⟨fv.length - (k + 1), by omega, ⟨rfl, rfl⟩, k + 1, by omega, rfl, by show Value.int .i64 (IntKind.i64.wrap ((k : Int) + 1)) = _; rw [wrap_succ hklt hl.max], by rw [hfind, hstep, if_neg hne], hL, hE⟩
  ·have hr26 := hb
   replace hb := of_decide_eq_false hb
   have hne : ¬ ((fv.getD k (Fact.nil, .slice none 0 0)).1.a, (fv.getD k (Fact.nil, .slice none 0 0)).1.b) = p := fun e => hb (congrArg Prod.fst e)
   refine h_listed (listed' := #[T',T',T',T',T',T',T',T',T',T',T',T',F',F',F',F',F',F',F',F',F',F',F',F']) (by kernel_rfl) ?_
   refine h_n 12 rfl rfl (by kernel_rfl) (fun _ _ _ h => h) ⟨hK, hE⟩ rfl ?_
   refine h_listed (listed' := #[T',T',T',T',T',T',T',T',T',T',T',T',T',F',F',F',F',F',F',F',F',F',F',F']) (by kernel_rfl) ?_
   refine h_n 13 rfl rfl (by kernel_rfl) (fun _ _ _ h => h) ⟨hK, hE⟩ rfl ?_
   refine h_listed (listed' := #[T',T',T',T',T',T',T',T',T',T',T',T',T',T',F',F',F',F',F',F',F',F',F',F']) (by kernel_rfl) ?_
   refine h_n 14 rfl rfl (by kernel_rfl) (fun _ _ _ h => h) ⟨hK, hE⟩ rfl ?_
   refine h_listed (listed' := #[T',T',T',T',T',T',T',T',T',T',T',T',T',T',T',F',F',F',F',F',F',F',F',F']) (by kernel_rfl) ?_
   refine h_n 15 rfl rfl (by kernel_rfl) (fun _ _ _ h => h) ⟨hK, hE⟩ rfl ?_
   refine h_listed (listed' := #[T',T',T',T',T',T',T',T',T',T',T',T',T',T',T',T',F',F',F',F',F',F',F',F']) (by kernel_rfl) ?_
   refine h_n 16 rfl rfl (by kernel_rfl) (fun _ _ _ h => h) ⟨hK, hE⟩ rfl ?_
   refine h_listed (listed' := #[T',T',T',T',T',T',T',T',T',T',T',T',T',T',T',T',T',F',F',F',F',F',F',F']) (by kernel_rfl) ?_
   refine h_n 17 rfl rfl (by kernel_rfl) (fun _ _ _ h => h) ⟨hK, hE⟩ rfl ?_
   refine h_listed (listed' := #[T',T',T',T',T',T',T',T',T',T',T',T',T',T',T',T',T',T',F',F',F',F',F',F']) (by kernel_rfl) ?_
   refine h_n 18 rfl rfl (by kernel_rfl) (fun _ _ _ h => h) ⟨hK, hE⟩ rfl ?_
   refine h_listed (listed' := #[T',T',T',T',T',T',T',T',T',T',T',T',T',T',T',T',T',T',T',F',F',F',F',F']) (by kernel_rfl) ?_
   refine h_n 19 rfl rfl (by kernel_rfl) (fun _ _ _ h => h) ⟨hK, hE⟩ rfl ?_
   refine h_listed (listed' := #[T',T',T',T',T',T',T',T',T',T',T',T',T',T',T',T',T',T',T',T',F',F',F',F']) (by kernel_rfl) ?_
   refine h_n 20 rfl rfl (by kernel_rfl) (fun _ _ _ h => h) ⟨hK, hE⟩ rfl ?_
   refine h_listed (listed' := #[T',T',T',T',T',T',T',T',T',T',T',T',T',T',T',T',T',T',T',T',T',F',F',F']) (by kernel_rfl) ?_
   refine h_n 21 rfl rfl (by kernel_rfl) (fun _ _ _ h => h) ⟨hK, hE⟩ rfl ?_
   refine h_listed (listed' := #[T',T',T',T',T',T',T',T',T',T',T',T',T',T',T',T',T',T',T',T',T',T',F',F']) (by kernel_rfl) ?_
   refine h_n 22 rfl rfl (by kernel_rfl) (fun _ _ _ h => h) ⟨hK, hE⟩ rfl ?_
   refine h_listed (listed' := #[T',T',T',T',T',T',T',T',T',T',T',T',T',T',T',T',T',T',T',T',T',T',T',F']) (by kernel_rfl) ?_
   refine h_t 23 rfl rfl (by kernel_rfl) (fun _ _ _ h => h) ⟨hK, hE⟩ rfl (fun W hW => r_pick rfl rfl) ?_
   refine h_listed (listed' := #[T',T',T',T',T',T',T',T',T',T',T',T',T',T',T',T',T',T',T',T',T',T',T',T']) (by kernel_rfl) ?_
   refine h_done (by kernel_rfl) ?_
   refine c_no rfl ?_
   refine c_skip ?_
   refine c_ops ?_
   refine mv' rfl rfl rfl rfl ?_
   refine l_val rfl rfl rfl (r_add rfl rfl rfl) ?_
   refine as' rfl rfl rfl rfl ?_
   refine l_nil ?_
   exact ⟨fv.length - (k + 1), by omega, ⟨rfl, rfl⟩, k + 1, by omega, rfl, by show Value.int .i64 (IntKind.i64.wrap ((k : Int) + 1)) = _; rw [wrap_succ hklt hl.max], by rw [hfind, hstep, if_neg hne], hL, hE⟩
 ·have hr12 := hb
  replace hb := of_decide_eq_false hb
  refine c_exit ?_
  refine c_seq ?_
  refine c_ops ?_
  refine as' rfl rfl rfl rfl ?_
  refine l_nil ?_
  refine c_ret ?_
  exact ⟨ret_int rfl (by rw [hfind, List.drop_eq_nil_of_le (by simp; omega)]; rfl), hE⟩
theorem pick12_rcalls (w0 : World) (pb : Nat) (Ag : Option Addr) (cg : Nat) (g : List GNode) (Ai : Option Addr) (ci : Nat) (hG : Grid w0 pb Ag g.length cg false Ai ci (mayX g false)) (hg : Nodes w0 Ag cg g) (hok : GraphOk g) (v : Value) (p : Int × Int) (hp : InG g.length p) (ha8 : (gat g p.1).kind ≠ 8) :
    Calls Tryz.prog 57 [.pointer (some ⟨pb, 0, none⟩), v, .agg #[.int .i64 p.1, .int .i64 p.2]].toArray w0 fun en w' => en = .returned (.int .i64 (pickX g false (mayX g false) p.1 p.2)) ∧ Ext0 w0 w' := by
 have hE : Ext0 w0 w0 := Ext.refl _ _
 have hL : Has w0 [] := trivial
 refine calls [6] Tryz.func57 rfl rfl rfl rfl ?_
 refine c_seq ?_
 refine c_ops ?_
 refine l_new rfl rfl rfl (n_box rfl hL hE) ?_
 rintro _ w ⟨b5, rfl, hb5, hL, hE, hX⟩
 refine as' rfl rfl rfl rfl ?_
 refine l_nil ?_
 refine c_seq ?_
 refine c_ops ?_
 refine mv' rfl rfl rfl rfl ?_
 refine l_val rfl rfl rfl (r_indexAddr_arr rfl Tryz.underlying32 Tryz.sizeOf3 rfl rfl (by decide) (by decide)) ?_
 refine l_val rfl rfl rfl (r_load (v := .int .i64 p.1) rfl Tryz.isAgg3 rfl (blk_raw (cs := #[.int .i64 p.1, .int .i64 p.2]) (hL.get 0 rfl) rfl 0 _ rfl)) ?_
 refine l_val rfl rfl rfl (r_indexAddr_arr rfl Tryz.underlying32 Tryz.sizeOf3 rfl rfl (by decide) (by decide)) ?_
 refine l_val rfl rfl rfl (r_load (v := .int .i64 p.2) rfl Tryz.isAgg3 rfl (blk_raw (cs := #[.int .i64 p.1, .int .i64 p.2]) (hL.get 0 rfl) rfl 1 _ rfl)) ?_
 refine l_by rfl rfl rfl (r_call rfl rfl Tryz.func84 rfl rfl) (Pick_rcalls _ (hG.keep (Ext0.cells hE)) (hg.keep RNode.kept (Ext0.cells hE)) hok p.1 p.2 hp.1 hp.2.1 ha8 hp.2.2.1 hp.2.2.2) ?_
 rintro _ w ⟨rfl, hX⟩
 replace hL := hL.ext0 hX
 replace hE := hE.step0 hX
 refine ⟨_, rfl, ?_⟩
 refine as' rfl rfl rfl rfl ?_
 refine l_nil ?_
 refine c_ret ?_
 exact ⟨rfl, hE⟩
end Go.Proofs.YtndophlnapjkhaaGreatDoor.Vc
namespace Go.Proofs.YtndophlnapjkhaaGreatDoor.Vc
open Go Go.RowKit
set_option linter.unusedVariables false
set_option linter.unusedSimpArgs false
abbrev fxR (Ag : Option Addr) (n cg : Nat) (lv : Value) : Obj := .cells #[.slice Ag n cg, lv] 68 (0, 0)
abbrev FR (xb B : Nat) (Ag : Option Addr) (n cg : Nat) (lv : Value) (fv : List FV) : List Res := [.blk xb (fxR Ag n cg lv), .row B 43 3 lv fv.length (fv.map fcell).flatten]
def FSR (xb : Nat) (lv : Value) : Nat → Prop := fun k => k = xb ∨ lv.ownBlock = some k
theorem FSR.res {xb B n cg : Nat} {Ag : Option Addr} {lv : Value} {fv : List FV} {k : Nat} (h : FSR xb lv k) : ∃ r ∈ FR xb B Ag n cg lv fv, r.foot = some k := by
 rcases h with rfl | h
 ·exact ⟨_, List.mem_cons_self, rfl⟩
 ·exact ⟨_, List.mem_cons_of_mem _ List.mem_cons_self, h⟩
def FindResR (w0 : World) (xb B : Nat) (Ag : Option Addr) (cg : Nat) (g : List GNode) (fv : List FV) (lv : Value) (r : Int × List Fact) (en : Ending) (w' : World) : Prop :=
 en = .returned (.int .i64 r.1) ∧ ∃ (lv' : Value) (news : List FV), r.2 = (fv ++ news).map (·.1) ∧ Has w' (FR xb B Ag g.length cg lv' (fv ++ news) ++ news.map (fres 3 B)) ∧ Ext (FSR xb lv) w0 w' ∧ (∀ x ∈ news, ∀ b, x.2.ownBlock = some b → w0.heap.size ≤ b) ∧ (∀ b, lv'.ownBlock = some b → lv.ownBlock = some b ∨ w0.heap.size ≤ b)
def FindCR (wB : World) (xb pb : Nat) (Ag : Option Addr) (cg : Nat) (g : List GNode) (k : Nat) : Prop :=
 ∀ (w0 : World) (p : Int × Int) (fv : List FV) (lv : Value), Ext0 wB w0 → Has w0 (FR xb wB.heap.size Ag g.length cg lv fv) → GoodL g (fv.map (·.1)) → InG g.length p → mayX g false p = true → g.length * g.length + 1 ≤ k + fv.length →
  Calls Tryz.prog 32 [.pointer (some ⟨xb, 0, none⟩), .agg #[.int .i64 p.1, .int .i64 p.2], .pointer (some ⟨pb, 0, none⟩)].toArray w0 (FindResR w0 xb wB.heap.size Ag cg g fv lv (findF g k p (fv.map (·.1))))
theorem fr_foot {w : World} {xb B n cg ie B' : Nat} {Ag : Option Addr} {lv lv' : Value} {fv fv' news : List FV} (hn : ∀ x ∈ news, ∀ b, x.2.ownBlock = some b → w.heap.size ≤ b) (hl : ∀ b, lv'.ownBlock = some b → lv.ownBlock = some b ∨ w.heap.size ≤ b) : ∀ r ∈ FR xb B Ag n cg lv' fv' ++ news.map (fres ie B'), ∀ b, r.foot = some b → (∃ q ∈ FR xb B Ag n cg lv fv, q.foot = some b) ∨ w.heap.size ≤ b := by
 intro r hr b hb
 rcases List.mem_append.1 hr with hr | hr
 ·rcases List.mem_cons.1 hr with rfl | hr
  ·exact .inl ⟨_, List.mem_cons_self, hb⟩
  rw [List.mem_singleton] at hr
  subst hr
  rcases hl b hb with h | h
  ·exact .inl ⟨_, List.mem_cons_of_mem _ List.mem_cons_self, h⟩
  ·exact .inr h
 ·obtain ⟨x, hx, rfl⟩ := List.mem_map.1 hr
  exact .inr (hn x hx b hb)
theorem at_of {w0 : World} {xb B : Nat} {Ag Al : Option Addr} {n cg n' cl : Nat} {fv : List FV} (hL : Has w0 (FR xb B Ag n cg (.slice Al n' cl) fv)) : w0.cell? ⟨xb, 1, none⟩ = some (.slice Al fv.length cl) ∧ Sl w0 3 RFV Al fv.length cl fv := by
 obtain ⟨h1, h2⟩ := fv_sl (hL.row 1 rfl)
 subst h2
 exact ⟨by rw [blk_cell (hL.get 0 rfl)]; rfl, h1⟩
theorem find_someR (wB : World) (xb pb : Nat) (Ag : Option Addr) (cg : Nat) (g : List GNode) (k : Nat) (w0 : World) (p : Int × Int) (fv : List FV) (lv : Value) (i : Nat) (ha : atP p 0 (fv.map (·.1)) = some i) (hL : Has w0 (FR xb wB.heap.size Ag g.length cg lv fv)) :
    Calls Tryz.prog 32 [.pointer (some ⟨xb, 0, none⟩), .agg #[.int .i64 p.1, .int .i64 p.2], .pointer (some ⟨pb, 0, none⟩)].toArray w0 (FindResR w0 xb wB.heap.size Ag cg g fv lv (findF g (k + 1) p (fv.map (·.1)))) := by
 have hE : Ext (FSR xb lv) w0 w0 := Ext.refl _ _
 obtain ⟨Al, cl, rfl⟩ := ownsRow_slice (hL.row 1 rfl)
 rw [findF_some ha]
 refine calls [6] Tryz.func32 rfl rfl rfl rfl ?_
 refine c_seq ?_
 refine c_ops ?_
 refine l_new rfl rfl rfl (n_box rfl hL hE) ?_
 rintro _ w ⟨b4, rfl, hb4, hL, hE, hX⟩
 refine as' rfl rfl rfl rfl ?_
 refine l_nil ?_
 refine c_seq ?_
 refine c_seq ?_
 refine c_ops ?_
 refine mv' rfl rfl rfl rfl ?_
 refine l_val rfl rfl rfl (r_load_agg (vs := cells2 p) rfl Tryz.isAgg32 Tryz.sizeOf32 rfl (blk_raw (cs := #[.int .i64 p.1, .int .i64 p.2]) (hL.get 0 rfl) rfl)) ?_
 refine l_by rfl rfl rfl (r_call rfl rfl Tryz.func56 rfl rfl) (at_rcalls _ xb Al cl fv (at_of (hL.sub (.cons _ (.refl _)))).1 (at_of (hL.sub (.cons _ (.refl _)))).2 p) ?_
 rintro _ w ⟨hen, hX⟩
 rw [ha] at hen
 subst hen
 replace hL := hL.ext0 hX
 replace hE := hE.step0 hX
 refine ⟨_, rfl, ?_⟩
 refine as' rfl rfl rfl rfl ?_
 refine l_nil ?_
 refine c_seq ?_
 refine c_ops ?_
 refine mv' rfl rfl rfl rfl ?_
 refine l_val rfl rfl rfl (r_geq rfl rfl rfl) ?_
 refine l_nil ?_
 refine c_cond rfl (fun hb => ?_) (fun hb => ?_)
 ·have hr19 := hb
  replace hb := of_decide_eq_true hb
  refine c_seq ?_
  refine c_ops ?_
  refine mv' rfl rfl rfl rfl ?_
  refine as' rfl rfl rfl rfl ?_
  refine l_nil ?_
  refine c_ret ?_
  exact ⟨rfl, _, [], by simp, by simpa using hL.tail, hE, fun x hx => by simp at hx, fun b hb => .inl hb⟩
 ·have hr19 := hb
  replace hb := of_decide_eq_false hb
  simp only [idxV] at hb; omega
set_option maxHeartbeats 16000000 in
theorem find_noneR (wB : World) (xb pb : Nat) (hxB : wB.heap.size ≤ xb) (Ag : Option Addr) (cg : Nat) (g : List GNode) (Ai : Option Addr) (ci : Nat) (hG : Grid wB pb Ag g.length cg false Ai ci (mayX g false)) (hg : Nodes wB Ag cg g) (hok : GraphOk g) (hn : g.length ≤ 16) (k : Nat) (IH : FindCR wB xb pb Ag cg g k)
    (w0 : World) (p : Int × Int) (fv : List FV) (lv : Value) (hB : Ext0 wB w0) (ha : atP p 0 (fv.map (·.1)) = none) (hL : Has w0 (FR xb wB.heap.size Ag g.length cg lv fv)) (hgood : GoodL g (fv.map (·.1))) (hp : InG g.length p) (hm : mayX g false p = true) (hk : g.length * g.length + 1 ≤ k + 1 + fv.length) :
    Calls Tryz.prog 32 [.pointer (some ⟨xb, 0, none⟩), .agg #[.int .i64 p.1, .int .i64 p.2], .pointer (some ⟨pb, 0, none⟩)].toArray w0 (FindResR w0 xb wB.heap.size Ag cg g fv lv (findF g (k + 1) p (fv.map (·.1)))) := by
 have hE : Ext (FSR xb lv) w0 w0 := Ext.refl _ _
 have hXB : ∀ {W : World}, Ext (FSR xb lv) w0 W → Ext0 wB W := fun h => hB.step h (fun j hj hs => by
  rcases hs with rfl | hs
  ·omega
  ·have := (ownsRow_lt (hL.row 1 rfl) hs).2
   omega)
 have hnn : g.length * g.length ≤ 256 := Nat.le_trans (Nat.mul_le_mul hn hn) (by decide)
 have hnp := (atP_none (p := p) (fv.map (·.1)) 0).1 ha
 have hflt : fv.length < g.length * g.length := by simpa using hgood.lt hnp hp
 have hfnd := found_p hok hp hm
 have hg1 : GoodL g (fv.map (·.1) ++ [firstP g p]) := hgood.snoc hnp hp
 have hall := fun (n : Nat) => (all_is (F := findF g k) (N := fv.length + 1) ((onP g p).take n) (fv.map (·.1) ++ [firstP g p]) (fun q hq l' hl' hgl => one_is hok k q l' hgl (hfnd.inn q (List.mem_of_mem_take hq)).1 (hfnd.inn q (List.mem_of_mem_take hq)).2 (by omega)) (by simp) hg1).out
 rw [findF_none ha, List.length_map]
 have hsz : wB.heap.size ≤ w0.heap.size := hB.size
 obtain ⟨Ak, ck, Al0, cl0, hnd, _, _⟩ := hg.node p.1 hp.1 hp.2.1
 obtain ⟨Al, cl, rfl⟩ := ownsRow_slice (hL.row 1 rfl)
 refine calls [6] Tryz.func32 rfl rfl rfl rfl ?_
 refine c_seq ?_
 refine c_ops ?_
 refine l_new rfl rfl rfl (n_box rfl hL hE) ?_
 rintro _ w ⟨b4, rfl, hb4, hL, hE, hX⟩
 refine as' rfl rfl rfl rfl ?_
 refine l_nil ?_
 refine c_seq ?_
 refine c_seq ?_
 refine c_ops ?_
 refine mv' rfl rfl rfl rfl ?_
 refine l_val rfl rfl rfl (r_load_agg (vs := cells2 p) rfl Tryz.isAgg32 Tryz.sizeOf32 rfl (blk_raw (cs := #[.int .i64 p.1, .int .i64 p.2]) (hL.get 0 rfl) rfl)) ?_
 refine l_by rfl rfl rfl (r_call rfl rfl Tryz.func56 rfl rfl) (at_rcalls _ xb Al cl fv (at_of (hL.sub (.cons _ (.refl _)))).1 (at_of (hL.sub (.cons _ (.refl _)))).2 p) ?_
 rintro _ w ⟨hen, hX⟩
 rw [ha] at hen
 subst hen
 replace hL := hL.ext0 hX
 replace hE := hE.step0 hX
 refine ⟨_, rfl, ?_⟩
 refine as' rfl rfl rfl rfl ?_
 refine l_nil ?_
 refine c_seq ?_
 refine c_ops ?_
 refine mv' rfl rfl rfl rfl ?_
 refine l_val rfl rfl rfl (r_geq rfl rfl rfl) ?_
 refine l_nil ?_
 refine c_cond rfl (fun hb => ?_) (fun hb => ?_)
 ·have hr19 := hb
  replace hb := of_decide_eq_true hb
  simp only [idxV] at hb; omega
 ·have hr19 := hb
  replace hb := of_decide_eq_false hb
  refine c_skip ?_
  refine c_seq ?_
  refine c_ops ?_
  refine mv' rfl rfl rfl rfl ?_
  refine l_val rfl rfl rfl (r_nilCheck rfl rfl) ?_
  refine l_val rfl rfl rfl (r_fieldAddr (n := 0) rfl Tryz.underlying68 rfl Tryz.sizeOf25 rfl) ?_
  refine l_val rfl rfl rfl (r_load_blk rfl Tryz.isAgg25 rfl (hL.get 1 rfl) rfl) ?_
  refine l_val rfl rfl rfl (r_len rfl Tryz.underlying25 rfl) ?_
  refine as' rfl rfl rfl rfl ?_
  refine l_nil ?_
  refine c_seq ?_
  refine c_seq ?_
  refine c_ops ?_
  refine mv' rfl rfl rfl rfl ?_
  refine l_val rfl rfl rfl (r_gtr rfl rfl rfl) ?_
  refine l_nil ?_
  refine c_cond rfl (fun hb => ?_) (fun hb => ?_)
  ·have hr27 := hb
   replace hb := of_decide_eq_true hb
   omega
  ·have hr27 := hb
   replace hb := of_decide_eq_false hb
   refine c_skip ?_
   refine c_seq ?_
   refine c_ops ?_
   refine l_val rfl rfl rfl (r_indexAddr_arr rfl Tryz.underlying32 Tryz.sizeOf3 rfl rfl (by decide) (by decide)) ?_
   refine l_val rfl rfl rfl (r_load (v := .int .i64 p.1) rfl Tryz.isAgg3 rfl (blk_raw (cs := #[.int .i64 p.1, .int .i64 p.2]) (hL.get 0 rfl) rfl 0 _ rfl)) ?_
   refine l_val rfl rfl rfl (r_indexAddr_arr rfl Tryz.underlying32 Tryz.sizeOf3 rfl rfl (by decide) (by decide)) ?_
   refine l_val rfl rfl rfl (r_load (v := .int .i64 p.2) rfl Tryz.isAgg3 rfl (blk_raw (cs := #[.int .i64 p.1, .int .i64 p.2]) (hL.get 0 rfl) rfl 1 _ rfl)) ?_
   refine l_val rfl rfl rfl (r_build rfl rfl (built_fact0 _ _)) ?_
   refine l_new rfl rfl rfl (n_alloc rfl Tryz.zeroValue43 hL hE) ?_
   rintro _ w ⟨b9, rfl, hb9, hL, hE, hX⟩
   refine l_new_do rfl rfl (r_store 0 rfl Tryz.sizeOf43 rfl hL hE rfl rfl rfl rfl (fun h => absurd h (Nat.not_lt.2 hb9))) ?_
   rintro w ⟨hL, hE, hz, hk⟩
   refine l_nil ?_
   refine c_merge [34, 35, 36, 37, 38, 39, 40, 41, 42, 43, 44, 45, 46, 47, 48, 49, 50, 51, 52] (fun e w => ∃ wv, (∀ b, wv.ownBlock = some b → w0.heap.size ≤ b) ∧ Has w [.row wB.heap.size 3 1 wv (firstP g p).why.length ((firstP g p).why.map (Value.int .i64)), .blk b9 (.cells #[.int .i64 p.1, .int .i64 p.2, wv] 43 (0, 0)), .blk b4 (.cells #[.int .i64 p.1, .int .i64 p.2] 32 (0, 0)), .blk xb (fxR Ag g.length cg (Value.slice Al fv.length cl)), .row wB.heap.size 43 3 (Value.slice Al fv.length cl) (fv).length ((fv).map fcell).flatten] ∧ Ext (FSR xb (.slice Al fv.length cl)) w0 w) ?_ ?_
   ·refine c_seq ?_
    refine c_draw mixed (hL) hE ?_
    replace hL := hL.drew
    replace hE := hE.drew
    have hK := hL
    refine h_t 0 rfl rfl (by kernel_rfl) (fun _ _ _ h => h) ⟨hK, hE⟩ rfl (fun W hW => r_move rfl) ?_
    refine h_t 1 rfl rfl (by kernel_rfl) (fun _ _ _ h => h) ⟨hK, hE⟩ rfl (fun W hW => r_nilCheck rfl rfl) ?_
    refine h_t 2 rfl rfl (by kernel_rfl) (fun _ _ _ h => h) ⟨hK, hE⟩ rfl (fun W hW => r_fieldAddr (n := 0) rfl Tryz.underlying68 rfl Tryz.sizeOf22 rfl) ?_
    refine h_t 3 rfl rfl (by kernel_rfl) (fun _ _ _ h => h) ⟨hK, hE⟩ rfl (fun W hW => r_load_blk rfl Tryz.isAgg22 rfl (hW.1.get 2 rfl) rfl) ?_
    refine h_t 4 rfl rfl (by kernel_rfl) (fun _ _ _ h => h) ⟨hK, hE⟩ rfl (fun W hW => r_indexAddr_arr rfl Tryz.underlying32 Tryz.sizeOf3 rfl rfl (by decide) (by decide)) ?_
    refine h_t 5 rfl rfl (by kernel_rfl) (fun _ _ _ h => h) ⟨hK, hE⟩ rfl (fun W hW => r_load (v := .int .i64 p.1) rfl Tryz.isAgg3 rfl (blk_raw (cs := #[.int .i64 p.1, .int .i64 p.2]) (hW.1.get 1 rfl) rfl 0 _ rfl)) ?_
    refine h_t 6 rfl rfl (by kernel_rfl) (fun _ _ _ h => h) ⟨hK, hE⟩ rfl (fun W hW => r_indexAddr_sl rfl Tryz.underlying22 Tryz.sizeOf46 rfl hg.is rfl hp.1 hp.2.1) ?_
    refine h_t 7 rfl rfl (by kernel_rfl) (fun _ _ _ h => h) ⟨hK, hE⟩ rfl (fun W hW => r_fieldAddr (n := 0) rfl Tryz.underlying46 rfl Tryz.sizeOf3 rfl) ?_
    refine h_t 8 rfl rfl (by kernel_rfl) (fun _ _ _ h => h) ⟨hK, hE⟩ rfl (fun W hW => r_load rfl Tryz.isAgg3 rfl (Ext0.cells (hXB hW.2) _ _ (hnd 0 _ rfl))) ?_
    refine h_t 9 rfl rfl (by kernel_rfl) (fun _ _ _ h => h) ⟨hK, hE⟩ rfl (fun W hW => r_neq rfl rfl rfl) ?_
    refine h_done (by kernel_rfl) ?_
    refine c_cond rfl (fun hb => ?_) (fun hb => ?_)
    ·have hr43 := hb
     replace hb := of_decide_eq_false (by simpa using hb)
     refine c_draw mixed (hL.sub (.cons _ (.cons_cons _ (.cons_cons _ (.cons_cons _ .slnil))))) hE ?_
     replace hL := hL.drew
     replace hE := hE.drew
     have hK := hL.sub (.cons _ (.cons_cons _ (.cons_cons _ (.cons_cons _ .slnil))))
     refine h_t 0 rfl rfl (by kernel_rfl) (fun _ _ _ h => h) ⟨hK, hE⟩ rfl (fun W hW => r_move rfl) ?_
     refine h_t 1 rfl rfl (by kernel_rfl) (fun _ _ _ h => h) ⟨hK, hE⟩ rfl (fun W hW => r_move rfl) ?_
     refine h_t 2 rfl rfl (by kernel_rfl) (fun _ _ _ h => h) ⟨hK, hE⟩ rfl (fun W hW => r_nilCheck rfl rfl) ?_
     refine h_t 3 rfl rfl (by kernel_rfl) (fun _ _ _ h => h) ⟨hK, hE⟩ rfl (fun W hW => r_fieldAddr (n := 0) rfl Tryz.underlying68 rfl Tryz.sizeOf22 rfl) ?_
     refine h_t 4 rfl rfl (by kernel_rfl) (fun _ _ _ h => h) ⟨hK, hE⟩ rfl (fun W hW => r_load_blk rfl Tryz.isAgg22 rfl (hW.1.get 1 rfl) rfl) ?_
     refine h_t 5 rfl rfl (by kernel_rfl) (fun _ _ _ h => h) ⟨hK, hE⟩ rfl (fun W hW => r_load_agg (vs := cells2 p) rfl Tryz.isAgg32 Tryz.sizeOf32 rfl (blk_raw (cs := #[.int .i64 p.1, .int .i64 p.2]) (hW.1.get 0 rfl) rfl)) ?_
     refine h_by 6 rfl rfl (by kernel_rfl) rfl (r_call rfl rfl Tryz.func57 rfl rfl) (pick12_rcalls _ pb Ag cg g Ai ci (hG.keep (Ext0.cells (hXB hE))) (hg.keep RNode.kept (Ext0.cells (hXB hE))) hok _ p hp hb) ?_
     rintro _ w ⟨rfl, hX⟩
     replace hL := hL.ext0 hX
     replace hE := hE.step0 hX
     have hK := hL.sub (.cons _ (.cons_cons _ (.cons_cons _ (.cons_cons _ .slnil))))
     refine ⟨_, rfl, ⟨hK, hE⟩, ?_⟩
     refine h_new 7 rfl rfl (by kernel_rfl) rfl (n_slice rfl Tryz.underlying26 Tryz.sizeOf3 Tryz.zeroValue3 rfl rfl (fill_int1 _) hL hE) ?_
     rintro _ w ⟨s51, rfl, hs51, hL, hE, hX⟩
     have hK := hL.sub (.cons _ (.cons _ (.cons_cons _ (.cons_cons _ (.cons_cons _ .slnil)))))
     refine ⟨⟨hK, hE⟩, ?_⟩
     refine h_t 8 rfl rfl (by kernel_rfl) (fun _ _ _ h => h) ⟨hK, hE⟩ rfl (fun W hW => r_fieldAddr (n := 0) rfl Tryz.underlying43 rfl Tryz.sizeOf26 rfl) ?_
     refine h_new_do 9 rfl rfl (by kernel_rfl) rfl (r_store 1 rfl Tryz.sizeOf26 rfl hL hE rfl rfl rfl rfl (fun h => absurd h (Nat.not_lt.2 hb9))) ?_
     rintro w ⟨hL, hE, hz, hk⟩
     have hK := hL.sub (.cons _ (.cons _ (.cons_cons _ (.cons_cons _ (.cons_cons _ .slnil)))))
     refine ⟨⟨hK, hE⟩, ?_⟩
     refine h_done (by kernel_rfl) ?_
     refine ag' ?_
     first
      | exact ⟨.slice (some ⟨s51, 0, none⟩) 1 1, fun b hb => (by injection hb with hb; rw [← hb]; exact hs51), by rw [firstP_no hb]; exact Has.asRow (n := 1) hL (Nat.le_trans hsz hs51) rfl (by decide), hE⟩
      | exact ⟨.slice none 0 0, fun b hb => (by cases hb), by rw [firstP_8 hb]; exact hL.nilRow _ _ _, hE⟩
    ·have hr43 := hb
     replace hb := of_decide_eq_true (by simpa using hb)
     refine c_skip ?_
     refine ag' ?_
     first
      | exact ⟨.slice (some ⟨s51, 0, none⟩) 1 1, fun b hb => (by injection hb with hb; rw [← hb]; exact hs51), by rw [firstP_no hb]; exact Has.asRow (n := 1) hL (Nat.le_trans hsz hs51) rfl (by decide), hE⟩
      | exact ⟨.slice none 0 0, fun b hb => (by cases hb), by rw [firstP_8 hb]; exact hL.nilRow _ _ _, hE⟩
   rintro e w hI
   obtain ⟨wv0, hwv0, hL, hE⟩ := hI
   obtain ⟨Aw, cw, rfl⟩ := ownsRow_slice (hL.row 0 rfl)
   refine c_merge [53, 54, 55, 56, 57, 58, 59, 60, 61, 62] (fun e w => ∃ A1 c1, (∀ b, (Value.slice A1 (fv.length + 1) c1).ownBlock = some b → (Value.slice Al fv.length cl).ownBlock = some b ∨ w0.heap.size ≤ b) ∧ Has w [.row wB.heap.size 3 1 (Value.slice Aw (firstP g p).why.length cw) (firstP g p).why.length ((firstP g p).why.map (Value.int .i64)), .blk b9 (.cells #[.int .i64 p.1, .int .i64 p.2, (Value.slice Aw (firstP g p).why.length cw)] 43 (0, 0)), .blk b4 (.cells #[.int .i64 p.1, .int .i64 p.2] 32 (0, 0)), .blk xb (fxR Ag g.length cg (Value.slice A1 (fv.length + 1) c1)), .row wB.heap.size 43 3 (Value.slice A1 (fv.length + 1) c1) ((fv ++ [(firstP g p, (Value.slice Aw (firstP g p).why.length cw))])).length (((fv ++ [(firstP g p, (Value.slice Aw (firstP g p).why.length cw))])).map fcell).flatten] ∧ Ext (FSR xb (.slice Al fv.length cl)) w0 w) ?_ ?_
   ·skip
    refine c_draw mixed (hL.sub (.cons_cons _ (.cons_cons _ (.cons_cons _ (.cons _ (.cons _ .slnil)))))) hE ?_
    replace hL := hL.drew
    replace hE := hE.drew
    have hK := hL.sub (.cons_cons _ (.cons_cons _ (.cons_cons _ (.cons _ (.cons _ .slnil)))))
    refine h_t 0 rfl rfl (by kernel_rfl) (fun _ _ _ h => h) ⟨hK, hE⟩ rfl (fun W hW => r_move rfl) ?_
    refine h_t 1 rfl rfl (by kernel_rfl) (fun _ _ _ h => h) ⟨hK, hE⟩ rfl (fun W hW => r_move rfl) ?_
    refine h_t 2 rfl rfl (by kernel_rfl) (fun _ _ _ h => h) ⟨hK, hE⟩ rfl (fun W hW => r_nilCheck rfl rfl) ?_
    refine h_t 3 rfl rfl (by kernel_rfl) (fun _ _ _ h => h) ⟨hK, hE⟩ rfl (fun W hW => r_fieldAddr (n := 0) rfl Tryz.underlying68 rfl Tryz.sizeOf25 rfl) ?_
    refine h_t 5 rfl rfl (by kernel_rfl) (fun _ _ _ h => h) ⟨hK, hE⟩ rfl (fun W hW => r_load_agg (vs := [.int .i64 p.1, .int .i64 p.2, (Value.slice Aw (firstP g p).why.length cw)]) rfl Tryz.isAgg43 Tryz.sizeOf43 rfl (blk_raw (cs := #[.int .i64 p.1, .int .i64 p.2, (Value.slice Aw (firstP g p).why.length cw)]) (hW.1.get 1 rfl) rfl)) ?_
    refine h_many [4, 6] (by kernel_rfl) ⟨?_, ?_, trivial⟩
    ·refine o_val 4 rfl rfl rfl rfl (r_load_blk rfl Tryz.isAgg25 rfl (hL.get 3 rfl) rfl) ⟨hK, hE⟩ ?_
     refine h_new 6 rfl rfl (by kernel_rfl) rfl (n_slice (cells := #[.int .i64 p.1, .int .i64 p.2, (Value.slice Aw (firstP g p).why.length cw)]) rfl Tryz.underlying25 Tryz.sizeOf43 Tryz.zeroValue43 rfl rfl (fill_fact _ _ _) hL hE) ?_
     rintro _ w ⟨s59, rfl, hs59, hL, hE, hX⟩
     have hK := hL.sub (.cons _ (.cons_cons _ (.cons_cons _ (.cons_cons _ (.cons _ (.cons _ .slnil))))))
     refine ⟨⟨hK, hE⟩, ?_⟩
     have hE75 := hE.size
     refine h_new 7 rfl rfl (by kernel_rfl) rfl (r_append_own (ys := fcell (firstP g p, (Value.slice Aw (firstP g p).why.length cw))) 5 rfl Tryz.underlying25 info_fact rfl (by decide) rfl rfl hL hE rfl rfl (blk_raw (cs := #[.int .i64 p.1, .int .i64 p.2, (Value.slice Aw (firstP g p).why.length cw)]) (hL.get 0 rfl) rfl) (fun u hu => by simp [fcell] at hu; rcases hu with rfl | rfl | rfl <;> rfl) (by omega) (by omega) (fun b hb _ => .inr hb) (hXB hE).size) ?_
     rintro _ w ⟨hL, hE, hlv1, hlv2⟩
     obtain ⟨A1, c1, rfl⟩ := ownsRow_slice (hL.row 5 rfl)
     replace hL : Has w [.blk s59 (.cells #[.int .i64 p.1, .int .i64 p.2, (Value.slice Aw (firstP g p).why.length cw)] 43 (0, 0)), .row wB.heap.size 3 1 (Value.slice Aw (firstP g p).why.length cw) (firstP g p).why.length ((firstP g p).why.map (Value.int .i64)), .blk b9 (.cells #[.int .i64 p.1, .int .i64 p.2, (Value.slice Aw (firstP g p).why.length cw)] 43 (0, 0)), .blk b4 (.cells #[.int .i64 p.1, .int .i64 p.2] 32 (0, 0)), .blk xb (fxR Ag g.length cg (Value.slice Al fv.length cl)), .row wB.heap.size 43 3 (Value.slice A1 (fv.length + 1) c1) ((fv ++ [(firstP g p, (Value.slice Aw (firstP g p).why.length cw))])).length (((fv ++ [(firstP g p, (Value.slice Aw (firstP g p).why.length cw))])).map fcell).flatten] := by rw [← fcells_snoc, List.length_append]; exact hL
     have hK := hL.sub (.cons _ (.cons_cons _ (.cons_cons _ (.cons_cons _ (.cons _ (.cons _ .slnil))))))
     refine ⟨⟨hK, hE⟩, ?_⟩
     refine h_t 8 rfl rfl (by kernel_rfl) (fun _ _ _ h => h) ⟨hK, hE⟩ rfl (fun W hW => r_nilCheck rfl rfl) ?_
     refine h_t 9 rfl rfl (by kernel_rfl) (fun _ _ _ h => h) ⟨hK, hE⟩ rfl (fun W hW => r_fieldAddr (n := 0) rfl Tryz.underlying68 rfl Tryz.sizeOf25 rfl) ?_
     refine h_new_do 10 rfl rfl (by kernel_rfl) rfl (r_store 4 rfl Tryz.sizeOf25 rfl hL hE rfl rfl rfl rfl (fun _ => .inl rfl)) ?_
     rintro w ⟨hL, hE, hz, hk⟩
     have hK := hL.sub (.cons _ (.cons_cons _ (.cons_cons _ (.cons_cons _ (.cons _ (.cons _ .slnil))))))
     refine ⟨⟨hK, hE⟩, ?_⟩
     refine h_done (by kernel_rfl) ?_
     refine ag' ?_
     exact ⟨A1, c1, fun b hb => (hlv2 b hb).imp id (Nat.le_trans hE75), hL.tail, hE⟩
    ·refine o_new 6 rfl rfl rfl rfl (n_slice (cells := #[.int .i64 p.1, .int .i64 p.2, (Value.slice Aw (firstP g p).why.length cw)]) rfl Tryz.underlying25 Tryz.sizeOf43 Tryz.zeroValue43 rfl rfl (fill_fact _ _ _) hL hE) ?_
     rintro _ w ⟨s59, rfl, hs59, hL, hE, hX⟩
     have hK := hL.sub (.cons _ (.cons_cons _ (.cons_cons _ (.cons_cons _ (.cons _ (.cons _ .slnil))))))
     refine ⟨⟨hK, hE⟩, ?_⟩
     refine h_one 4 rfl rfl (by kernel_rfl) rfl (r_load_blk rfl Tryz.isAgg25 rfl (hL.get 4 rfl) rfl) ⟨hK, hE⟩ ?_
     have hE75 := hE.size
     refine h_new 7 rfl rfl (by kernel_rfl) rfl (r_append_own (ys := fcell (firstP g p, (Value.slice Aw (firstP g p).why.length cw))) 5 rfl Tryz.underlying25 info_fact rfl (by decide) rfl rfl hL hE rfl rfl (blk_raw (cs := #[.int .i64 p.1, .int .i64 p.2, (Value.slice Aw (firstP g p).why.length cw)]) (hL.get 0 rfl) rfl) (fun u hu => by simp [fcell] at hu; rcases hu with rfl | rfl | rfl <;> rfl) (by omega) (by omega) (fun b hb _ => .inr hb) (hXB hE).size) ?_
     rintro _ w ⟨hL, hE, hlv1, hlv2⟩
     obtain ⟨A1, c1, rfl⟩ := ownsRow_slice (hL.row 5 rfl)
     replace hL : Has w [.blk s59 (.cells #[.int .i64 p.1, .int .i64 p.2, (Value.slice Aw (firstP g p).why.length cw)] 43 (0, 0)), .row wB.heap.size 3 1 (Value.slice Aw (firstP g p).why.length cw) (firstP g p).why.length ((firstP g p).why.map (Value.int .i64)), .blk b9 (.cells #[.int .i64 p.1, .int .i64 p.2, (Value.slice Aw (firstP g p).why.length cw)] 43 (0, 0)), .blk b4 (.cells #[.int .i64 p.1, .int .i64 p.2] 32 (0, 0)), .blk xb (fxR Ag g.length cg (Value.slice Al fv.length cl)), .row wB.heap.size 43 3 (Value.slice A1 (fv.length + 1) c1) ((fv ++ [(firstP g p, (Value.slice Aw (firstP g p).why.length cw))])).length (((fv ++ [(firstP g p, (Value.slice Aw (firstP g p).why.length cw))])).map fcell).flatten] := by rw [← fcells_snoc, List.length_append]; exact hL
     have hK := hL.sub (.cons _ (.cons_cons _ (.cons_cons _ (.cons_cons _ (.cons _ (.cons _ .slnil))))))
     refine ⟨⟨hK, hE⟩, ?_⟩
     refine h_t 8 rfl rfl (by kernel_rfl) (fun _ _ _ h => h) ⟨hK, hE⟩ rfl (fun W hW => r_nilCheck rfl rfl) ?_
     refine h_t 9 rfl rfl (by kernel_rfl) (fun _ _ _ h => h) ⟨hK, hE⟩ rfl (fun W hW => r_fieldAddr (n := 0) rfl Tryz.underlying68 rfl Tryz.sizeOf25 rfl) ?_
     refine h_new_do 10 rfl rfl (by kernel_rfl) rfl (r_store 4 rfl Tryz.sizeOf25 rfl hL hE rfl rfl rfl rfl (fun _ => .inl rfl)) ?_
     rintro w ⟨hL, hE, hz, hk⟩
     have hK := hL.sub (.cons _ (.cons_cons _ (.cons_cons _ (.cons_cons _ (.cons _ (.cons _ .slnil))))))
     refine ⟨⟨hK, hE⟩, ?_⟩
     refine h_done (by kernel_rfl) ?_
     refine ag' ?_
     exact ⟨A1, c1, fun b hb => (hlv2 b hb).imp id (Nat.le_trans hE75), hL.tail, hE⟩
   rintro e w hI
   obtain ⟨A1, c1, hlv1, hL, hE⟩ := hI
   refine c_seq ?_
   refine c_draw mixed (hL) hE ?_
   replace hL := hL.drew
   replace hE := hE.drew
   have hK := hL
   refine h_t 0 rfl rfl (by kernel_rfl) (fun _ _ _ h => h) ⟨hK, hE⟩ rfl (fun W hW => r_move rfl) ?_
   refine h_t 1 rfl rfl (by kernel_rfl) (fun _ _ _ h => h) ⟨hK, hE⟩ rfl (fun W hW => r_nilCheck rfl rfl) ?_
   refine h_t 2 rfl rfl (by kernel_rfl) (fun _ _ _ h => h) ⟨hK, hE⟩ rfl (fun W hW => r_fieldAddr (n := 0) rfl Tryz.underlying68 rfl Tryz.sizeOf22 rfl) ?_
   refine h_t 3 rfl rfl (by kernel_rfl) (fun _ _ _ h => h) ⟨hK, hE⟩ rfl (fun W hW => r_load_blk rfl Tryz.isAgg22 rfl (hW.1.get 3 rfl) rfl) ?_
   refine h_t 4 rfl rfl (by kernel_rfl) (fun _ _ _ h => h) ⟨hK, hE⟩ rfl (fun W hW => r_load_agg (vs := [.int .i64 p.1, .int .i64 p.2, (Value.slice Aw (firstP g p).why.length cw)]) rfl Tryz.isAgg43 Tryz.sizeOf43 rfl (blk_raw (cs := #[.int .i64 p.1, .int .i64 p.2, (Value.slice Aw (firstP g p).why.length cw)]) (hW.1.get 1 rfl) rfl)) ?_
   refine h_by 5 rfl rfl (by kernel_rfl) rfl (r_call rfl rfl Tryz.func58 rfl rfl) (next_rcalls _ Ag cg g (hg.keep RNode.kept (Ext0.cells (hXB hE))) hok (firstP g p) Aw cw (Sl.ints_at (hL.row 0 rfl)) hfnd.ok) ?_
   rintro _ w ⟨v9, rfl, hrow9, hX⟩
   obtain ⟨A9, c9, rfl⟩ := ownsRow_slice hrow9
   replace hL := hL.cons hX (r := .row wB.heap.size 32 2 (.slice A9 (byF g (firstP g p)).1.length c9) (byF g (firstP g p)).1.length ((byF g (firstP g p)).1.map cells2).flatten) (ownsRow_base hrow9 (hXB hE).size) (fun b hb => (ownsRow_lt hrow9 hb).2)
   replace hE := hE.step0 hX
   have hK := hL.sub (.cons _ (.cons_cons _ (.cons_cons _ (.cons_cons _ (.cons_cons _ (.cons_cons _ .slnil))))))
   refine ⟨_, rfl, ⟨hK, hE⟩, ?_⟩
   refine h_t 6 rfl rfl (by kernel_rfl) (fun _ _ _ h => h) ⟨hK, hE⟩ rfl (fun W hW => r_move rfl) ?_
   refine h_t 7 rfl rfl (by kernel_rfl) (fun _ _ _ h => h) ⟨hK, hE⟩ rfl (fun W hW => r_extract rfl rfl rfl) ?_
   refine h_t 8 rfl rfl (by kernel_rfl) (fun _ _ _ h => h) ⟨hK, hE⟩ rfl (fun W hW => r_extract rfl rfl rfl) ?_
   refine h_t 9 rfl rfl (by kernel_rfl) (fun _ _ _ h => h) ⟨hK, hE⟩ rfl (fun W hW => r_assign rfl) ?_
   refine h_t 10 rfl rfl (by kernel_rfl) (fun _ _ _ h => h) ⟨hK, hE⟩ rfl (fun W hW => r_assign rfl) ?_
   refine h_done (by kernel_rfl) ?_
   refine c_seq ?_
   refine c_ops ?_
   refine l_val rfl rfl rfl (r_fieldAddr (n := 0) rfl Tryz.underlying43 rfl Tryz.sizeOf26 rfl) ?_
   refine l_val rfl rfl rfl (r_load_blk rfl Tryz.isAgg26 rfl (hL.get 2 rfl) rfl) ?_
   refine as' rfl rfl rfl rfl ?_
   refine l_nil ?_
   refine c_seq ?_
   refine c_seq ?_
   refine c_ops ?_
   refine as' rfl rfl rfl rfl ?_
   refine l_nil ?_
   refine c_block ?_
   refine c_loop0 (fun m1 e w => (e 0 = .pointer (some ⟨xb, 0, none⟩) ∧ e 2 = .pointer (some ⟨pb, 0, none⟩) ∧ e 8 = .int .i64 (fv.length : Nat) ∧ e 9 = .pointer (some ⟨b9, 0, none⟩) ∧ e 10 = .slice A9 (onP g p).length c9) ∧ ∃ (n : Nat) (ws ys : List Int) (wv lv' : Value) (news : List FV), n ≤ (onP g p).length ∧ m1 = (onP g p).length - n ∧ e 13 = .int .i64 n ∧ e 12 = wv ∧ findsF (findF g k) ((onP g p).take n) (fv.map (·.1) ++ [firstP g p]) = (ws, ((fv ++ [(firstP g p, (Value.slice Aw (firstP g p).why.length cw))]) ++ news).map (·.1)) ∧ ys = (firstP g p).why ++ ws ∧ (∀ b, wv.ownBlock = some b → w0.heap.size ≤ b) ∧ (∀ x ∈ news, ∀ b, x.2.ownBlock = some b → w0.heap.size ≤ b) ∧ (∀ b, lv'.ownBlock = some b → (Value.slice Al fv.length cl).ownBlock = some b ∨ w0.heap.size ≤ b) ∧ Has w (.row wB.heap.size 32 2 (.slice A9 (onP g p).length c9) (onP g p).length ((onP g p).map cells2).flatten :: .row wB.heap.size 3 1 wv ys.length (ys.map (Value.int .i64)) :: .blk b9 (.cells #[.int .i64 p.1, .int .i64 p.2, (Value.slice Aw (firstP g p).why.length cw)] 43 (0, 0)) :: .blk b4 (.cells #[.int .i64 p.1, .int .i64 p.2] 32 (0, 0)) :: .blk xb (fxR Ag g.length cg lv') :: .row wB.heap.size 43 3 lv' ((fv ++ [(firstP g p, (Value.slice Aw (firstP g p).why.length cw))]) ++ news).length (((fv ++ [(firstP g p, (Value.slice Aw (firstP g p).why.length cw))]) ++ news).map fcell).flatten :: news.map (fres 3 wB.heap.size)) ∧ Ext (FSR xb (.slice Al fv.length cl)) w0 w) (onP g p).length ?_ ?_
   ·exact ⟨⟨rfl, rfl, rfl, rfl, rfl⟩, 0, [], (firstP g p).why, _, _, [], Nat.zero_le _, rfl, rfl, rfl, by simp [findsF], by simp, hwv0, fun x hx => by simp at hx, hlv1, by rw [List.append_nil]; exact hL, hE⟩
   rintro m1 e w ⟨⟨hq0, hq2, hq8, hq9, hq10⟩, hI⟩
   refine c_know (t := 0) (by exact hq0) ?_
   refine c_know (t := 2) (by exact hq2) ?_
   refine c_know (t := 8) (by exact hq8) ?_
   refine c_know (t := 9) (by exact hq9) ?_
   refine c_know (t := 10) (by exact hq10) ?_
   clear hq0 hq2 hq8 hq9 hq10
   obtain ⟨n, ws, ys, wv, lv', news, hnl, hmn, h13, h12, hfn, hys, hwv, hnw, hlv', hL, hE⟩ := hI
   refine c_know (t := 13) (by exact h13) ?_
   refine c_know (t := 12) (by exact h12) ?_
   obtain ⟨news0, e0, hgo, hlen0, hat0, _, _⟩ := hall n
   refine c_seq ?_
   refine c_seq ?_
   refine c_ops ?_
   refine mv' rfl rfl rfl rfl ?_
   refine mv' rfl rfl rfl rfl ?_
   refine l_val rfl rfl rfl (r_len rfl Tryz.underlying23 rfl) ?_
   refine l_val rfl rfl rfl (r_lss rfl rfl rfl) ?_
   refine l_nil ?_
   refine c_cond rfl (fun hb => ?_) (fun hb => ?_)
   ·have hr77 := hb
    replace hb := of_decide_eq_true hb
    replace hb : (n : Int) < ((onP g p).length : Int) := hb
    have hnn2 : n < (onP g p).length := by omega
    obtain ⟨q, hqd⟩ : ∃ q, q = (onP g p).getD (n : Int).toNat (0, 0) := ⟨_, rfl⟩
    have hqn : (onP g p)[n]? = some q := by rw [hqd]; exact pat_nat hnn2
    have hqi := hfnd.inn q (List.mem_of_getElem? hqn)
    rw [hfn] at hgo hlen0
    have hwl : ws.length = n := by rw [hlen0, List.length_take]; omega
    have hlenn : ((fv ++ [(firstP g p, (Value.slice Aw (firstP g p).why.length cw))]) ++ news).length = fv.length + 1 + news.length := by simp; omega
    have hgl : ((fv ++ [(firstP g p, (Value.slice Aw (firstP g p).why.length cw))]) ++ news).length ≤ g.length * g.length := by have := hgo.le; simpa using this
    have honm := (Sl.pairs_at (hL.row 0 rfl)).max
    have hyl : ys.length ≤ 1 + n := by rw [hys, List.length_append, hwl]; have := why_le g p; omega
    have honl := on_le hok hp hm
    refine c_skip ?_
    refine c_seq ?_
    refine c_block ?_
    refine c_ops ?_
    refine mv' rfl rfl rfl rfl ?_
    refine mv' rfl rfl rfl rfl ?_
    refine mv' rfl rfl rfl rfl ?_
    refine mv' rfl rfl rfl rfl ?_
    refine l_val rfl rfl rfl (r_indexAddr_sl rfl Tryz.underlying23 Tryz.sizeOf32 rfl (Sl.pairs_at (hL.row 0 rfl)).is rfl (by omega) hb) ?_
    refine l_val rfl rfl rfl (r_load_agg (vs := cells2 q) rfl Tryz.isAgg32 Tryz.sizeOf32 rfl (by rw [hqd]; exact (Sl.pairs_at (hL.row 0 rfl)).pair n (by omega) (by omega))) ?_
    refine mv' rfl rfl rfl rfl ?_
    refine l_by rfl rfl rfl (r_call rfl rfl Tryz.func32 rfl rfl) (IH _ q ((fv ++ [(firstP g p, (Value.slice Aw (firstP g p).why.length cw))]) ++ news) lv' (hXB hE) (hL.sub (.cons _ (.cons _ (.cons _ (.cons _ (.cons_cons _ (.cons_cons _ (List.nil_sublist _))))))) ) hgo hqi.1 hqi.2 (by omega)) ?_
    rintro _ w ⟨hen, lv2, news2, hr2, hL2, hX, hnw2, hlv2'⟩
    have hX0 := hE.size
    obtain ⟨r1, hr1⟩ : ∃ r1, r1 = (findF g k q (((fv ++ [(firstP g p, (Value.slice Aw (firstP g p).why.length cw))]) ++ news).map (·.1))).1 := ⟨_, rfl⟩
    rw [← hr1] at hen
    subst hen
    replace hL : Has w (.row wB.heap.size 32 2 (.slice A9 (onP g p).length c9) (onP g p).length ((onP g p).map cells2).flatten :: .row wB.heap.size 3 1 wv ys.length (ys.map (Value.int .i64)) :: .blk b9 (.cells #[.int .i64 p.1, .int .i64 p.2, (Value.slice Aw (firstP g p).why.length cw)] 43 (0, 0)) :: .blk b4 (.cells #[.int .i64 p.1, .int .i64 p.2] 32 (0, 0)) :: .blk xb (fxR Ag g.length cg lv2) :: .row wB.heap.size 43 3 lv2 ((fv ++ [(firstP g p, (Value.slice Aw (firstP g p).why.length cw))]) ++ news ++ news2).length (((fv ++ [(firstP g p, (Value.slice Aw (firstP g p).why.length cw))]) ++ news ++ news2).map fcell).flatten :: (news.map (fres 3 wB.heap.size) ++ news2.map (fres 3 wB.heap.size))) := Has.callX (A := [_, _, _, _]) (X := FR xb wB.heap.size Ag g.length cg lv' ((fv ++ [(firstP g p, (Value.slice Aw (firstP g p).why.length cw))]) ++ news)) hL hX hL2 (fun b hb => FSR.res hb) (fr_foot hnw2 hlv2')
    replace hE := hE.step hX (fun b hlt hs => hs.elim .inl fun h => (hlv' b h).elim (fun h => .inr h) (fun h => absurd hlt (Nat.not_lt.2 h)))
    refine ⟨_, rfl, ?_⟩
    refine l_new rfl rfl rfl (n_slice (cells := #[.int .i64 r1]) rfl Tryz.underlying26 Tryz.sizeOf3 Tryz.zeroValue3 rfl rfl (fill_int1 _) hL hE) ?_
    rintro _ w ⟨s88, rfl, hs88, hL, hE, hX⟩
    have hE99 := hE.size
    refine l_new rfl rfl rfl (r_append_own (ys := [.int .i64 r1]) 2 rfl Tryz.underlying26 info_int rfl (by decide) rfl rfl hL hE rfl rfl (blk_raw (cs := #[.int .i64 r1]) (hL.get 0 rfl) rfl) (fun u hu => by rw [List.mem_singleton] at hu; rw [hu]; rfl) (by omega) (by omega) (fun b hb hlt => absurd hlt (Nat.not_lt.2 (hwv b hb))) (hXB hE).size) ?_
    rintro _ w ⟨hL, hE, hwv1, hwv2⟩
    obtain ⟨A4, c4, rfl⟩ := ownsRow_slice (hL.row 2 rfl)
    replace hL : Has w (.blk s88 (.cells #[.int .i64 r1] 3 (0, 0)) :: .row wB.heap.size 32 2 (.slice A9 (onP g p).length c9) (onP g p).length ((onP g p).map cells2).flatten :: .row wB.heap.size 3 1 (.slice A4 (ys.length + 1) c4) (ys ++ [r1]).length ((ys ++ [r1]).map (Value.int .i64)) :: .blk b9 (.cells #[.int .i64 p.1, .int .i64 p.2, (Value.slice Aw (firstP g p).why.length cw)] 43 (0, 0)) :: .blk b4 (.cells #[.int .i64 p.1, .int .i64 p.2] 32 (0, 0)) :: .blk xb (fxR Ag g.length cg lv2) :: .row wB.heap.size 43 3 lv2 ((fv ++ [(firstP g p, (Value.slice Aw (firstP g p).why.length cw))]) ++ (news ++ news2)).length (((fv ++ [(firstP g p, (Value.slice Aw (firstP g p).why.length cw))]) ++ (news ++ news2)).map fcell).flatten :: (news ++ news2).map (fres 3 wB.heap.size)) := by rw [← res_snoc, List.map_append (f := fres 3 wB.heap.size), ← List.append_assoc (fv ++ [(firstP g p, (Value.slice Aw (firstP g p).why.length cw))])]; exact hL
    refine as' rfl rfl rfl rfl ?_
    refine l_nil ?_
    refine c_ops ?_
    refine mv' rfl rfl rfl rfl ?_
    refine l_val rfl rfl rfl (r_add rfl rfl rfl) ?_
    refine as' rfl rfl rfl rfl ?_
    refine l_nil ?_
    refine ⟨(onP g p).length - (n + 1), by omega, ⟨rfl, rfl, rfl, rfl, rfl⟩, n + 1, ws ++ [r1], ys ++ [r1], .slice A4 (ys.length + 1) c4, lv2, news ++ news2, by omega, rfl, by show Value.int .i64 (IntKind.i64.wrap ((n : Int) + 1)) = _; rw [wrap_succ hnn2 honm], rfl, ?_, by rw [hys, List.append_assoc], fun b hb => (hwv2 b hb).elim (hwv b) (Nat.le_trans hE99), fun x hx b hb => (List.mem_append.1 hx).elim (fun h => hnw x h b hb) (fun h => Nat.le_trans hX0 (hnw2 x h b hb)), fun b hb => (hlv2' b hb).elim (hlv' b) (fun h => .inr (Nat.le_trans hX0 h)), hL.tail, hE⟩
    rw [take_snoc hqn, findsF_snoc, hfn, hr1]
    exact Prod.ext rfl (hr2.trans (by rw [List.append_assoc]))
   ·have hr77 := hb
    replace hb := of_decide_eq_false hb
    replace hb : ¬ (n : Int) < ((onP g p).length : Int) := hb
    obtain rfl : n = (onP g p).length := by omega
    rw [List.take_length] at hfn
    subst hys
    have h1wv := one_row (hL.row 1 rfl)
    obtain ⟨Awv, cwv, rfl⟩ := ownsRow_slice (hL.row 1 rfl)
    obtain ⟨gb, cap, rfl⟩ := row_pos (hL.row 5 rfl) (Nat.lt_of_le_of_lt (Nat.zero_le _) (fv_lt _ _ _))
    refine c_exit ?_
    refine c_seq ?_
    refine c_ops ?_
    refine mv' rfl rfl rfl rfl ?_
    refine l_val rfl rfl rfl (r_fieldAddr (n := 0) rfl Tryz.underlying43 rfl Tryz.sizeOf26 rfl) ?_
    refine l_new_do rfl rfl (r_store 2 rfl Tryz.sizeOf26 rfl hL hE rfl rfl rfl rfl (fun h => absurd h (Nat.not_lt.2 hb9))) ?_
    rintro w ⟨hL, hE, hz, hk⟩
    refine l_nil ?_
    refine c_seq ?_
    refine c_seq ?_
    refine c_ops ?_
    refine mv' rfl rfl rfl rfl ?_
    refine mv' rfl rfl rfl rfl ?_
    refine l_val rfl rfl rfl (r_nilCheck rfl rfl) ?_
    refine l_val rfl rfl rfl (r_fieldAddr (n := 0) rfl Tryz.underlying68 rfl Tryz.sizeOf25 rfl) ?_
    refine l_val rfl rfl rfl (r_load_blk rfl Tryz.isAgg25 rfl (hL.get 4 rfl) rfl) ?_
    refine l_val rfl rfl rfl (r_len rfl Tryz.underlying25 rfl) ?_
    refine l_val rfl rfl rfl (r_lss rfl rfl rfl) ?_
    refine l_nil ?_
    refine c_cond rfl (fun hb => ?_) (fun hb => ?_)
    ·have hr98 := hb
     replace hb := of_decide_eq_true hb
     refine c_seq ?_
     refine c_ops ?_
     refine mv' rfl rfl rfl rfl ?_
     refine l_val rfl rfl rfl (r_nilCheck rfl rfl) ?_
     refine l_val rfl rfl rfl (r_fieldAddr (n := 0) rfl Tryz.underlying68 rfl Tryz.sizeOf25 rfl) ?_
     refine l_val rfl rfl rfl (r_load_blk rfl Tryz.isAgg25 rfl (hL.get 4 rfl) rfl) ?_
     refine as' rfl rfl rfl rfl ?_
     refine l_nil ?_
     refine c_ops ?_
     refine mv' rfl rfl rfl rfl ?_
     refine mv' rfl rfl rfl rfl ?_
     refine l_val rfl rfl rfl (r_load_agg (vs := [.int .i64 p.1, .int .i64 p.2, (Value.slice Awv ((firstP g p).why ++ ws).length cwv)]) rfl Tryz.isAgg43 Tryz.sizeOf43 rfl (blk_raw (cs := #[.int .i64 p.1, .int .i64 p.2, (Value.slice Awv ((firstP g p).why ++ ws).length cwv)]) (hL.get 2 rfl) rfl)) ?_
     refine l_val rfl rfl rfl (r_indexAddr_row rfl Tryz.underlying25 Tryz.sizeOf43 rfl rfl (fv_lt _ _ _)) ?_
     refine l_new_do rfl rfl (r_setRow (vs := [.int .i64 p.1, .int .i64 p.2, (Value.slice Awv ((firstP g p).why ++ ws).length cwv)]) (k := fv.length) 5 rfl Tryz.sizeOf43 rfl rfl rfl (all3 h1wv) hL hE rfl (fv_lt _ _ _) (fun hlt => (hlv' _ rfl).elim (fun h => .inr h) (fun h => absurd hlt (Nat.not_lt.2 h)))) ?_
     rintro w ⟨hL, hE, hz, hk⟩
     refine l_nil ?_
     refine c_seq ?_
     refine c_ops ?_
     refine mv' rfl rfl rfl rfl ?_
     refine as' rfl rfl rfl rfl ?_
     refine l_nil ?_
     refine c_ret ?_
     have hset := fcells_set ((fv ++ [(firstP g p, (Value.slice Aw (firstP g p).why.length cw))]) ++ news) fv.length (doneP g p ws, (Value.slice Awv ((firstP g p).why ++ ws).length cwv)) (fv_lt _ _ _)
     rw [fv_set] at hset
     replace hL : Has w (.row wB.heap.size 32 2 (.slice A9 (onP g p).length c9) (onP g p).length ((onP g p).map cells2).flatten :: .row wB.heap.size 3 1 (Value.slice Awv ((firstP g p).why ++ ws).length cwv) ((firstP g p).why ++ ws).length (((firstP g p).why ++ ws).map (Value.int .i64)) :: .blk b9 (.cells #[.int .i64 p.1, .int .i64 p.2, (Value.slice Awv ((firstP g p).why ++ ws).length cwv)] 43 (0, 0)) :: .blk b4 (.cells #[.int .i64 p.1, .int .i64 p.2] 32 (0, 0)) :: .blk xb (fxR Ag g.length cg (.slice (some ⟨gb, 0, none⟩) ((fv ++ [(firstP g p, (Value.slice Aw (firstP g p).why.length cw))]) ++ news).length cap)) :: .row wB.heap.size 43 3 (.slice (some ⟨gb, 0, none⟩) ((fv ++ [(firstP g p, (Value.slice Aw (firstP g p).why.length cw))]) ++ news).length cap) (fv ++ (doneP g p ws, (Value.slice Awv ((firstP g p).why ++ ws).length cwv)) :: news).length ((fv ++ (doneP g p ws, (Value.slice Awv ((firstP g p).why ++ ws).length cwv)) :: news).map fcell).flatten :: news.map (fres 3 wB.heap.size)) := by rw [← hset, show (fv ++ (doneP g p ws, (Value.slice Awv ((firstP g p).why ++ ws).length cwv)) :: news).length = ((fv ++ [(firstP g p, (Value.slice Aw (firstP g p).why.length cw))]) ++ news).length from by simp]; exact hL
     refine ⟨rfl, _, (doneP g p ws, (Value.slice Awv ((firstP g p).why ++ ws).length cwv)) :: news, ?_, Has.perm ((List.perm_append_comm (l₁ := [_]) (l₂ := [_, _])).append_right _) (hL.sub (.cons _ (.cons_cons _ (.cons _ (.cons _ (.refl _)))))), hE, ?_, hlv'⟩
     ·rw [hfn]; exact fv_set1 _ _ _ _ _ _
     ·intro x hx b hb
      rcases List.mem_cons.1 hx with rfl | hx
      ·exact hwv b hb
      ·exact hnw x hx b hb
    ·have hr98 := hb
     replace hb := of_decide_eq_false hb
     exact absurd (fv_lt fv news (firstP g p, (Value.slice Aw (firstP g p).why.length cw))) (by omega)
theorem find_rcalls (wB : World) (xb pb : Nat) (hxB : wB.heap.size ≤ xb) (Ag : Option Addr) (cg : Nat) (g : List GNode) (Ai : Option Addr) (ci : Nat) (hG : Grid wB pb Ag g.length cg false Ai ci (mayX g false)) (hg : Nodes wB Ag cg g) (hok : GraphOk g) (hn : g.length ≤ 16) : ∀ k, FindCR wB xb pb Ag cg g k
 | 0 => fun w0 p fv lv hB hL hgood hp hm hk => by
  have := hgood.le
  rw [List.length_map] at this
  omega
 | k + 1 => fun w0 p fv lv hB hL hgood hp hm hk => by
  cases ha : atP p 0 (fv.map (·.1)) with
  | some i => exact find_someR wB xb pb Ag cg g k w0 p fv lv i ha hL
  | none => exact find_noneR wB xb pb hxB Ag cg g Ai ci hG hg hok hn k (find_rcalls wB xb pb hxB Ag cg g Ai ci hG hg hok hn k) w0 p fv lv hB ha hL hgood hp hm hk
end Go.Proofs.YtndophlnapjkhaaGreatDoor.Vc
namespace Go.Proofs.YtndophlnapjkhaaGreatDoor.Vc
open Go Go.RowKit
set_option linter.unusedVariables false
set_option linter.unusedSimpArgs false
def qat (q : Int × Int) (k : Nat) : Int := if k = 0 then q.1 else q.2
theorem inB_of {g : List GNode} {q : Int × Int} (h1 : placeB g.length q.1 = true) (h2 : placeB g.length q.2 = true) : inB g q = true := by unfold inB; rw [h1, h2]; rfl
theorem inB_not {g : List GNode} {q : Int × Int} {k : Nat} (hk : k < 2) (h : ¬ (0 ≤ qat q k ∧ qat q k < g.length)) : inB g q = false := by
 unfold inB placeB qat at *
 match k, hk with
 | 0, _ =>
  have h' : ¬ (0 ≤ q.1 ∧ q.1 < g.length) := by simpa using h
  have : (decide (0 ≤ q.1) && decide (q.1 < (g.length : Int))) = false := by rw [← Bool.decide_and]; exact decide_eq_false h'
  rw [this]; rfl
 | 1, _ =>
  have h' : ¬ (0 ≤ q.2 ∧ q.2 < g.length) := by simpa using h
  have : (decide (0 ≤ q.2) && decide (q.2 < (g.length : Int))) = false := by rw [← Bool.decide_and]; exact decide_eq_false h'
  rw [this, Bool.and_false]
theorem place_qat {n : Nat} {q : Int × Int} {k : Nat} (h : 0 ≤ qat q k ∧ qat q k < n) : (k = 0 → placeB n q.1 = true) ∧ (k = 1 → placeB n q.2 = true) := by
 unfold qat placeB at *
 constructor
 ·rintro rfl
  have h' : 0 ≤ q.1 ∧ q.1 < n := by simpa using h
  simp [h'.1, h'.2]
 ·rintro rfl
  have h' : 0 ≤ q.2 ∧ q.2 < n := by simpa using h
  simp [h'.1, h'.2]
theorem built_fr (A : Option Addr) (n c : Nat) : Tryz.prog.built 68 [(0, .slice A n c)] = some #[.slice A n c, .slice none 0 0] := by kernel_rfl
set_option maxHeartbeats 8000000 in
theorem rFind_calls (w0 : World) (Ag : Option Addr) (cg : Nat) (g : List GNode) (hg : Nodes w0 Ag cg g) (hfit : Fits g) (hn : g.length ≤ 16) (Ap : Option Addr) (cp : Nat) (ps : FP) (hp : PairsAt w0 Ap cp ps) (hps : ps.length ≤ 1000000) :
    Calls Tryz.prog 8 [.slice Ag g.length cg, .slice Ap ps.length cp].toArray w0 (FindOut w0 g ps) := by
 have hE : Ext0 w0 w0 := Ext.refl _ _
 have hL : Has w0 [] := trivial
 have hnn : g.length * g.length ≤ 256 := Nat.le_trans (Nat.mul_le_mul hn hn) (by decide)
 have hpm := hp.max
 refine calls [4, 5, 6] Tryz.func8 rfl rfl rfl rfl ?_
 refine c_seq ?_
 refine c_ops ?_
 refine as' rfl rfl rfl rfl ?_
 refine as' rfl rfl rfl rfl ?_
 refine as' rfl rfl rfl rfl ?_
 refine l_nil ?_
 refine c_seq ?_
 refine c_seq ?_
 refine c_ops ?_
 refine mv' rfl rfl rfl rfl ?_
 refine l_by rfl rfl rfl (r_call rfl rfl Tryz.func30 rfl rfl) (rCheck_calls _ Ag cg g hg hfit (by omega)) ?_
 rintro _ w ⟨rfl, hX⟩
 replace hE := hE.trans hX
 refine ⟨_, rfl, ?_⟩
 refine as' rfl rfl rfl rfl ?_
 refine l_nil ?_
 refine c_seq ?_
 refine c_ops ?_
 refine mv' rfl rfl rfl rfl ?_
 refine l_val rfl rfl rfl (r_neq rfl rfl rfl) ?_
 refine l_nil ?_
 refine c_cond rfl (fun hb => ?_) (fun hb => ?_)
 ·have hr18 := hb
  replace hb := of_decide_eq_false (by simpa using hb)
  have hck : ¬ checkG g = 0 := hb
  refine c_seq ?_
  refine c_ops ?_
  refine mv' rfl rfl rfl rfl ?_
  refine as' rfl rfl rfl rfl ?_
  refine as' rfl rfl rfl rfl ?_
  refine as' rfl rfl rfl rfl ?_
  refine l_nil ?_
  refine c_ret ?_
  exact FindOut.no hck (err_check hck) rfl hE
 ·have hr18 := hb
  replace hb := of_decide_eq_true (by simpa using hb)
  have hck : checkG g = 0 := hb
  obtain ⟨hok, _⟩ := ok_of hfit hck
  refine c_skip ?_
  refine c_seq ?_
  refine c_seq ?_
  refine c_ops ?_
  refine as' rfl rfl rfl rfl ?_
  refine l_nil ?_
  refine c_block ?_
  refine c_loop0 (fun m1 e w => (e 0 = .slice Ag g.length cg ∧ e 1 = .slice Ap ps.length cp) ∧ ∃ (n : Nat), n ≤ ps.length ∧ m1 = ps.length - n ∧ e 8 = .int .i64 (n : Nat) ∧ (ps.take n).all (inB g) = true ∧ Ext0 w0 w) (ps.length) ?_ ?_
  ·exact ⟨⟨rfl, rfl⟩, 0, Nat.zero_le _, rfl, rfl, by simp, hE⟩
  rintro m1 e w ⟨⟨hq0, hq1⟩, hI⟩
  refine c_know (t := 0) (by exact hq0) ?_
  refine c_know (t := 1) (by exact hq1) ?_
  clear hq0 hq1
  obtain ⟨n, hnl, hnm, h8s, hin, hE⟩ := hI
  refine c_know (t := 8) (by exact h8s) ?_
  have hL : Has w [] := trivial
  refine c_seq ?_
  refine c_seq ?_
  refine c_ops ?_
  refine mv' rfl rfl rfl rfl ?_
  refine mv' rfl rfl rfl rfl ?_
  refine l_val rfl rfl rfl (r_len rfl Tryz.underlying23 rfl) ?_
  refine l_val rfl rfl rfl (r_lss rfl rfl rfl) ?_
  refine l_nil ?_
  refine c_cond rfl (fun hb => ?_) (fun hb => ?_)
  ·have hr23 := hb
   replace hb := of_decide_eq_true hb
   have hnlt : n < ps.length := by omega
   obtain ⟨q, hqd⟩ : ∃ q, q = ps.getD (n : Int).toNat (0, 0) := ⟨_, rfl⟩
   have hqn : ps[n]? = some q := by rw [hqd]; exact pat_nat hnlt
   have hqc := hp.pair n (by omega) (by omega)
   rw [← hqd] at hqc
   refine c_skip ?_
   refine c_seq ?_
   refine c_block ?_
   refine c_seq ?_
   refine c_ops ?_
   refine as' rfl rfl rfl rfl ?_
   refine l_nil ?_
   refine c_block ?_
   refine c_loop0 (fun m1 e w => (e 0 = .slice Ag g.length cg ∧ e 1 = .slice Ap ps.length cp ∧ e 8 = .int .i64 (n : Nat)) ∧ ∃ (k : Nat), k ≤ 2 ∧ m1 = 2 - k ∧ e 9 = .int .i64 (k : Nat) ∧ (0 < k → placeB g.length q.1 = true) ∧ (1 < k → placeB g.length q.2 = true) ∧ Ext0 w0 w) (2) ?_ ?_
   ·exact ⟨⟨rfl, rfl, rfl⟩, 0, Nat.zero_le _, rfl, rfl, (fun h => absurd h (by decide)), (fun h => absurd h (by decide)), hE⟩
   rintro m1 e w ⟨⟨hq0, hq1, hq8⟩, hI⟩
   refine c_know (t := 0) (by exact hq0) ?_
   refine c_know (t := 1) (by exact hq1) ?_
   refine c_know (t := 8) (by exact hq8) ?_
   clear hq0 hq1 hq8
   obtain ⟨k, hkl, hkm, h9s, hk0, hk1, hE⟩ := hI
   refine c_know (t := 9) (by exact h9s) ?_
   have hL : Has w [] := trivial
   refine c_seq ?_
   refine c_seq ?_
   refine c_ops ?_
   refine mv' rfl rfl rfl rfl ?_
   refine l_val rfl rfl rfl (r_lss rfl rfl rfl) ?_
   refine l_nil ?_
   refine c_cond rfl (fun hb => ?_) (fun hb => ?_)
   ·have hr27 := hb
    replace hb := of_decide_eq_true hb
    have hklt : k < 2 := by omega
    have hqk : w0.cell? (((adr Ap).add ((n : Int).toNat * 2)).add ((k : Int).toNat * 1)) = some (.int .i64 (qat q k)) := by match k, hklt with | 0, _ => exact hqc 0 _ rfl | 1, _ => exact hqc 1 _ rfl
    refine c_skip ?_
    refine c_seq ?_
    refine c_block ?_
    refine c_seq ?_
    refine c_ops ?_
    refine mv' rfl rfl rfl rfl ?_
    refine mv' rfl rfl rfl rfl ?_
    refine mv' rfl rfl rfl rfl ?_
    refine l_val rfl rfl rfl (r_indexAddr_sl rfl Tryz.underlying23 Tryz.sizeOf32 rfl hp.is rfl (by omega) (by omega)) ?_
    refine l_val rfl rfl rfl (r_indexAddr_arr rfl Tryz.underlying32 Tryz.sizeOf3 rfl rfl (by omega) (by omega)) ?_
    refine l_val rfl rfl rfl (r_load (v := .int .i64 (qat q k)) rfl Tryz.isAgg3 rfl (Ext0.cells hE _ _ hqk)) ?_
    refine l_val rfl rfl rfl (r_lss rfl rfl rfl) ?_
    refine mv' rfl rfl rfl rfl ?_
    refine l_case 37 rfl (fun hb => ?_) (fun hb => ?_)
    ·have hr37 := hb
     replace hb := of_decide_eq_true hb
     have hbad : inB g q = false := inB_not hklt (by omega)
     refine l_not rfl rfl rfl ?_
     refine l_not rfl rfl rfl ?_
     refine l_not rfl rfl rfl ?_
     refine l_not rfl rfl rfl ?_
     refine l_not rfl rfl rfl ?_
     refine l_not rfl rfl rfl ?_
     refine l_not rfl rfl rfl ?_
     refine l_not rfl rfl rfl ?_
     refine l_not rfl rfl rfl ?_
     refine l_val rfl rfl rfl (r_pick rfl rfl) ?_
     refine l_nil ?_
     refine c_yes rfl ?_
     refine c_seq ?_
     refine c_ops ?_
     refine as' rfl rfl rfl rfl ?_
     refine as' rfl rfl rfl rfl ?_
     refine as' rfl rfl rfl rfl ?_
     refine l_nil ?_
     refine c_ret ?_
     exact FindOut.no (by decide) (err_in hck (all_bad hqn hbad)) rfl hE
    ·have hr37 := hb
     replace hb := of_decide_eq_false hb
     refine mv' rfl rfl rfl rfl ?_
     refine mv' rfl rfl rfl rfl ?_
     refine mv' rfl rfl rfl rfl ?_
     refine l_val rfl rfl rfl (r_indexAddr_sl rfl Tryz.underlying23 Tryz.sizeOf32 rfl hp.is rfl (by omega) (by omega)) ?_
     refine l_val rfl rfl rfl (r_indexAddr_arr rfl Tryz.underlying32 Tryz.sizeOf3 rfl rfl (by omega) (by omega)) ?_
     refine l_val rfl rfl rfl (r_load (v := .int .i64 (qat q k)) rfl Tryz.isAgg3 rfl (Ext0.cells hE _ _ hqk)) ?_
     refine mv' rfl rfl rfl rfl ?_
     refine l_val rfl rfl rfl (r_len rfl Tryz.underlying22 rfl) ?_
     refine l_val rfl rfl rfl (r_geq rfl rfl rfl) ?_
     refine l_val rfl rfl rfl (r_pick rfl rfl) ?_
     refine l_nil ?_
     refine c_cond rfl (fun hb => ?_) (fun hb => ?_)
     ·have hr47 := hb
      replace hb := of_decide_eq_true hb
      have hbad : inB g q = false := inB_not hklt (by omega)
      refine c_seq ?_
      refine c_ops ?_
      refine as' rfl rfl rfl rfl ?_
      refine as' rfl rfl rfl rfl ?_
      refine as' rfl rfl rfl rfl ?_
      refine l_nil ?_
      refine c_ret ?_
      exact FindOut.no (by decide) (err_in hck (all_bad hqn hbad)) rfl hE
     ·have hr47 := hb
      replace hb := of_decide_eq_false hb
      have hpq := place_qat (n := g.length) (q := q) (k := k) (by have := of_decide_eq_false hr37; omega)
      have hk0' : 0 < k + 1 → placeB g.length q.1 = true := fun _ => by rcases Nat.eq_zero_or_pos k with h | h <;> first | exact hpq.1 h | exact hk0 h
      have hk1' : 1 < k + 1 → placeB g.length q.2 = true := fun h => hpq.2 (by omega)
      refine c_skip ?_
      refine c_ops ?_
      refine mv' rfl rfl rfl rfl ?_
      refine l_val rfl rfl rfl (r_add rfl rfl rfl) ?_
      refine as' rfl rfl rfl rfl ?_
      refine l_nil ?_
      exact ⟨2 - (k + 1), by omega, ⟨rfl, rfl, rfl⟩, k + 1, by omega, rfl, by show Value.int .i64 (IntKind.i64.wrap ((k : Int) + 1)) = _; rw [wrap_succ hklt (by decide : 2 ≤ 9223372036854775807)], hk0', hk1', hE⟩
   ·have hr27 := hb
    replace hb := of_decide_eq_false hb
    have hin2 := all_more hqn (inB_of (hk0 (by omega)) (hk1 (by omega))) hin
    refine c_exit ?_
    refine c_ops ?_
    refine mv' rfl rfl rfl rfl ?_
    refine l_val rfl rfl rfl (r_add rfl rfl rfl) ?_
    refine as' rfl rfl rfl rfl ?_
    refine l_nil ?_
    exact ⟨ps.length - (n + 1), by omega, ⟨rfl, rfl⟩, n + 1, by omega, rfl, by show Value.int .i64 (IntKind.i64.wrap ((n : Int) + 1)) = _; rw [wrap_succ hnlt hpm], hin2, hE⟩
  ·have hr23 := hb
   replace hb := of_decide_eq_false hb
   obtain rfl : n = ps.length := by omega
   rw [List.take_length] at hin
   refine c_exit ?_
   refine c_seq ?_
   refine c_ops ?_
   refine mv' rfl rfl rfl rfl ?_
   refine l_by rfl rfl rfl (r_call rfl rfl Tryz.func31 rfl rfl) (Of_rcalls _ Ag cg g (hg.keep RNode.kept (Ext0.cells hE)) hok (by omega) false) ?_
   rintro _ w ⟨pb, Ai, ci, rfl, hG, hX⟩
   replace hE := hE.trans hX
   replace hg := hg.keep RNode.kept (Ext0.cells hE)
   replace hp := hp.keep RPair.kept (Ext0.cells hE)
   obtain ⟨wB, hwB⟩ : ∃ x, x = w := ⟨_, rfl⟩
   rw [← hwB] at hG hg hp hE
   have hE0 : Ext0 w0 wB := hE
   replace hE : Ext0 wB w := hwB ▸ Ext.refl _ _
   have hL : Has w [] := trivial
   refine ⟨_, rfl, ?_⟩
   refine as' rfl rfl rfl rfl ?_
   refine l_nil ?_
   refine c_seq ?_
   refine c_seq ?_
   refine c_ops ?_
   refine as' rfl rfl rfl rfl ?_
   refine l_nil ?_
   refine c_block ?_
   refine c_loop0 (fun m1 e w => (e 0 = .slice Ag g.length cg ∧ e 1 = .slice Ap ps.length cp ∧ e 10 = .pointer (some ⟨pb, 0, none⟩)) ∧ ∃ (n : Nat), n ≤ ps.length ∧ m1 = ps.length - n ∧ e 11 = .int .i64 (n : Nat) ∧ (ps.take n).all (mayX g false) = true ∧ Ext0 wB w) (ps.length) ?_ ?_
   ·exact ⟨⟨rfl, rfl, rfl⟩, 0, Nat.zero_le _, rfl, rfl, by simp, hE⟩
   rintro m1 e w ⟨⟨hq0, hq1, hq10⟩, hI⟩
   refine c_know (t := 0) (by exact hq0) ?_
   refine c_know (t := 1) (by exact hq1) ?_
   refine c_know (t := 10) (by exact hq10) ?_
   clear hq0 hq1 hq10
   obtain ⟨n, hnl, hnm, h11s, hma, hE⟩ := hI
   refine c_know (t := 11) (by exact h11s) ?_
   have hL : Has w [] := trivial
   refine c_seq ?_
   refine c_seq ?_
   refine c_ops ?_
   refine mv' rfl rfl rfl rfl ?_
   refine mv' rfl rfl rfl rfl ?_
   refine l_val rfl rfl rfl (r_len rfl Tryz.underlying23 rfl) ?_
   refine l_val rfl rfl rfl (r_lss rfl rfl rfl) ?_
   refine l_nil ?_
   refine c_cond rfl (fun hb => ?_) (fun hb => ?_)
   ·have hr53 := hb
    replace hb := of_decide_eq_true hb
    have hnlt : n < ps.length := by omega
    obtain ⟨q, hqd⟩ : ∃ q, q = ps.getD (n : Int).toNat (0, 0) := ⟨_, rfl⟩
    have hqn : ps[n]? = some q := by rw [hqd]; exact pat_nat hnlt
    have hqc := hp.pair n (by omega) (by omega)
    rw [← hqd] at hqc
    have hqi : InG g.length q := inB_in (all_at hin (List.mem_of_getElem? hqn))
    obtain ⟨Ar, cr, hr0, hr1, hr2⟩ := hG.row q.1 hqi.1 hqi.2.1
    refine c_skip ?_
    refine c_seq ?_
    refine c_block ?_
    refine c_seq ?_
    refine c_draw mixed (hL) hE ?_
    replace hL := hL.drew
    replace hE := hE.drew
    have hK := hL
    refine h_t 0 rfl rfl (by kernel_rfl) (fun _ _ _ h => h) ⟨hK, hE⟩ rfl (fun W hW => r_move rfl) ?_
    refine h_listed (listed' := #[T',F',F',F',F',F',F',F',F',F',F',F',F',F',F',F',F',F',F']) (by kernel_rfl) ?_
    refine h_t 1 rfl rfl (by kernel_rfl) (fun _ _ _ h => h) ⟨hK, hE⟩ rfl (fun W hW => r_nilCheck rfl rfl) ?_
    refine h_listed (listed' := #[T',T',F',F',F',F',F',F',F',F',F',F',F',F',F',F',F',F',F']) (by kernel_rfl) ?_
    refine h_t 2 rfl rfl (by kernel_rfl) (fun _ _ _ h => h) ⟨hK, hE⟩ rfl (fun W hW => r_fieldAddr (n := 0) rfl Tryz.underlying65 rfl Tryz.sizeOf63 rfl) ?_
    refine h_listed (listed' := #[T',T',T',F',F',F',F',F',F',F',F',F',F',F',F',F',F',F',F']) (by kernel_rfl) ?_
    refine h_t 3 rfl rfl (by kernel_rfl) (fun _ _ _ h => h) ⟨hK, hE⟩ rfl (fun W hW => r_load rfl Tryz.isAgg63 rfl (Ext0.cells hW.2 _ _ hG.c2)) ?_
    refine h_listed (listed' := #[T',T',T',T',F',F',F',F',F',F',F',F',F',F',F',F',F',F',F']) (by kernel_rfl) ?_
    refine h_t 4 rfl rfl (by kernel_rfl) (fun _ _ _ h => h) ⟨hK, hE⟩ rfl (fun W hW => r_move rfl) ?_
    refine h_listed (listed' := #[T',T',T',T',T',F',F',F',F',F',F',F',F',F',F',F',F',F',F']) (by kernel_rfl) ?_
    refine h_t 5 rfl rfl (by kernel_rfl) (fun _ _ _ h => h) ⟨hK, hE⟩ rfl (fun W hW => r_move rfl) ?_
    refine h_listed (listed' := #[T',T',T',T',T',T',F',F',F',F',F',F',F',F',F',F',F',F',F']) (by kernel_rfl) ?_
    refine h_t 6 rfl rfl (by kernel_rfl) (fun _ _ _ h => h) ⟨hK, hE⟩ rfl (fun W hW => r_indexAddr_sl rfl Tryz.underlying23 Tryz.sizeOf32 rfl hp.is rfl (by omega) (by omega)) ?_
    refine h_listed (listed' := #[T',T',T',T',T',T',T',F',F',F',F',F',F',F',F',F',F',F',F']) (by kernel_rfl) ?_
    refine h_t 7 rfl rfl (by kernel_rfl) (fun _ _ _ h => h) ⟨hK, hE⟩ rfl (fun W hW => r_indexAddr_arr rfl Tryz.underlying32 Tryz.sizeOf3 rfl rfl (by decide) (by decide)) ?_
    refine h_listed (listed' := #[T',T',T',T',T',T',T',T',F',F',F',F',F',F',F',F',F',F',F']) (by kernel_rfl) ?_
    refine h_t 8 rfl rfl (by kernel_rfl) (fun _ _ _ h => h) ⟨hK, hE⟩ rfl (fun W hW => r_load (v := .int .i64 q.1) rfl Tryz.isAgg3 rfl (Ext0.cells hW.2 _ _ (hqc 0 _ rfl))) ?_
    refine h_listed (listed' := #[T',T',T',T',T',T',T',T',T',F',F',F',F',F',F',F',F',F',F']) (by kernel_rfl) ?_
    refine h_t 9 rfl rfl (by kernel_rfl) (fun _ _ _ h => h) ⟨hK, hE⟩ rfl (fun W hW => r_indexAddr_sl rfl Tryz.underlying63 Tryz.sizeOf62 rfl hG.is rfl hqi.1 hqi.2.1) ?_
    refine h_listed (listed' := #[T',T',T',T',T',T',T',T',T',T',F',F',F',F',F',F',F',F',F']) (by kernel_rfl) ?_
    refine h_t 10 rfl rfl (by kernel_rfl) (fun _ _ _ h => h) ⟨hK, hE⟩ rfl (fun W hW => r_load (v := .slice Ar g.length cr) rfl Tryz.isAgg62 rfl (Ext0.cells hW.2 _ _ hr0)) ?_
    refine h_listed (listed' := #[T',T',T',T',T',T',T',T',T',T',T',F',F',F',F',F',F',F',F']) (by kernel_rfl) ?_
    refine h_t 11 rfl rfl (by kernel_rfl) (fun _ _ _ h => h) ⟨hK, hE⟩ rfl (fun W hW => r_move rfl) ?_
    refine h_listed (listed' := #[T',T',T',T',T',T',T',T',T',T',T',T',F',F',F',F',F',F',F']) (by kernel_rfl) ?_
    refine h_t 12 rfl rfl (by kernel_rfl) (fun _ _ _ h => h) ⟨hK, hE⟩ rfl (fun W hW => r_move rfl) ?_
    refine h_listed (listed' := #[T',T',T',T',T',T',T',T',T',T',T',T',T',F',F',F',F',F',F']) (by kernel_rfl) ?_
    refine h_t 13 rfl rfl (by kernel_rfl) (fun _ _ _ h => h) ⟨hK, hE⟩ rfl (fun W hW => r_indexAddr_sl rfl Tryz.underlying23 Tryz.sizeOf32 rfl hp.is rfl (by omega) (by omega)) ?_
    refine h_listed (listed' := #[T',T',T',T',T',T',T',T',T',T',T',T',T',T',F',F',F',F',F']) (by kernel_rfl) ?_
    refine h_t 14 rfl rfl (by kernel_rfl) (fun _ _ _ h => h) ⟨hK, hE⟩ rfl (fun W hW => r_indexAddr_arr rfl Tryz.underlying32 Tryz.sizeOf3 rfl rfl (by decide) (by decide)) ?_
    refine h_listed (listed' := #[T',T',T',T',T',T',T',T',T',T',T',T',T',T',T',F',F',F',F']) (by kernel_rfl) ?_
    refine h_t 15 rfl rfl (by kernel_rfl) (fun _ _ _ h => h) ⟨hK, hE⟩ rfl (fun W hW => r_load (v := .int .i64 q.2) rfl Tryz.isAgg3 rfl (Ext0.cells hW.2 _ _ (hqc 1 _ rfl))) ?_
    refine h_listed (listed' := #[T',T',T',T',T',T',T',T',T',T',T',T',T',T',T',T',F',F',F']) (by kernel_rfl) ?_
    refine h_t 16 rfl rfl (by kernel_rfl) (fun _ _ _ h => h) ⟨hK, hE⟩ rfl (fun W hW => r_indexAddr_sl rfl Tryz.underlying62 Tryz.sizeOf4 rfl hr1 rfl hqi.2.2.1 hqi.2.2.2) ?_
    refine h_listed (listed' := #[T',T',T',T',T',T',T',T',T',T',T',T',T',T',T',T',T',F',F']) (by kernel_rfl) ?_
    refine h_t 17 rfl rfl (by kernel_rfl) (fun _ _ _ h => h) ⟨hK, hE⟩ rfl (fun W hW => r_load (v := .bool (mayX g false q)) rfl Tryz.isAgg4 rfl (Ext0.cells hW.2 _ _ (hr2 q.2 hqi.2.2.1 hqi.2.2.2))) ?_
    refine h_listed (listed' := #[T',T',T',T',T',T',T',T',T',T',T',T',T',T',T',T',T',T',F']) (by kernel_rfl) ?_
    refine h_t 18 rfl rfl (by kernel_rfl) (fun _ _ _ h => h) ⟨hK, hE⟩ rfl (fun W hW => r_not rfl rfl) ?_
    refine h_listed (listed' := #[T',T',T',T',T',T',T',T',T',T',T',T',T',T',T',T',T',T',T']) (by kernel_rfl) ?_
    refine h_done (by kernel_rfl) ?_
    refine c_cond rfl (fun hb => ?_) (fun hb => ?_)
    ·have hr74 := hb
     have hbad : mayX g false q = false := by simpa using hb
     refine c_seq ?_
     refine c_ops ?_
     refine as' rfl rfl rfl rfl ?_
     refine as' rfl rfl rfl rfl ?_
     refine as' rfl rfl rfl rfl ?_
     refine l_nil ?_
     refine c_ret ?_
     exact FindOut.no (by decide) (err_may hck hin (all_bad hqn hbad)) rfl (hE0.trans hE)
    ·have hr74 := hb
     have hgoodq : mayX g false q = true := by simpa using hb
     have hma2 := all_more hqn hgoodq hma
     refine c_skip ?_
     refine c_ops ?_
     refine mv' rfl rfl rfl rfl ?_
     refine l_val rfl rfl rfl (r_add rfl rfl rfl) ?_
     refine as' rfl rfl rfl rfl ?_
     refine l_nil ?_
     exact ⟨ps.length - (n + 1), by omega, ⟨rfl, rfl, rfl⟩, n + 1, by omega, rfl, by show Value.int .i64 (IntKind.i64.wrap ((n : Int) + 1)) = _; rw [wrap_succ hnlt hpm], hma2, hE⟩
   ·have hr53 := hb
    replace hb := of_decide_eq_false hb
    obtain rfl : n = ps.length := by omega
    rw [List.take_length] at hma
    refine c_exit ?_
    refine c_seq ?_
    refine c_ops ?_
    refine mv' rfl rfl rfl rfl ?_
    refine l_val rfl rfl rfl (r_build rfl rfl (built_fr _ _ _)) ?_
    refine l_new rfl rfl rfl (n_box rfl hL hE) ?_
    rintro _ w ⟨b77, rfl, hb77, hL, hE, hX⟩
    refine as' rfl rfl rfl rfl ?_
    refine l_nil ?_
    refine c_seq ?_
    refine c_ops ?_
    refine as' rfl rfl rfl rfl ?_
    refine l_nil ?_
    refine c_seq ?_
    refine c_seq ?_
    refine c_ops ?_
    refine as' rfl rfl rfl rfl ?_
    refine l_nil ?_
    refine c_block ?_
    refine c_loop0 (fun m1 e w => (e 0 = .slice Ag g.length cg ∧ e 1 = .slice Ap ps.length cp ∧ e 10 = .pointer (some ⟨pb, 0, none⟩) ∧ e 12 = .pointer (some ⟨b77, 0, none⟩)) ∧ ∃ (n : Nat) (ws : List Int) (av lv : Value) (fv : List FV), n ≤ ps.length ∧ m1 = ps.length - n ∧ e 14 = .int .i64 (n : Nat) ∧ e 13 = av ∧ findsF (findF g (g.length * g.length + 1)) (ps.take n) [] = (ws, fv.map (·.1)) ∧ Has w (.row wB.heap.size 3 1 av (ws).length ((ws).map (Value.int .i64)) :: .blk b77 (fxR Ag g.length cg lv) :: .row wB.heap.size 43 3 lv (fv).length ((fv).map fcell).flatten :: (fv).map (fres 3 wB.heap.size)) ∧ Ext0 wB w) ps.length ?_ ?_
    ·exact ⟨⟨rfl, rfl, rfl, rfl⟩, 0, [], .slice none 0 0, .slice none 0 0, [], Nat.zero_le _, rfl, rfl, rfl, rfl, Has.nilRow (Has.perm (List.Perm.swap _ _ _) (hL.nilRow wB.heap.size 43 3)) _ _ _, hE⟩
    rintro m1 e w ⟨⟨hq0, hq1, hq10, hq12⟩, hI⟩
    refine c_know (t := 0) (by exact hq0) ?_
    refine c_know (t := 1) (by exact hq1) ?_
    refine c_know (t := 10) (by exact hq10) ?_
    refine c_know (t := 12) (by exact hq12) ?_
    clear hq0 hq1 hq10 hq12
    obtain ⟨n, ws, av, lv, fv, hnl, hmn, h14, h13, hfn, hL, hE⟩ := hI
    refine c_know (t := 14) (by exact h14) ?_
    refine c_know (t := 13) (by exact h13) ?_
    obtain ⟨news0, e0, hgo, hlen0, _⟩ := (all_is (F := findF g (g.length * g.length + 1)) (N := 0) (ps.take n) [] (fun q hq l' hl' hgl => one_is hok _ q l' hgl (inB_in (all_at hin (List.mem_of_mem_take hq))) (all_at hma (List.mem_of_mem_take hq)) (by omega)) (Nat.zero_le _) .nil).out
    refine c_seq ?_
    refine c_seq ?_
    refine c_ops ?_
    refine mv' rfl rfl rfl rfl ?_
    refine mv' rfl rfl rfl rfl ?_
    refine l_val rfl rfl rfl (r_len rfl Tryz.underlying23 rfl) ?_
    refine l_val rfl rfl rfl (r_lss rfl rfl rfl) ?_
    refine l_nil ?_
    refine c_cond rfl (fun hb => ?_) (fun hb => ?_)
    ·have hr81 := hb
     replace hb := of_decide_eq_true hb
     have hnlt : n < ps.length := by omega
     obtain ⟨q, hqd⟩ : ∃ q, q = ps.getD (n : Int).toNat (0, 0) := ⟨_, rfl⟩
     have hqn : ps[n]? = some q := by rw [hqd]; exact pat_nat hnlt
     have hqc := hp.pair n (by omega) (by omega)
     rw [← hqd] at hqc
     have hqm := all_at hma (List.mem_of_getElem? hqn)
     have hqi := inB_in (all_at hin (List.mem_of_getElem? hqn))
     rw [hfn] at hgo hlen0
     have hwl : ws.length = n := by rw [hlen0, List.length_take]; omega
     refine c_skip ?_
     refine c_seq ?_
     refine c_block ?_
     refine c_ops ?_
     refine mv' rfl rfl rfl rfl ?_
     refine mv' rfl rfl rfl rfl ?_
     refine mv' rfl rfl rfl rfl ?_
     refine mv' rfl rfl rfl rfl ?_
     refine l_val rfl rfl rfl (r_indexAddr_sl rfl Tryz.underlying23 Tryz.sizeOf32 rfl hp.is rfl (by omega) (by omega)) ?_
     refine l_val rfl rfl rfl (r_load_agg (vs := cells2 q) rfl Tryz.isAgg32 Tryz.sizeOf32 rfl (fun j v hj => Ext0.cells hE _ _ (hqc j v hj))) ?_
     refine mv' rfl rfl rfl rfl ?_
     refine l_by rfl rfl rfl (r_call rfl rfl Tryz.func32 rfl rfl) (find_rcalls wB b77 pb hb77 Ag cg g Ai ci hG hg hok hn (g.length * g.length + 1) _ q fv lv hE (hL.sub (.cons _ (.cons_cons _ (.cons_cons _ (List.nil_sublist _))))) hgo hqi hqm (by omega)) ?_
     rintro _ w ⟨hen, lv2, news, hr2, hL2, hX, hnw2, hlv2⟩
     have hlvb : ∀ b, lv.ownBlock = some b → wB.heap.size ≤ b := fun b hb => (ownsRow_lt (hL.row 2 rfl) hb).2
     obtain ⟨r1, hr1⟩ : ∃ r1, r1 = (findF g (g.length * g.length + 1) q (fv.map (·.1))).1 := ⟨_, rfl⟩
     rw [← hr1] at hen
     subst hen
     replace hL : Has w (.row wB.heap.size 3 1 av (ws).length ((ws).map (Value.int .i64)) :: .blk b77 (fxR Ag g.length cg lv2) :: .row wB.heap.size 43 3 lv2 (fv ++ news).length ((fv ++ news).map fcell).flatten :: ((fv).map (fres 3 wB.heap.size) ++ (news).map (fres 3 wB.heap.size))) := Has.callX (A := [_]) (X := FR b77 wB.heap.size Ag g.length cg lv fv) hL hX hL2 (fun b hb => FSR.res hb) (fr_foot hnw2 hlv2)
     replace hE := hE.step hX (fun b hlt hs => hs.elim (fun h => absurd hlt (Nat.not_lt.2 (h ▸ hb77))) fun h => absurd hlt (Nat.not_lt.2 (hlvb b h)))
     refine ⟨_, rfl, ?_⟩
     refine l_new rfl rfl rfl (n_slice (cells := #[.int .i64 r1]) rfl Tryz.underlying26 Tryz.sizeOf3 Tryz.zeroValue3 rfl rfl (fill_int1 _) hL hE) ?_
     rintro _ w ⟨s92, rfl, hs92, hL, hE, hX⟩
     refine l_new rfl rfl rfl (r_append (ys := [.int .i64 r1]) 1 rfl Tryz.underlying26 info_int rfl (by decide) rfl rfl hL hE rfl rfl (blk_raw (cs := #[.int .i64 r1]) (hL.get 0 rfl) rfl) (fun u hu => by rw [List.mem_singleton] at hu; rw [hu]; rfl) (by omega) (by omega) (Nat.le_refl _) hE.size) ?_
     rintro _ w ⟨hL, hE, hk⟩
     obtain ⟨A4, c4, rfl⟩ := ownsRow_slice (hL.row 1 rfl)
     replace hL : Has w (.blk s92 (.cells #[.int .i64 r1] 3 (0, 0)) :: .row wB.heap.size 3 1 (.slice A4 (ws.length + 1) c4) (ws ++ [r1]).length ((ws ++ [r1]).map (Value.int .i64)) :: .blk b77 (fxR Ag g.length cg lv2) :: .row wB.heap.size 43 3 lv2 (fv ++ news).length ((fv ++ news).map fcell).flatten :: (fv ++ news).map (fres 3 wB.heap.size)) := by rw [← res_snoc, List.map_append (f := fres 3 wB.heap.size)]; exact hL
     refine as' rfl rfl rfl rfl ?_
     refine l_nil ?_
     refine c_ops ?_
     refine mv' rfl rfl rfl rfl ?_
     refine l_val rfl rfl rfl (r_add rfl rfl rfl) ?_
     refine as' rfl rfl rfl rfl ?_
     refine l_nil ?_
     refine ⟨ps.length - (n + 1), by omega, ⟨rfl, rfl, rfl, rfl⟩, n + 1, ws ++ [r1], _, lv2, fv ++ news, by omega, rfl, by show Value.int .i64 (IntKind.i64.wrap ((n : Int) + 1)) = _; rw [wrap_succ hnlt hpm], rfl, ?_, hL.tail, hE⟩
     rw [take_snoc hqn, findsF_snoc, hfn, hr1]
     exact Prod.ext rfl hr2
    ·have hr81 := hb
     replace hb := of_decide_eq_false hb
     obtain rfl : n = ps.length := by omega
     rw [List.take_length] at hfn hgo
     rw [hfn] at hgo
     have hfl := hgo.le
     rw [List.length_map] at hfl
     obtain ⟨Al, cl, rfl⟩ := ownsRow_slice (hL.row 2 rfl)
     obtain ⟨Aw, cw, rfl⟩ := ownsRow_slice (hL.row 0 rfl)
     refine c_exit ?_
     refine c_seq ?_
     refine c_seq ?_
     refine c_ops ?_
     refine mv' rfl rfl rfl rfl ?_
     refine l_val rfl rfl rfl (r_nilCheck rfl rfl) ?_
     refine l_val rfl rfl rfl (r_fieldAddr (n := 0) rfl Tryz.underlying68 rfl Tryz.sizeOf25 rfl) ?_
     refine l_val rfl rfl rfl (r_load_blk rfl Tryz.isAgg25 rfl (hL.get 1 rfl) rfl) ?_
     refine l_val rfl rfl rfl (r_len rfl Tryz.underlying25 rfl) ?_
     refine l_val rfl rfl rfl (r_gtr rfl rfl rfl) ?_
     refine l_nil ?_
     refine c_cond rfl (fun hb => ?_) (fun hb => ?_)
     ·have hr99 := hb
      replace hb := of_decide_eq_true hb
      omega
     ·have hr99 := hb
      replace hb := of_decide_eq_false hb
      refine c_skip ?_
      refine c_seq ?_
      refine c_ops ?_
      refine mv' rfl rfl rfl rfl ?_
      refine l_val rfl rfl rfl (r_nilCheck rfl rfl) ?_
      refine l_val rfl rfl rfl (r_fieldAddr (n := 0) rfl Tryz.underlying68 rfl Tryz.sizeOf25 rfl) ?_
      refine l_val rfl rfl rfl (r_load_blk rfl Tryz.isAgg25 rfl (hL.get 1 rfl) rfl) ?_
      refine mv' rfl rfl rfl rfl ?_
      refine as' rfl rfl rfl rfl ?_
      refine as' rfl rfl rfl rfl ?_
      refine as' rfl rfl rfl rfl ?_
      refine l_nil ?_
      refine c_ret ?_
      exact FindOut.found (err_ok hck hin hma) hfn rfl (facts_at (hL.sub (.cons _ (.cons _ (.cons _ (.refl _))))) (fun x hx => List.mem_map.2 ⟨x, hx, rfl⟩) (hL.row 2 rfl) rfl).1 (Sl.ints_at (hL.row 0 rfl)) (hE0.trans hE)
end Go.Proofs.YtndophlnapjkhaaGreatDoor.Vc
namespace Go.Proofs.YtndophlnapjkhaaGreatDoor.Vc
open Go Go.RowKit
set_option linter.unusedVariables false
set_option linter.unusedSimpArgs false
theorem eq_arr2 (a b c d : Int) (w : World) : (Op.equalIn 10000 32 (.agg #[.int .i64 a, .int .i64 b]) (.agg #[.int .i64 c, .int .i64 d])).run Tryz.prog w = .ok (decide (a = c) && decide (b = d)) w := by
 have u3 := Tryz.underlying3
 have a3 := Tryz.isAgg3
 have z3 := Tryz.sizeOf3
 obtain ⟨i0, hinf, _⟩ := Option.map_eq_some_iff.1 info_int
 have hc : Tryz.prog.cellsOf 3 = 1 := by kernel_rfl
 rw [show (10000 : Nat) = 9999 + 1 from rfl, run_equalIn_array w 9999 _ _ Tryz.underlying32 hinf, hc, show List.range 2 = [0, 1] from rfl]
 simp only [Op.eqItems]
 go_simp
 by_cases h1 : a = c <;> by_cases h2 : b = d <;> simp [h1, h2]
theorem r_eql_arr2 {w : World} {ρ : Operand → Value} {o : Oper} {x y : Operand} {t' : TypeId} {p : Int × Int} (h : o.op = .binOp .eql 32 x y t') (hx : ρ x = .agg (cells2 p).toArray) (hy : ρ y = .agg (cells2 p).toArray) : (execOp ρ o).run Tryz.prog w = .ok (.value (.bool true)) w := by
 have hm : Tryz.prog.eqGuardType Tryz.prog.depth 32 = false := by kernel_rfl
 have h1 := run_eqGuard_agg (P := Tryz.prog) w .eql 32 x y (cells2 p).toArray (cells2 p).toArray hm
 have h2 := run_eql_struct (P := Tryz.prog) w 32 (cells2 p).toArray (cells2 p).toArray
 have h3 := eq_arr2 p.1 p.2 p.1 p.2 w
 have h5 : (Op.equalIn 10000 32 (.agg (cells2 p).toArray) (.agg (cells2 p).toArray)).run Tryz.prog w = .ok true w := by
  have := h3
  simp only [decide_true, Bool.and_self] at this
  exact this
 rw [h5] at h2
 simp only [execOp, h, hx, hy, Sem.run_bind, h1, Result.andThen_ok, h2]
 simp [h2]
theorem r_cutK {P : Program} {w : World} {ρ : Operand → Value} {o : Oper} {x i : Operand} {t el : TypeId} {A : Option Addr} {n c sz : Nat} {k : IntKind} (N : Nat) (h : o.op = .slice t x none (some i) none) (hu : P.underlying t = some (.slice el)) (hs : Sized P el sz) (hx : ρ x = .slice A n c) (hi : ρ i = .int k (if ((N : Nat) : Int) < (n : Int) then ((N : Nat) : Int) else (n : Int))) (hc : n ≤ c) : (execOp ρ o).run P w = .ok (.value (.slice A (min n N) c)) w := by
 have := r_slice_to (P := P) (w := w) h hu hs hx hi (by split <;> omega) (by split <;> omega)
 rw [cut_nat] at this
 exact this
theorem flat2 (l : FP) (j : Nat) : (l.map cells2).flatten[j]? = (l[j / 2]?).bind fun p => (cells2 p)[j % 2]? := by
 induction l generalizing j with
 | nil => simp
 | cons p r ih =>
  simp only [List.map_cons, List.flatten_cons]
  rcases Nat.lt_or_ge j 2 with h | h
  ·rw [List.getElem?_append_left (by simpa [cells2] using h), Nat.div_eq_of_lt h, Nat.mod_eq_of_lt h]
   rfl
  ·rw [List.getElem?_append_right (by simpa [cells2] using h), ih]
   have e1 : j / 2 = (j - 2) / 2 + 1 := by omega
   have e2 : (j - 2) % 2 = j % 2 := by omega
   show (r[(j - 2) / 2]?.bind fun p => (cells2 p)[(j - 2) % 2]?) = _
   rw [e1, e2]
   rfl
theorem n_append_pairs {w w0 : World} {ρ : Operand → Value} {o : Oper} {S : Nat → Prop} {L : List Res} {x y : Operand} {base n m c : Nat} {v : Value} {A : Option Addr} {xs : List Value} {ys : FP} (i : Nat) (h : o.op = .call { callee := .builtin .append, args := #[x, y], argTypes := #[23, 23] })
    (hx : ρ x = v) (hy : ρ y = .slice A m c) (hs : Sl w 2 RPair A m c ys) (hL : Has w L) (hE : Ext S w0 w) (hi : L[i]? = some (.row base 32 2 v n xs)) (hbytes : (n + m) * 16 ≤ 140737488355328) (hbase : w0.heap.size ≤ base) (hbw : base ≤ w.heap.size) :
    ∃ v' w', (execOp ρ o).run Tryz.prog w = .ok (.value v') w' ∧ Has w' (L.set i (.row base 32 2 v' (n + m) (xs ++ (ys.map cells2).flatten))) ∧ Ext S w0 w' := by
 have hl := hs.len
 cases A with
 | none =>
  have hm : m = 0 := by
   rcases Nat.eq_zero_or_pos m with h0 | h0
   ·exact h0
   ·have := hs.is h0
    cases this
  subst hm
  have hys : ys = [] := List.eq_nil_of_length_eq_zero hl
  subst hys
  obtain ⟨i0, hinf, _⟩ := Option.map_eq_some_iff.1 info_arr2
  refine ⟨v, w, r_append_no (P := Tryz.prog) i h Tryz.underlying23 hinf hx hy hL hi, ?_, hE⟩
  rw [List.map_nil, List.flatten_nil, List.append_nil, Nat.add_zero]
  have : L.set i (.row base 32 2 v n xs) = L := by
   apply List.ext_getElem?
   intro j
   rw [List.getElem?_set]
   split
   ·rename_i e
    subst e
    have hil : i < L.length := (List.getElem?_eq_some_iff.1 hi).1
    rw [hi, if_pos hil]
   ·rfl
  rw [this]
  exact hL
 | some a =>
  obtain ⟨v', w', hr, hL', hE', _⟩ := r_append (P := Tryz.prog) (w := w) (ys := (ys.map cells2).flatten) i h Tryz.underlying23 info_arr2 rfl (by decide) hx hy hL hE hi (by
   rw [List.length_flatten, List.map_map, ← hl]
   clear hs hl hy hbytes
   induction ys with
   | nil => rfl
   | cons p r ih => simp only [List.map_cons, List.sum_cons, Function.comp_apply, List.length_cons, Nat.add_mul, ih]; simp [cells2]; omega) (fun j u hj => by
   rw [flat2] at hj
   obtain ⟨p, hp, hu⟩ := Option.bind_eq_some_iff.1 hj
   obtain ⟨cs, h1, h2, h3⟩ := hs.at_ (j / 2) p hp
   rw [h2] at h3
   have := h3 (j % 2) u hu
   rwa [show j / 2 * 2 + j % 2 = j by omega] at this) (fun u hu => by
   obtain ⟨cs, hcs, hu⟩ := List.mem_flatten.1 hu
   obtain ⟨p, _, rfl⟩ := List.mem_map.1 hcs
   simp [cells2] at hu
   rcases hu with rfl | rfl <;> rfl) hbytes (by omega) hbase hbw
  exact ⟨v', w', hr, hL', hE'⟩
theorem rSame_true (w0 : World) (A : Option Addr) (c : Nat) (a : List Fact) (ha : FactsAt w0 A c a) (B : Option Addr) (d : Nat) (hb' : FactsAt w0 B d a) :
    Calls Tryz.prog 9 [.slice A a.length c, .slice B a.length d].toArray w0 fun en w' => en = .returned (.bool true) ∧ Ext0 w0 w' :=
 (rSame_calls w0 A c a ha B d a hb').mono fun en w' ⟨h1, h2⟩ => ⟨by rw [h1, decide_eq_true rfl], h2⟩
set_option maxHeartbeats 8000000 in
theorem Finds_calls (w0 : World) (hk0 : KeysLaid w0) (A : Option Addr) (c : Nat) (g : List GNode) (hg : Nodes w0 A c g) (Ap : Option Addr) (cp : Nat) (ps0 : FP) (hp0 : PairsAt w0 Ap cp ps0) :
    Calls Tryz.prog 3 [.slice A g.length c, .slice Ap ps0.length cp].toArray w0 fun en w' => en = .returned (.bool true) ∧ Ext0 w0 w' := by
 have hE : Ext0 w0 w0 := Ext.refl _ _
 have hL : Has w0 [] := trivial
 have hpc := hp0.cap
 refine calls [4] Tryz.func3 rfl rfl rfl rfl ?_
 refine c_seq ?_
 refine c_ops ?_
 refine as' rfl rfl rfl rfl ?_
 refine l_nil ?_
 refine c_seq ?_
 refine c_ops ?_
 refine mv' rfl rfl rfl rfl ?_
 refine l_by rfl rfl rfl (r_call rfl rfl Tryz.func6 rfl rfl) (cut_calls _ A c g hg) ?_
 rintro _ w ⟨A1, c1, hen, hn, hX⟩
 obtain ⟨gg, hgg⟩ : ∃ x, x = cutF g := ⟨_, rfl⟩
 have hlen := cutF_len g
 have hfit := cutF_fits g
 rw [← hgg] at hen hn hlen hfit
 subst hen
 replace hE := hE.trans hX
 obtain ⟨wa, hwa⟩ : ∃ x, x = w := ⟨_, rfl⟩
 rw [← hwa] at hn hE
 have hE0 := hE
 replace hE : Ext0 wa w := hwa ▸ Ext.refl _ _
 have hL : Has w [] := trivial
 replace hL := (hL.nilRow wa.heap.size 32 2).nilRow wa.heap.size 32 2
 refine ⟨_, rfl, ?_⟩
 refine as' rfl rfl rfl rfl ?_
 refine l_nil ?_
 refine c_seq ?_
 refine c_ops ?_
 refine as' rfl rfl rfl rfl ?_
 refine as' rfl rfl rfl rfl ?_
 refine l_nil ?_
 refine c_seq ?_
 refine c_draw mixed (hL.sub (.cons _ (.cons _ .slnil))) hE ?_
 replace hL := hL.drew
 replace hE := hE.drew
 have hK := hL.sub (.cons _ (.cons _ .slnil))
 refine h_t 0 rfl rfl (by kernel_rfl) (fun _ _ _ h => h) ⟨hK, hE⟩ rfl (fun W hW => r_move rfl) ?_
 refine h_listed (listed' := #[T',F',F',F',F',F',F',F',F',F',F',F',F',F',F',F']) (by kernel_rfl) ?_
 refine h_t 1 rfl rfl (by kernel_rfl) (fun _ _ _ h => h) ⟨hK, hE⟩ rfl (fun W hW => r_move rfl) ?_
 refine h_listed (listed' := #[T',T',F',F',F',F',F',F',F',F',F',F',F',F',F',F']) (by kernel_rfl) ?_
 refine h_t 2 rfl rfl (by kernel_rfl) (fun _ _ _ h => h) ⟨hK, hE⟩ rfl (fun W hW => r_move rfl) ?_
 refine h_listed (listed' := #[T',T',T',F',F',F',F',F',F',F',F',F',F',F',F',F']) (by kernel_rfl) ?_
 refine h_t 3 rfl rfl (by kernel_rfl) (fun _ _ _ h => h) ⟨hK, hE⟩ rfl (fun W hW => r_len rfl Tryz.underlying23 rfl) ?_
 refine h_listed (listed' := #[T',T',T',T',F',F',F',F',F',F',F',F',F',F',F',F']) (by kernel_rfl) ?_
 refine h_t 4 rfl rfl (by kernel_rfl) (fun _ _ _ h => h) ⟨hK, hE⟩ rfl (fun W hW => r_min rfl rfl rfl) ?_
 refine h_listed (listed' := #[T',T',T',T',T',F',F',F',F',F',F',F',F',F',F',F']) (by kernel_rfl) ?_
 refine h_t 5 rfl rfl (by kernel_rfl) (fun _ _ _ h => h) ⟨hK, hE⟩ rfl (fun W hW => r_cutK 8 rfl Tryz.underlying23 Tryz.sizeOf32 rfl rfl hpc) ?_
 refine h_listed (listed' := #[T',T',T',T',T',T',F',F',F',F',F',F',F',F',F',F']) (by kernel_rfl) ?_
 refine h_t 7 rfl rfl (by kernel_rfl) (fun _ _ _ h => h) ⟨hK, hE⟩ rfl (fun W hW => r_move rfl) ?_
 refine h_listed (listed' := #[T',T',T',T',T',T',F',T',F',F',F',F',F',F',F',F']) (by kernel_rfl) ?_
 refine h_t 8 rfl rfl (by kernel_rfl) (fun _ _ _ h => h) ⟨hK, hE⟩ rfl (fun W hW => r_move rfl) ?_
 refine h_listed (listed' := #[T',T',T',T',T',T',F',T',T',F',F',F',F',F',F',F']) (by kernel_rfl) ?_
 refine h_t 9 rfl rfl (by kernel_rfl) (fun _ _ _ h => h) ⟨hK, hE⟩ rfl (fun W hW => r_move rfl) ?_
 refine h_listed (listed' := #[T',T',T',T',T',T',F',T',T',T',F',F',F',F',F',F']) (by kernel_rfl) ?_
 refine h_t 10 rfl rfl (by kernel_rfl) (fun _ _ _ h => h) ⟨hK, hE⟩ rfl (fun W hW => r_len rfl Tryz.underlying23 rfl) ?_
 refine h_listed (listed' := #[T',T',T',T',T',T',F',T',T',T',T',F',F',F',F',F']) (by kernel_rfl) ?_
 refine h_t 11 rfl rfl (by kernel_rfl) (fun _ _ _ h => h) ⟨hK, hE⟩ rfl (fun W hW => r_min rfl rfl rfl) ?_
 refine h_listed (listed' := #[T',T',T',T',T',T',F',T',T',T',T',T',F',F',F',F']) (by kernel_rfl) ?_
 refine h_t 12 rfl rfl (by kernel_rfl) (fun _ _ _ h => h) ⟨hK, hE⟩ rfl (fun W hW => r_cutK 8 rfl Tryz.underlying23 Tryz.sizeOf32 rfl rfl hpc) ?_
 refine h_listed (listed' := #[T',T',T',T',T',T',F',T',T',T',T',T',T',F',F',F']) (by kernel_rfl) ?_
 refine h_new 6 rfl rfl (by kernel_rfl) rfl (n_append_pairs 0 rfl rfl rfl ((hp0.keep RPair.kept (Ext0.cells (hE0.trans hE))).take 8) hL hE rfl (by omega) (Nat.le_refl _) hE.size) ?_
 rintro _ w ⟨hL, hE⟩
 have hK := hL.sub (.cons _ (.cons _ .slnil))
 refine ⟨⟨hK, hE⟩, ?_⟩
 refine h_listed (listed' := #[T',T',T',T',T',T',T',T',T',T',T',T',T',F',F',F']) (by kernel_rfl) ?_
 refine h_new 13 rfl rfl (by kernel_rfl) rfl (n_append_pairs 1 rfl rfl rfl ((hp0.keep RPair.kept (Ext0.cells (hE0.trans hE))).take 8) hL hE rfl (by omega) (Nat.le_refl _) hE.size) ?_
 rintro _ w ⟨hL, hE⟩
 obtain ⟨A5, c5, rfl⟩ := ownsRow_slice (hL.row 0 rfl)
 obtain ⟨A6, c6, rfl⟩ := ownsRow_slice (hL.row 1 rfl)
 obtain ⟨pp, hpp⟩ : ∃ pp, pp = ps0.take 8 := ⟨_, rfl⟩
 have hplen : 0 + min ps0.length 8 = pp.length := by rw [hpp, List.length_take]; omega
 have hps5 : Sl w 2 RPair A5 (0 + min ps0.length 8) c5 (ps0.take 8) := Sl.pairs_at (hL.row 0 rfl)
 have hps6 : Sl w 2 RPair A6 (0 + min ps0.length 8) c6 (ps0.take 8) := Sl.pairs_at (hL.row 1 rfl)
 rw [hplen, ← hpp] at hps5 hps6
 have hK := hL.sub (.cons _ (.cons _ .slnil))
 refine ⟨⟨hK, hE⟩, ?_⟩
 refine h_listed (listed' := #[T',T',T',T',T',T',T',T',T',T',T',T',T',T',F',F']) (by kernel_rfl) ?_
 refine h_t 14 rfl rfl (by kernel_rfl) (fun _ _ _ h => h) ⟨hK, hE⟩ rfl (fun W hW => r_assign rfl) ?_
 refine h_listed (listed' := #[T',T',T',T',T',T',T',T',T',T',T',T',T',T',T',F']) (by kernel_rfl) ?_
 refine h_t 15 rfl rfl (by kernel_rfl) (fun _ _ _ h => h) ⟨hK, hE⟩ rfl (fun W hW => r_assign rfl) ?_
 refine h_listed (listed' := #[T',T',T',T',T',T',T',T',T',T',T',T',T',T',T',T']) (by kernel_rfl) ?_
 refine h_done (by kernel_rfl) ?_
 refine c_fresh (fun e => e 0 = .slice A1 gg.length c1 ∧ e 5 = .slice A5 pp.length c5 ∧ e 6 = .slice A6 pp.length c6) ⟨rfl, (congrArg (fun n => Value.slice A5 n c5) hplen), (congrArg (fun n => Value.slice A6 n c6) hplen)⟩ ?_
 rintro e ⟨hq0, hq5, hq6⟩
 refine c_know (t := 0) (by exact hq0) ?_
 refine c_know (t := 5) (by exact hq5) ?_
 refine c_know (t := 6) (by exact hq6) ?_
 clear hq0 hq5 hq6
 refine c_seq ?_
 refine c_ops ?_
 refine mv' rfl rfl rfl rfl ?_
 refine mv' rfl rfl rfl rfl ?_
 replace hn := hn.keep RNode.kept (Ext0.cells hE)
 obtain ⟨wb, hwb⟩ : ∃ x, x = w := ⟨_, rfl⟩
 rw [← hwb] at hps5 hps6 hn hE
 replace hE0 := hE0.trans hE
 replace hE : Ext0 wb w := hwb ▸ Ext.refl _ _
 have hL : Has w [] := trivial
 have hpp8 : pp.length ≤ 8 := by omega
 have hpm := hps5.max
 refine l_by rfl rfl rfl (r_call rfl rfl Tryz.func7 rfl rfl) (Find_calls _ A1 c1 gg (hn.keep RNode.kept (Ext0.cells hE)) hfit hlen (hk0.keep (Ext0.cells (hE0.trans hE))) A5 c5 pp (hps5.keep RPair.kept (Ext0.cells hE)) (by omega)) ?_
 rintro _ w ⟨A3, c3, A4, c4, rfl, hf3, hi4, hX⟩
 replace hE := hE.trans hX
 refine ⟨_, rfl, ?_⟩
 refine mv' rfl rfl rfl rfl ?_
 refine l_val rfl rfl rfl (r_extract rfl rfl rfl) ?_
 refine l_val rfl rfl rfl (r_extract rfl rfl rfl) ?_
 refine l_val rfl rfl rfl (r_extract rfl rfl rfl) ?_
 refine as' rfl rfl rfl rfl ?_
 refine as' rfl rfl rfl rfl ?_
 refine as' rfl rfl rfl rfl ?_
 refine l_nil ?_
 refine c_seq ?_
 refine c_ops ?_
 refine mv' rfl rfl rfl rfl ?_
 refine mv' rfl rfl rfl rfl ?_
 refine l_by rfl rfl rfl (r_call rfl rfl Tryz.func8 rfl rfl) (rFind_calls _ A1 c1 gg (hn.keep RNode.kept (Ext0.cells hE)) hfit hlen A6 c6 pp (hps6.keep RPair.kept (Ext0.cells hE)) (by omega)) ?_
 rintro _ w ⟨B3, d3, B4, d4, rfl, hf5, hi6, hX⟩
 replace hE := hE.trans hX
 replace hf3 := hf3.keep RFact.kept (Ext0.cells hX)
 replace hi4 := hi4.keep RInt.kept (Ext0.cells hX)
 refine ⟨_, rfl, ?_⟩
 refine mv' rfl rfl rfl rfl ?_
 refine l_val rfl rfl rfl (r_extract rfl rfl rfl) ?_
 refine l_val rfl rfl rfl (r_extract rfl rfl rfl) ?_
 refine l_val rfl rfl rfl (r_extract rfl rfl rfl) ?_
 refine as' rfl rfl rfl rfl ?_
 refine as' rfl rfl rfl rfl ?_
 refine as' rfl rfl rfl rfl ?_
 refine l_nil ?_
 refine c_fresh (fun e => e 0 = .slice A1 gg.length c1 ∧ e 5 = .slice A5 pp.length c5 ∧ e 6 = .slice A6 pp.length c6 ∧ e 7 = .slice A3 (foundF gg pp).2.length c3 ∧ e 8 = .slice A4 (foundF gg pp).1.length c4 ∧ e 9 = .int .i64 (findErr gg pp) ∧ e 10 = .slice B3 (foundF gg pp).2.length d3 ∧ e 11 = .slice B4 (foundF gg pp).1.length d4 ∧ e 12 = .int .i64 (findErr gg pp)) ⟨rfl, rfl, rfl, rfl, rfl, rfl, rfl, rfl, rfl⟩ ?_
 rintro e ⟨hq0, hq5, hq6, hq7, hq8, hq9, hq10, hq11, hq12⟩
 refine c_know (t := 0) (by exact hq0) ?_
 refine c_know (t := 5) (by exact hq5) ?_
 refine c_know (t := 6) (by exact hq6) ?_
 refine c_know (t := 7) (by exact hq7) ?_
 refine c_know (t := 8) (by exact hq8) ?_
 refine c_know (t := 9) (by exact hq9) ?_
 refine c_know (t := 10) (by exact hq10) ?_
 refine c_know (t := 11) (by exact hq11) ?_
 refine c_know (t := 12) (by exact hq12) ?_
 clear hq0 hq5 hq6 hq7 hq8 hq9 hq10 hq11 hq12
 refine c_seq ?_
 refine c_ops ?_
 refine mv' rfl rfl rfl rfl ?_
 refine mv' rfl rfl rfl rfl ?_
 refine l_by rfl rfl rfl (r_call rfl rfl Tryz.func9 rfl rfl) (rSame_true _ A3 c3 _ hf3 B3 d3 hf5) ?_
 rintro _ w ⟨rfl, hX⟩
 replace hE := hE.trans hX
 replace hi4 := hi4.keep RInt.kept (Ext0.cells hX)
 replace hi6 := hi6.keep RInt.kept (Ext0.cells hX)
 refine ⟨_, rfl, ?_⟩
 refine mv' rfl rfl rfl rfl ?_
 refine mv' rfl rfl rfl rfl ?_
 refine mv' rfl rfl rfl rfl ?_
 refine l_by rfl rfl rfl (r_call rfl rfl Tryz.func10 rfl rfl) (EqInts_true _ A4 c4 _ hi4 B4 d4 hi6) ?_
 rintro _ w ⟨rfl, hX⟩
 replace hE := hE.trans hX
 refine ⟨_, rfl, ?_⟩
 refine l_val rfl rfl rfl (r_pick rfl rfl) ?_
 refine mv' rfl rfl rfl rfl ?_
 refine mv' rfl rfl rfl rfl ?_
 refine mv' rfl rfl rfl rfl ?_
 refine l_val rfl rfl rfl (r_eql rfl rfl rfl) ?_
 refine l_know (t := 56) (v := .bool true) (congrArg Value.bool (decide_eq_true rfl)) ?_
 refine l_val rfl rfl rfl (r_pick rfl rfl) ?_
 refine as' rfl rfl rfl rfl ?_
 refine l_nil ?_
 refine c_seq ?_
 refine c_seq ?_
 refine c_ops ?_
 refine as' rfl rfl rfl rfl ?_
 refine l_nil ?_
 refine c_block ?_
 refine c_loop0 (fun m1 e w => (e 5 = .slice A5 pp.length c5 ∧ e 6 = .slice A6 pp.length c6 ∧ e 13 = .bool true) ∧ ∃ (k : Nat), k ≤ pp.length ∧ m1 = pp.length - k ∧ e 14 = .int .i64 (k : Nat) ∧ Ext0 wb w) (pp.length) ?_ ?_
 ·exact ⟨⟨rfl, rfl, rfl⟩, 0, Nat.zero_le _, rfl, rfl, hE⟩
 rintro m1 e w ⟨⟨hq5, hq6, hq13⟩, hI⟩
 refine c_know (t := 5) (by exact hq5) ?_
 refine c_know (t := 6) (by exact hq6) ?_
 refine c_know (t := 13) (by exact hq13) ?_
 clear hq5 hq6 hq13
 obtain ⟨k, hkl, hkm, h14s, hE⟩ := hI
 refine c_know (t := 14) (by exact h14s) ?_
 have hL : Has w [] := trivial
 refine c_seq ?_
 refine c_seq ?_
 refine c_ops ?_
 refine mv' rfl rfl rfl rfl ?_
 refine mv' rfl rfl rfl rfl ?_
 refine l_val rfl rfl rfl (r_len rfl Tryz.underlying23 rfl) ?_
 refine l_val rfl rfl rfl (r_lss rfl rfl rfl) ?_
 refine l_nil ?_
 refine c_cond rfl (fun hb => ?_) (fun hb => ?_)
 ·have hr61 := hb
  replace hb := of_decide_eq_true hb
  have hklt : k < pp.length := by omega
  refine c_skip ?_
  refine c_seq ?_
  refine c_block ?_
  refine c_draw mixed (hL) hE ?_
  replace hL := hL.drew
  replace hE := hE.drew
  have hK := hL
  refine h_t 0 rfl rfl (by kernel_rfl) (fun _ _ _ h => h) ⟨hK, hE⟩ rfl (fun W hW => r_move rfl) ?_
  refine h_listed (listed' := #[T',F',F',F',F',F',F',F',F',F',F',F',F']) (by kernel_rfl) ?_
  refine h_t 1 rfl rfl (by kernel_rfl) (fun _ _ _ h => h) ⟨hK, hE⟩ rfl (fun W hW => r_move rfl) ?_
  refine h_listed (listed' := #[T',T',F',F',F',F',F',F',F',F',F',F',F']) (by kernel_rfl) ?_
  refine h_t 2 rfl rfl (by kernel_rfl) (fun _ _ _ h => h) ⟨hK, hE⟩ rfl (fun W hW => r_move rfl) ?_
  refine h_listed (listed' := #[T',T',T',F',F',F',F',F',F',F',F',F',F']) (by kernel_rfl) ?_
  refine h_t 3 rfl rfl (by kernel_rfl) (fun _ _ _ h => h) ⟨hK, hE⟩ rfl (fun W hW => r_move rfl) ?_
  refine h_listed (listed' := #[T',T',T',T',F',F',F',F',F',F',F',F',F']) (by kernel_rfl) ?_
  refine h_t 4 rfl rfl (by kernel_rfl) (fun _ _ _ h => h) ⟨hK, hE⟩ rfl (fun W hW => r_indexAddr_sl rfl Tryz.underlying23 Tryz.sizeOf32 rfl hps5.is rfl (by omega) (by omega)) ?_
  refine h_listed (listed' := #[T',T',T',T',T',F',F',F',F',F',F',F',F']) (by kernel_rfl) ?_
  refine h_t 5 rfl rfl (by kernel_rfl) (fun _ _ _ h => h) ⟨hK, hE⟩ rfl (fun W hW => r_load_agg (vs := cells2 (pp.getD (k : Int).toNat (0, 0))) rfl Tryz.isAgg32 Tryz.sizeOf32 rfl (fun j v hj => Ext0.cells hW.2 _ _ (hps5.pair k (by omega) (by omega) j v hj))) ?_
  refine h_listed (listed' := #[T',T',T',T',T',T',F',F',F',F',F',F',F']) (by kernel_rfl) ?_
  refine h_t 6 rfl rfl (by kernel_rfl) (fun _ _ _ h => h) ⟨hK, hE⟩ rfl (fun W hW => r_move rfl) ?_
  refine h_listed (listed' := #[T',T',T',T',T',T',T',F',F',F',F',F',F']) (by kernel_rfl) ?_
  refine h_t 7 rfl rfl (by kernel_rfl) (fun _ _ _ h => h) ⟨hK, hE⟩ rfl (fun W hW => r_move rfl) ?_
  refine h_listed (listed' := #[T',T',T',T',T',T',T',T',F',F',F',F',F']) (by kernel_rfl) ?_
  refine h_t 8 rfl rfl (by kernel_rfl) (fun _ _ _ h => h) ⟨hK, hE⟩ rfl (fun W hW => r_indexAddr_sl rfl Tryz.underlying23 Tryz.sizeOf32 rfl hps6.is rfl (by omega) (by omega)) ?_
  refine h_listed (listed' := #[T',T',T',T',T',T',T',T',T',F',F',F',F']) (by kernel_rfl) ?_
  refine h_t 9 rfl rfl (by kernel_rfl) (fun _ _ _ h => h) ⟨hK, hE⟩ rfl (fun W hW => r_load_agg (vs := cells2 (pp.getD (k : Int).toNat (0, 0))) rfl Tryz.isAgg32 Tryz.sizeOf32 rfl (fun j v hj => Ext0.cells hW.2 _ _ (hps6.pair k (by omega) (by omega) j v hj))) ?_
  refine h_listed (listed' := #[T',T',T',T',T',T',T',T',T',T',F',F',F']) (by kernel_rfl) ?_
  refine h_t 10 rfl rfl (by kernel_rfl) (fun _ _ _ h => h) ⟨hK, hE⟩ rfl (fun W hW => r_eql_arr2 rfl rfl rfl) ?_
  refine h_listed (listed' := #[T',T',T',T',T',T',T',T',T',T',T',F',F']) (by kernel_rfl) ?_
  refine h_t 11 rfl rfl (by kernel_rfl) (fun _ _ _ h => h) ⟨hK, hE⟩ rfl (fun W hW => r_pick rfl rfl) ?_
  refine h_listed (listed' := #[T',T',T',T',T',T',T',T',T',T',T',T',F']) (by kernel_rfl) ?_
  refine h_t 12 rfl rfl (by kernel_rfl) (fun _ _ _ h => h) ⟨hK, hE⟩ rfl (fun W hW => r_assign rfl) ?_
  refine h_listed (listed' := #[T',T',T',T',T',T',T',T',T',T',T',T',T']) (by kernel_rfl) ?_
  refine h_done (by kernel_rfl) ?_
  refine c_ops ?_
  refine mv' rfl rfl rfl rfl ?_
  refine l_val rfl rfl rfl (r_add rfl rfl rfl) ?_
  refine as' rfl rfl rfl rfl ?_
  refine l_nil ?_
  exact ⟨pp.length - (k + 1), by omega, ⟨rfl, rfl, rfl⟩, k + 1, by omega, rfl, by show Value.int .i64 (IntKind.i64.wrap ((k : Int) + 1)) = _; rw [wrap_succ hklt hpm], hE⟩
 ·have hr61 := hb
  replace hb := of_decide_eq_false hb
  refine c_exit ?_
  refine c_seq ?_
  refine c_ops ?_
  refine mv' rfl rfl rfl rfl ?_
  refine mv' rfl rfl rfl rfl ?_
  refine l_by rfl rfl rfl (r_call rfl rfl Tryz.func11 rfl rfl) (works_calls _ (hk0.keep (Ext0.cells (hE0.trans hE)))) ?_
  rintro _ w ⟨rfl, hX⟩
  replace hE := hE.trans hX
  refine ⟨_, rfl, ?_⟩
  refine l_val rfl rfl rfl (r_pick rfl rfl) ?_
  refine as' rfl rfl rfl rfl ?_
  refine l_nil ?_
  refine c_ret ?_
  exact ⟨rfl, hE0.trans hE⟩
end Go.Proofs.YtndophlnapjkhaaGreatDoor.Vc
namespace Go.Proofs.YtndophlnapjkhaaGreatDoor.Vc
open Go Go.RowKit
set_option linter.unusedVariables false
set_option linter.unusedSimpArgs false
def fewOne (f : Fact) : Fact := ⟨f.a, f.b, f.why.take 20⟩
def fewF (l : List Fact) : List Fact := (l.take 30).map fewOne
theorem fewF_len (l : List Fact) : (fewF l).length ≤ 30 := by simp [fewF]; omega
theorem fewF_why {l : List Fact} {f : Fact} (h : f ∈ fewF l) : f.why.length ≤ 20 := by
 unfold fewF at h
 obtain ⟨x, _, rfl⟩ := List.mem_map.1 h
 simp [fewOne]
 omega
theorem fewF_few (l : List Fact) : fewF (fewF l) = fewF l := by
 have h1 : (fewF l).take 30 = fewF l := List.take_of_length_le (fewF_len l)
 have h2 : fewF (fewF l) = (fewF l).map fewOne := by
  show ((fewF l).take 30).map fewOne = _
  rw [h1]
 rw [h2]
 unfold fewF
 rw [List.map_map]
 apply List.map_congr_left
 intro x _
 simp [fewOne, List.take_take]
theorem r_cutF {P : Program} {w : World} {ρ : Operand → Value} {o : Oper} {x i : Operand} {t el : TypeId} {A : Option Addr} {n c sz : Nat} {k : IntKind} (h : o.op = .slice t x none (some i) none) (hu : P.underlying t = some (.slice el)) (hs : Sized P el sz) (hx : ρ x = .slice A n c) (hi : ρ i = .int k (if (20 : Int) < (n : Int) then 20 else (n : Int))) (hc : n ≤ c) : (execOp ρ o).run P w = .ok (.value (.slice A (min n 20) c)) w := by
 have := r_slice_to (P := P) (w := w) h hu hs hx hi (by split <;> omega) (by split <;> omega)
 rw [show (20 : Int) = ((20 : Nat) : Int) from rfl, cut_nat] at this
 exact this
theorem few_perm {α : Type} (a b : α) (T : List α) : (a :: b :: T).Perm (b :: (T ++ [a])) :=
 (List.Perm.swap b a T).trans (List.Perm.cons b (List.perm_append_comm (l₁ := [a]) (l₂ := T)))
theorem few_calls (w0 : World) (A : Option Addr) (c : Nat) (l : List Fact) (hl : FactsAt w0 A c l) :
    Calls Tryz.prog 12 [.slice A l.length c].toArray w0 fun en w' => ∃ A' c', en = .returned (.slice A' (fewF l).length c') ∧ FactsAt w' A' c' (fewF l) ∧ Ext0 w0 w' := by
 have hE : Ext0 w0 w0 := Ext.refl _ _
 have hL : Has w0 [] := trivial
 refine calls [2] Tryz.func12 rfl rfl rfl rfl ?_
 refine c_seq ?_
 refine c_ops ?_
 refine as' rfl rfl rfl rfl ?_
 refine l_nil ?_
 refine c_seq ?_
 refine c_ops ?_
 refine as' rfl rfl rfl rfl ?_
 refine l_nil ?_
 refine c_seq ?_
 refine c_seq ?_
 refine c_ops ?_
 refine as' rfl rfl rfl rfl ?_
 refine l_nil ?_
 refine c_block ?_
 refine c_loop0 (fun m1 e w => (e 0 = .slice A l.length c) ∧ ∃ (n : Nat) (v : Value) (fv : List FV), n ≤ l.length ∧ n ≤ 30 ∧ m1 = 30 - n ∧ e 4 = .int .i64 (n : Nat) ∧ e 3 = v ∧ fv.map (·.1) = (l.take n).map fewOne ∧ Has w (.row w0.heap.size 43 3 v (fv).length ((fv).map fcell).flatten :: (fv).map (fres 3 w0.heap.size)) ∧ Ext0 w0 w) 30 ?_ ?_
 ·exact ⟨rfl, 0, .slice none 0 0, [], Nat.zero_le _, Nat.zero_le _, rfl, rfl, rfl, rfl, hL.nilRow _ _ _, hE⟩
 rintro m1 e w ⟨hq0, hI⟩
 refine c_know (t := 0) (by exact hq0) ?_
 clear hq0
 obtain ⟨n, v, fv, hnl, hn30', hmn, h4, h3, hfv, hL, hE⟩ := hI
 refine c_know (t := 4) (by exact h4) ?_
 refine c_know (t := 3) (by exact h3) ?_
 have hfl : fv.length = n := by have := congrArg List.length hfv; simpa [Nat.min_eq_left hnl] using this
 have hmx := hl.max
 refine c_seq ?_
 refine c_seq ?_
 refine c_ops ?_
 refine mv' rfl rfl rfl rfl ?_
 refine mv' rfl rfl rfl rfl ?_
 refine l_val rfl rfl rfl (r_len rfl Tryz.underlying25 rfl) ?_
 refine l_val rfl rfl rfl (r_lss rfl rfl rfl) ?_
 refine mv' rfl rfl rfl rfl ?_
 refine l_case 9 rfl (fun hb => ?_) (fun hb => ?_)
 ·have hr9 := hb
  replace hb := of_decide_eq_true hb
  have hnn : n < l.length := by omega
  refine mv' rfl rfl rfl rfl ?_
  refine l_val rfl rfl rfl (r_lss rfl rfl rfl) ?_
  refine l_val rfl rfl rfl (r_pick rfl rfl) ?_
  refine l_nil ?_
  refine c_cond rfl (fun hb => ?_) (fun hb => ?_)
  ·have hr12 := hb
   replace hb := of_decide_eq_true hb
   have hn30 : n < 30 := by omega
   obtain ⟨A1, c1, hfc, hfw⟩ := hl.fact n (by omega) (by omega)
   have hwm := hfw.max
   refine c_skip ?_
   refine c_seq ?_
   refine c_block ?_
   refine c_draw mixed (hL.sub (.cons _ (.refl _))) hE ?_
   replace hL := hL.drew
   replace hE := hE.drew
   have hK := hL.sub (.cons _ (.refl _))
   refine h_t 0 rfl rfl (by kernel_rfl) (fun _ _ _ h => h) ⟨hK, hE⟩ rfl (fun W hW => r_move rfl) ?_
   refine h_listed (listed' := #[T',F',F',F',F',F',F',F',F',F',F',F',F',F',F',F',F',F',F',F',F',F',F',F',F',F',F',F',F']) (by kernel_rfl) ?_
   refine h_t 1 rfl rfl (by kernel_rfl) (fun _ _ _ h => h) ⟨hK, hE⟩ rfl (fun W hW => r_move rfl) ?_
   refine h_listed (listed' := #[T',T',F',F',F',F',F',F',F',F',F',F',F',F',F',F',F',F',F',F',F',F',F',F',F',F',F',F',F']) (by kernel_rfl) ?_
   refine h_t 2 rfl rfl (by kernel_rfl) (fun _ _ _ h => h) ⟨hK, hE⟩ rfl (fun W hW => r_move rfl) ?_
   refine h_listed (listed' := #[T',T',T',F',F',F',F',F',F',F',F',F',F',F',F',F',F',F',F',F',F',F',F',F',F',F',F',F',F']) (by kernel_rfl) ?_
   refine h_t 3 rfl rfl (by kernel_rfl) (fun _ _ _ h => h) ⟨hK, hE⟩ rfl (fun W hW => r_indexAddr_sl rfl Tryz.underlying25 Tryz.sizeOf43 rfl hl.is rfl (by omega) (by omega)) ?_
   refine h_listed (listed' := #[T',T',T',T',F',F',F',F',F',F',F',F',F',F',F',F',F',F',F',F',F',F',F',F',F',F',F',F',F']) (by kernel_rfl) ?_
   refine h_t 4 rfl rfl (by kernel_rfl) (fun _ _ _ h => h) ⟨hK, hE⟩ rfl (fun W hW => r_fieldAddr (n := 0) rfl Tryz.underlying43 rfl Tryz.sizeOf3 rfl) ?_
   refine h_listed (listed' := #[T',T',T',T',T',F',F',F',F',F',F',F',F',F',F',F',F',F',F',F',F',F',F',F',F',F',F',F',F']) (by kernel_rfl) ?_
   refine h_t 5 rfl rfl (by kernel_rfl) (fun _ _ _ h => h) ⟨hK, hE⟩ rfl (fun W hW => r_load rfl Tryz.isAgg3 rfl (Ext0.cells hW.2 _ _ (hfc 0 _ rfl))) ?_
   refine h_listed (listed' := #[T',T',T',T',T',T',F',F',F',F',F',F',F',F',F',F',F',F',F',F',F',F',F',F',F',F',F',F',F']) (by kernel_rfl) ?_
   refine h_t 6 rfl rfl (by kernel_rfl) (fun _ _ _ h => h) ⟨hK, hE⟩ rfl (fun W hW => r_move rfl) ?_
   refine h_listed (listed' := #[T',T',T',T',T',T',T',F',F',F',F',F',F',F',F',F',F',F',F',F',F',F',F',F',F',F',F',F',F']) (by kernel_rfl) ?_
   refine h_t 7 rfl rfl (by kernel_rfl) (fun _ _ _ h => h) ⟨hK, hE⟩ rfl (fun W hW => r_move rfl) ?_
   refine h_listed (listed' := #[T',T',T',T',T',T',T',T',F',F',F',F',F',F',F',F',F',F',F',F',F',F',F',F',F',F',F',F',F']) (by kernel_rfl) ?_
   refine h_t 8 rfl rfl (by kernel_rfl) (fun _ _ _ h => h) ⟨hK, hE⟩ rfl (fun W hW => r_indexAddr_sl rfl Tryz.underlying25 Tryz.sizeOf43 rfl hl.is rfl (by omega) (by omega)) ?_
   refine h_listed (listed' := #[T',T',T',T',T',T',T',T',T',F',F',F',F',F',F',F',F',F',F',F',F',F',F',F',F',F',F',F',F']) (by kernel_rfl) ?_
   refine h_t 9 rfl rfl (by kernel_rfl) (fun _ _ _ h => h) ⟨hK, hE⟩ rfl (fun W hW => r_fieldAddr (n := 0) rfl Tryz.underlying43 rfl Tryz.sizeOf3 rfl) ?_
   refine h_listed (listed' := #[T',T',T',T',T',T',T',T',T',T',F',F',F',F',F',F',F',F',F',F',F',F',F',F',F',F',F',F',F']) (by kernel_rfl) ?_
   refine h_t 10 rfl rfl (by kernel_rfl) (fun _ _ _ h => h) ⟨hK, hE⟩ rfl (fun W hW => r_load rfl Tryz.isAgg3 rfl (Ext0.cells hW.2 _ _ (hfc 1 _ rfl))) ?_
   refine h_listed (listed' := #[T',T',T',T',T',T',T',T',T',T',T',F',F',F',F',F',F',F',F',F',F',F',F',F',F',F',F',F',F']) (by kernel_rfl) ?_
   refine h_t 11 rfl rfl (by kernel_rfl) (fun _ _ _ h => h) ⟨hK, hE⟩ rfl (fun W hW => r_move rfl) ?_
   refine h_listed (listed' := #[T',T',T',T',T',T',T',T',T',T',T',T',F',F',F',F',F',F',F',F',F',F',F',F',F',F',F',F',F']) (by kernel_rfl) ?_
   refine h_t 12 rfl rfl (by kernel_rfl) (fun _ _ _ h => h) ⟨hK, hE⟩ rfl (fun W hW => r_move rfl) ?_
   refine h_listed (listed' := #[T',T',T',T',T',T',T',T',T',T',T',T',T',F',F',F',F',F',F',F',F',F',F',F',F',F',F',F',F']) (by kernel_rfl) ?_
   refine h_t 13 rfl rfl (by kernel_rfl) (fun _ _ _ h => h) ⟨hK, hE⟩ rfl (fun W hW => r_indexAddr_sl rfl Tryz.underlying25 Tryz.sizeOf43 rfl hl.is rfl (by omega) (by omega)) ?_
   refine h_listed (listed' := #[T',T',T',T',T',T',T',T',T',T',T',T',T',T',F',F',F',F',F',F',F',F',F',F',F',F',F',F',F']) (by kernel_rfl) ?_
   refine h_t 14 rfl rfl (by kernel_rfl) (fun _ _ _ h => h) ⟨hK, hE⟩ rfl (fun W hW => r_fieldAddr (n := 0) rfl Tryz.underlying43 rfl Tryz.sizeOf26 rfl) ?_
   refine h_listed (listed' := #[T',T',T',T',T',T',T',T',T',T',T',T',T',T',T',F',F',F',F',F',F',F',F',F',F',F',F',F',F']) (by kernel_rfl) ?_
   refine h_t 15 rfl rfl (by kernel_rfl) (fun _ _ _ h => h) ⟨hK, hE⟩ rfl (fun W hW => r_load rfl Tryz.isAgg26 rfl (Ext0.cells hW.2 _ _ (hfc 2 _ rfl))) ?_
   refine h_listed (listed' := #[T',T',T',T',T',T',T',T',T',T',T',T',T',T',T',T',F',F',F',F',F',F',F',F',F',F',F',F',F']) (by kernel_rfl) ?_
   refine h_t 16 rfl rfl (by kernel_rfl) (fun _ _ _ h => h) ⟨hK, hE⟩ rfl (fun W hW => r_move rfl) ?_
   refine h_listed (listed' := #[T',T',T',T',T',T',T',T',T',T',T',T',T',T',T',T',T',F',F',F',F',F',F',F',F',F',F',F',F']) (by kernel_rfl) ?_
   refine h_t 17 rfl rfl (by kernel_rfl) (fun _ _ _ h => h) ⟨hK, hE⟩ rfl (fun W hW => r_move rfl) ?_
   refine h_listed (listed' := #[T',T',T',T',T',T',T',T',T',T',T',T',T',T',T',T',T',T',F',F',F',F',F',F',F',F',F',F',F']) (by kernel_rfl) ?_
   refine h_t 18 rfl rfl (by kernel_rfl) (fun _ _ _ h => h) ⟨hK, hE⟩ rfl (fun W hW => r_indexAddr_sl rfl Tryz.underlying25 Tryz.sizeOf43 rfl hl.is rfl (by omega) (by omega)) ?_
   refine h_listed (listed' := #[T',T',T',T',T',T',T',T',T',T',T',T',T',T',T',T',T',T',T',F',F',F',F',F',F',F',F',F',F']) (by kernel_rfl) ?_
   refine h_t 19 rfl rfl (by kernel_rfl) (fun _ _ _ h => h) ⟨hK, hE⟩ rfl (fun W hW => r_fieldAddr (n := 0) rfl Tryz.underlying43 rfl Tryz.sizeOf26 rfl) ?_
   refine h_listed (listed' := #[T',T',T',T',T',T',T',T',T',T',T',T',T',T',T',T',T',T',T',T',F',F',F',F',F',F',F',F',F']) (by kernel_rfl) ?_
   refine h_t 20 rfl rfl (by kernel_rfl) (fun _ _ _ h => h) ⟨hK, hE⟩ rfl (fun W hW => r_load rfl Tryz.isAgg26 rfl (Ext0.cells hW.2 _ _ (hfc 2 _ rfl))) ?_
   refine h_listed (listed' := #[T',T',T',T',T',T',T',T',T',T',T',T',T',T',T',T',T',T',T',T',T',F',F',F',F',F',F',F',F']) (by kernel_rfl) ?_
   refine h_t 21 rfl rfl (by kernel_rfl) (fun _ _ _ h => h) ⟨hK, hE⟩ rfl (fun W hW => r_len rfl Tryz.underlying26 rfl) ?_
   refine h_listed (listed' := #[T',T',T',T',T',T',T',T',T',T',T',T',T',T',T',T',T',T',T',T',T',T',F',F',F',F',F',F',F']) (by kernel_rfl) ?_
   refine h_t 22 rfl rfl (by kernel_rfl) (fun _ _ _ h => h) ⟨hK, hE⟩ rfl (fun W hW => r_min rfl rfl rfl) ?_
   refine h_listed (listed' := #[T',T',T',T',T',T',T',T',T',T',T',T',T',T',T',T',T',T',T',T',T',T',T',F',F',F',F',F',F']) (by kernel_rfl) ?_
   refine h_t 23 rfl rfl (by kernel_rfl) (fun _ _ _ h => h) ⟨hK, hE⟩ rfl (fun W hW => r_cutF rfl Tryz.underlying26 Tryz.sizeOf3 rfl rfl hfw.cap) ?_
   refine h_listed (listed' := #[T',T',T',T',T',T',T',T',T',T',T',T',T',T',T',T',T',T',T',T',T',T',T',T',F',F',F',F',F']) (by kernel_rfl) ?_
   refine h_by 24 rfl rfl (by kernel_rfl) rfl (r_call rfl rfl Tryz.func25 rfl rfl) (CopyInts_calls _ A1 (min (fat l n).why.length 20) c1 ((fat l n).why.take 20) ((hfw.keep RInt.kept (Ext0.cells hE)).take 20) (by omega)) ?_
   rintro _ w ⟨lv0, rfl, hrow, hX⟩
   rw [show min (fat l n).why.length 20 = ((fat l n).why.take 20).length from by rw [List.length_take, Nat.min_comm]] at hrow
   have h1v := one_row hrow
   obtain ⟨A12, c12, rfl⟩ := ownsRow_slice hrow
   replace hL := hL.cons hX (r := .row w0.heap.size 3 1 (Value.slice A12 ((fat l n).why.take 20).length c12) ((fat l n).why.take 20).length (((fat l n).why.take 20).map (Value.int .i64))) (ownsRow_base hrow hE.size) (fun b hb => (ownsRow_lt hrow hb).2)
   replace hE := hE.step0 hX
   have hK := hL.sub (.cons _ (.cons _ (.refl _)))
   refine ⟨_, rfl, ⟨hK, hE⟩, ?_⟩
   refine h_listed (listed' := #[T',T',T',T',T',T',T',T',T',T',T',T',T',T',T',T',T',T',T',T',T',T',T',T',T',F',F',F',F']) (by kernel_rfl) ?_
   refine h_t 25 rfl rfl (by kernel_rfl) (fun _ _ _ h => h) ⟨hK, hE⟩ rfl (fun W hW => r_build rfl rfl (built_f3 _ _ _ _ _)) ?_
   refine h_listed (listed' := #[T',T',T',T',T',T',T',T',T',T',T',T',T',T',T',T',T',T',T',T',T',T',T',T',T',T',F',F',F']) (by kernel_rfl) ?_
   refine h_new 26 rfl rfl (by kernel_rfl) rfl (n_slice (cells := #[.int .i64 (fat l n).a, .int .i64 (fat l n).b, (Value.slice A12 ((fat l n).why.take 20).length c12)]) rfl Tryz.underlying25 Tryz.sizeOf43 Tryz.zeroValue43 rfl rfl (fill_fact _ _ _) hL hE) ?_
   rintro _ w ⟨s41, rfl, hs41, hL, hE, hX⟩
   have hK := hL.sub (.cons _ (.cons _ (.cons _ (.refl _))))
   refine ⟨⟨hK, hE⟩, ?_⟩
   refine h_listed (listed' := #[T',T',T',T',T',T',T',T',T',T',T',T',T',T',T',T',T',T',T',T',T',T',T',T',T',T',T',F',F']) (by kernel_rfl) ?_
   refine h_new 27 rfl rfl (by kernel_rfl) rfl (r_append (ys := fcell (fewOne (fat l n), (Value.slice A12 ((fat l n).why.take 20).length c12))) 2 rfl Tryz.underlying25 info_fact rfl (by decide) rfl rfl hL hE rfl rfl (blk_raw (cs := #[.int .i64 (fat l n).a, .int .i64 (fat l n).b, (Value.slice A12 ((fat l n).why.take 20).length c12)]) (hL.get 0 rfl) rfl) (fun u hu => List.all_eq_true.1 (all3 h1v) u hu) (by omega) (by omega) (Nat.le_refl _) hE.size) ?_
   rintro _ w ⟨hL, hE, hk⟩
   obtain ⟨A4, c4, rfl⟩ := ownsRow_slice (hL.row 2 rfl)
   replace hL : Has w (.blk s41 (.cells #[.int .i64 (fat l n).a, .int .i64 (fat l n).b, (Value.slice A12 ((fat l n).why.take 20).length c12)] 43 (0, 0)) :: .row w0.heap.size 3 1 (Value.slice A12 ((fat l n).why.take 20).length c12) ((fat l n).why.take 20).length (((fat l n).why.take 20).map (Value.int .i64)) :: .row w0.heap.size 43 3 (.slice A4 (fv.length + 1) c4) (fv ++ [(fewOne (fat l n), (Value.slice A12 ((fat l n).why.take 20).length c12))]).length ((fv ++ [(fewOne (fat l n), (Value.slice A12 ((fat l n).why.take 20).length c12))]).map fcell).flatten :: (fv).map (fres 3 w0.heap.size)) := by rw [← fcells_snoc, List.length_append]; exact hL
   have hK := hL.sub (.cons _ (.cons _ (.cons _ (.refl _))))
   refine ⟨⟨hK, hE⟩, ?_⟩
   refine h_listed (listed' := #[T',T',T',T',T',T',T',T',T',T',T',T',T',T',T',T',T',T',T',T',T',T',T',T',T',T',T',T',F']) (by kernel_rfl) ?_
   refine h_t 28 rfl rfl (by kernel_rfl) (fun _ _ _ h => h) ⟨hK, hE⟩ rfl (fun W hW => r_assign rfl) ?_
   refine h_listed (listed' := #[T',T',T',T',T',T',T',T',T',T',T',T',T',T',T',T',T',T',T',T',T',T',T',T',T',T',T',T',T']) (by kernel_rfl) ?_
   refine h_done (by kernel_rfl) ?_
   refine c_ops ?_
   refine mv' rfl rfl rfl rfl ?_
   refine l_val rfl rfl rfl (r_add rfl rfl rfl) ?_
   refine as' rfl rfl rfl rfl ?_
   refine l_nil ?_
   refine ⟨30 - (n + 1), by omega, rfl, n + 1, (.slice A4 (fv.length + 1) c4), fv ++ [(fewOne (fat l n), (Value.slice A12 ((fat l n).why.take 20).length c12))], by omega, by omega, rfl, by show Value.int .i64 (IntKind.i64.wrap ((n : Int) + 1)) = _; rw [wrap_succ hnn hmx], rfl, by rw [take_snoc (fat_nat hnn), List.map_append, List.map_append, ← hfv]; rfl, ?_, hE⟩
   rw [List.map_append (f := fres 3 w0.heap.size)]
   exact Has.perm (few_perm _ _ _) hL.tail
  ·have hr12 := hb
   replace hb := of_decide_eq_false hb
   have hend : (l.take n).map fewOne = fewF l := by unfold fewF; rw [show n = 30 by omega]
   refine c_exit ?_
   refine c_seq ?_
   refine c_ops ?_
   refine mv' rfl rfl rfl rfl ?_
   refine as' rfl rfl rfl rfl ?_
   refine l_nil ?_
   refine c_ret ?_
   obtain ⟨A9, c9, rfl⟩ := ownsRow_slice (hL.row 0 rfl)
   have hns := (facts_at (hL.sub (.cons _ (.refl _))) (fun x hx => List.mem_map.2 ⟨x, hx, rfl⟩) (hL.row 0 rfl) rfl).1
   rw [hfv, hend] at hns
   exact ⟨A9, c9, congrArg (fun n => Ending.returned (.slice A9 n c9)) (show fv.length = (fewF l).length by rw [← hend, ← hfv, List.length_map]), hns, hE⟩
 ·have hr9 := hb
  replace hb := of_decide_eq_false hb
  have hend : (l.take n).map fewOne = fewF l := by unfold fewF; rw [List.take_of_length_le (by omega), List.take_of_length_le (by omega)]
  refine l_not rfl rfl rfl ?_
  refine l_not rfl rfl rfl ?_
  refine l_val rfl rfl rfl (r_pick rfl rfl) ?_
  refine l_nil ?_
  refine c_no rfl ?_
  refine c_exit ?_
  refine c_seq ?_
  refine c_ops ?_
  refine mv' rfl rfl rfl rfl ?_
  refine as' rfl rfl rfl rfl ?_
  refine l_nil ?_
  refine c_ret ?_
  obtain ⟨A9, c9, rfl⟩ := ownsRow_slice (hL.row 0 rfl)
  have hns := (facts_at (hL.sub (.cons _ (.refl _))) (fun x hx => List.mem_map.2 ⟨x, hx, rfl⟩) (hL.row 0 rfl) rfl).1
  rw [hfv, hend] at hns
  exact ⟨A9, c9, congrArg (fun n => Ending.returned (.slice A9 n c9)) (show fv.length = (fewF l).length by rw [← hend, ← hfv, List.length_map]), hns, hE⟩
theorem fCheck_calls (w0 : World) (Ag : Option Addr) (cg : Nat) (g : List GNode) (hg : Nodes w0 Ag cg g) (hfit : Fits g) (hk0 : KeysLaid w0) (Af : Option Addr) (cf : Nat) (l : List Fact) (hl : FactsAt w0 Af cf l) :
    Calls Tryz.prog 15 [.slice Ag g.length cg, .slice Af l.length cf].toArray w0 fun en w' => en = .returned (.int .i64 (checkF g l)) ∧ Ext0 w0 w' := by
 have hE : Ext0 w0 w0 := Ext.refl _ _
 have hL : Has w0 [] := trivial
 refine calls [4] Tryz.func15 rfl rfl rfl rfl ?_
 refine c_seq ?_
 refine c_ops ?_
 refine as' rfl rfl rfl rfl ?_
 refine l_nil ?_
 refine c_seq ?_
 refine c_ops ?_
 refine mv' rfl rfl rfl rfl ?_
 refine mv' rfl rfl rfl rfl ?_
 refine l_val rfl rfl rfl (r_build rfl rfl (built_facts _ _ _ _ _ _)) ?_
 refine l_new rfl rfl rfl (n_box rfl hL hE) ?_
 rintro _ w ⟨b9, rfl, hb9, hL, hE, hX⟩
 refine as' rfl rfl rfl rfl ?_
 refine l_nil ?_
 refine c_seq ?_
 refine c_ops ?_
 refine mv' rfl rfl rfl rfl ?_
 refine l_by rfl rfl rfl (r_call rfl rfl Tryz.func34 rfl rfl) (check_calls _ b9 Ag cg g (hg.keep RNode.kept (Ext0.cells hE)) hfit (hk0.keep (Ext0.cells hE)) (by rw [blk_cell (hL.get 0 rfl)]; rfl) Af cf l (hl.keep RFact.kept (Ext0.cells hE)) (by rw [blk_cell (hL.get 0 rfl)]; rfl)) ?_
 rintro _ w ⟨rfl, hX⟩
 replace hL := hL.ext0 hX
 replace hE := hE.step0 hX
 refine ⟨_, rfl, ?_⟩
 refine as' rfl rfl rfl rfl ?_
 refine l_nil ?_
 refine c_ret ?_
 exact ⟨rfl, hE⟩
def spF : FV := (⟨-9, 0, []⟩, .slice none 0 0)
def spL (fv : List FV) (i : Nat) : List FV := List.replicate i spF ++ fv.drop i
theorem spL_len {fv : List FV} {i : Nat} (h : i ≤ fv.length) : (spL fv i).length = fv.length := by simp [spL]; omega
theorem spL_get {fv : List FV} {i : Nat} (h : i < fv.length) : (spL fv i)[i]? = some (fv.getD i spF) := by
 unfold spL
 rw [List.getElem?_append_right (by simp), List.length_replicate, Nat.sub_self, List.getElem?_drop, Nat.add_zero, List.getD_eq_getElem?_getD, List.getElem?_eq_getElem h]
 rfl
theorem spL_set {fv : List FV} {i : Nat} (h : i < fv.length) : (spL fv i).set i spF = spL fv (i + 1) := by
 unfold spL
 rw [List.set_append_right _ _ (by simp), List.length_replicate, Nat.sub_self, List.drop_eq_getElem_cons h, List.set_cons_zero, List.replicate_succ', List.append_assoc]
 rfl
theorem drop_fres {fv : List FV} {i : Nat} {ie B : Nat} (h : i < fv.length) : (fv.drop i).map (fres ie B) = fres ie B (fv.getD i spF) :: (fv.drop (i + 1)).map (fres ie B) := by
 rw [List.drop_eq_getElem_cons h, List.map_cons, List.getD_eq_getElem?_getD, List.getElem?_eq_getElem h]
 rfl
theorem row_cell {w : World} {B e n' c : Nat} {A : Option Addr} {fv : List FV} (h : w.ownsRow B e 3 (.slice A n' c) fv.length (fv.map fcell).flatten) {i : Nat} {x : FV} (hx : fv[i]? = some x) : (0 < n' → A.isSome = true) ∧ n' = fv.length ∧ ∀ j v, (fcell x)[j]? = some v → w.cell? (((adr A).add ((i : Int).toNat * 3)).add j) = some v := by
 obtain ⟨h1, h2⟩ := fv_sl h
 subst h2
 obtain ⟨cs, _, hcs, hcell⟩ := h1.at_ i x hx
 exact ⟨h1.is, rfl, fun j v hj => by rw [adr_add, Int.toNat_natCast]; exact hcell j v (hcs ▸ hj)⟩
theorem spoilt_facts {w : World} {B e n' c : Nat} {A : Option Addr} {fv : List FV} (h : w.ownsRow B e 3 (.slice A n' c) (spL fv fv.length).length ((spL fv fv.length).map fcell).flatten) : FactsAt w A c (List.replicate fv.length ⟨-9, 0, []⟩) := by
 have hsp : spL fv fv.length = List.replicate fv.length spF := by unfold spL; simp
 rw [hsp] at h
 have hE : Els w 3 RFact (List.replicate fv.length (⟨-9, 0, []⟩ : Fact)) ((List.replicate fv.length spF).map fcell) := by
  refine ⟨by simp, fun i x cs h1 h2 => ?_⟩
  rw [List.getElem?_map, List.getElem?_replicate] at h2
  rw [List.getElem?_replicate] at h1
  split at h1
  ·rename_i hi
   rw [if_pos hi] at h2
   cases h1; cases h2
   exact ⟨rfl, none, 0, rfl, Sl.nil _ _ _ _ _⟩
  ·cases h1
 obtain ⟨A', c', hv, hs, _⟩ := Sl.ofRow h hE (by simp)
 injection hv with h1 h2 h3
 subst h1; subst h3
 simp only [List.length_replicate] at hs
 unfold FactsAt
 rw [List.length_replicate]
 exact hs
theorem built_f1 (a : Int) : Tryz.prog.built 43 [(0, .int .i64 a)] = some #[.int .i64 a, .int .i64 0, .slice none 0 0] := by kernel_rfl
set_option maxHeartbeats 4000000 in
theorem spoil_calls (w0 : World) (B : Nat) (A : Option Addr) (c : Nat) (fv : List FV) (hL : Has w0 (.row B 43 3 (.slice A fv.length c) fv.length (fv.map fcell).flatten :: fv.map (fres 3 B))) :
    Calls Tryz.prog 23 [.slice A fv.length c].toArray w0 fun en w' => (∃ v, en = .returned v) ∧ FactsAt w' A c (List.replicate fv.length ⟨-9, 0, []⟩) ∧ Ext (fun k => B ≤ k) w0 w' := by
 have hE : Ext (fun k => B ≤ k) w0 w0 := Ext.refl _ _
 have hmx : fv.length ≤ 9223372036854775807 := (fv_sl (hL.row 0 rfl)).1.max
 refine calls [] Tryz.func23 rfl rfl rfl rfl ?_
 refine c_seq ?_
 refine c_ops ?_
 refine as' rfl rfl rfl rfl ?_
 refine l_nil ?_
 refine c_block ?_
 refine c_loop0 (fun m1 e w => (e 0 = .slice A fv.length c) ∧ ∃ (i : Nat), i ≤ fv.length ∧ m1 = fv.length - i ∧ e 2 = .int .i64 (i : Nat) ∧ Has w (.row B 43 3 (.slice A fv.length c) (spL fv i).length ((spL fv i).map fcell).flatten :: (fv.drop i).map (fres 3 B)) ∧ Ext (fun k => B ≤ k) w0 w) (fv.length) ?_ ?_
 ·exact ⟨rfl, 0, Nat.zero_le _, rfl, rfl, hL, hE⟩
 rintro m1 e w ⟨hq0, hI⟩
 refine c_know (t := 0) (by exact hq0) ?_
 clear hq0
 obtain ⟨i, hil, him, h2s, hL, hE⟩ := hI
 refine c_know (t := 2) (by exact h2s) ?_
 refine c_seq ?_
 refine c_seq ?_
 refine c_ops ?_
 refine mv' rfl rfl rfl rfl ?_
 refine mv' rfl rfl rfl rfl ?_
 refine l_val rfl rfl rfl (r_len rfl Tryz.underlying25 rfl) ?_
 refine l_val rfl rfl rfl (r_lss rfl rfl rfl) ?_
 refine l_nil ?_
 refine c_cond rfl (fun hb => ?_) (fun hb => ?_)
 ·have hr7 := hb
  replace hb := of_decide_eq_true hb
  have hilt : i < fv.length := by omega
  rw [drop_fres hilt] at hL
  have hwv : ∃ Aw cw, (fv.getD i spF).2 = .slice Aw (fv.getD i spF).1.why.length cw := ownsRow_slice (hL.row 1 rfl)
  obtain ⟨Aw, cw, hwv⟩ := hwv
  have hr1 := hL.row 1 rfl
  rw [hwv] at hr1
  have hwm := (Sl.ints_at hr1).max
  replace hL : ∃ ys, ys.length = (fv.getD i spF).1.why.length ∧ Has w (.row B 43 3 (.slice A fv.length c) (spL fv i).length ((spL fv i).map fcell).flatten :: .row B 3 1 (.slice Aw (fv.getD i spF).1.why.length cw) (fv.getD i spF).1.why.length ys :: (fv.drop (i + 1)).map (fres 3 B)) := ⟨(fv.getD i spF).1.why.map (Value.int .i64), List.length_map .., by rw [← hwv]; exact hL⟩
  obtain ⟨ys, hys, hL⟩ := hL
  refine c_skip ?_
  refine c_seq ?_
  refine c_block ?_
  refine c_seq ?_
  refine c_seq ?_
  refine c_ops ?_
  refine as' rfl rfl rfl rfl ?_
  refine l_nil ?_
  refine c_block ?_
  refine c_loop0 (fun m1 e w => (e 0 = .slice A fv.length c ∧ e 2 = .int .i64 (i : Nat)) ∧ ∃ (k : Nat) (ys : List Value), k ≤ (fv.getD i spF).1.why.length ∧ m1 = (fv.getD i spF).1.why.length - k ∧ e 3 = .int .i64 (k : Nat) ∧ ys.length = (fv.getD i spF).1.why.length ∧ Has w (.row B 43 3 (.slice A fv.length c) (spL fv i).length ((spL fv i).map fcell).flatten :: .row B 3 1 (.slice Aw (fv.getD i spF).1.why.length cw) (fv.getD i spF).1.why.length ys :: (fv.drop (i + 1)).map (fres 3 B)) ∧ Ext (fun k => B ≤ k) w0 w) ((fv.getD i spF).1.why.length) ?_ ?_
  ·exact ⟨⟨rfl, rfl⟩, 0, ys, Nat.zero_le _, rfl, rfl, hys, hL, hE⟩
  rintro m1 e w ⟨⟨hq0, hq2⟩, hI⟩
  refine c_know (t := 0) (by exact hq0) ?_
  refine c_know (t := 2) (by exact hq2) ?_
  clear hq0 hq2
  obtain ⟨k, ys, hkl, hkm, h3s, hys, hL, hE⟩ := hI
  refine c_know (t := 3) (by exact h3s) ?_
  refine c_seq ?_
  refine c_seq ?_
  refine c_ops ?_
  refine mv' rfl rfl rfl rfl ?_
  refine mv' rfl rfl rfl rfl ?_
  refine mv' rfl rfl rfl rfl ?_
  refine l_val rfl rfl rfl (r_indexAddr_sl rfl Tryz.underlying25 Tryz.sizeOf43 rfl (row_cell (hL.row 0 rfl) (spL_get hilt)).1 rfl (by omega) (by omega)) ?_
  refine l_val rfl rfl rfl (r_fieldAddr (n := 0) rfl Tryz.underlying43 rfl Tryz.sizeOf26 rfl) ?_
  refine l_val rfl rfl rfl (r_load (v := .slice Aw (fv.getD i spF).1.why.length cw) rfl Tryz.isAgg26 rfl (by rw [← hwv]; exact (row_cell (hL.row 0 rfl) (spL_get hilt)).2.2 2 _ rfl)) ?_
  refine l_val rfl rfl rfl (r_len rfl Tryz.underlying26 rfl) ?_
  refine l_val rfl rfl rfl (r_lss rfl rfl rfl) ?_
  refine l_nil ?_
  refine c_cond rfl (fun hb => ?_) (fun hb => ?_)
  ·have hr17 := hb
   replace hb := of_decide_eq_true hb
   have hklt : k < (fv.getD i spF).1.why.length := by omega
   refine c_skip ?_
   refine c_seq ?_
   refine c_block ?_
   refine c_ops ?_
   refine mv' rfl rfl rfl rfl ?_
   refine mv' rfl rfl rfl rfl ?_
   refine l_val rfl rfl rfl (r_indexAddr_sl rfl Tryz.underlying25 Tryz.sizeOf43 rfl (row_cell (hL.row 0 rfl) (spL_get hilt)).1 rfl (by omega) (by omega)) ?_
   refine l_val rfl rfl rfl (r_fieldAddr (n := 0) rfl Tryz.underlying43 rfl Tryz.sizeOf26 rfl) ?_
   refine l_val rfl rfl rfl (r_load (v := .slice Aw (fv.getD i spF).1.why.length cw) rfl Tryz.isAgg26 rfl (by rw [← hwv]; exact (row_cell (hL.row 0 rfl) (spL_get hilt)).2.2 2 _ rfl)) ?_
   refine mv' rfl rfl rfl rfl ?_
   obtain ⟨gw, capw, hAw⟩ := row_pos (hL.row 1 rfl) (show 0 < (fv.getD i spF).1.why.length by omega)
   injection hAw with hAw1 _ hAw2
   subst hAw1; subst hAw2
   refine l_val rfl rfl rfl (r_indexAddr_row rfl Tryz.underlying26 Tryz.sizeOf3 rfl rfl hklt) ?_
   refine l_new_do rfl rfl (r_setRow (vs := [.int .i64 (-7)]) (k := k) 1 rfl Tryz.sizeOf3 rfl rfl rfl rfl hL hE rfl (by omega) (fun _ => (ownsRow_lt (hL.row 1 rfl) (b := gw) rfl).2)) ?_
   rintro w ⟨hL, hE, hz, hk⟩
   refine l_nil ?_
   refine c_ops ?_
   refine mv' rfl rfl rfl rfl ?_
   refine l_val rfl rfl rfl (r_add rfl rfl rfl) ?_
   refine as' rfl rfl rfl rfl ?_
   refine l_nil ?_
   exact ⟨(fv.getD i spF).1.why.length - (k + 1), by omega, ⟨rfl, rfl⟩, k + 1, _, by omega, rfl, by show Value.int .i64 (IntKind.i64.wrap ((k : Int) + 1)) = _; rw [wrap_succ hklt hwm], by rw [List.length_append, List.length_append, List.length_take, List.length_drop, hys, List.length_singleton]; omega, hL, hE⟩
  ·have hr17 := hb
   replace hb := of_decide_eq_false hb
   refine c_exit ?_
   refine c_ops ?_
   refine mv' rfl rfl rfl rfl ?_
   refine mv' rfl rfl rfl rfl ?_
   refine l_val rfl rfl rfl (r_build rfl rfl (built_f1 _)) ?_
   obtain ⟨ga, capa, hAa⟩ := row_pos (hL.row 0 rfl) (by rw [spL_len hil]; omega)
   injection hAa with hAa1 _ hAa2
   subst hAa1; subst hAa2
   have hgB := (ownsRow_lt (hL.row 0 rfl) rfl).2
   rw [spL_len hil] at hL
   refine l_val rfl rfl rfl (r_indexAddr_row rfl Tryz.underlying25 Tryz.sizeOf43 rfl rfl hilt) ?_
   refine l_new_do rfl rfl (r_setRow (vs := fcell spF) (k := i) 0 rfl Tryz.sizeOf43 rfl rfl rfl rfl hL hE rfl hilt (fun _ => hgB)) ?_
   rintro w ⟨hL, hE, hz, hk⟩
   refine l_nil ?_
   refine c_ops ?_
   refine mv' rfl rfl rfl rfl ?_
   refine l_val rfl rfl rfl (r_add rfl rfl rfl) ?_
   refine as' rfl rfl rfl rfl ?_
   refine l_nil ?_
   have hset := fcells_set (spL fv i) i spF (by rw [spL_len hil]; exact hilt); rw [spL_set hilt] at hset; rw [hset] at hL; exact ⟨fv.length - (i + 1), by omega, rfl, i + 1, by omega, rfl, by show Value.int .i64 (IntKind.i64.wrap ((i : Int) + 1)) = _; rw [wrap_succ hilt hmx], by rw [spL_len hilt]; exact hL.sub (.cons_cons _ (.cons _ (.refl _))), hE⟩
 ·have hr7 := hb
  replace hb := of_decide_eq_false hb
  obtain rfl : i = fv.length := by omega
  refine c_exit ?_
  exact ⟨⟨_, rfl⟩, spoilt_facts (hL.row 0 rfl), hE⟩
end Go.Proofs.YtndophlnapjkhaaGreatDoor.Vc
namespace Go.Proofs.YtndophlnapjkhaaGreatDoor.Vc
open Go Go.RowKit
set_option linter.unusedVariables false
set_option linter.unusedSimpArgs false
theorem r_beqlR {w : World} {ρ : Operand → Value} {o : Oper} {x y : Operand} {t' : TypeId} {a b : Bool} (h : o.op = .binOp .eql 4 x y t') (hx : ρ x = .bool a) (hy : ρ y = .bool b) : (execOp ρ o).run Tryz.prog w = .ok (.value (.bool (a == b))) w := by
 have := run_eql_bool (P := Tryz.prog) w 4 a b Tryz.underlying4
 simp [execOp, h, hx, hy, eqGuard, this]
theorem r_bneqR {w : World} {ρ : Operand → Value} {o : Oper} {x y : Operand} {t' : TypeId} {a b : Bool} (h : o.op = .binOp .neq 4 x y t') (hx : ρ x = .bool a) (hy : ρ y = .bool b) (hab : a = b) : (execOp ρ o).run Tryz.prog w = .ok (.value (.bool false)) w := by
 subst hab
 have : (binOp .neq 4 (.bool a) (.bool a)).run Tryz.prog w = .ok (.bool false) w := by
  rw [run_neq_bool (P := Tryz.prog) w 4 a a Tryz.underlying4]
  simp
 simp [execOp, h, hx, hy, eqGuard, this]
theorem iff_bool {a b : Bool} {p : Prop} (h : a = true ↔ p) (k : b = true ↔ p) : a = b := by
 rw [Bool.eq_iff_iff, h, k]
theorem rSame_true2 (w0 : World) (A : Option Addr) (c : Nat) (a : List Fact) (ha : FactsAt w0 A c a) (B : Option Addr) (d : Nat) (hb' : FactsAt w0 B d a) :
    Calls Tryz.prog 9 [.slice A a.length c, .slice B a.length d].toArray w0 fun en w' => en = .returned (.bool true) ∧ Ext0 w0 w' :=
 (rSame_calls w0 A c a ha B d a hb').mono fun en w' ⟨h1, h2⟩ => ⟨by rw [h1, decide_eq_true rfl], h2⟩
set_option maxHeartbeats 8000000 in
theorem Looks_calls (w0 : World) (hk0 : KeysLaid w0) (A : Option Addr) (c : Nat) (g : List GNode) (hg : Nodes w0 A c g) (Af : Option Addr) (cf : Nat) (l0 : List Fact) (hl0 : FactsAt w0 Af cf l0) (k : Int) :
    Calls Tryz.prog 4 [.slice A g.length c, .slice Af l0.length cf, .int .i64 k].toArray w0 fun en w' => en = .returned (.bool true) ∧ Ext0 w0 w' := by
 have hE : Ext0 w0 w0 := Ext.refl _ _
 have hL : Has w0 [] := trivial
 refine calls [6] Tryz.func4 rfl rfl rfl rfl ?_
 refine c_seq ?_
 refine c_ops ?_
 refine as' rfl rfl rfl rfl ?_
 refine l_nil ?_
 refine c_seq ?_
 refine c_ops ?_
 refine mv' rfl rfl rfl rfl ?_
 refine l_by rfl rfl rfl (r_call rfl rfl Tryz.func6 rfl rfl) (cut_calls _ A c g hg) ?_
 rintro _ w ⟨A1, c1, hen, hn, hX⟩
 obtain ⟨gg, hgg⟩ : ∃ x, x = cutF g := ⟨_, rfl⟩
 have hlen := cutF_len g
 have hfit := cutF_fits g
 rw [← hgg] at hen hn hlen hfit
 subst hen
 replace hE := hE.trans hX
 obtain ⟨wa, hwa⟩ : ∃ x, x = w := ⟨_, rfl⟩
 rw [← hwa] at hn hE
 have hE0 := hE
 replace hE : Ext0 wa w := hwa ▸ Ext.refl _ _
 refine ⟨_, rfl, ?_⟩
 refine mv' rfl rfl rfl rfl ?_
 refine l_by rfl rfl rfl (r_call rfl rfl Tryz.func12 rfl rfl) (few_calls _ Af cf l0 (hl0.keep RFact.kept (Ext0.cells (hE0.trans hE)))) ?_
 rintro _ w ⟨A2, c2, hen, hl, hX⟩
 obtain ⟨ll, hll⟩ : ∃ x, x = fewF l0 := ⟨_, rfl⟩
 have hl30 := fewF_len l0
 have hwhy := fun f => @fewF_why l0 f
 have hfew := fewF_few l0
 rw [← hll] at hen hl hl30 hwhy hfew
 subst hen
 replace hE := hE.trans hX
 replace hn := hn.keep RNode.kept (Ext0.cells hE)
 obtain ⟨wb, hwb⟩ : ∃ x, x = w := ⟨_, rfl⟩
 rw [← hwb] at hn hl hE
 replace hE0 := hE0.trans hE
 replace hE : Ext0 wb w := hwb ▸ Ext.refl _ _
 refine ⟨_, rfl, ?_⟩
 refine as' rfl rfl rfl rfl ?_
 refine as' rfl rfl rfl rfl ?_
 refine l_nil ?_
 refine c_seq ?_
 refine c_ops ?_
 refine mv' rfl rfl rfl rfl ?_
 refine l_by rfl rfl rfl (r_call rfl rfl Tryz.func12 rfl rfl) (few_calls _ A2 c2 ll (hl.keep RFact.kept (Ext0.cells hE))) ?_
 rintro _ w ⟨A3, c3, hen, hin, hX⟩
 rw [hfew] at hen hin
 subst hen
 replace hE := hE.trans hX
 replace hn := hn.keep RNode.kept (Ext0.cells hE)
 replace hl := hl.keep RFact.kept (Ext0.cells hE)
 obtain ⟨wc, hwc⟩ : ∃ x, x = w := ⟨_, rfl⟩
 rw [← hwc] at hn hl hin hE
 replace hE0 := hE0.trans hE
 replace hE : Ext0 wc w := hwc ▸ Ext.refl _ _
 refine ⟨_, rfl, ?_⟩
 refine as' rfl rfl rfl rfl ?_
 refine l_nil ?_
 refine c_fresh (fun e => e 0 = .slice A1 gg.length c1 ∧ e 1 = .slice A2 ll.length c2 ∧ e 7 = .slice A3 ll.length c3 ∧ e 2 = .int .i64 k) ⟨rfl, rfl, rfl, rfl⟩ ?_
 rintro e ⟨hq0, hq1, hq7, hq2⟩
 refine c_know (t := 0) (by exact hq0) ?_
 refine c_know (t := 1) (by exact hq1) ?_
 refine c_know (t := 7) (by exact hq7) ?_
 refine c_know (t := 2) (by exact hq2) ?_
 clear hq0 hq1 hq7 hq2
 refine c_seq ?_
 refine c_ops ?_
 refine mv' rfl rfl rfl rfl ?_
 refine mv' rfl rfl rfl rfl ?_
 refine l_by rfl rfl rfl (r_call rfl rfl Tryz.func13 rfl rfl) (First_calls _ A1 c1 gg (hn.keep RNode.kept (Ext0.cells hE)) hfit (hk0.keep (Ext0.cells (hE0.trans hE))) A3 c3 ll (hin.keep RFact.kept (Ext0.cells hE))) ?_
 rintro _ w ⟨rfl, hX⟩
 replace hE := hE.trans hX
 refine ⟨_, rfl, ?_⟩
 refine mv' rfl rfl rfl rfl ?_
 refine l_val rfl rfl rfl (r_extract rfl rfl rfl) ?_
 refine l_val rfl rfl rfl (r_extract rfl rfl rfl) ?_
 refine as' rfl rfl rfl rfl ?_
 refine as' rfl rfl rfl rfl ?_
 refine l_nil ?_
 refine c_seq ?_
 refine c_ops ?_
 refine mv' rfl rfl rfl rfl ?_
 refine mv' rfl rfl rfl rfl ?_
 refine l_by rfl rfl rfl (r_call rfl rfl Tryz.func14 rfl rfl) (rFirst_calls _ A1 c1 gg (hn.keep RNode.kept (Ext0.cells hE)) hfit (by omega) A2 c2 ll (hl.keep RFact.kept (Ext0.cells hE))) ?_
 rintro _ w ⟨rfl, hX⟩
 replace hE := hE.trans hX
 refine ⟨_, rfl, ?_⟩
 refine mv' rfl rfl rfl rfl ?_
 refine l_val rfl rfl rfl (r_extract rfl rfl rfl) ?_
 refine l_val rfl rfl rfl (r_extract rfl rfl rfl) ?_
 refine as' rfl rfl rfl rfl ?_
 refine as' rfl rfl rfl rfl ?_
 refine l_nil ?_
 refine c_fresh (fun e => e 0 = .slice A1 gg.length c1 ∧ e 1 = .slice A2 ll.length c2 ∧ e 7 = .slice A3 ll.length c3 ∧ e 2 = .int .i64 k ∧ e 8 = .int .i64 (if checkF gg ll = 0 then firstF gg ll else 0) ∧ e 9 = .int .i64 (checkF gg ll) ∧ e 10 = .int .i64 (if checkF gg ll = 0 then firstF gg ll else 0) ∧ e 11 = .int .i64 (checkF gg ll)) ⟨rfl, rfl, rfl, rfl, rfl, rfl, rfl, rfl⟩ ?_
 rintro e ⟨hq0, hq1, hq7, hq2, hq8, hq9, hq10, hq11⟩
 refine c_know (t := 0) (by exact hq0) ?_
 refine c_know (t := 1) (by exact hq1) ?_
 refine c_know (t := 7) (by exact hq7) ?_
 refine c_know (t := 2) (by exact hq2) ?_
 refine c_know (t := 8) (by exact hq8) ?_
 refine c_know (t := 9) (by exact hq9) ?_
 refine c_know (t := 10) (by exact hq10) ?_
 refine c_know (t := 11) (by exact hq11) ?_
 clear hq0 hq1 hq7 hq2 hq8 hq9 hq10 hq11
 refine c_seq ?_
 refine c_seq ?_
 refine c_ops ?_
 refine mv' rfl rfl rfl rfl ?_
 refine mv' rfl rfl rfl rfl ?_
 refine l_by rfl rfl rfl (r_call rfl rfl Tryz.func15 rfl rfl) (fCheck_calls _ A1 c1 gg (hn.keep RNode.kept (Ext0.cells hE)) hfit (hk0.keep (Ext0.cells (hE0.trans hE))) A3 c3 ll (hin.keep RFact.kept (Ext0.cells hE))) ?_
 rintro _ w ⟨rfl, hX⟩
 replace hE := hE.trans hX
 refine ⟨_, rfl, ?_⟩
 refine mv' rfl rfl rfl rfl ?_
 refine mv' rfl rfl rfl rfl ?_
 refine l_by rfl rfl rfl (r_call rfl rfl Tryz.func16 rfl rfl) (rfCheck_calls _ A1 c1 gg (hn.keep RNode.kept (Ext0.cells hE)) hfit (by omega) A2 c2 ll (hl.keep RFact.kept (Ext0.cells hE))) ?_
 rintro _ w ⟨rfl, hX⟩
 replace hE := hE.trans hX
 refine ⟨_, rfl, ?_⟩
 refine l_val rfl rfl rfl (r_neq rfl rfl rfl) ?_
 refine l_know (t := 39) (v := .bool false) (congrArg Value.bool (by simp)) ?_
 refine mv' rfl rfl rfl rfl ?_
 refine mv' rfl rfl rfl rfl ?_
 refine mv' rfl rfl rfl rfl ?_
 refine l_val rfl rfl rfl (r_neq rfl rfl rfl) ?_
 refine l_know (t := 43) (v := .bool false) (congrArg Value.bool (by simp)) ?_
 refine l_val rfl rfl rfl (r_pick rfl rfl) ?_
 refine mv' rfl rfl rfl rfl ?_
 refine mv' rfl rfl rfl rfl ?_
 refine mv' rfl rfl rfl rfl ?_
 refine l_val rfl rfl rfl (r_neq rfl rfl rfl) ?_
 refine l_know (t := 48) (v := .bool false) (congrArg Value.bool (by simp)) ?_
 refine l_val rfl rfl rfl (r_pick rfl rfl) ?_
 refine mv' rfl rfl rfl rfl ?_
 refine mv' rfl rfl rfl rfl ?_
 refine mv' rfl rfl rfl rfl ?_
 refine mv' rfl rfl rfl rfl ?_
 refine l_by rfl rfl rfl (r_call rfl rfl Tryz.func17 rfl rfl) (Holds_calls _ A1 c1 gg (hn.keep RNode.kept (Ext0.cells hE)) hfit (hk0.keep (Ext0.cells (hE0.trans hE))) A3 c3 ll (hin.keep RFact.kept (Ext0.cells hE)) k) ?_
 rintro _ w ⟨rfl, hX⟩
 replace hE := hE.trans hX
 refine ⟨_, rfl, ?_⟩
 refine mv' rfl rfl rfl rfl ?_
 refine mv' rfl rfl rfl rfl ?_
 refine mv' rfl rfl rfl rfl ?_
 refine l_by rfl rfl rfl (r_call rfl rfl Tryz.func18 rfl rfl) (rHolds_calls _ A1 c1 gg (hn.keep RNode.kept (Ext0.cells hE)) hfit (by omega) A2 c2 ll (hl.keep RFact.kept (Ext0.cells hE)) k) ?_
 rintro _ w ⟨rfl, hX⟩
 replace hE := hE.trans hX
 refine ⟨_, rfl, ?_⟩
 refine l_val rfl rfl rfl (r_bneqR rfl rfl rfl rfl) ?_
 refine l_val rfl rfl rfl (r_pick rfl rfl) ?_
 refine mv' rfl rfl rfl rfl ?_
 refine mv' rfl rfl rfl rfl ?_
 refine mv' rfl rfl rfl rfl ?_
 refine mv' rfl rfl rfl rfl ?_
 refine l_by rfl rfl rfl (r_call rfl rfl Tryz.func19 rfl rfl) (Casts_calls _ A1 c1 gg (hn.keep RNode.kept (Ext0.cells hE)) hfit (hk0.keep (Ext0.cells (hE0.trans hE))) A3 c3 ll (hin.keep RFact.kept (Ext0.cells hE)) k) ?_
 rintro _ w ⟨cb1, rfl, hcb1, hX⟩
 replace hE := hE.trans hX
 refine ⟨_, rfl, ?_⟩
 refine mv' rfl rfl rfl rfl ?_
 refine mv' rfl rfl rfl rfl ?_
 refine mv' rfl rfl rfl rfl ?_
 refine l_by rfl rfl rfl (r_call rfl rfl Tryz.func20 rfl rfl) (rCasts_calls _ A1 c1 gg (hn.keep RNode.kept (Ext0.cells hE)) hfit (by omega) A2 c2 ll (hl.keep RFact.kept (Ext0.cells hE)) (fun f hf => Nat.le_trans (hwhy f hf) (by decide)) k) ?_
 rintro _ w ⟨cb2, rfl, hcb2, hX⟩
 replace hE := hE.trans hX
 refine ⟨_, rfl, ?_⟩
 refine l_val rfl rfl rfl (r_bneqR rfl rfl rfl (iff_bool hcb1 hcb2)) ?_
 refine l_val rfl rfl rfl (r_pick rfl rfl) ?_
 refine l_nil ?_
 refine c_no rfl ?_
 refine c_skip ?_
 refine c_seq ?_
 refine c_seq ?_
 refine c_ops ?_
 refine as' rfl rfl rfl rfl ?_
 refine l_nil ?_
 refine c_block ?_
 refine c_loop0 (fun m1 e w => (e 0 = .slice A1 gg.length c1 ∧ e 1 = .slice A2 ll.length c2 ∧ e 7 = .slice A3 ll.length c3) ∧ ∃ (i : Nat), i ≤ ll.length ∧ m1 = ll.length - i ∧ e 12 = .int .i64 (i : Nat) ∧ Ext0 wc w) (ll.length) ?_ ?_
 ·exact ⟨⟨rfl, rfl, rfl⟩, 0, Nat.zero_le _, rfl, rfl, hE⟩
 rintro m1 e w ⟨⟨hq0, hq1, hq7⟩, hI⟩
 refine c_know (t := 0) (by exact hq0) ?_
 refine c_know (t := 1) (by exact hq1) ?_
 refine c_know (t := 7) (by exact hq7) ?_
 clear hq0 hq1 hq7
 obtain ⟨i, hil, him, h12s, hE⟩ := hI
 refine c_know (t := 12) (by exact h12s) ?_
 have hL : Has w [] := trivial
 refine c_seq ?_
 refine c_seq ?_
 refine c_ops ?_
 refine mv' rfl rfl rfl rfl ?_
 refine mv' rfl rfl rfl rfl ?_
 refine l_val rfl rfl rfl (r_len rfl Tryz.underlying25 rfl) ?_
 refine l_val rfl rfl rfl (r_lss rfl rfl rfl) ?_
 refine l_nil ?_
 refine c_cond rfl (fun hb => ?_) (fun hb => ?_)
 ·have hr75 := hb
  replace hb := of_decide_eq_true hb
  have hilt : i < ll.length := by omega
  refine c_skip ?_
  refine c_seq ?_
  refine c_block ?_
  refine c_seq ?_
  refine c_ops ?_
  refine mv' rfl rfl rfl rfl ?_
  refine mv' rfl rfl rfl rfl ?_
  refine mv' rfl rfl rfl rfl ?_
  refine l_by rfl rfl rfl (r_call rfl rfl Tryz.func17 rfl rfl) (Holds_calls _ A1 c1 gg (hn.keep RNode.kept (Ext0.cells hE)) hfit (hk0.keep (Ext0.cells (hE0.trans hE))) A3 c3 ll (hin.keep RFact.kept (Ext0.cells hE)) i) ?_
  rintro _ w ⟨rfl, hX⟩
  replace hE := hE.trans hX
  refine ⟨_, rfl, ?_⟩
  refine mv' rfl rfl rfl rfl ?_
  refine mv' rfl rfl rfl rfl ?_
  refine mv' rfl rfl rfl rfl ?_
  refine l_by rfl rfl rfl (r_call rfl rfl Tryz.func18 rfl rfl) (rHolds_calls _ A1 c1 gg (hn.keep RNode.kept (Ext0.cells hE)) hfit (by omega) A2 c2 ll (hl.keep RFact.kept (Ext0.cells hE)) i) ?_
  rintro _ w ⟨rfl, hX⟩
  replace hE := hE.trans hX
  refine ⟨_, rfl, ?_⟩
  refine l_val rfl rfl rfl (r_bneqR rfl rfl rfl rfl) ?_
  refine mv' rfl rfl rfl rfl ?_
  refine mv' rfl rfl rfl rfl ?_
  refine mv' rfl rfl rfl rfl ?_
  refine mv' rfl rfl rfl rfl ?_
  refine l_by rfl rfl rfl (r_call rfl rfl Tryz.func19 rfl rfl) (Casts_calls _ A1 c1 gg (hn.keep RNode.kept (Ext0.cells hE)) hfit (hk0.keep (Ext0.cells (hE0.trans hE))) A3 c3 ll (hin.keep RFact.kept (Ext0.cells hE)) i) ?_
  rintro _ w ⟨cb1, rfl, hcb1, hX⟩
  replace hE := hE.trans hX
  refine ⟨_, rfl, ?_⟩
  refine mv' rfl rfl rfl rfl ?_
  refine mv' rfl rfl rfl rfl ?_
  refine mv' rfl rfl rfl rfl ?_
  refine l_by rfl rfl rfl (r_call rfl rfl Tryz.func20 rfl rfl) (rCasts_calls _ A1 c1 gg (hn.keep RNode.kept (Ext0.cells hE)) hfit (by omega) A2 c2 ll (hl.keep RFact.kept (Ext0.cells hE)) (fun f hf => Nat.le_trans (hwhy f hf) (by decide)) i) ?_
  rintro _ w ⟨cb2, rfl, hcb2, hX⟩
  replace hE := hE.trans hX
  refine ⟨_, rfl, ?_⟩
  refine l_val rfl rfl rfl (r_bneqR rfl rfl rfl (iff_bool hcb1 hcb2)) ?_
  refine l_val rfl rfl rfl (r_pick rfl rfl) ?_
  refine l_nil ?_
  refine c_no rfl ?_
  refine c_skip ?_
  refine c_ops ?_
  refine mv' rfl rfl rfl rfl ?_
  refine l_val rfl rfl rfl (r_add rfl rfl rfl) ?_
  refine as' rfl rfl rfl rfl ?_
  refine l_nil ?_
  exact ⟨ll.length - (i + 1), by omega, ⟨rfl, rfl, rfl⟩, i + 1, by omega, rfl, by show Value.int .i64 (IntKind.i64.wrap ((i : Int) + 1)) = _; rw [wrap_succ hilt hl.max], hE⟩
 ·have hr75 := hb
  replace hb := of_decide_eq_false hb
  refine c_exit ?_
  refine c_fresh (fun e => e 0 = .slice A1 gg.length c1 ∧ e 1 = .slice A2 ll.length c2 ∧ e 7 = .slice A3 ll.length c3) ⟨rfl, rfl, rfl⟩ ?_
  rintro e ⟨hq0, hq1, hq7⟩
  refine c_know (t := 0) (by exact hq0) ?_
  refine c_know (t := 1) (by exact hq1) ?_
  refine c_know (t := 7) (by exact hq7) ?_
  clear hq0 hq1 hq7
  refine c_seq ?_
  refine c_ops ?_
  refine mv' rfl rfl rfl rfl ?_
  replace hn := hn.keep RNode.kept (Ext0.cells hE)
  replace hl := hl.keep RFact.kept (Ext0.cells hE)
  replace hin := hin.keep RFact.kept (Ext0.cells hE)
  obtain ⟨wp, hwp⟩ : ∃ x, x = w := ⟨_, rfl⟩
  rw [← hwp] at hn hl hin hE
  replace hE0 := hE0.trans hE
  replace hE : Ext0 wp w := hwp ▸ Ext.refl _ _
  rw [← hwp]
  refine l_by rfl rfl rfl (r_call rfl rfl Tryz.func21 rfl rfl) (Copy_calls _ A3 c3 ll hin (by omega) (fun f hf => Nat.le_trans (hwhy f hf) (by decide))) ?_
  rintro _ w ⟨v, fv, rfl, hfv, hL, hX⟩
  replace hE : Ext0 wp w := hX
  obtain ⟨A4, c4, rfl⟩ := ownsRow_slice (hL.row 0 rfl)
  have hfc := (facts_at (hL.sub (.cons _ (.refl _))) (fun x hx => List.mem_map.2 ⟨x, hx, rfl⟩) (hL.row 0 rfl) rfl).1
  rw [hfv] at hfc
  have hfl : fv.length = ll.length := by rw [← hfv, List.length_map]
  obtain ⟨wq, hwq⟩ : ∃ x, x = w := ⟨_, rfl⟩
  have hEc : Ext0 wq w := hwq ▸ Ext.refl _ _
  rw [← hwq] at hfc
  refine ⟨_, rfl, ?_⟩
  refine as' rfl rfl rfl rfl ?_
  refine l_nil ?_
  refine c_fresh (fun e => e 0 = .slice A1 gg.length c1 ∧ e 1 = .slice A2 ll.length c2 ∧ e 7 = .slice A3 ll.length c3 ∧ e 13 = .slice A4 ll.length c4) ⟨rfl, rfl, rfl, (congrArg (fun n => Value.slice A4 n c4) hfl)⟩ ?_
  rintro e ⟨hq0, hq1, hq7, hq13⟩
  refine c_know (t := 0) (by exact hq0) ?_
  refine c_know (t := 1) (by exact hq1) ?_
  refine c_know (t := 7) (by exact hq7) ?_
  refine c_know (t := 13) (by exact hq13) ?_
  clear hq0 hq1 hq7 hq13
  refine c_merge [14, 100, 101, 102, 103, 104, 105, 106, 107, 108, 109, 110, 111, 112, 113, 114, 115, 116, 117, 118, 119, 120, 121, 122] (fun e w => e 14 = .bool true ∧ Has w (.row wp.heap.size 43 3 (.slice A4 fv.length c4) fv.length (fv.map fcell).flatten :: fv.map (fres 3 wp.heap.size)) ∧ Ext0 wp w) ?_ ?_
  ·skip
   refine c_ops ?_
   refine mv' rfl rfl rfl rfl ?_
   refine mv' rfl rfl rfl rfl ?_
   refine l_by rfl rfl rfl (r_call rfl rfl Tryz.func9 rfl rfl) (rSame_true2 _ A4 c4 ll (hfc.keep RFact.kept (Ext0.cells hEc)) A2 c2 (hl.keep RFact.kept (Ext0.cells hE))) ?_
   rintro _ w ⟨rfl, hX⟩
   replace hL := hL.ext0 hX
   replace hE := hE.trans hX
   replace hEc := hEc.trans hX
   refine ⟨_, rfl, ?_⟩
   refine mv' rfl rfl rfl rfl ?_
   refine mv' rfl rfl rfl rfl ?_
   refine mv' rfl rfl rfl rfl ?_
   refine l_by rfl rfl rfl (r_call rfl rfl Tryz.func22 rfl rfl) (Same_true _ A4 c4 ll (hfc.keep RFact.kept (Ext0.cells hEc)) A3 c3 (hin.keep RFact.kept (Ext0.cells hE))) ?_
   rintro _ w ⟨rfl, hX⟩
   replace hL := hL.ext0 hX
   replace hE := hE.trans hX
   replace hEc := hEc.trans hX
   refine ⟨_, rfl, ?_⟩
   refine l_val rfl rfl rfl (r_pick rfl rfl) ?_
   refine mv' rfl rfl rfl rfl ?_
   refine mv' rfl rfl rfl rfl ?_
   refine l_val rfl rfl rfl (r_len rfl Tryz.underlying25 rfl) ?_
   refine l_val rfl rfl rfl (r_eql rfl rfl rfl) ?_
   refine mv' rfl rfl rfl rfl ?_
   refine l_case 112 rfl (fun hb => ?_) (fun hb => ?_)
   ·have hr112 := hb
    replace hb := of_decide_eq_true hb
    refine l_not rfl rfl rfl ?_
    refine l_not rfl rfl rfl ?_
    refine l_not rfl rfl rfl ?_
    refine l_not rfl rfl rfl ?_
    refine l_not rfl rfl rfl ?_
    refine l_not rfl rfl rfl ?_
    refine l_not rfl rfl rfl ?_
    refine l_not rfl rfl rfl ?_
    refine l_val rfl rfl rfl (r_pick rfl rfl) ?_
    refine l_val rfl rfl rfl (r_pick rfl rfl) ?_
    refine as' rfl rfl rfl rfl ?_
    refine l_nil ?_
    refine ag' ?_
    exact ⟨rfl, hL, hE⟩
   ·have hr112 := hb
    replace hb := of_decide_eq_false hb
    have hlp : 0 < ll.length := by omega
    have hwr : IntKind.i64.wrap ((ll.length : Int) - 1) = ((ll.length - 1 : Nat) : Int) := by rw [wrap_small (by omega) (by omega)]; omega
    have hne : ¬ ll.take (ll.length - 1) = ll := fun e => by have := congrArg List.length e; rw [List.length_take] at this; omega
    have hst : Value.slice A4 ((ll.length - 1 : Nat) : Int).toNat c4 = Value.slice A4 (ll.take (ll.length - 1)).length c4 := by rw [List.length_take, Int.toNat_natCast]; congr 1; omega
    have htk : FactsAt wq A4 c4 (ll.take (ll.length - 1)) := by have := Sl.take hfc (ll.length - 1); unfold FactsAt; rw [List.length_take, Nat.min_comm]; exact this
    refine mv' rfl rfl rfl rfl ?_
    refine mv' rfl rfl rfl rfl ?_
    refine l_val rfl rfl rfl (r_len rfl Tryz.underlying25 rfl) ?_
    refine l_val rfl rfl rfl ((r_sub rfl rfl rfl).trans (by rw [hwr])) ?_
    refine l_val rfl rfl rfl ((r_slice_to rfl Tryz.underlying25 Tryz.sizeOf43 rfl rfl (by omega) (by have := hfc.cap; omega)).trans (by rw [hst])) ?_
    refine mv' rfl rfl rfl rfl ?_
    refine l_by rfl rfl rfl (r_call rfl rfl Tryz.func22 rfl rfl) (Same_calls _ A4 c4 (ll.take (ll.length - 1)) (htk.keep RFact.kept (Ext0.cells hEc)) A3 c3 ll (hin.keep RFact.kept (Ext0.cells hE))) ?_
    rintro _ w ⟨hen, hX⟩
    rw [decide_eq_false hne] at hen
    subst hen
    replace hL := hL.ext0 hX
    replace hE := hE.trans hX
    replace hEc := hEc.trans hX
    refine ⟨_, rfl, ?_⟩
    refine l_val rfl rfl rfl (r_not rfl rfl) ?_
    refine l_val rfl rfl rfl (r_pick rfl rfl) ?_
    refine l_val rfl rfl rfl (r_pick rfl rfl) ?_
    refine as' rfl rfl rfl rfl ?_
    refine l_nil ?_
    refine ag' ?_
    exact ⟨rfl, hL, hE⟩
  rintro e w hI
  obtain ⟨h14, hL, hE⟩ := hI
  refine c_know (t := 14) (by exact h14) ?_
  refine c_fresh (fun e => e 0 = .slice A1 gg.length c1 ∧ e 1 = .slice A2 ll.length c2 ∧ e 7 = .slice A3 ll.length c3 ∧ e 13 = .slice A4 fv.length c4 ∧ e 14 = .bool true) ⟨rfl, rfl, rfl, (congrArg (fun n => Value.slice A4 n c4) hfl.symm), rfl⟩ ?_
  rintro e ⟨hq0, hq1, hq7, hq13, hq14⟩
  refine c_know (t := 0) (by exact hq0) ?_
  refine c_know (t := 1) (by exact hq1) ?_
  refine c_know (t := 7) (by exact hq7) ?_
  refine c_know (t := 13) (by exact hq13) ?_
  refine c_know (t := 14) (by exact hq14) ?_
  clear hq0 hq1 hq7 hq13 hq14
  refine c_seq ?_
  refine c_ops ?_
  refine mv' rfl rfl rfl rfl ?_
  refine l_by rfl rfl rfl (r_call rfl rfl Tryz.func23 rfl rfl) (spoil_calls _ wp.heap.size A4 c4 fv hL) ?_
  rintro _ w ⟨⟨sv, rfl⟩, hsp, hX⟩
  replace hE := hE.step hX (fun i hi hB => absurd hi (Nat.not_lt.2 hB))
  have hL : Has w [] := trivial
  obtain ⟨spl, hspl⟩ : ∃ x, x = List.replicate fv.length (⟨-9, 0, []⟩ : Fact) := ⟨_, rfl⟩
  rw [← hspl] at hsp
  have hsplen : fv.length = spl.length := by rw [hspl]; simp
  obtain ⟨wr, hwr⟩ : ∃ x, x = w := ⟨_, rfl⟩
  have hEs : Ext0 wr w := hwr ▸ Ext.refl _ _
  rw [← hwr] at hsp
  refine ⟨_, rfl, ?_⟩
  refine l_nil ?_
  refine c_fresh (fun e => e 0 = .slice A1 gg.length c1 ∧ e 1 = .slice A2 ll.length c2 ∧ e 7 = .slice A3 ll.length c3 ∧ e 13 = .slice A4 spl.length c4 ∧ e 14 = .bool true) ⟨rfl, rfl, rfl, (congrArg (fun n => Value.slice A4 n c4) hsplen), rfl⟩ ?_
  rintro e ⟨hq0, hq1, hq7, hq13, hq14⟩
  refine c_know (t := 0) (by exact hq0) ?_
  refine c_know (t := 1) (by exact hq1) ?_
  refine c_know (t := 7) (by exact hq7) ?_
  refine c_know (t := 13) (by exact hq13) ?_
  refine c_know (t := 14) (by exact hq14) ?_
  clear hq0 hq1 hq7 hq13 hq14
  refine c_seq ?_
  refine c_ops ?_
  refine mv' rfl rfl rfl rfl ?_
  refine mv' rfl rfl rfl rfl ?_
  refine mv' rfl rfl rfl rfl ?_
  refine mv' rfl rfl rfl rfl ?_
  refine l_by rfl rfl rfl (r_call rfl rfl Tryz.func9 rfl rfl) (rSame_true2 _ A3 c3 ll (hin.keep RFact.kept (Ext0.cells hE)) A2 c2 (hl.keep RFact.kept (Ext0.cells hE))) ?_
  rintro _ w ⟨rfl, hX⟩
  replace hE := hE.trans hX
  replace hEs := hEs.trans hX
  refine ⟨_, rfl, ?_⟩
  refine l_val rfl rfl rfl (r_pick rfl rfl) ?_
  refine mv' rfl rfl rfl rfl ?_
  refine mv' rfl rfl rfl rfl ?_
  refine mv' rfl rfl rfl rfl ?_
  refine l_by rfl rfl rfl (r_call rfl rfl Tryz.func22 rfl rfl) (Same_calls _ A4 c4 spl (hsp.keep RFact.kept (Ext0.cells hEs)) A3 c3 ll (hin.keep RFact.kept (Ext0.cells hE))) ?_
  rintro _ w ⟨rfl, hX⟩
  replace hE := hE.trans hX
  replace hEs := hEs.trans hX
  refine ⟨_, rfl, ?_⟩
  refine mv' rfl rfl rfl rfl ?_
  refine mv' rfl rfl rfl rfl ?_
  refine l_by rfl rfl rfl (r_call rfl rfl Tryz.func9 rfl rfl) (rSame_calls _ A4 c4 spl (hsp.keep RFact.kept (Ext0.cells hEs)) A2 c2 ll (hl.keep RFact.kept (Ext0.cells hE))) ?_
  rintro _ w ⟨rfl, hX⟩
  replace hE := hE.trans hX
  replace hEs := hEs.trans hX
  refine ⟨_, rfl, ?_⟩
  refine l_val rfl rfl rfl (r_beqlR rfl rfl rfl) ?_
  refine l_know (t := 138) (v := .bool true) (congrArg Value.bool (by simp)) ?_
  refine l_val rfl rfl rfl (r_pick rfl rfl) ?_
  refine mv' rfl rfl rfl rfl ?_
  refine l_by rfl rfl rfl (r_call rfl rfl Tryz.func11 rfl rfl) (works_calls _ (hk0.keep (Ext0.cells (hE0.trans hE)))) ?_
  rintro _ w ⟨rfl, hX⟩
  replace hE := hE.trans hX
  refine ⟨_, rfl, ?_⟩
  refine l_val rfl rfl rfl (r_pick rfl rfl) ?_
  refine as' rfl rfl rfl rfl ?_
  refine l_nil ?_
  refine c_ret ?_
  exact ⟨rfl, hE0.trans hE⟩
end Go.Proofs.YtndophlnapjkhaaGreatDoor.Vc
namespace Go.Proofs.YtndophlnapjkhaaGreatDoor.Vc
open Go Go.RowKit
set_option linter.unusedVariables false
set_option linter.unusedSimpArgs false
theorem Sl.drop1F {w : World} {A : Option Addr} {n c : Nat} {l : List Fact} (h : Sl w 3 RFact A n c l) (hn : 0 < n) : Sl w 3 RFact (if c = (1 : Int).toNat then A else A.map (·.add ((1 : Int).toNat * 3))) (n - (1 : Int).toNat) (c - (1 : Int).toNat) (l.drop 1) := by
 have hl := h.len
 have hc := h.cap
 have hm := h.max
 have hi := h.is hn
 refine ⟨by simp [hl], by simp; omega, by omega, fun _ => ?_, fun i x hx => ?_⟩
 ·split
  ·exact hi
  ·rw [Option.isSome_map]; exact hi
 ·rw [List.getElem?_drop] at hx
  obtain ⟨cs, h1, h2, h3⟩ := h.at_ (1 + i) x hx
  have hlt := (List.getElem?_eq_some_iff.1 hx).1
  obtain ⟨a, rfl⟩ : ∃ a, A = some a := Option.isSome_iff_exists.1 hi
  by_cases hne : c = (1 : Int).toNat
  ·exfalso
   simp at hne
   omega
  refine ⟨cs, h1, h2, fun j v hj => ?_⟩
  rw [if_neg hne]
  have := h3 j v hj
  show w.cell? ((a.add 3).add (i * 3 + j)) = some v
  rw [adr_add]
  rw [show 3 + (i * 3 + j) = (1 + i) * 3 + j by omega]
  exact this
theorem fill_int3 (a b d : Int) : Instr.fill (fun i => some (i * 1, 1)) ((List.range (3 * 1)).map ((Value.int .i64 0).cells[· % (Value.int .i64 0).cells.size]!)).toArray [(0, .int .i64 a), (1, .int .i64 b), (2, .int .i64 d)] = some #[.int .i64 a, .int .i64 b, .int .i64 d] := by kernel_rfl
theorem built_f2 (a b : Int) : Tryz.prog.built 43 [(0, .int .i64 a), (1, .int .i64 b)] = some #[.int .i64 a, .int .i64 b, .slice none 0 0] := by kernel_rfl
theorem lit_str2 {w : World} {b : Nat} {s t : ByteArray} {ty : TypeId} {fr : Nat × Nat} (hb : w.heap[b]? = some (.cells #[.string s, .string t] ty fr)) : Sl w 1 RStr (some ⟨b, 0, none⟩) 2 2 [s, t] :=
 Sl.ofBlkN hb (Els.strs w [s, t]) rfl rfl (Nat.le_refl _) (by decide)
def listsL : List GNode := [⟨2, 0, ⟨#[]⟩, [], []⟩, ⟨8, 0, ⟨#[]⟩, [], [0, 2]⟩, ⟨7, 0, ⟨#[]⟩, [⟨#[116]⟩], [1]⟩, ⟨8, 0, ⟨#[]⟩, [], [4, 0]⟩, ⟨7, 0, ⟨#[]⟩, [⟨#[115]⟩, ⟨#[116]⟩], [0, 3]⟩]
def oneF : Fact := ⟨0, 0, [0]⟩
theorem one_formed (n : Nat) : formedF smallL n oneF = true := by kernel_rfl
theorem one_by : byF smallL oneF = ([], true) := by kernel_rfl
theorem one_on : onF smallL oneF = [] := by kernel_rfl
theorem one_holds (l : List Fact) : holdsF smallL l oneF = true := by
 unfold holdsF
 rw [one_by, one_on]
 unfold matchF
 rfl
theorem any_no {l : List Fact} (h : ∀ f ∈ l, f = oneF) (n : Nat) : l.any (fun f => !formedF smallL n f) = false := by
 rw [List.any_eq_false]
 intro f hf
 rw [h f hf, one_formed]
 decide
theorem check_most (l : List Fact) (h : ∀ f ∈ l, f = oneF) (hn : l.length = 8000) : checkF smallL l = 0 := by
 unfold checkF
 rw [if_pos small_check, hn, if_neg (by decide), any_no h]
 rfl
theorem check_many (l : List Fact) (hn : l.length = 8001) : checkF smallL l = 5 := by
 unfold checkF
 rw [if_pos small_check, hn, if_pos (by decide)]
theorem first_none (l : List Fact) (h : ∀ f ∈ l, f = oneF) : firstF smallL l = -1 := by
 have : ∀ (l' : List Fact) (k : Nat), (∀ f ∈ l', f = oneF) → (findS (fun (_ : Unit) f => (!holdsF smallL l f, ())) k () l').1 = none := by
  intro l'
  induction l' with
  | nil => intro k _; rfl
  | cons x r ih =>
   intro k hx
   unfold findS
   rw [hx x (List.mem_cons_self ..), one_holds]
   exact ih _ (fun f hf => hx f (List.mem_cons_of_mem _ hf))
 unfold firstF
 rw [this l 0 h]
 rfl
set_option maxHeartbeats 8000000 in
theorem Known_calls (w0 : World) (hk0 : KeysLaid w0) :
    Calls Tryz.prog 5 ([] : List Value).toArray w0 fun en w' => en = .returned (.bool true) ∧ Ext0 w0 w' := by
 have hE : Ext0 w0 w0 := Ext.refl _ _
 have hL : Has w0 [] := trivial
 refine calls [0] Tryz.func5 rfl rfl rfl rfl ?_
 refine c_seq ?_
 refine c_ops ?_
 refine as' rfl rfl rfl rfl ?_
 refine l_nil ?_
 refine c_seq ?_
 refine c_ops ?_
 refine l_by rfl rfl rfl (r_call rfl rfl Tryz.func24 rfl rfl) (smallG_calls _) ?_
 rintro _ w ⟨A0, c0, rfl, hn, hX⟩
 replace hE := hE.trans hX
 obtain ⟨ws, hws⟩ : ∃ x, x = w := ⟨_, rfl⟩
 rw [← hws] at hn hE
 have hE0 := hE
 replace hE : Ext0 ws w := hws ▸ Ext.refl _ _
 refine ⟨_, rfl, ?_⟩
 refine as' rfl rfl rfl rfl ?_
 refine l_nil ?_
 refine c_seq ?_
 refine c_seq ?_
 refine c_ops ?_
 refine as' rfl rfl rfl rfl ?_
 refine l_nil ?_
 refine c_block ?_
 refine c_loop0 (fun m1 e w => (e 1 = .slice A0 smallL.length c0) ∧ ∃ (x : Int), -1 ≤ x ∧ x ≤ 8 ∧ m1 = (8 - x).toNat ∧ e 2 = .int .i64 x ∧ Ext0 ws w) 9 ?_ ?_
 ·exact ⟨rfl, -1, by decide, by decide, rfl, rfl, hE⟩
 rintro m1 e w ⟨hq1, hI⟩
 refine c_know (t := 1) (by exact hq1) ?_
 clear hq1
 obtain ⟨x, hxa, hxb, hxm, h2s, hE⟩ := hI
 refine c_know (t := 2) (by exact h2s) ?_
 have hL : Has w [] := trivial
 refine c_seq ?_
 refine c_seq ?_
 refine c_ops ?_
 refine mv' rfl rfl rfl rfl ?_
 refine l_val rfl rfl rfl (r_lss rfl rfl rfl) ?_
 refine l_nil ?_
 refine c_cond rfl (fun hb => ?_) (fun hb => ?_)
 ·have hr14 := hb
  replace hb := of_decide_eq_true hb
  refine c_skip ?_
  refine c_seq ?_
  refine c_block ?_
  refine c_seq ?_
  refine c_ops ?_
  refine as' rfl rfl rfl rfl ?_
  refine l_nil ?_
  refine c_block ?_
  refine c_loop0 (fun m1 e w => (e 1 = .slice A0 smallL.length c0 ∧ e 2 = .int .i64 x) ∧ ∃ (y : Int), -1 ≤ y ∧ y ≤ 8 ∧ m1 = (8 - y).toNat ∧ e 3 = .int .i64 y ∧ Ext0 ws w) 9 ?_ ?_
  ·exact ⟨⟨rfl, rfl⟩, -1, by decide, by decide, rfl, rfl, hE⟩
  rintro m1 e w ⟨⟨hq1, hq2⟩, hI⟩
  refine c_know (t := 1) (by exact hq1) ?_
  refine c_know (t := 2) (by exact hq2) ?_
  clear hq1 hq2
  obtain ⟨y, hya, hyb, hym, h3s, hE⟩ := hI
  refine c_know (t := 3) (by exact h3s) ?_
  have hL : Has w [] := trivial
  refine c_seq ?_
  refine c_seq ?_
  refine c_ops ?_
  refine mv' rfl rfl rfl rfl ?_
  refine l_val rfl rfl rfl (r_lss rfl rfl rfl) ?_
  refine l_nil ?_
  refine c_cond rfl (fun hb => ?_) (fun hb => ?_)
  ·have hr18 := hb
   replace hb := of_decide_eq_true hb
   refine c_skip ?_
   refine c_seq ?_
   refine c_block ?_
   refine c_seq ?_
   refine c_seq ?_
   refine c_ops ?_
   refine mv' rfl rfl rfl rfl ?_
   refine mv' rfl rfl rfl rfl ?_
   refine mv' rfl rfl rfl rfl ?_
   refine l_val rfl rfl rfl (r_build rfl rfl (built_p2 _ _)) ?_
   refine l_new rfl rfl rfl (n_slice rfl Tryz.underlying23 Tryz.sizeOf32 Tryz.zeroValue32 rfl rfl (fill_pair _ _) hL hE) ?_
   rintro _ w ⟨s25, rfl, hs25, hL, hE, hX⟩
   refine l_by rfl rfl rfl (r_call rfl rfl Tryz.func3 rfl rfl) ((Finds_calls _ (hk0.keep (Ext0.cells (hE0.trans hE))) A0 c0 smallL (hn.keep RNode.kept (Ext0.cells hE)) _ 1 [(x, y)] (lit_pairs (hL.get 0 rfl) rfl rfl (Nat.le_of_ble_eq_true rfl)))) ?_
   rintro _ w ⟨rfl, hX⟩
   replace hL := hL.ext0 hX
   replace hE := hE.trans hX
   refine ⟨_, rfl, ?_⟩
   refine l_val rfl rfl rfl (r_not rfl rfl) ?_
   refine l_nil ?_
   refine c_no rfl ?_
   refine c_skip ?_
   refine c_seq ?_
   refine c_ops ?_
   refine as' rfl rfl rfl rfl ?_
   refine l_nil ?_
   refine c_block ?_
   refine c_loop0 (fun m1 e w => (e 1 = .slice A0 smallL.length c0 ∧ e 2 = .int .i64 x ∧ e 3 = .int .i64 y) ∧ ∃ (z : Int), -2 ≤ z ∧ z ≤ 3 ∧ m1 = (3 - z).toNat ∧ e 4 = .int .i64 z ∧ Ext0 ws w) 5 ?_ ?_
   ·exact ⟨⟨rfl, rfl, rfl⟩, -2, by decide, by decide, rfl, rfl, hE⟩
   rintro m1 e w ⟨⟨hq1, hq2, hq3⟩, hI⟩
   refine c_know (t := 1) (by exact hq1) ?_
   refine c_know (t := 2) (by exact hq2) ?_
   refine c_know (t := 3) (by exact hq3) ?_
   clear hq1 hq2 hq3
   obtain ⟨z, hza, hzb, hzm, h4s, hE⟩ := hI
   refine c_know (t := 4) (by exact h4s) ?_
   have hL : Has w [] := trivial
   refine c_seq ?_
   refine c_seq ?_
   refine c_ops ?_
   refine mv' rfl rfl rfl rfl ?_
   refine l_val rfl rfl rfl (r_lss rfl rfl rfl) ?_
   refine l_nil ?_
   refine c_cond rfl (fun hb => ?_) (fun hb => ?_)
   ·have hr29 := hb
    replace hb := of_decide_eq_true hb
    refine c_skip ?_
    refine c_seq ?_
    refine c_block ?_
    refine c_seq ?_
    refine c_ops ?_
    refine mv' rfl rfl rfl rfl ?_
    refine mv' rfl rfl rfl rfl ?_
    refine mv' rfl rfl rfl rfl ?_
    refine mv' rfl rfl rfl rfl ?_
    refine l_new rfl rfl rfl (n_slice rfl Tryz.underlying26 Tryz.sizeOf3 Tryz.zeroValue3 rfl rfl (fill_int1 _) hL hE) ?_
    rintro _ w ⟨s36, rfl, hs36, hL, hE, hX⟩
    refine l_val rfl rfl rfl (r_build rfl rfl (built_f3 _ _ _ _ _)) ?_
    refine l_new rfl rfl rfl (n_slice rfl Tryz.underlying26 Tryz.sizeOf3 Tryz.zeroValue3 rfl rfl (fill_int1 _) hL hE) ?_
    rintro _ w ⟨s38, rfl, hs38, hL, hE, hX⟩
    refine l_val rfl rfl rfl (r_build rfl rfl (built_f3 _ _ _ _ _)) ?_
    refine l_new rfl rfl rfl (n_slice rfl Tryz.underlying25 Tryz.sizeOf43 Tryz.zeroValue43 rfl rfl (fill_fact2 _ _ _ _ _ _) hL hE) ?_
    rintro _ w ⟨s40, rfl, hs40, hL, hE, hX⟩
    refine mv' rfl rfl rfl rfl ?_
    refine l_by rfl rfl rfl (r_call rfl rfl Tryz.func4 rfl rfl) ((Looks_calls _ (hk0.keep (Ext0.cells (hE0.trans hE))) A0 c0 smallL (hn.keep RNode.kept (Ext0.cells hE)) _ 2 [⟨x, y, [z]⟩, ⟨0, 2, [0]⟩] (Sl.ofBlkN (hL.get 0 rfl) (Els.cons rfl ⟨_, 1, rfl, lit_ints (hL.get 2 rfl) rfl rfl (Nat.le_of_ble_eq_true rfl)⟩ (Els.cons rfl ⟨_, 1, rfl, lit_ints (hL.get 1 rfl) rfl rfl (Nat.le_of_ble_eq_true rfl)⟩ (Els.nil _ _ _))) rfl rfl (Nat.le_refl _) (Nat.le_of_ble_eq_true rfl)) z)) ?_
    rintro _ w ⟨rfl, hX⟩
    replace hL := hL.ext0 hX
    replace hE := hE.trans hX
    refine ⟨_, rfl, ?_⟩
    refine l_val rfl rfl rfl (r_not rfl rfl) ?_
    refine mv' rfl rfl rfl rfl ?_
    refine mv' rfl rfl rfl rfl ?_
    refine mv' rfl rfl rfl rfl ?_
    refine mv' rfl rfl rfl rfl ?_
    refine mv' rfl rfl rfl rfl ?_
    refine l_new rfl rfl rfl (n_slice rfl Tryz.underlying26 Tryz.sizeOf3 Tryz.zeroValue3 rfl rfl (fill_int2 _ _) hL hE) ?_
    rintro _ w ⟨s49, rfl, hs49, hL, hE, hX⟩
    refine l_val rfl rfl rfl (r_build rfl rfl (built_f3 _ _ _ _ _)) ?_
    refine l_new rfl rfl rfl (n_slice rfl Tryz.underlying26 Tryz.sizeOf3 Tryz.zeroValue3 rfl rfl (fill_int1 _) hL hE) ?_
    rintro _ w ⟨s51, rfl, hs51, hL, hE, hX⟩
    refine l_val rfl rfl rfl (r_build rfl rfl (built_f3 _ _ _ _ _)) ?_
    refine l_new rfl rfl rfl (n_slice rfl Tryz.underlying25 Tryz.sizeOf43 Tryz.zeroValue43 rfl rfl (fill_fact2 _ _ _ _ _ _) hL hE) ?_
    rintro _ w ⟨s53, rfl, hs53, hL, hE, hX⟩
    refine l_by rfl rfl rfl (r_call rfl rfl Tryz.func4 rfl rfl) ((Looks_calls _ (hk0.keep (Ext0.cells (hE0.trans hE))) A0 c0 smallL (hn.keep RNode.kept (Ext0.cells hE)) _ 2 [⟨x, y, [z, 1]⟩, ⟨0, 2, [0]⟩] (Sl.ofBlkN (hL.get 0 rfl) (Els.cons rfl ⟨_, 2, rfl, lit_ints (hL.get 2 rfl) rfl rfl (Nat.le_of_ble_eq_true rfl)⟩ (Els.cons rfl ⟨_, 1, rfl, lit_ints (hL.get 1 rfl) rfl rfl (Nat.le_of_ble_eq_true rfl)⟩ (Els.nil _ _ _))) rfl rfl (Nat.le_refl _) (Nat.le_of_ble_eq_true rfl)) 0)) ?_
    rintro _ w ⟨rfl, hX⟩
    replace hL := hL.ext0 hX
    replace hE := hE.trans hX
    refine ⟨_, rfl, ?_⟩
    refine l_val rfl rfl rfl (r_not rfl rfl) ?_
    refine l_val rfl rfl rfl (r_pick rfl rfl) ?_
    refine mv' rfl rfl rfl rfl ?_
    refine mv' rfl rfl rfl rfl ?_
    refine mv' rfl rfl rfl rfl ?_
    refine mv' rfl rfl rfl rfl ?_
    refine mv' rfl rfl rfl rfl ?_
    refine l_new rfl rfl rfl (n_slice rfl Tryz.underlying26 Tryz.sizeOf3 Tryz.zeroValue3 rfl rfl (fill_int3 _ _ _) hL hE) ?_
    rintro _ w ⟨s62, rfl, hs62, hL, hE, hX⟩
    refine l_val rfl rfl rfl (r_build rfl rfl (built_f3 _ _ _ _ _)) ?_
    refine l_new rfl rfl rfl (n_slice rfl Tryz.underlying26 Tryz.sizeOf3 Tryz.zeroValue3 rfl rfl (fill_int1 _) hL hE) ?_
    rintro _ w ⟨s64, rfl, hs64, hL, hE, hX⟩
    refine l_val rfl rfl rfl (r_build rfl rfl (built_f3 _ _ _ _ _)) ?_
    refine l_new rfl rfl rfl (n_slice rfl Tryz.underlying25 Tryz.sizeOf43 Tryz.zeroValue43 rfl rfl (fill_fact2 _ _ _ _ _ _) hL hE) ?_
    rintro _ w ⟨s66, rfl, hs66, hL, hE, hX⟩
    refine l_by rfl rfl rfl (r_call rfl rfl Tryz.func4 rfl rfl) ((Looks_calls _ (hk0.keep (Ext0.cells (hE0.trans hE))) A0 c0 smallL (hn.keep RNode.kept (Ext0.cells hE)) _ 2 [⟨x, y, [z, 1, 0]⟩, ⟨0, 2, [0]⟩] (Sl.ofBlkN (hL.get 0 rfl) (Els.cons rfl ⟨_, 3, rfl, lit_ints (hL.get 2 rfl) rfl rfl (Nat.le_of_ble_eq_true rfl)⟩ (Els.cons rfl ⟨_, 1, rfl, lit_ints (hL.get 1 rfl) rfl rfl (Nat.le_of_ble_eq_true rfl)⟩ (Els.nil _ _ _))) rfl rfl (Nat.le_refl _) (Nat.le_of_ble_eq_true rfl)) 1)) ?_
    rintro _ w ⟨rfl, hX⟩
    replace hL := hL.ext0 hX
    replace hE := hE.trans hX
    refine ⟨_, rfl, ?_⟩
    refine l_val rfl rfl rfl (r_not rfl rfl) ?_
    refine l_val rfl rfl rfl (r_pick rfl rfl) ?_
    refine mv' rfl rfl rfl rfl ?_
    refine mv' rfl rfl rfl rfl ?_
    refine mv' rfl rfl rfl rfl ?_
    refine mv' rfl rfl rfl rfl ?_
    refine l_val rfl rfl rfl (r_build rfl rfl (built_f2 _ _)) ?_
    refine l_new rfl rfl rfl (n_slice rfl Tryz.underlying25 Tryz.sizeOf43 Tryz.zeroValue43 rfl rfl (fill_fact _ _ _) hL hE) ?_
    rintro _ w ⟨s75, rfl, hs75, hL, hE, hX⟩
    refine l_by rfl rfl rfl (r_call rfl rfl Tryz.func4 rfl rfl) ((Looks_calls _ (hk0.keep (Ext0.cells (hE0.trans hE))) A0 c0 smallL (hn.keep RNode.kept (Ext0.cells hE)) _ 1 [⟨x, y, []⟩] (Sl.ofBlkN (hL.get 0 rfl) (Els.cons rfl ⟨_, 0, rfl, Sl.nil _ _ _ _ _⟩ (Els.nil _ _ _)) rfl rfl (Nat.le_refl _) (Nat.le_of_ble_eq_true rfl)) 0)) ?_
    rintro _ w ⟨rfl, hX⟩
    replace hL := hL.ext0 hX
    replace hE := hE.trans hX
    refine ⟨_, rfl, ?_⟩
    refine l_val rfl rfl rfl (r_not rfl rfl) ?_
    refine l_val rfl rfl rfl (r_pick rfl rfl) ?_
    refine l_nil ?_
    refine c_no rfl ?_
    refine c_skip ?_
    refine c_ops ?_
    refine mv' rfl rfl rfl rfl ?_
    refine l_val rfl rfl rfl (r_add rfl rfl rfl) ?_
    refine as' rfl rfl rfl rfl ?_
    refine l_nil ?_
    exact ⟨(3 - (z + 1)).toNat, by omega, ⟨rfl, rfl, rfl⟩, z + 1, by omega, by omega, rfl, by show Value.int .i64 (IntKind.i64.wrap (z + 1)) = _; rw [wrap_small (by omega) (by omega)], hE⟩
   ·have hr29 := hb
    replace hb := of_decide_eq_false hb
    refine c_exit ?_
    refine c_ops ?_
    refine mv' rfl rfl rfl rfl ?_
    refine l_val rfl rfl rfl (r_add rfl rfl rfl) ?_
    refine as' rfl rfl rfl rfl ?_
    refine l_nil ?_
    exact ⟨(8 - (y + 1)).toNat, by omega, ⟨rfl, rfl⟩, y + 1, by omega, by omega, rfl, by show Value.int .i64 (IntKind.i64.wrap (y + 1)) = _; rw [wrap_small (by omega) (by omega)], hE⟩
  ·have hr18 := hb
   replace hb := of_decide_eq_false hb
   refine c_exit ?_
   refine c_ops ?_
   refine mv' rfl rfl rfl rfl ?_
   refine l_val rfl rfl rfl (r_add rfl rfl rfl) ?_
   refine as' rfl rfl rfl rfl ?_
   refine l_nil ?_
   exact ⟨(8 - (x + 1)).toNat, by omega, rfl, x + 1, by omega, by omega, rfl, by show Value.int .i64 (IntKind.i64.wrap (x + 1)) = _; rw [wrap_small (by omega) (by omega)], hE⟩
 ·have hr14 := hb
  replace hb := of_decide_eq_false hb
  refine c_exit ?_
  refine c_seq ?_
  refine c_ops ?_
  refine l_val rfl rfl rfl (r_build rfl rfl (built_n0 _)) ?_
  refine l_new rfl rfl rfl (n_slice rfl Tryz.underlying26 Tryz.sizeOf3 Tryz.zeroValue3 rfl rfl (fill_int2 _ _) hL hE) ?_
  rintro _ w ⟨s80, rfl, hs80, hL, hE, hX⟩
  refine l_val rfl rfl rfl (r_build rfl rfl (built_nl _ _ _ _)) ?_
  refine l_new rfl rfl rfl (n_slice rfl Tryz.underlying44 Tryz.sizeOf9 Tryz.zeroValue9 rfl rfl rfl hL hE) ?_
  rintro _ w ⟨s82, rfl, hs82, hL, hE, hX⟩
  refine l_new rfl rfl rfl (n_slice rfl Tryz.underlying26 Tryz.sizeOf3 Tryz.zeroValue3 rfl rfl (fill_int1 _) hL hE) ?_
  rintro _ w ⟨s83, rfl, hs83, hL, hE, hX⟩
  refine l_val rfl rfl rfl (r_build rfl rfl (built_nkl _ _ _ _ _ _ _)) ?_
  refine l_new rfl rfl rfl (n_slice rfl Tryz.underlying26 Tryz.sizeOf3 Tryz.zeroValue3 rfl rfl (fill_int2 _ _) hL hE) ?_
  rintro _ w ⟨s85, rfl, hs85, hL, hE, hX⟩
  refine l_val rfl rfl rfl (r_build rfl rfl (built_nl _ _ _ _)) ?_
  refine l_new rfl rfl rfl (n_slice rfl Tryz.underlying44 Tryz.sizeOf9 Tryz.zeroValue9 rfl rfl rfl hL hE) ?_
  rintro _ w ⟨s87, rfl, hs87, hL, hE, hX⟩
  refine l_new rfl rfl rfl (n_slice rfl Tryz.underlying26 Tryz.sizeOf3 Tryz.zeroValue3 rfl rfl (fill_int2 _ _) hL hE) ?_
  rintro _ w ⟨s88, rfl, hs88, hL, hE, hX⟩
  refine l_val rfl rfl rfl (r_build rfl rfl (built_nkl _ _ _ _ _ _ _)) ?_
  refine l_new rfl rfl rfl (n_slice (cells := #[.int .i64 2, .int .i64 0, .string ⟨#[]⟩, .slice none 0 0, .slice none 0 0, .int .i64 8, .int .i64 0, .string ⟨#[]⟩, .slice none 0 0, .slice (sb s80) 2 2, .int .i64 7, .int .i64 0, .string ⟨#[]⟩, .slice (sb s82) 1 1, .slice (sb s83) 1 1, .int .i64 8, .int .i64 0, .string ⟨#[]⟩, .slice none 0 0, .slice (sb s85) 2 2, .int .i64 7, .int .i64 0, .string ⟨#[]⟩, .slice (sb s87) 2 2, .slice (sb s88) 2 2]) rfl Tryz.underlying22 Tryz.sizeOf46 Tryz.zeroValue46 rfl rfl (by kernel_rfl) hL hE) ?_
  rintro _ w ⟨s90, rfl, hs90, hL, hE, hX⟩
  have hh : Nodes w (some ⟨s90, 0, none⟩) 5 listsL := Sl.ofBlkN (hL.get 0 rfl) (Els.cons rfl ⟨none, 0, none, 0, rfl, Sl.nil _ _ _ _ _, Sl.nil _ _ _ _ _⟩ (Els.cons rfl ⟨none, 0, _, 2, rfl, Sl.nil _ _ _ _ _, lit_ints (hL.get 6 rfl) rfl rfl (by decide)⟩ (Els.cons rfl ⟨_, 1, _, 1, rfl, lit_str (hL.get 5 rfl), lit_ints (hL.get 4 rfl) rfl rfl (by decide)⟩ (Els.cons rfl ⟨none, 0, _, 2, rfl, Sl.nil _ _ _ _ _, lit_ints (hL.get 3 rfl) rfl rfl (by decide)⟩ (Els.cons rfl ⟨_, 2, _, 2, rfl, lit_str2 (hL.get 2 rfl), lit_ints (hL.get 1 rfl) rfl rfl (by decide)⟩ (Els.nil _ _ _)))))) rfl rfl (Nat.le_refl _) (by decide)
  obtain ⟨A5, hA5⟩ : ∃ x, x = some (⟨s90, 0, none⟩ : Addr) := ⟨_, rfl⟩
  rw [← hA5] at hh
  replace hn := hn.keep RNode.kept (Ext0.cells hE)
  obtain ⟨wh, hwh⟩ : ∃ x, x = w := ⟨_, rfl⟩
  rw [← hwh] at hn hh hE
  replace hE0 := hE0.trans hE
  replace hE : Ext0 wh w := hwh ▸ Ext.refl _ _
  have hL : Has w [] := trivial
  refine as' rfl rfl rfl rfl ?_
  refine l_nil ?_
  refine c_fresh (fun e => e 1 = .slice A0 smallL.length c0 ∧ e 5 = .slice A5 listsL.length 5) ⟨rfl, (congrArg (fun a => Value.slice a 5 5) hA5.symm)⟩ ?_
  rintro e ⟨hq1, hq5⟩
  refine c_know (t := 1) (by exact hq1) ?_
  refine c_know (t := 5) (by exact hq5) ?_
  clear hq1 hq5
  refine c_seq ?_
  refine c_seq ?_
  refine c_ops ?_
  refine as' rfl rfl rfl rfl ?_
  refine l_nil ?_
  refine c_block ?_
  refine c_loop0 (fun m1 e w => (e 1 = .slice A0 smallL.length c0 ∧ e 5 = .slice A5 listsL.length 5) ∧ ∃ (x : Int), 0 ≤ x ∧ x ≤ 5 ∧ m1 = (5 - x).toNat ∧ e 6 = .int .i64 x ∧ Ext0 wh w) 5 ?_ ?_
  ·exact ⟨⟨rfl, rfl⟩, 0, by decide, by decide, rfl, rfl, hE⟩
  rintro m1 e w ⟨⟨hq1, hq5⟩, hI⟩
  refine c_know (t := 1) (by exact hq1) ?_
  refine c_know (t := 5) (by exact hq5) ?_
  clear hq1 hq5
  obtain ⟨x, hxa, hxb, hxm, h6s, hE⟩ := hI
  refine c_know (t := 6) (by exact h6s) ?_
  have hL : Has w [] := trivial
  refine c_seq ?_
  refine c_seq ?_
  refine c_ops ?_
  refine mv' rfl rfl rfl rfl ?_
  refine l_val rfl rfl rfl (r_lss rfl rfl rfl) ?_
  refine l_nil ?_
  refine c_cond rfl (fun hb => ?_) (fun hb => ?_)
  ·have hr92 := hb
   replace hb := of_decide_eq_true hb
   refine c_skip ?_
   refine c_seq ?_
   refine c_block ?_
   refine c_seq ?_
   refine c_ops ?_
   refine as' rfl rfl rfl rfl ?_
   refine l_nil ?_
   refine c_block ?_
   refine c_loop0 (fun m1 e w => (e 1 = .slice A0 smallL.length c0 ∧ e 5 = .slice A5 listsL.length 5 ∧ e 6 = .int .i64 x) ∧ ∃ (y : Int), 0 ≤ y ∧ y ≤ 5 ∧ m1 = (5 - y).toNat ∧ e 7 = .int .i64 y ∧ Ext0 wh w) 5 ?_ ?_
   ·exact ⟨⟨rfl, rfl, rfl⟩, 0, by decide, by decide, rfl, rfl, hE⟩
   rintro m1 e w ⟨⟨hq1, hq5, hq6⟩, hI⟩
   refine c_know (t := 1) (by exact hq1) ?_
   refine c_know (t := 5) (by exact hq5) ?_
   refine c_know (t := 6) (by exact hq6) ?_
   clear hq1 hq5 hq6
   obtain ⟨y, hya, hyb, hym, h7s, hE⟩ := hI
   refine c_know (t := 7) (by exact h7s) ?_
   have hL : Has w [] := trivial
   refine c_seq ?_
   refine c_seq ?_
   refine c_ops ?_
   refine mv' rfl rfl rfl rfl ?_
   refine l_val rfl rfl rfl (r_lss rfl rfl rfl) ?_
   refine l_nil ?_
   refine c_cond rfl (fun hb => ?_) (fun hb => ?_)
   ·have hr96 := hb
    replace hb := of_decide_eq_true hb
    refine c_skip ?_
    refine c_seq ?_
    refine c_block ?_
    refine c_seq ?_
    refine c_ops ?_
    refine mv' rfl rfl rfl rfl ?_
    refine mv' rfl rfl rfl rfl ?_
    refine mv' rfl rfl rfl rfl ?_
    refine l_val rfl rfl rfl (r_build rfl rfl (built_p2 _ _)) ?_
    refine mv' rfl rfl rfl rfl ?_
    refine mv' rfl rfl rfl rfl ?_
    refine l_val rfl rfl rfl (r_build rfl rfl (built_p2 _ _)) ?_
    refine l_new rfl rfl rfl (n_slice rfl Tryz.underlying23 Tryz.sizeOf32 Tryz.zeroValue32 rfl rfl (fill_pair2 _ _ _ _) hL hE) ?_
    rintro _ w ⟨s106, rfl, hs106, hL, hE, hX⟩
    refine l_by rfl rfl rfl (r_call rfl rfl Tryz.func3 rfl rfl) ((Finds_calls _ (hk0.keep (Ext0.cells (hE0.trans hE))) A5 5 listsL (hh.keep RNode.kept (Ext0.cells hE)) _ 2 [(x, y), (y, x)] (lit_pairs (hL.get 0 rfl) rfl rfl (Nat.le_of_ble_eq_true rfl)))) ?_
    rintro _ w ⟨rfl, hX⟩
    replace hL := hL.ext0 hX
    replace hE := hE.trans hX
    refine ⟨_, rfl, ?_⟩
    refine l_val rfl rfl rfl (r_not rfl rfl) ?_
    refine mv' rfl rfl rfl rfl ?_
    refine mv' rfl rfl rfl rfl ?_
    refine mv' rfl rfl rfl rfl ?_
    refine mv' rfl rfl rfl rfl ?_
    refine l_val rfl rfl rfl (r_build rfl rfl (built_p2 _ _)) ?_
    refine l_new rfl rfl rfl (n_slice rfl Tryz.underlying23 Tryz.sizeOf32 Tryz.zeroValue32 rfl rfl (fill_pair _ _) hL hE) ?_
    rintro _ w ⟨s114, rfl, hs114, hL, hE, hX⟩
    refine l_by rfl rfl rfl (r_call rfl rfl Tryz.func3 rfl rfl) ((Finds_calls _ (hk0.keep (Ext0.cells (hE0.trans hE))) A5 5 listsL (hh.keep RNode.kept (Ext0.cells hE)) _ 1 [(x, y)] (lit_pairs (hL.get 0 rfl) rfl rfl (Nat.le_of_ble_eq_true rfl)))) ?_
    rintro _ w ⟨rfl, hX⟩
    replace hL := hL.ext0 hX
    replace hE := hE.trans hX
    refine ⟨_, rfl, ?_⟩
    refine l_val rfl rfl rfl (r_not rfl rfl) ?_
    refine l_val rfl rfl rfl (r_pick rfl rfl) ?_
    refine l_nil ?_
    refine c_no rfl ?_
    refine c_skip ?_
    refine c_ops ?_
    refine mv' rfl rfl rfl rfl ?_
    refine l_val rfl rfl rfl (r_add rfl rfl rfl) ?_
    refine as' rfl rfl rfl rfl ?_
    refine l_nil ?_
    exact ⟨(5 - (y + 1)).toNat, by omega, ⟨rfl, rfl, rfl⟩, y + 1, by omega, by omega, rfl, by show Value.int .i64 (IntKind.i64.wrap (y + 1)) = _; rw [wrap_small (by omega) (by omega)], hE⟩
   ·have hr96 := hb
    replace hb := of_decide_eq_false hb
    refine c_exit ?_
    refine c_ops ?_
    refine mv' rfl rfl rfl rfl ?_
    refine l_val rfl rfl rfl (r_add rfl rfl rfl) ?_
    refine as' rfl rfl rfl rfl ?_
    refine l_nil ?_
    exact ⟨(5 - (x + 1)).toNat, by omega, ⟨rfl, rfl⟩, x + 1, by omega, by omega, rfl, by show Value.int .i64 (IntKind.i64.wrap (x + 1)) = _; rw [wrap_small (by omega) (by omega)], hE⟩
  ·have hr92 := hb
   replace hb := of_decide_eq_false hb
   refine c_exit ?_
   refine c_fresh (fun e => e 1 = .slice A0 smallL.length c0) rfl ?_
   rintro e hq1
   refine c_know (t := 1) (by exact hq1) ?_
   clear hq1
   refine c_seq ?_
   refine c_ops ?_
   refine as' rfl rfl rfl rfl ?_
   refine l_nil ?_
   refine c_seq ?_
   refine c_seq ?_
   refine c_ops ?_
   refine as' rfl rfl rfl rfl ?_
   refine l_nil ?_
   refine c_block ?_
   replace hn := hn.keep RNode.kept (Ext0.cells hE)
   obtain ⟨wm, hwm⟩ : ∃ x, x = w := ⟨_, rfl⟩
   rw [← hwm] at hn hE
   replace hE0 := hE0.trans hE
   replace hE : Ext0 wm w := hwm ▸ Ext.refl _ _
   have hL : Has w [] := trivial
   refine c_loop0 (fun m1 e w => (e 1 = .slice A0 smallL.length c0) ∧ ∃ (n : Nat) (v : Value) (fv : List FV), n ≤ 8001 ∧ m1 = 8001 - n ∧ e 9 = .int .i64 (n : Nat) ∧ e 8 = v ∧ fv.map (·.1) = List.replicate n oneF ∧ Has w (.row wm.heap.size 43 3 v (fv).length ((fv).map fcell).flatten :: (fv).map (fres 3 wm.heap.size)) ∧ Ext0 wm w) 8001 ?_ ?_
   ·exact ⟨rfl, 0, .slice none 0 0, [], Nat.zero_le _, rfl, rfl, rfl, rfl, hL.nilRow _ _ _, hE⟩
   rintro m1 e w ⟨hq1, hI⟩
   refine c_know (t := 1) (by exact hq1) ?_
   clear hq1
   obtain ⟨n, v, fv, hnl, hmn, h9, h8, hfv, hL, hE⟩ := hI
   refine c_know (t := 9) (by exact h9) ?_
   refine c_know (t := 8) (by exact h8) ?_
   have hfl : fv.length = n := by have := congrArg List.length hfv; simpa using this
   refine c_seq ?_
   refine c_seq ?_
   refine c_ops ?_
   refine mv' rfl rfl rfl rfl ?_
   refine l_val rfl rfl rfl (r_lss rfl rfl rfl) ?_
   refine l_nil ?_
   refine c_cond rfl (fun hb => ?_) (fun hb => ?_)
   ·have hr119 := hb
    replace hb := of_decide_eq_true hb
    refine c_skip ?_
    refine c_seq ?_
    refine c_block ?_
    refine c_ops ?_
    refine mv' rfl rfl rfl rfl ?_
    refine l_new rfl rfl rfl (n_slice rfl Tryz.underlying26 Tryz.sizeOf3 Tryz.zeroValue3 rfl rfl (fill_int1 _) hL hE) ?_
    rintro _ w ⟨s123, rfl, hs123, hL, hE, hX⟩
    replace hL : Has w (.row wm.heap.size 3 1 (Value.slice (some ⟨s123, 0, none⟩) 1 1) 1 [.int .i64 0] :: .row wm.heap.size 43 3 v (fv).length ((fv).map fcell).flatten :: (fv).map (fres 3 wm.heap.size)) := Has.asRow hL (by have := hE.size; omega) rfl (by decide)
    refine l_val rfl rfl rfl (r_build rfl rfl (built_f3 _ _ _ _ _)) ?_
    refine l_new rfl rfl rfl (n_slice (cells := #[.int .i64 0, .int .i64 0, (Value.slice (some ⟨s123, 0, none⟩) 1 1)]) rfl Tryz.underlying25 Tryz.sizeOf43 Tryz.zeroValue43 rfl rfl (fill_fact _ _ _) hL hE) ?_
    rintro _ w ⟨s125, rfl, hs125, hL, hE, hX⟩
    refine l_new rfl rfl rfl (r_append (ys := fcell (oneF, (Value.slice (some ⟨s123, 0, none⟩) 1 1))) 2 rfl Tryz.underlying25 info_fact rfl (by decide) rfl rfl hL hE rfl rfl (blk_raw (cs := #[.int .i64 0, .int .i64 0, (Value.slice (some ⟨s123, 0, none⟩) 1 1)]) (hL.get 0 rfl) rfl) (fun u hu => List.all_eq_true.1 (all3 rfl) u hu) (by omega) (by omega) (Nat.le_refl _) hE.size) ?_
    rintro _ w ⟨hL, hE, hk⟩
    obtain ⟨A4, c4, rfl⟩ := ownsRow_slice (hL.row 2 rfl)
    replace hL : Has w (.blk s125 (.cells #[.int .i64 0, .int .i64 0, (Value.slice (some ⟨s123, 0, none⟩) 1 1)] 43 (0, 0)) :: .row wm.heap.size 3 1 (Value.slice (some ⟨s123, 0, none⟩) 1 1) 1 [.int .i64 0] :: .row wm.heap.size 43 3 (.slice A4 (fv.length + 1) c4) (fv ++ [(oneF, (Value.slice (some ⟨s123, 0, none⟩) 1 1))]).length ((fv ++ [(oneF, (Value.slice (some ⟨s123, 0, none⟩) 1 1))]).map fcell).flatten :: (fv).map (fres 3 wm.heap.size)) := by rw [← fcells_snoc, List.length_append]; exact hL
    refine as' rfl rfl rfl rfl ?_
    refine l_nil ?_
    refine c_ops ?_
    refine mv' rfl rfl rfl rfl ?_
    refine l_val rfl rfl rfl (r_add rfl rfl rfl) ?_
    refine as' rfl rfl rfl rfl ?_
    refine l_nil ?_
    refine ⟨8001 - (n + 1), by omega, rfl, n + 1, (.slice A4 (fv.length + 1) c4), fv ++ [(oneF, (Value.slice (some ⟨s123, 0, none⟩) 1 1))], by omega, rfl, by show Value.int .i64 (IntKind.i64.wrap ((n : Int) + 1)) = _; rw [wrap_small (by omega) (by omega)]; rfl, rfl, by rw [List.map_append, hfv, List.replicate_succ']; rfl, ?_, hE⟩
    rw [List.map_append (f := fres 3 wm.heap.size)]
    exact Has.perm (few_perm _ _ _) hL.tail
   ·have hr119 := hb
    replace hb := of_decide_eq_false hb
    have hn1 : n = 8001 := by omega
    obtain ⟨A9, c9, rfl⟩ := ownsRow_slice (hL.row 0 rfl)
    have hm0 := (facts_at (hL.sub (.cons _ (.refl _))) (fun x hx => List.mem_map.2 ⟨x, hx, rfl⟩) (hL.row 0 rfl) rfl).1
    have hall : ∀ f ∈ fv.map (·.1), f = oneF := by rw [hfv]; intro f hf; exact (List.mem_replicate.1 hf).2
    have hfl2 : (fv.map (·.1)).length = 8001 := by rw [List.length_map]; omega
    have hc1 := check_many _ hfl2
    obtain ⟨ll, hll⟩ : ∃ x, x = fv.map (·.1) := ⟨_, rfl⟩
    have hfvl : fv.length = ll.length := by rw [hll, List.length_map]
    rw [← hll] at hm0 hall hfl2 hc1
    have hc0 := check_most (ll.drop 1) (fun f hf => hall f (List.mem_of_mem_drop hf)) (by rw [List.length_drop]; omega)
    have hf1 := first_none (ll.drop 1) (fun f hf => hall f (List.mem_of_mem_drop hf))
    have hL : Has w [] := trivial
    obtain ⟨wq, hwq⟩ : ∃ x, x = w := ⟨_, rfl⟩
    rw [← hwq] at hm0
    have hEc : Ext0 wq w := hwq ▸ Ext.refl _ _
    have hm1 : Sl wq 3 RFact (if c9 = (1 : Int).toNat then A9 else A9.map (·.add ((1 : Int).toNat * 3))) (ll.drop 1).length (c9 - (1 : Int).toNat) (ll.drop 1) := by have := Sl.drop1F hm0 (by omega); rw [List.length_drop]; exact this
    refine c_exit ?_
    refine c_fresh (fun e => e 1 = .slice A0 smallL.length c0 ∧ e 8 = .slice A9 ll.length c9) ⟨rfl, (congrArg (fun n => Value.slice A9 n c9) hfvl)⟩ ?_
    rintro e ⟨hq1, hq8⟩
    refine c_know (t := 1) (by exact hq1) ?_
    refine c_know (t := 8) (by exact hq8) ?_
    clear hq1 hq8
    refine c_seq ?_
    refine c_ops ?_
    refine mv' rfl rfl rfl rfl ?_
    refine mv' rfl rfl rfl rfl ?_
    refine l_val rfl rfl rfl ((r_slice_from rfl Tryz.underlying25 Tryz.sizeOf43 rfl rfl (by decide) (by omega)).trans (by rw [show ll.length - (1 : Int).toNat = (ll.drop 1).length from (List.length_drop ..).symm])) ?_
    refine l_by rfl rfl rfl (r_call rfl rfl Tryz.func13 rfl rfl) (First_calls _ A0 c0 smallL (hn.keep RNode.kept (Ext0.cells hE)) fits_small (hk0.keep (Ext0.cells (hE0.trans hE))) _ _ (ll.drop 1) (hm1.keep RFact.kept (Ext0.cells hEc))) ?_
    rintro _ w ⟨hen, hX⟩
    rw [if_pos hc0, hc0, hf1] at hen
    subst hen
    replace hE := hE.trans hX
    replace hEc := hEc.trans hX
    refine ⟨_, rfl, ?_⟩
    refine mv' rfl rfl rfl rfl ?_
    refine l_val rfl rfl rfl (r_extract rfl rfl rfl) ?_
    refine l_val rfl rfl rfl (r_extract rfl rfl rfl) ?_
    refine as' rfl rfl rfl rfl ?_
    refine as' rfl rfl rfl rfl ?_
    refine l_nil ?_
    refine c_seq ?_
    refine c_ops ?_
    refine mv' rfl rfl rfl rfl ?_
    refine l_by rfl rfl rfl (r_call rfl rfl Tryz.func11 rfl rfl) (works_calls _ (hk0.keep (Ext0.cells (hE0.trans hE)))) ?_
    rintro _ w ⟨rfl, hX⟩
    replace hE := hE.trans hX
    replace hEc := hEc.trans hX
    refine ⟨_, rfl, ?_⟩
    refine l_val rfl rfl rfl (r_pick rfl rfl) ?_
    refine l_know (t := 136) (v := .bool true) rfl ?_
    refine mv' rfl rfl rfl rfl ?_
    refine l_know (t := 137) (v := .bool true) rfl ?_
    refine mv' rfl rfl rfl rfl ?_
    refine mv' rfl rfl rfl rfl ?_
    refine l_by rfl rfl rfl (r_call rfl rfl Tryz.func15 rfl rfl) (fCheck_calls _ A0 c0 smallL (hn.keep RNode.kept (Ext0.cells hE)) fits_small (hk0.keep (Ext0.cells (hE0.trans hE))) _ _ ll (hm0.keep RFact.kept (Ext0.cells hEc))) ?_
    rintro _ w ⟨hen, hX⟩
    rw [hc1] at hen
    subst hen
    replace hE := hE.trans hX
    refine ⟨_, rfl, ?_⟩
    refine l_val rfl rfl rfl (r_eql rfl rfl rfl) ?_
    refine l_know (t := 141) (v := .bool true) rfl ?_
    refine l_val rfl rfl rfl (r_pick rfl rfl) ?_
    refine l_know (t := 142) (v := .bool true) rfl ?_
    refine mv' rfl rfl rfl rfl ?_
    refine l_know (t := 143) (v := .bool true) rfl ?_
    refine mv' rfl rfl rfl rfl ?_
    refine l_val rfl rfl rfl (r_eql rfl rfl rfl) ?_
    refine l_know (t := 145) (v := .bool true) rfl ?_
    refine l_val rfl rfl rfl (r_pick rfl rfl) ?_
    refine l_know (t := 146) (v := .bool true) rfl ?_
    refine mv' rfl rfl rfl rfl ?_
    refine l_know (t := 147) (v := .bool true) rfl ?_
    refine mv' rfl rfl rfl rfl ?_
    refine l_val rfl rfl rfl (r_eql rfl rfl rfl) ?_
    refine l_know (t := 149) (v := .bool true) rfl ?_
    refine l_val rfl rfl rfl (r_pick rfl rfl) ?_
    refine l_know (t := 150) (v := .bool true) rfl ?_
    refine as' rfl rfl rfl rfl ?_
    refine l_nil ?_
    refine c_ret ?_
    exact ⟨rfl, hE0.trans hE⟩
end Go.Proofs.YtndophlnapjkhaaGreatDoor.Vc
