/- Same and Copy of package fact. Conditions: those of each statement. -/
import Derived.Test.YtndophlnapjkhaaDoorFact9
namespace Go.Proofs.YtndophlnapjkhaaDoor.Vc
open Go Go.RowKit
set_option linter.unusedVariables false
set_option linter.unusedSimpArgs false

theorem iat_eq {a b : List Int} {k : Nat} (ha : k < a.length) (hb : k < b.length) (h : ¬ iat a k = iat b k) : a ≠ b := fun e => h (by rw [e])
theorem eq_of_iat {a b : List Int} (hl : a.length = b.length) (h : ∀ k : Nat, k < a.length → iat a k = iat b k) : a = b := by
  refine List.ext_getElem hl fun k h1 h2 => ?_
  have := h k h1
  have e1 := iat_nat h1
  have e2 := iat_nat h2
  rw [List.getElem?_eq_getElem h1] at e1
  rw [List.getElem?_eq_getElem h2] at e2
  injection e1 with e1
  injection e2 with e2
  rw [e1, e2]
  exact this
theorem Equal_int (w0 : World) (A : Option Addr) (c : Nat) (a : List Int) (ha : Ints w0 A c a) (B : Option Addr) (d : Nat) (b : List Int) (hb' : Ints w0 B d b) :
    Calls Tryd.prog 50 [.slice A a.length c, .slice B b.length d].toArray w0 fun en w' => en = .returned (.bool (decide (a = b))) ∧ Ext0 w0 w' := by
  have hE : Ext0 w0 w0 := Ext.refl _ _
  have hL : Has w0 [] := trivial
  refine calls [4] Tryd.func50 rfl rfl rfl rfl ?_
  refine c_seq ?_
  -- region 0
  refine c_ops ?_
  refine l_val rfl rfl rfl (r_assign rfl) ?_
  refine l_nil ?_
  refine c_seq ?_
  refine c_seq ?_
  -- region 1
  refine c_ops ?_
  refine l_val rfl rfl rfl (r_move rfl) ?_
  refine l_val rfl rfl rfl (r_len rfl Tryd.underlying30 rfl) ?_
  refine l_val rfl rfl rfl (r_move rfl) ?_
  refine l_val rfl rfl rfl (r_len rfl Tryd.underlying30 rfl) ?_
  refine l_val rfl rfl rfl (r_neq rfl rfl rfl) ?_
  refine l_nil ?_
  refine c_cond rfl (fun hb => ?_) (fun hb => ?_)
  · -- True
    have hr10 := hb
    replace hb := of_decide_eq_false (by simpa using hb)
    have hres : decide (a = b) = false := decide_eq_false fun e => hb (by rw [e])
    refine c_seq ?_
    -- region 2
    refine c_ops ?_
    refine l_val rfl rfl rfl (r_assign rfl) ?_
    refine l_nil ?_
    refine c_ret ?_
    exact ⟨ret_bool rfl hres.symm, hE⟩
  · -- False
    have hr10 := hb
    replace hb := of_decide_eq_true (by simpa using hb)
    have hlen : a.length = b.length := by omega
    refine c_skip ?_
    refine c_seq ?_
    refine c_seq ?_
    -- region 3
    refine c_ops ?_
    refine l_val rfl rfl rfl (r_move rfl) ?_
    refine l_val rfl rfl rfl (r_len rfl Tryd.underlying30 rfl) ?_
    refine l_val rfl rfl rfl (r_move rfl) ?_
    refine l_nil ?_
    refine c_block ?_
    -- loop 0: slots that it writes and that are read in it ahead of that: [13]
    refine c_loop [4, 5, 13, 14, 15, 16, 17, 18, 19, 20, 21, 22, 23, 24, 25] (fun m1 e w => ∃ k : Nat, k ≤ a.length ∧ m1 = a.length - k ∧ e 13 = .int .i64 k ∧ (∀ j : Nat, j < k → iat a j = iat b j) ∧ Ext0 w0 w) a.length ?_ ?_
    · exact ⟨0, Nat.zero_le _, rfl, rfl, fun j h => absurd h (Nat.not_lt_zero _), hE⟩
    intro m1 e w hI
    obtain ⟨k, hk, hm, h13, hall, hE⟩ := hI
    refine c_know h13 ?_
    have hL : Has w [] := trivial
    refine c_seq ?_
    -- region 4
    refine c_ops ?_
    refine l_val rfl rfl rfl (r_lss rfl rfl rfl) ?_
    refine l_nil ?_
    refine c_seq ?_
    refine c_cond rfl (fun hb => ?_) (fun hb => ?_)
    · -- True
      have hr14 := hb
      replace hb := of_decide_eq_true hb
      have hkn : k < a.length := by omega
      refine c_skip ?_
      refine c_seq ?_
      refine c_block ?_
      refine c_seq ?_
      -- region 5
      refine c_ops ?_
      refine l_val rfl rfl rfl (r_move rfl) ?_
      refine l_val rfl rfl rfl (r_assign rfl) ?_
      refine l_nil ?_
      refine c_seq ?_
      -- region 6
      refine c_draw mixed (hL) hE ?_
      replace hL := hL.drew
      replace hE := hE.drew
      have hK := hL
      refine h_t 0 rfl rfl (by kernel_rfl) (fun _ _ _ h => h) ⟨hK, hE⟩ rfl (fun W hW => r_move rfl) ?_
      refine h_t 1 rfl rfl (by kernel_rfl) (fun _ _ _ h => h) ⟨hK, hE⟩ rfl (fun W hW => r_move rfl) ?_
      refine h_t 2 rfl rfl (by kernel_rfl) (fun _ _ _ h => h) ⟨hK, hE⟩ rfl (fun W hW => r_indexAddr_sl rfl Tryd.underlying30 Tryd.sizeOf3 rfl ha.is rfl (by omega) (by omega)) ?_
      refine h_t 3 rfl rfl (by kernel_rfl) (fun _ _ _ h => h) ⟨hK, hE⟩ rfl (fun W hW => r_load (v := .int .i64 (iat a k)) rfl Tryd.isAgg3 rfl ((ha.keep RInt.kept (Ext0.cells hW.2)).int k (by omega) (by omega))) ?_
      refine h_t 4 rfl rfl (by kernel_rfl) (fun _ _ _ h => h) ⟨hK, hE⟩ rfl (fun W hW => r_move rfl) ?_
      refine h_t 5 rfl rfl (by kernel_rfl) (fun _ _ _ h => h) ⟨hK, hE⟩ rfl (fun W hW => r_move rfl) ?_
      refine h_t 6 rfl rfl (by kernel_rfl) (fun _ _ _ h => h) ⟨hK, hE⟩ rfl (fun W hW => r_indexAddr_sl rfl Tryd.underlying30 Tryd.sizeOf3 rfl hb'.is rfl (by omega) (by omega)) ?_
      refine h_t 7 rfl rfl (by kernel_rfl) (fun _ _ _ h => h) ⟨hK, hE⟩ rfl (fun W hW => r_load (v := .int .i64 (iat b k)) rfl Tryd.isAgg3 rfl ((hb'.keep RInt.kept (Ext0.cells hW.2)).int k (by omega) (by omega))) ?_
      refine h_t 8 rfl rfl (by kernel_rfl) (fun _ _ _ h => h) ⟨hK, hE⟩ rfl (fun W hW => r_neq rfl rfl rfl) ?_
      refine h_done (by kernel_rfl) ?_
      refine c_cond rfl (fun hb => ?_) (fun hb => ?_)
      · -- True
        have hr24 := hb
        replace hb := of_decide_eq_false (by simpa using hb)
        have hres : decide (a = b) = false := decide_eq_false (iat_eq hkn (by omega) hb)
        refine c_seq ?_
        -- region 7
        refine c_ops ?_
        refine l_val rfl rfl rfl (r_assign rfl) ?_
        refine l_nil ?_
        refine c_ret ?_
        exact ⟨ret_bool rfl hres.symm, hE⟩
      · -- False
        have hr24 := hb
        replace hb := of_decide_eq_true (by simpa using hb)
        have hall2 : ∀ j : Nat, j < k + 1 → iat a j = iat b j := fun j hj => by
          rcases Nat.lt_or_eq_of_le (Nat.le_of_lt_succ hj) with h | rfl
          · exact hall j h
          · exact hb
        refine c_skip ?_
        -- region 8
        refine c_ops ?_
        refine l_val rfl rfl rfl (r_add rfl rfl rfl) ?_
        refine l_val rfl rfl rfl (r_move rfl) ?_
        refine l_nil ?_
        refine ⟨by repeat (first | exact Agree.over _ _ _ | exact Agree.refl _ _ | (refine Agree.puto ?_ _ _ rfl) | (refine Agree.put ?_ _ _ rfl) | (refine Agree.sub ?_ rfl)), ?_⟩
        exact ⟨a.length - (k + 1), by omega, k + 1, by omega, rfl, by show Value.int .i64 (IntKind.i64.wrap ((k : Int) + 1)) = _; rw [wrap_succ hkn ha.max], hall2, hE⟩
    · -- False
      have hr14 := hb
      replace hb := of_decide_eq_false hb
      have hres : decide (a = b) = true := decide_eq_true (eq_of_iat hlen (fun j hj => hall j (by omega)))
      refine c_exit ?_
      refine c_seq ?_
      -- region 9
      refine c_ops ?_
      refine l_val rfl rfl rfl (r_assign rfl) ?_
      refine l_nil ?_
      refine c_ret ?_
      exact ⟨ret_bool rfl hres.symm, hE⟩
theorem alike_calls (w0 : World) (f h : Fact) (A : Option Addr) (c : Nat) (B : Option Addr) (d : Nat) (hf : Ints w0 A c f.why) (hh : Ints w0 B d h.why) :
    Calls Tryd.prog 36 [.agg (factCells f A c).toArray, .agg (factCells h B d).toArray].toArray w0 fun en w' => en = .returned (.bool (decide (f = h))) ∧ Ext0 w0 w' := by
  have hE : Ext0 w0 w0 := Ext.refl _ _
  have hL : Has w0 [] := trivial
  have he : decide (f = h) = (decide (f.a = h.a) && decide (f.b = h.b) && decide (f.why = h.why)) := by
    cases f; cases h
    simp only [Fact.mk.injEq]
    rw [Bool.eq_iff_iff]
    simp [and_assoc]
  rw [he]
  refine calls [4] Tryd.func36 rfl rfl rfl rfl ?_
  refine c_seq ?_
  -- region 0
  refine c_ops ?_
  refine l_new rfl rfl rfl (n_box rfl hL hE) ?_
  rintro _ w ⟨b2, rfl, hb2, hL, hE, hX⟩
  refine l_new rfl rfl rfl (n_box rfl hL hE) ?_
  rintro _ w ⟨b3, rfl, hb3, hL, hE, hX⟩
  refine l_val rfl rfl rfl (r_assign rfl) ?_
  refine l_nil ?_
  refine c_seq ?_
  -- region 1
  refine c_ops ?_
  refine l_val rfl rfl rfl (r_fieldAddr (n := 0) rfl Tryd.underlying37 rfl Tryd.sizeOf3 rfl) ?_
  refine l_val rfl rfl rfl (r_load_blk rfl Tryd.isAgg3 rfl (hL.get 1 rfl) rfl) ?_
  refine l_val rfl rfl rfl (r_fieldAddr (n := 0) rfl Tryd.underlying37 rfl Tryd.sizeOf3 rfl) ?_
  refine l_val rfl rfl rfl (r_load_blk rfl Tryd.isAgg3 rfl (hL.get 0 rfl) rfl) ?_
  refine l_val rfl rfl rfl (r_eql rfl rfl rfl) ?_
  refine l_val rfl rfl rfl (r_move rfl) ?_
  refine l_case 10 rfl (fun hb => ?_) (fun hb => ?_)
  · -- slot 10 is True
    have hr10 := hb
    replace hb := of_decide_eq_true hb
    refine l_val rfl rfl rfl (r_fieldAddr (n := 0) rfl Tryd.underlying37 rfl Tryd.sizeOf3 rfl) ?_
    refine l_val rfl rfl rfl (r_load_blk rfl Tryd.isAgg3 rfl (hL.get 1 rfl) rfl) ?_
    refine l_val rfl rfl rfl (r_fieldAddr (n := 0) rfl Tryd.underlying37 rfl Tryd.sizeOf3 rfl) ?_
    refine l_val rfl rfl rfl (r_load_blk rfl Tryd.isAgg3 rfl (hL.get 0 rfl) rfl) ?_
    refine l_val rfl rfl rfl (r_eql rfl rfl rfl) ?_
    refine l_val rfl rfl rfl (r_pick rfl rfl) ?_
    refine l_val rfl rfl rfl (r_move rfl) ?_
    refine l_case 17 rfl (fun hb => ?_) (fun hb => ?_)
    · -- slot 17 is True
      have hr17 := hb
      replace hb := of_decide_eq_true hb
      refine l_val rfl rfl rfl (r_fieldAddr (n := 0) rfl Tryd.underlying37 rfl Tryd.sizeOf30 rfl) ?_
      refine l_val rfl rfl rfl (r_load_blk rfl Tryd.isAgg30 rfl (hL.get 1 rfl) rfl) ?_
      refine l_val rfl rfl rfl (r_fieldAddr (n := 0) rfl Tryd.underlying37 rfl Tryd.sizeOf30 rfl) ?_
      refine l_val rfl rfl rfl (r_load_blk rfl Tryd.isAgg30 rfl (hL.get 0 rfl) rfl) ?_
      refine l_by rfl rfl rfl (r_call rfl rfl Tryd.func50 rfl rfl) (Equal_int _ A c f.why (hf.keep RInt.kept (Ext0.cells hE)) B d h.why (hh.keep RInt.kept (Ext0.cells hE))) ?_   -- fact.go:253 slot 22 := (call {callee=(value (func 50)), args=[(tmp 19), (tmp 21)], argTypes=[30, 30]})
      rintro _ w ⟨rfl, hX⟩
      replace hE := hE.trans hX
      refine ⟨_, rfl, ?_⟩
      refine l_val rfl rfl rfl (r_pick rfl rfl) ?_
      refine l_val rfl rfl rfl (r_assign rfl) ?_
      refine l_nil ?_
      refine c_ret ?_
      exact ⟨ret_bool rfl (by simp only [hr10, hr17, Bool.true_and, Bool.and_true, Bool.false_and, Bool.and_false, Bool.true_or, Bool.or_true, Bool.false_or, Bool.or_false, Bool.not_true, Bool.not_false, cond_true, cond_false]), hE⟩
    · -- slot 17 is False
      have hr17 := hb
      replace hb := of_decide_eq_false hb
      refine l_not rfl rfl rfl ?_
      refine l_not rfl rfl rfl ?_
      refine l_not rfl rfl rfl ?_
      refine l_not rfl rfl rfl ?_
      refine l_not rfl rfl rfl ?_
      refine l_val rfl rfl rfl (r_pick rfl rfl) ?_
      refine l_val rfl rfl rfl (r_assign rfl) ?_
      refine l_nil ?_
      refine c_ret ?_
      exact ⟨ret_bool rfl (by simp only [hr10, hr17, Bool.true_and, Bool.and_true, Bool.false_and, Bool.and_false, Bool.true_or, Bool.or_true, Bool.false_or, Bool.or_false, Bool.not_true, Bool.not_false, cond_true, cond_false]), hE⟩
  · -- slot 10 is False
    have hr10 := hb
    replace hb := of_decide_eq_false hb
    refine l_not rfl rfl rfl ?_
    refine l_not rfl rfl rfl ?_
    refine l_not rfl rfl rfl ?_
    refine l_not rfl rfl rfl ?_
    refine l_not rfl rfl rfl ?_
    refine l_val rfl rfl rfl (r_pick rfl rfl) ?_
    refine l_val rfl rfl rfl (r_move rfl) ?_
    refine l_not rfl rfl rfl ?_
    refine l_not rfl rfl rfl ?_
    refine l_not rfl rfl rfl ?_
    refine l_not rfl rfl rfl ?_
    refine l_not rfl rfl rfl ?_
    refine l_val rfl rfl rfl (r_pick rfl rfl) ?_
    refine l_val rfl rfl rfl (r_assign rfl) ?_
    refine l_nil ?_
    refine c_ret ?_
    exact ⟨ret_bool rfl (by simp only [hr10, Bool.true_and, Bool.and_true, Bool.false_and, Bool.and_false, Bool.true_or, Bool.or_true, Bool.false_or, Bool.or_false, Bool.not_true, Bool.not_false, cond_true, cond_false]), hE⟩
theorem fat_nat {l : List Fact} {k : Nat} (h : k < l.length) : l[k]? = some (fat l k) := by
  unfold fat
  rw [Int.toNat_natCast, List.getD_eq_getElem?_getD, List.getElem?_eq_getElem h]
  rfl
theorem eq_of_fat {a b : List Fact} (hl : a.length = b.length) (h : ∀ k : Nat, k < a.length → fat a k = fat b k) : a = b := by
  refine List.ext_getElem hl fun k h1 h2 => ?_
  have := h k h1
  have e1 := fat_nat h1
  have e2 := fat_nat h2
  rw [List.getElem?_eq_getElem h1] at e1
  rw [List.getElem?_eq_getElem h2] at e2
  injection e1 with e1
  injection e2 with e2
  rw [e1, e2]
  exact this
theorem EqualFunc_fact (w0 : World) (A : Option Addr) (c : Nat) (a : List Fact) (ha : FactsAt w0 A c a) (B : Option Addr) (d : Nat) (b : List Fact) (hb' : FactsAt w0 B d b) :
    Calls Tryd.prog 35 [.slice A a.length c, .slice B b.length d, .func (.func 36) #[] #[]].toArray w0 fun en w' => en = .returned (.bool (decide (a = b))) ∧ Ext0 w0 w' := by
  have hE : Ext0 w0 w0 := Ext.refl _ _
  have hL : Has w0 [] := trivial
  refine calls [6] Tryd.func35 rfl rfl rfl rfl ?_
  refine c_seq ?_
  -- region 0
  refine c_ops ?_
  refine l_val rfl rfl rfl (r_assign rfl) ?_
  refine l_nil ?_
  refine c_seq ?_
  refine c_seq ?_
  -- region 1
  refine c_ops ?_
  refine l_val rfl rfl rfl (r_move rfl) ?_
  refine l_val rfl rfl rfl (r_len rfl Tryd.underlying29 rfl) ?_
  refine l_val rfl rfl rfl (r_move rfl) ?_
  refine l_val rfl rfl rfl (r_len rfl Tryd.underlying29 rfl) ?_
  refine l_val rfl rfl rfl (r_neq rfl rfl rfl) ?_
  refine l_nil ?_
  refine c_cond rfl (fun hb => ?_) (fun hb => ?_)
  · -- True
    have hr14 := hb
    replace hb := of_decide_eq_false (by simpa using hb)
    have hres : decide (a = b) = false := decide_eq_false fun e => hb (by rw [e])
    refine c_seq ?_
    -- region 2
    refine c_ops ?_
    refine l_val rfl rfl rfl (r_assign rfl) ?_
    refine l_nil ?_
    refine c_ret ?_
    exact ⟨ret_bool rfl hres.symm, hE⟩
  · -- False
    have hr14 := hb
    replace hb := of_decide_eq_true (by simpa using hb)
    have hlen : a.length = b.length := by omega
    refine c_skip ?_
    refine c_seq ?_
    refine c_seq ?_
    -- region 3
    refine c_ops ?_
    refine l_val rfl rfl rfl (r_move rfl) ?_
    refine l_val rfl rfl rfl (r_len rfl Tryd.underlying29 rfl) ?_
    refine l_val rfl rfl rfl (r_move rfl) ?_
    refine l_nil ?_
    refine c_block ?_
    -- loop 0: slots that it writes and that are read in it ahead of that: [17]
    refine c_loop [6, 7, 8, 9, 17, 18, 19, 20, 21, 22, 23, 24, 25, 26, 27, 28, 29, 30, 31] (fun m1 e w => ∃ k : Nat, k ≤ a.length ∧ m1 = a.length - k ∧ e 17 = .int .i64 k ∧ (∀ j : Nat, j < k → fat a j = fat b j) ∧ Ext0 w0 w) a.length ?_ ?_
    · exact ⟨0, Nat.zero_le _, rfl, rfl, fun j h => absurd h (Nat.not_lt_zero _), hE⟩
    intro m1 e w hI
    obtain ⟨k, hk, hm, h17, hall, hE⟩ := hI
    refine c_know h17 ?_
    have hL : Has w [] := trivial
    refine c_seq ?_
    -- region 4
    refine c_ops ?_
    refine l_val rfl rfl rfl (r_lss rfl rfl rfl) ?_
    refine l_nil ?_
    refine c_seq ?_
    refine c_cond rfl (fun hb => ?_) (fun hb => ?_)
    · -- True
      have hr18 := hb
      replace hb := of_decide_eq_true hb
      have hkn : k < a.length := by omega
      obtain ⟨A1, c1, hfa, hwa⟩ := ha.fact k (by omega) (by omega)
      obtain ⟨B1, d1, hfb, hwb⟩ := hb'.fact k (by omega) (by omega)
      refine c_skip ?_
      refine c_seq ?_
      refine c_block ?_
      refine c_seq ?_
      -- region 5
      refine c_ops ?_
      refine l_val rfl rfl rfl (r_move rfl) ?_
      refine l_val rfl rfl rfl (r_indexAddr_sl rfl Tryd.underlying29 Tryd.sizeOf37 rfl ha.is rfl (by omega) (by omega)) ?_
      refine l_val rfl rfl rfl (r_load_agg (vs := [.int .i64 (fat a k).a, .int .i64 (fat a k).b, .slice A1 (fat a k).why.length c1]) rfl Tryd.isAgg37 Tryd.sizeOf37 rfl (fun j v hj => Ext0.cells hE _ _ (hfa j v hj))) ?_
      refine l_new rfl rfl rfl (n_alloc rfl Tryd.zeroValue37 hL hE) ?_
      rintro _ w ⟨b8, rfl, hb8, hL, hE, hX⟩
      refine l_val rfl rfl rfl (r_assign rfl) ?_
      refine l_new_do rfl rfl (r_store 0 rfl Tryd.sizeOf37 rfl hL hE rfl rfl rfl rfl (fun h => absurd h (Nat.not_lt.2 hb8))) ?_
      rintro w ⟨hL, hE, hz, hk⟩
      refine l_nil ?_
      refine c_seq ?_
      -- region 6
      refine c_ops ?_
      refine l_val rfl rfl rfl (r_move rfl) ?_
      refine l_val rfl rfl rfl (r_move rfl) ?_
      refine l_val rfl rfl rfl (r_indexAddr_sl rfl Tryd.underlying29 Tryd.sizeOf37 rfl hb'.is rfl (by omega) (by omega)) ?_
      refine l_val rfl rfl rfl (r_load_agg (vs := [.int .i64 (fat b k).a, .int .i64 (fat b k).b, .slice B1 (fat b k).why.length d1]) rfl Tryd.isAgg37 Tryd.sizeOf37 rfl (fun j v hj => Ext0.cells hE _ _ (hfb j v hj))) ?_
      refine l_new rfl rfl rfl (n_alloc rfl Tryd.zeroValue37 hL hE) ?_
      rintro _ w ⟨b9, rfl, hb9, hL, hE, hX⟩
      refine l_new_do rfl rfl (r_store 0 rfl Tryd.sizeOf37 rfl hL hE rfl rfl rfl rfl (fun h => absurd h (Nat.not_lt.2 hb9))) ?_
      rintro w ⟨hL, hE, hz, hk⟩
      refine l_nil ?_
      refine c_seq ?_
      -- region 7
      refine c_ops ?_
      refine l_val rfl rfl rfl (r_move rfl) ?_
      refine l_val rfl rfl rfl (r_load_blk_agg rfl Tryd.isAgg37 Tryd.sizeOf37 rfl (hL.get 1 rfl) rfl) ?_
      refine l_val rfl rfl rfl (r_load_blk_agg rfl Tryd.isAgg37 Tryd.sizeOf37 rfl (hL.get 0 rfl) rfl) ?_
      refine l_by rfl rfl rfl (r_call rfl rfl Tryd.func36 rfl rfl) (alike_calls _ (fat a k) (fat b k) A1 c1 B1 d1 (hwa.keep RInt.kept (Ext0.cells hE)) (hwb.keep RInt.kept (Ext0.cells hE))) ?_   -- slices.go:43 slot 29 := (call {callee=(value (tmp 26)), args=[(tmp 27), (tmp 28)], argTypes=[37, 37]})
      rintro _ w ⟨rfl, hX⟩
      replace hE := hE.trans hX
      refine ⟨_, rfl, ?_⟩
      refine l_val rfl rfl rfl (r_not rfl rfl) ?_
      refine l_nil ?_
      refine c_cond rfl (fun hb => ?_) (fun hb => ?_)
      · -- True
        have hr30 := hb
        have hres : decide (a = b) = false := decide_eq_false fun e => by
          have h : ¬ fat a k = fat b k := by have h := hr30; rw [Bool.not_eq_true'] at h; exact of_decide_eq_false h
          exact h (by rw [e])
        refine c_seq ?_
        -- region 8
        refine c_ops ?_
        refine l_val rfl rfl rfl (r_assign rfl) ?_
        refine l_nil ?_
        refine c_ret ?_
        exact ⟨ret_bool rfl hres.symm, hE⟩
      · -- False
        have hr30 := hb
        have hall2 : ∀ j : Nat, j < k + 1 → fat a j = fat b j := fun j hj => by
          rcases Nat.lt_or_eq_of_le (Nat.le_of_lt_succ hj) with h | rfl
          · exact hall j h
          · have h := hr30
            rw [Bool.not_eq_false'] at h
            exact of_decide_eq_true h
        refine c_skip ?_
        -- region 9
        refine c_ops ?_
        refine l_val rfl rfl rfl (r_add rfl rfl rfl) ?_
        refine l_val rfl rfl rfl (r_move rfl) ?_
        refine l_nil ?_
        refine ⟨by repeat (first | exact Agree.over _ _ _ | exact Agree.refl _ _ | (refine Agree.puto ?_ _ _ rfl) | (refine Agree.put ?_ _ _ rfl) | (refine Agree.sub ?_ rfl)), ?_⟩
        exact ⟨a.length - (k + 1), by omega, k + 1, by omega, rfl, by show Value.int .i64 (IntKind.i64.wrap ((k : Int) + 1)) = _; rw [wrap_succ hkn ha.max], hall2, hE⟩
    · -- False
      have hr18 := hb
      replace hb := of_decide_eq_false hb
      have hres : decide (a = b) = true := decide_eq_true (eq_of_fat hlen (fun j hj => hall j (by omega)))
      refine c_exit ?_
      refine c_seq ?_
      -- region 10
      refine c_ops ?_
      refine l_val rfl rfl rfl (r_assign rfl) ?_
      refine l_nil ?_
      refine c_ret ?_
      exact ⟨ret_bool rfl hres.symm, hE⟩
theorem Same_calls (w0 : World) (A : Option Addr) (c : Nat) (a : List Fact) (ha : FactsAt w0 A c a) (B : Option Addr) (d : Nat) (b : List Fact) (hb' : FactsAt w0 B d b) :
    Calls Tryd.prog 15 [.slice A a.length c, .slice B b.length d].toArray w0 fun en w' => en = .returned (.bool (decide (a = b))) ∧ Ext0 w0 w' := by
  have hE : Ext0 w0 w0 := Ext.refl _ _
  refine calls [4] Tryd.func15 rfl rfl rfl rfl ?_
  refine c_seq ?_
  -- region 0
  refine c_ops ?_
  refine l_val rfl rfl rfl (r_assign rfl) ?_
  refine l_nil ?_
  refine c_seq ?_
  -- region 1
  refine c_ops ?_
  refine l_val rfl rfl rfl (r_move rfl) ?_
  refine l_val rfl rfl rfl (r_move rfl) ?_
  refine l_by rfl rfl rfl (r_call rfl rfl Tryd.func35 rfl rfl) (EqualFunc_fact _ A c a (ha.keep RFact.kept (Ext0.cells hE)) B d b (hb'.keep RFact.kept (Ext0.cells hE))) ?_   -- fact.go:256 slot 7 := (call {callee=(value (func 35)), args=[(tmp 5), (tmp 6), (func 36)], argTypes=[29, 29, 78]})
  rintro _ w ⟨rfl, hX⟩
  replace hE := hE.trans hX
  refine ⟨_, rfl, ?_⟩
  refine l_val rfl rfl rfl (r_assign rfl) ?_
  refine l_nil ?_
  refine c_ret ?_
  exact ⟨rfl, hE⟩
end Go.Proofs.YtndophlnapjkhaaDoor.Vc
