/- Functions of Go's slices at the types of this program: the first element that meets a test, whether there is one. Conditions: those of each statement. -/
import Derived.Test.YtndophlnapjkhaaDoorProg
import Derived.Test.YtndophlnapjkhaaDoorFun
namespace Go.Proofs.YtndophlnapjkhaaDoor.Vc
open Go Go.RowKit
set_option linter.unusedVariables false
set_option linter.unusedSimpArgs false

theorem mixed : Tryd.prog.follows .mixedOrders = true := by kernel_rfl
theorem IndexFunc_int {σ α : Type} (St : σ → World → Prop) (T : Nat → Prop) (R : World → α → List Value → Prop) (p : σ → α → Bool × σ) (w0 : World) (A : Option Addr) (n c : Nat) (xs : List α) (fv : Value) (s0 : σ)
    (hx : ∀ W, Ext T w0 W → Sl W 1 R A n c xs) (hf : Tests Tryd.prog St T (D1 R) p fv) (hs : St s0 w0) :
    Calls Tryd.prog 51 [.slice A n c, fv].toArray w0 fun en w' => en = .returned (.int .i64 (idxV (findS p 0 s0 xs).1)) ∧ Ext T w0 w' ∧ St (findS p 0 s0 xs).2 w' := by
  obtain ⟨g, fs, cs, fn, cd, rfl, hfn, hname, hbody, hcall⟩ := hf
  have hE : Ext T w0 w0 := Ext.refl _ _
  have hlen : xs.length = n := (hx w0 hE).len
  have hmax : n ≤ 9223372036854775807 := (hx w0 hE).max
  have hsome : 0 < n → A.isSome = true := (hx w0 hE).is
  refine calls [4] Tryd.func51 rfl rfl rfl rfl ?_
  refine c_seq ?_
  -- region 0
  refine c_ops ?_
  refine l_val rfl rfl rfl (r_assign rfl) ?_
  refine l_nil ?_
  refine c_seq ?_
  refine c_seq ?_
  -- region 1
  refine c_ops ?_
  refine l_val rfl rfl rfl (r_move rfl) ?_
  refine l_val rfl rfl rfl (r_len rfl Tryd.underlying30 rfl) ?_
  refine l_val rfl rfl rfl (r_move rfl) ?_
  refine l_nil ?_
  refine c_block ?_
  -- loop 0: slots that it writes and that are read in it ahead of that: [8]
  refine c_loop [4, 5, 8, 9, 10, 11, 12, 13, 14, 15, 16, 17, 18] (fun m e w => ∃ k s, k ≤ n ∧ m = n - k ∧ e 8 = .int .i64 (k : Nat) ∧ findS p 0 s0 xs = findS p k s (xs.drop k) ∧ St s w ∧ Ext T w0 w) n ?_ ?_
  · exact ⟨0, s0, Nat.zero_le _, rfl, rfl, rfl, hs, hE⟩
  intro m e w hI
  obtain ⟨k, s, hk, hm, h8, hfind, hs, hE⟩ := hI
  refine c_know h8 ?_
  refine c_seq ?_
  -- region 2
  refine c_ops ?_
  refine l_val rfl rfl rfl (r_lss rfl rfl rfl) ?_
  refine l_nil ?_
  refine c_seq ?_
  refine c_cond rfl (fun hb => ?_) (fun hb => ?_)
  · -- True
    replace hb := of_decide_eq_true hb
    have hkn : k < n := by omega
    obtain ⟨x, hxk⟩ : ∃ x, xs[k]? = some x := ⟨xs[k]'(by omega), List.getElem?_eq_getElem (by omega)⟩
    obtain ⟨cs1, hcl, hR, hcell⟩ := (hx w hE).at_ k x hxk
    obtain ⟨v1, rfl⟩ : ∃ v1, cs1 = [v1] := List.length_eq_one_iff.1 hcl
    have hcell' : w.cell? ((adr A).add ((k : Int).toNat * 1)) = some v1 := by rw [Int.toNat_natCast]; exact hcell 0 v1 rfl
    have hstep := findS_step p s xs k x hxk
    refine c_skip ?_
    refine c_seq ?_
    refine c_block ?_
    refine c_seq ?_
    -- region 3
    refine c_ops ?_
    refine l_val rfl rfl rfl (r_move rfl) ?_
    refine l_val rfl rfl rfl (r_assign rfl) ?_
    refine l_nil ?_
    refine c_seq ?_
    -- region 4
    refine c_ops ?_
    refine l_val rfl rfl rfl (r_move rfl) ?_
    refine l_val rfl rfl rfl (r_move rfl) ?_
    refine l_val rfl rfl rfl (r_move rfl) ?_
    refine l_val rfl rfl rfl (r_indexAddr_sl rfl Tryd.underlying30 Tryd.sizeOf3 rfl hsome rfl (Int.natCast_nonneg _) (by omega)) ?_
    refine l_val rfl rfl rfl (r_load rfl Tryd.isAgg3 rfl hcell') ?_
    refine l_by rfl rfl rfl (r_call rfl rfl hfn hname hbody) (hcall s x v1 w hs hR) ?_   -- slices.go:109 slot 16 := (call {callee=(value (tmp 11)), args=[(tmp 15)], argTypes=[3]})
    rintro _ w ⟨rfl, hX, hs⟩
    replace hE := hE.trans hX
    refine ⟨_, rfl, ?_⟩
    refine l_nil ?_
    refine c_cond rfl (fun hb => ?_) (fun hb => ?_)
    · -- True
      refine c_seq ?_
      -- region 5
      refine c_ops ?_
      refine l_val rfl rfl rfl (r_move rfl) ?_
      refine l_val rfl rfl rfl (r_assign rfl) ?_
      refine l_nil ?_
      refine c_ret ?_
      exact ⟨by rw [hfind, hstep, hb]; rfl, hE, by rw [hfind, hstep, hb]; exact hs⟩
    · -- False
      have hfind' : findS p 0 s0 xs = findS p (k + 1) (p s x).2 (xs.drop (k + 1)) := by rw [hfind, hstep, hb]; rfl
      refine c_skip ?_
      -- region 6
      refine c_ops ?_
      refine l_val rfl rfl rfl (r_add rfl rfl rfl) ?_
      refine l_val rfl rfl rfl (r_move rfl) ?_
      refine l_nil ?_
      refine ⟨by repeat (first | exact Agree.over _ _ _ | (refine Agree.puto ?_ _ _ rfl) | (refine Agree.put ?_ _ _ rfl) | (refine Agree.sub ?_ rfl)), ?_⟩
      exact ⟨n - (k + 1), by omega, k + 1, (p s x).2, by omega, rfl, by show Value.int .i64 (IntKind.i64.wrap ((k : Int) + 1)) = _; rw [wrap_succ hkn hmax], hfind', hs, hE⟩
  · -- False
    replace hb := of_decide_eq_false hb
    have hkn : n ≤ k := by omega
    refine c_exit ?_
    refine c_seq ?_
    -- region 7
    refine c_ops ?_
    refine l_val rfl rfl rfl (r_assign rfl) ?_
    refine l_nil ?_
    refine c_ret ?_
    exact ⟨by rw [hfind, findS_end p s xs k (by omega)]; rfl, hE, by rw [hfind, findS_end p s xs k (by omega)]; exact hs⟩
theorem ContainsFunc_int {σ α : Type} (St : σ → World → Prop) (T : Nat → Prop) (R : World → α → List Value → Prop) (p : σ → α → Bool × σ) (w0 : World) (A : Option Addr) (n c : Nat) (xs : List α) (fv : Value) (s0 : σ)
    (hx : ∀ W, Ext T w0 W → Sl W 1 R A n c xs) (hf : Tests Tryd.prog St T (D1 R) p fv) (hs : St s0 w0) :
    Calls Tryd.prog 39 [.slice A n c, fv].toArray w0 fun en w' => en = .returned (.bool (findS p 0 s0 xs).1.isSome) ∧ Ext T w0 w' ∧ St (findS p 0 s0 xs).2 w' := by
  refine calls [4] Tryd.func39 rfl rfl rfl rfl ?_
  refine c_seq ?_
  -- region 0
  refine c_ops ?_
  refine l_val rfl rfl rfl (r_assign rfl) ?_
  refine l_nil ?_
  refine c_seq ?_
  -- region 1
  refine c_ops ?_
  refine l_val rfl rfl rfl (r_move rfl) ?_
  refine l_val rfl rfl rfl (r_move rfl) ?_
  refine l_by rfl rfl rfl (r_call rfl rfl Tryd.func51 rfl rfl) (IndexFunc_int St T R p w0 A n c xs fv s0 hx hf hs) ?_   -- slices.go:125 slot 7 := (call {callee=(value (func 51)), args=[(tmp 5), (tmp 6)], argTypes=[30, 69]})
  rintro _ w ⟨rfl, hX, hs⟩
  refine ⟨_, rfl, ?_⟩
  refine l_val rfl rfl rfl (r_geq rfl rfl rfl) ?_
  refine l_val rfl rfl rfl (r_assign rfl) ?_
  refine l_nil ?_
  refine c_ret ?_
  exact ⟨congrArg (fun b => Ending.returned (.bool b)) (idxV_ge _), hX, hs⟩
theorem IndexFunc_str {σ α : Type} (St : σ → World → Prop) (T : Nat → Prop) (R : World → α → List Value → Prop) (p : σ → α → Bool × σ) (w0 : World) (A : Option Addr) (n c : Nat) (xs : List α) (fv : Value) (s0 : σ)
    (hx : ∀ W, Ext T w0 W → Sl W 1 R A n c xs) (hf : Tests Tryd.prog St T (D1 R) p fv) (hs : St s0 w0) :
    Calls Tryd.prog 70 [.slice A n c, fv].toArray w0 fun en w' => en = .returned (.int .i64 (idxV (findS p 0 s0 xs).1)) ∧ Ext T w0 w' ∧ St (findS p 0 s0 xs).2 w' := by
  obtain ⟨g, fs, cs, fn, cd, rfl, hfn, hname, hbody, hcall⟩ := hf
  have hE : Ext T w0 w0 := Ext.refl _ _
  have hlen : xs.length = n := (hx w0 hE).len
  have hmax : n ≤ 9223372036854775807 := (hx w0 hE).max
  have hsome : 0 < n → A.isSome = true := (hx w0 hE).is
  refine calls [4] Tryd.func70 rfl rfl rfl rfl ?_
  refine c_seq ?_
  -- region 0
  refine c_ops ?_
  refine l_val rfl rfl rfl (r_assign rfl) ?_
  refine l_nil ?_
  refine c_seq ?_
  refine c_seq ?_
  -- region 1
  refine c_ops ?_
  refine l_val rfl rfl rfl (r_move rfl) ?_
  refine l_val rfl rfl rfl (r_len rfl Tryd.underlying43 rfl) ?_
  refine l_val rfl rfl rfl (r_move rfl) ?_
  refine l_nil ?_
  refine c_block ?_
  -- loop 0: slots that it writes and that are read in it ahead of that: [8]
  refine c_loop [4, 5, 8, 9, 10, 11, 12, 13, 14, 15, 16, 17, 18] (fun m e w => ∃ k s, k ≤ n ∧ m = n - k ∧ e 8 = .int .i64 (k : Nat) ∧ findS p 0 s0 xs = findS p k s (xs.drop k) ∧ St s w ∧ Ext T w0 w) n ?_ ?_
  · exact ⟨0, s0, Nat.zero_le _, rfl, rfl, rfl, hs, hE⟩
  intro m e w hI
  obtain ⟨k, s, hk, hm, h8, hfind, hs, hE⟩ := hI
  refine c_know h8 ?_
  refine c_seq ?_
  -- region 2
  refine c_ops ?_
  refine l_val rfl rfl rfl (r_lss rfl rfl rfl) ?_
  refine l_nil ?_
  refine c_seq ?_
  refine c_cond rfl (fun hb => ?_) (fun hb => ?_)
  · -- True
    replace hb := of_decide_eq_true hb
    have hkn : k < n := by omega
    obtain ⟨x, hxk⟩ : ∃ x, xs[k]? = some x := ⟨xs[k]'(by omega), List.getElem?_eq_getElem (by omega)⟩
    obtain ⟨cs1, hcl, hR, hcell⟩ := (hx w hE).at_ k x hxk
    obtain ⟨v1, rfl⟩ : ∃ v1, cs1 = [v1] := List.length_eq_one_iff.1 hcl
    have hcell' : w.cell? ((adr A).add ((k : Int).toNat * 1)) = some v1 := by rw [Int.toNat_natCast]; exact hcell 0 v1 rfl
    have hstep := findS_step p s xs k x hxk
    refine c_skip ?_
    refine c_seq ?_
    refine c_block ?_
    refine c_seq ?_
    -- region 3
    refine c_ops ?_
    refine l_val rfl rfl rfl (r_move rfl) ?_
    refine l_val rfl rfl rfl (r_assign rfl) ?_
    refine l_nil ?_
    refine c_seq ?_
    -- region 4
    refine c_ops ?_
    refine l_val rfl rfl rfl (r_move rfl) ?_
    refine l_val rfl rfl rfl (r_move rfl) ?_
    refine l_val rfl rfl rfl (r_move rfl) ?_
    refine l_val rfl rfl rfl (r_indexAddr_sl rfl Tryd.underlying43 Tryd.sizeOf9 rfl hsome rfl (Int.natCast_nonneg _) (by omega)) ?_
    refine l_val rfl rfl rfl (r_load rfl Tryd.isAgg9 rfl hcell') ?_
    refine l_by rfl rfl rfl (r_call rfl rfl hfn hname hbody) (hcall s x v1 w hs hR) ?_   -- slices.go:109 slot 16 := (call {callee=(value (tmp 11)), args=[(tmp 15)], argTypes=[9]})
    rintro _ w ⟨rfl, hX, hs⟩
    replace hE := hE.trans hX
    refine ⟨_, rfl, ?_⟩
    refine l_nil ?_
    refine c_cond rfl (fun hb => ?_) (fun hb => ?_)
    · -- True
      refine c_seq ?_
      -- region 5
      refine c_ops ?_
      refine l_val rfl rfl rfl (r_move rfl) ?_
      refine l_val rfl rfl rfl (r_assign rfl) ?_
      refine l_nil ?_
      refine c_ret ?_
      exact ⟨by rw [hfind, hstep, hb]; rfl, hE, by rw [hfind, hstep, hb]; exact hs⟩
    · -- False
      have hfind' : findS p 0 s0 xs = findS p (k + 1) (p s x).2 (xs.drop (k + 1)) := by rw [hfind, hstep, hb]; rfl
      refine c_skip ?_
      -- region 6
      refine c_ops ?_
      refine l_val rfl rfl rfl (r_add rfl rfl rfl) ?_
      refine l_val rfl rfl rfl (r_move rfl) ?_
      refine l_nil ?_
      refine ⟨by repeat (first | exact Agree.over _ _ _ | (refine Agree.puto ?_ _ _ rfl) | (refine Agree.put ?_ _ _ rfl) | (refine Agree.sub ?_ rfl)), ?_⟩
      exact ⟨n - (k + 1), by omega, k + 1, (p s x).2, by omega, rfl, by show Value.int .i64 (IntKind.i64.wrap ((k : Int) + 1)) = _; rw [wrap_succ hkn hmax], hfind', hs, hE⟩
  · -- False
    replace hb := of_decide_eq_false hb
    have hkn : n ≤ k := by omega
    refine c_exit ?_
    refine c_seq ?_
    -- region 7
    refine c_ops ?_
    refine l_val rfl rfl rfl (r_assign rfl) ?_
    refine l_nil ?_
    refine c_ret ?_
    exact ⟨by rw [hfind, findS_end p s xs k (by omega)]; rfl, hE, by rw [hfind, findS_end p s xs k (by omega)]; exact hs⟩
theorem ContainsFunc_str {σ α : Type} (St : σ → World → Prop) (T : Nat → Prop) (R : World → α → List Value → Prop) (p : σ → α → Bool × σ) (w0 : World) (A : Option Addr) (n c : Nat) (xs : List α) (fv : Value) (s0 : σ)
    (hx : ∀ W, Ext T w0 W → Sl W 1 R A n c xs) (hf : Tests Tryd.prog St T (D1 R) p fv) (hs : St s0 w0) :
    Calls Tryd.prog 61 [.slice A n c, fv].toArray w0 fun en w' => en = .returned (.bool (findS p 0 s0 xs).1.isSome) ∧ Ext T w0 w' ∧ St (findS p 0 s0 xs).2 w' := by
  refine calls [4] Tryd.func61 rfl rfl rfl rfl ?_
  refine c_seq ?_
  -- region 0
  refine c_ops ?_
  refine l_val rfl rfl rfl (r_assign rfl) ?_
  refine l_nil ?_
  refine c_seq ?_
  -- region 1
  refine c_ops ?_
  refine l_val rfl rfl rfl (r_move rfl) ?_
  refine l_val rfl rfl rfl (r_move rfl) ?_
  refine l_by rfl rfl rfl (r_call rfl rfl Tryd.func70 rfl rfl) (IndexFunc_str St T R p w0 A n c xs fv s0 hx hf hs) ?_   -- slices.go:125 slot 7 := (call {callee=(value (func 70)), args=[(tmp 5), (tmp 6)], argTypes=[43, 99]})
  rintro _ w ⟨rfl, hX, hs⟩
  refine ⟨_, rfl, ?_⟩
  refine l_val rfl rfl rfl (r_geq rfl rfl rfl) ?_
  refine l_val rfl rfl rfl (r_assign rfl) ?_
  refine l_nil ?_
  refine c_ret ?_
  exact ⟨congrArg (fun b => Ending.returned (.bool b)) (idxV_ge _), hX, hs⟩
theorem IndexFunc_fact {σ α : Type} (St : σ → World → Prop) (T : Nat → Prop) (R : World → α → List Value → Prop) (p : σ → α → Bool × σ) (w0 : World) (A : Option Addr) (n c : Nat) (xs : List α) (fv : Value) (s0 : σ)
    (hx : ∀ W, Ext T w0 W → Sl W 3 R A n c xs) (hf : Tests Tryd.prog St T (DN R 3) p fv) (hs : St s0 w0) :
    Calls Tryd.prog 32 [.slice A n c, fv].toArray w0 fun en w' => en = .returned (.int .i64 (idxV (findS p 0 s0 xs).1)) ∧ Ext T w0 w' ∧ St (findS p 0 s0 xs).2 w' := by
  obtain ⟨g, fs, cs, fn, cd, rfl, hfn, hname, hbody, hcall⟩ := hf
  have hE : Ext T w0 w0 := Ext.refl _ _
  have hlen : xs.length = n := (hx w0 hE).len
  have hmax : n ≤ 9223372036854775807 := (hx w0 hE).max
  have hsome : 0 < n → A.isSome = true := (hx w0 hE).is
  refine calls [4] Tryd.func32 rfl rfl rfl rfl ?_
  refine c_seq ?_
  -- region 0
  refine c_ops ?_
  refine l_val rfl rfl rfl (r_assign rfl) ?_
  refine l_nil ?_
  refine c_seq ?_
  refine c_seq ?_
  -- region 1
  refine c_ops ?_
  refine l_val rfl rfl rfl (r_move rfl) ?_
  refine l_val rfl rfl rfl (r_len rfl Tryd.underlying29 rfl) ?_
  refine l_val rfl rfl rfl (r_move rfl) ?_
  refine l_nil ?_
  refine c_block ?_
  -- loop 0: slots that it writes and that are read in it ahead of that: [8]
  refine c_loop [4, 5, 8, 9, 10, 11, 12, 13, 14, 15, 16, 17, 18] (fun m e w => ∃ k s, k ≤ n ∧ m = n - k ∧ e 8 = .int .i64 (k : Nat) ∧ findS p 0 s0 xs = findS p k s (xs.drop k) ∧ St s w ∧ Ext T w0 w) n ?_ ?_
  · exact ⟨0, s0, Nat.zero_le _, rfl, rfl, rfl, hs, hE⟩
  intro m e w hI
  obtain ⟨k, s, hk, hm, h8, hfind, hs, hE⟩ := hI
  refine c_know h8 ?_
  refine c_seq ?_
  -- region 2
  refine c_ops ?_
  refine l_val rfl rfl rfl (r_lss rfl rfl rfl) ?_
  refine l_nil ?_
  refine c_seq ?_
  refine c_cond rfl (fun hb => ?_) (fun hb => ?_)
  · -- True
    replace hb := of_decide_eq_true hb
    have hkn : k < n := by omega
    obtain ⟨x, hxk⟩ : ∃ x, xs[k]? = some x := ⟨xs[k]'(by omega), List.getElem?_eq_getElem (by omega)⟩
    obtain ⟨cs1, hcl, hR, hcell⟩ := (hx w hE).at_ k x hxk
    have hcell' : ∀ j v, cs1[j]? = some v → w.cell? (((adr A).add ((k : Int).toNat * 3)).add j) = some v := fun j v hj => by rw [adr_add, Int.toNat_natCast]; exact hcell j v hj
    have hstep := findS_step p s xs k x hxk
    refine c_skip ?_
    refine c_seq ?_
    refine c_block ?_
    refine c_seq ?_
    -- region 3
    refine c_ops ?_
    refine l_val rfl rfl rfl (r_move rfl) ?_
    refine l_val rfl rfl rfl (r_assign rfl) ?_
    refine l_nil ?_
    refine c_seq ?_
    -- region 4
    refine c_ops ?_
    refine l_val rfl rfl rfl (r_move rfl) ?_
    refine l_val rfl rfl rfl (r_move rfl) ?_
    refine l_val rfl rfl rfl (r_move rfl) ?_
    refine l_val rfl rfl rfl (r_indexAddr_sl rfl Tryd.underlying29 Tryd.sizeOf37 rfl hsome rfl (Int.natCast_nonneg _) (by omega)) ?_
    refine l_val rfl rfl rfl (r_load_agg (vs := cs1) rfl Tryd.isAgg37 (by rw [hcl]; exact Tryd.sizeOf37) rfl hcell') ?_
    refine l_by rfl rfl rfl (r_call rfl rfl hfn hname hbody) (hcall s x (.agg cs1.toArray) w hs ⟨cs1, hcl, hR, rfl⟩) ?_   -- slices.go:109 slot 16 := (call {callee=(value (tmp 11)), args=[(tmp 15)], argTypes=[37]})
    rintro _ w ⟨rfl, hX, hs⟩
    replace hE := hE.trans hX
    refine ⟨_, rfl, ?_⟩
    refine l_nil ?_
    refine c_cond rfl (fun hb => ?_) (fun hb => ?_)
    · -- True
      refine c_seq ?_
      -- region 5
      refine c_ops ?_
      refine l_val rfl rfl rfl (r_move rfl) ?_
      refine l_val rfl rfl rfl (r_assign rfl) ?_
      refine l_nil ?_
      refine c_ret ?_
      exact ⟨by rw [hfind, hstep, hb]; rfl, hE, by rw [hfind, hstep, hb]; exact hs⟩
    · -- False
      have hfind' : findS p 0 s0 xs = findS p (k + 1) (p s x).2 (xs.drop (k + 1)) := by rw [hfind, hstep, hb]; rfl
      refine c_skip ?_
      -- region 6
      refine c_ops ?_
      refine l_val rfl rfl rfl (r_add rfl rfl rfl) ?_
      refine l_val rfl rfl rfl (r_move rfl) ?_
      refine l_nil ?_
      refine ⟨by repeat (first | exact Agree.over _ _ _ | (refine Agree.puto ?_ _ _ rfl) | (refine Agree.put ?_ _ _ rfl) | (refine Agree.sub ?_ rfl)), ?_⟩
      exact ⟨n - (k + 1), by omega, k + 1, (p s x).2, by omega, rfl, by show Value.int .i64 (IntKind.i64.wrap ((k : Int) + 1)) = _; rw [wrap_succ hkn hmax], hfind', hs, hE⟩
  · -- False
    replace hb := of_decide_eq_false hb
    have hkn : n ≤ k := by omega
    refine c_exit ?_
    refine c_seq ?_
    -- region 7
    refine c_ops ?_
    refine l_val rfl rfl rfl (r_assign rfl) ?_
    refine l_nil ?_
    refine c_ret ?_
    exact ⟨by rw [hfind, findS_end p s xs k (by omega)]; rfl, hE, by rw [hfind, findS_end p s xs k (by omega)]; exact hs⟩
theorem ContainsFunc_fact {σ α : Type} (St : σ → World → Prop) (T : Nat → Prop) (R : World → α → List Value → Prop) (p : σ → α → Bool × σ) (w0 : World) (A : Option Addr) (n c : Nat) (xs : List α) (fv : Value) (s0 : σ)
    (hx : ∀ W, Ext T w0 W → Sl W 3 R A n c xs) (hf : Tests Tryd.prog St T (DN R 3) p fv) (hs : St s0 w0) :
    Calls Tryd.prog 47 [.slice A n c, fv].toArray w0 fun en w' => en = .returned (.bool (findS p 0 s0 xs).1.isSome) ∧ Ext T w0 w' ∧ St (findS p 0 s0 xs).2 w' := by
  refine calls [4] Tryd.func47 rfl rfl rfl rfl ?_
  refine c_seq ?_
  -- region 0
  refine c_ops ?_
  refine l_val rfl rfl rfl (r_assign rfl) ?_
  refine l_nil ?_
  refine c_seq ?_
  -- region 1
  refine c_ops ?_
  refine l_val rfl rfl rfl (r_move rfl) ?_
  refine l_val rfl rfl rfl (r_move rfl) ?_
  refine l_by rfl rfl rfl (r_call rfl rfl Tryd.func32 rfl rfl) (IndexFunc_fact St T R p w0 A n c xs fv s0 hx hf hs) ?_   -- slices.go:125 slot 7 := (call {callee=(value (func 32)), args=[(tmp 5), (tmp 6)], argTypes=[29, 76]})
  rintro _ w ⟨rfl, hX, hs⟩
  refine ⟨_, rfl, ?_⟩
  refine l_val rfl rfl rfl (r_geq rfl rfl rfl) ?_
  refine l_val rfl rfl rfl (r_assign rfl) ?_
  refine l_nil ?_
  refine c_ret ?_
  exact ⟨congrArg (fun b => Ending.returned (.bool b)) (idxV_ge _), hX, hs⟩
theorem IndexFunc_fn {σ α : Type} (St : σ → World → Prop) (T : Nat → Prop) (R : World → α → List Value → Prop) (p : σ → α → Bool × σ) (w0 : World) (A : Option Addr) (n c : Nat) (xs : List α) (fv : Value) (s0 : σ)
    (hx : ∀ W, Ext T w0 W → Sl W 1 R A n c xs) (hf : Tests Tryd.prog St T (D1 R) p fv) (hs : St s0 w0) :
    Calls Tryd.prog 90 [.slice A n c, fv].toArray w0 fun en w' => en = .returned (.int .i64 (idxV (findS p 0 s0 xs).1)) ∧ Ext T w0 w' ∧ St (findS p 0 s0 xs).2 w' := by
  obtain ⟨g, fs, cs, fn, cd, rfl, hfn, hname, hbody, hcall⟩ := hf
  have hE : Ext T w0 w0 := Ext.refl _ _
  have hlen : xs.length = n := (hx w0 hE).len
  have hmax : n ≤ 9223372036854775807 := (hx w0 hE).max
  have hsome : 0 < n → A.isSome = true := (hx w0 hE).is
  refine calls [4] Tryd.func90 rfl rfl rfl rfl ?_
  refine c_seq ?_
  -- region 0
  refine c_ops ?_
  refine l_val rfl rfl rfl (r_assign rfl) ?_
  refine l_nil ?_
  refine c_seq ?_
  refine c_seq ?_
  -- region 1
  refine c_ops ?_
  refine l_val rfl rfl rfl (r_move rfl) ?_
  refine l_val rfl rfl rfl (r_len rfl Tryd.underlying118 rfl) ?_
  refine l_val rfl rfl rfl (r_move rfl) ?_
  refine l_nil ?_
  refine c_block ?_
  -- loop 0: slots that it writes and that are read in it ahead of that: [8]
  refine c_loop [4, 5, 8, 9, 10, 11, 12, 13, 14, 15, 16, 17, 18] (fun m e w => ∃ k s, k ≤ n ∧ m = n - k ∧ e 8 = .int .i64 (k : Nat) ∧ findS p 0 s0 xs = findS p k s (xs.drop k) ∧ St s w ∧ Ext T w0 w) n ?_ ?_
  · exact ⟨0, s0, Nat.zero_le _, rfl, rfl, rfl, hs, hE⟩
  intro m e w hI
  obtain ⟨k, s, hk, hm, h8, hfind, hs, hE⟩ := hI
  refine c_know h8 ?_
  refine c_seq ?_
  -- region 2
  refine c_ops ?_
  refine l_val rfl rfl rfl (r_lss rfl rfl rfl) ?_
  refine l_nil ?_
  refine c_seq ?_
  refine c_cond rfl (fun hb => ?_) (fun hb => ?_)
  · -- True
    replace hb := of_decide_eq_true hb
    have hkn : k < n := by omega
    obtain ⟨x, hxk⟩ : ∃ x, xs[k]? = some x := ⟨xs[k]'(by omega), List.getElem?_eq_getElem (by omega)⟩
    obtain ⟨cs1, hcl, hR, hcell⟩ := (hx w hE).at_ k x hxk
    obtain ⟨v1, rfl⟩ : ∃ v1, cs1 = [v1] := List.length_eq_one_iff.1 hcl
    have hcell' : w.cell? ((adr A).add ((k : Int).toNat * 1)) = some v1 := by rw [Int.toNat_natCast]; exact hcell 0 v1 rfl
    have hstep := findS_step p s xs k x hxk
    refine c_skip ?_
    refine c_seq ?_
    refine c_block ?_
    refine c_seq ?_
    -- region 3
    refine c_ops ?_
    refine l_val rfl rfl rfl (r_move rfl) ?_
    refine l_val rfl rfl rfl (r_assign rfl) ?_
    refine l_nil ?_
    refine c_seq ?_
    -- region 4
    refine c_ops ?_
    refine l_val rfl rfl rfl (r_move rfl) ?_
    refine l_val rfl rfl rfl (r_move rfl) ?_
    refine l_val rfl rfl rfl (r_move rfl) ?_
    refine l_val rfl rfl rfl (r_indexAddr_sl rfl Tryd.underlying118 Tryd.sizeOf113 rfl hsome rfl (Int.natCast_nonneg _) (by omega)) ?_
    refine l_val rfl rfl rfl (r_load rfl Tryd.isAgg113 rfl hcell') ?_
    refine l_by rfl rfl rfl (r_call rfl rfl hfn hname hbody) (hcall s x v1 w hs hR) ?_   -- slices.go:109 slot 16 := (call {callee=(value (tmp 11)), args=[(tmp 15)], argTypes=[113]})
    rintro _ w ⟨rfl, hX, hs⟩
    replace hE := hE.trans hX
    refine ⟨_, rfl, ?_⟩
    refine l_nil ?_
    refine c_cond rfl (fun hb => ?_) (fun hb => ?_)
    · -- True
      refine c_seq ?_
      -- region 5
      refine c_ops ?_
      refine l_val rfl rfl rfl (r_move rfl) ?_
      refine l_val rfl rfl rfl (r_assign rfl) ?_
      refine l_nil ?_
      refine c_ret ?_
      exact ⟨by rw [hfind, hstep, hb]; rfl, hE, by rw [hfind, hstep, hb]; exact hs⟩
    · -- False
      have hfind' : findS p 0 s0 xs = findS p (k + 1) (p s x).2 (xs.drop (k + 1)) := by rw [hfind, hstep, hb]; rfl
      refine c_skip ?_
      -- region 6
      refine c_ops ?_
      refine l_val rfl rfl rfl (r_add rfl rfl rfl) ?_
      refine l_val rfl rfl rfl (r_move rfl) ?_
      refine l_nil ?_
      refine ⟨by repeat (first | exact Agree.over _ _ _ | (refine Agree.puto ?_ _ _ rfl) | (refine Agree.put ?_ _ _ rfl) | (refine Agree.sub ?_ rfl)), ?_⟩
      exact ⟨n - (k + 1), by omega, k + 1, (p s x).2, by omega, rfl, by show Value.int .i64 (IntKind.i64.wrap ((k : Int) + 1)) = _; rw [wrap_succ hkn hmax], hfind', hs, hE⟩
  · -- False
    replace hb := of_decide_eq_false hb
    have hkn : n ≤ k := by omega
    refine c_exit ?_
    refine c_seq ?_
    -- region 7
    refine c_ops ?_
    refine l_val rfl rfl rfl (r_assign rfl) ?_
    refine l_nil ?_
    refine c_ret ?_
    exact ⟨by rw [hfind, findS_end p s xs k (by omega)]; rfl, hE, by rw [hfind, findS_end p s xs k (by omega)]; exact hs⟩
theorem ContainsFunc_fn {σ α : Type} (St : σ → World → Prop) (T : Nat → Prop) (R : World → α → List Value → Prop) (p : σ → α → Bool × σ) (w0 : World) (A : Option Addr) (n c : Nat) (xs : List α) (fv : Value) (s0 : σ)
    (hx : ∀ W, Ext T w0 W → Sl W 1 R A n c xs) (hf : Tests Tryd.prog St T (D1 R) p fv) (hs : St s0 w0) :
    Calls Tryd.prog 85 [.slice A n c, fv].toArray w0 fun en w' => en = .returned (.bool (findS p 0 s0 xs).1.isSome) ∧ Ext T w0 w' ∧ St (findS p 0 s0 xs).2 w' := by
  refine calls [4] Tryd.func85 rfl rfl rfl rfl ?_
  refine c_seq ?_
  -- region 0
  refine c_ops ?_
  refine l_val rfl rfl rfl (r_assign rfl) ?_
  refine l_nil ?_
  refine c_seq ?_
  -- region 1
  refine c_ops ?_
  refine l_val rfl rfl rfl (r_move rfl) ?_
  refine l_val rfl rfl rfl (r_move rfl) ?_
  refine l_by rfl rfl rfl (r_call rfl rfl Tryd.func90 rfl rfl) (IndexFunc_fn St T R p w0 A n c xs fv s0 hx hf hs) ?_   -- slices.go:125 slot 7 := (call {callee=(value (func 90)), args=[(tmp 5), (tmp 6)], argTypes=[118, 120]})
  rintro _ w ⟨rfl, hX, hs⟩
  refine ⟨_, rfl, ?_⟩
  refine l_val rfl rfl rfl (r_geq rfl rfl rfl) ?_
  refine l_val rfl rfl rfl (r_assign rfl) ?_
  refine l_nil ?_
  refine c_ret ?_
  exact ⟨congrArg (fun b => Ending.returned (.bool b)) (idxV_ge _), hX, hs⟩
end Go.Proofs.YtndophlnapjkhaaDoor.Vc
