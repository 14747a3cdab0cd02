/- Why a type may stand for another one: the rule of all else; the search among keys. Conditions: those of each statement. -/
import Derived.Test.YtndophlnapjkhaaDoorFact2
import Derived.Test.YtndophlnapjkhaaDoorOrder
namespace Go.Proofs.YtndophlnapjkhaaDoor.Vc
open Go Go.RowKit
set_option linter.unusedVariables false
set_option linter.unusedSimpArgs false

theorem tuple2 {t u : Nat} {e : Env} {a b : Value} (h : e t = a) (k : e u = b) : outv [t, u] e = .tuple #[a, b] := by
  rw [← h, ← k]
  rfl
theorem isNaN2_calls (w0 : World) (s : ByteArray) : Calls Tryd.prog 89 [.string s].toArray w0 fun en w' => en = .returned (.bool false) ∧ Ext0 w0 w' := by
  have hE : Ext0 w0 w0 := Ext.refl _ _
  refine calls [2] Tryd.func89 rfl rfl rfl rfl ?_
  refine c_seq ?_
  -- region 0
  refine c_ops ?_
  refine l_val rfl rfl rfl (r_assign rfl) ?_
  refine l_nil ?_
  refine c_seq ?_
  -- region 1
  refine c_ops ?_
  refine l_val rfl rfl rfl (r_move rfl) ?_
  refine l_val rfl rfl rfl (r_move rfl) ?_
  refine l_val rfl rfl rfl (r_sneq rfl rfl rfl) ?_
  refine l_val rfl rfl rfl (r_assign rfl) ?_
  refine l_nil ?_
  refine c_ret ?_
  exact ⟨ret_bool rfl (by simp), hE⟩
theorem Less_calls (w0 : World) (a b : ByteArray) : Calls Tryd.prog 88 [.string a, .string b].toArray w0 fun en w' => en = .returned (.bool (ltB a b)) ∧ Ext0 w0 w' := by
  have hE : Ext0 w0 w0 := Ext.refl _ _
  refine calls [4] Tryd.func88 rfl rfl rfl rfl ?_
  refine c_seq ?_
  -- region 0
  refine c_ops ?_
  refine l_val rfl rfl rfl (r_assign rfl) ?_
  refine l_nil ?_
  refine c_seq ?_
  -- region 1
  refine c_ops ?_
  refine l_val rfl rfl rfl (r_move rfl) ?_
  refine l_by rfl rfl rfl (r_call rfl rfl Tryd.func69 rfl rfl) (isNaN_calls _ _) ?_   -- cmp.go:29 slot 6 := (call {callee=(value (func 69)), args=[(tmp 5)], argTypes=[9]})
  rintro _ w ⟨rfl, hX⟩
  replace hE := hE.trans hX
  refine ⟨_, rfl, ?_⟩
  refine l_val rfl rfl rfl (r_move rfl) ?_
  refine l_not rfl rfl rfl ?_
  refine l_not rfl rfl rfl ?_
  refine l_not rfl rfl rfl ?_
  refine l_val rfl rfl rfl (r_pick rfl rfl) ?_
  refine l_val rfl rfl rfl (r_move rfl) ?_
  refine l_val rfl rfl rfl (r_move rfl) ?_
  refine l_val rfl rfl rfl (r_move rfl) ?_
  refine l_val rfl rfl rfl (r_slss rfl rfl rfl) ?_
  refine l_val rfl rfl rfl (r_pick rfl rfl) ?_
  refine l_val rfl rfl rfl (r_assign rfl) ?_
  refine l_nil ?_
  refine c_ret ?_
  exact ⟨rfl, hE⟩
theorem Binary_calls (w0 : World) (A : Option Addr) (n c : Nat) (xs : List ByteArray) (s : ByteArray) (hx : Sl w0 1 RStr A n c xs) (hr : risesB xs = true) (hmax : n ≤ 4000000000000000000) :
    Calls Tryd.prog 84 [.slice A n c, .string s].toArray w0 fun en w' => ∃ i : Int, en = .returned (.tuple #[.int .i64 i, .bool (decide (0 ≤ idxV (idxS xs s)))]) ∧ (0 ≤ idxV (idxS xs s) → i = idxV (idxS xs s)) ∧ Ext0 w0 w' := by
  have hE : Ext0 w0 w0 := Ext.refl _ _
  have hlen : xs.length = n := hx.len
  have hsome := hx.is
  refine calls [4, 5] Tryd.func84 rfl rfl rfl rfl ?_
  refine c_seq ?_
  -- region 0
  refine c_ops ?_
  refine l_val rfl rfl rfl (r_assign rfl) ?_
  refine l_val rfl rfl rfl (r_assign rfl) ?_
  refine l_nil ?_
  refine c_seq ?_
  -- region 1
  refine c_ops ?_
  refine l_val rfl rfl rfl (r_move rfl) ?_
  refine l_val rfl rfl rfl (r_len rfl Tryd.underlying43 rfl) ?_
  refine l_val rfl rfl rfl (r_assign rfl) ?_
  refine l_nil ?_
  refine c_seq ?_
  -- region 2
  refine c_ops ?_
  refine l_val rfl rfl rfl (r_move rfl) ?_
  refine l_val rfl rfl rfl (r_assign rfl) ?_
  refine l_val rfl rfl rfl (r_assign rfl) ?_
  refine l_nil ?_
  refine c_seq ?_
  refine c_block ?_
  -- loop 0: slots that it writes and that are read in it ahead of that: [7, 8]
  refine c_loop [7, 8, 9, 13, 14, 15, 16, 17, 18, 19, 20, 21, 22, 23, 24, 25, 26, 27, 28, 29, 30] (fun m1 e w => ∃ i j : Nat, i ≤ j ∧ j ≤ n ∧ m1 = j - i ∧ e 7 = .int .i64 i ∧ e 8 = .int .i64 j ∧ (∀ k, k < i → ltB (kat xs k) s = true) ∧ (∀ k, j ≤ k → k < xs.length → ltB (kat xs k) s = false) ∧ Ext0 w0 w) n ?_ ?_
  · exact ⟨0, n, Nat.zero_le _, Nat.le_refl _, rfl, rfl, rfl, fun k h => absurd h (Nat.not_lt_zero _), fun k h1 h2 => by omega, hE⟩
  intro m1 e w hI
  obtain ⟨i, j, hij, hjn, hm, h7, h8, hlo, hhi, hE⟩ := hI
  refine c_know h7 ?_
  refine c_know (t := 8) (by exact h8) ?_
  refine c_seq ?_
  refine c_seq ?_
  -- region 3
  refine c_ops ?_
  refine l_val rfl rfl rfl (r_move rfl) ?_
  refine l_val rfl rfl rfl (r_move rfl) ?_
  refine l_val rfl rfl rfl (r_lss rfl rfl rfl) ?_
  refine l_nil ?_
  refine c_cond rfl (fun hb => ?_) (fun hb => ?_)
  · -- True
    have hr15 := hb
    replace hb := of_decide_eq_true hb
    obtain ⟨h, hh⟩ : ∃ h, h = (i + j) / 2 := ⟨_, rfl⟩
    have hsum : IntKind.i64.wrap ((i : Int) + j) = (i : Int) + j := wrap_small (by omega) (by omega)
    have hmid : IntKind.i64.wrap ((IntKind.u64.wrap ((i : Int) + j)).fdiv 2) = (h : Int) := by
      have h1 : IntKind.u64.wrap ((i : Int) + j) = (i : Int) + j := IntWalk.u64_in _ ⟨by omega, by omega⟩
      rw [h1, Int.fdiv_eq_ediv_of_nonneg _ (by decide)]
      rw [wrap_small (by omega) (by omega)]
      omega
    refine c_skip ?_
    refine c_block ?_
    refine c_seq ?_
    -- region 4
    refine c_ops ?_
    refine l_val rfl rfl rfl (r_move rfl) ?_
    refine l_val rfl rfl rfl (r_move rfl) ?_
    refine l_val rfl rfl rfl ((r_add rfl rfl rfl).trans (by rw [hsum])) ?_
    refine l_val rfl rfl rfl (r_conv_int rfl Tryd.underlying3 Tryd.underlying122 rfl) ?_
    refine l_val rfl rfl rfl (r_shr1 rfl rfl rfl (by decide)) ?_
    refine l_val rfl rfl rfl ((r_conv_int rfl Tryd.underlying122 Tryd.underlying3 rfl).trans (by rw [hmid])) ?_
    refine l_val rfl rfl rfl (r_assign rfl) ?_
    refine l_nil ?_
    refine c_seq ?_
    -- region 5
    refine c_ops ?_
    refine l_val rfl rfl rfl (r_move rfl) ?_
    refine l_val rfl rfl rfl (r_move rfl) ?_
    refine l_val rfl rfl rfl (r_indexAddr_sl rfl Tryd.underlying43 Tryd.sizeOf9 rfl hsome rfl (by omega) (by omega)) ?_
    refine l_val rfl rfl rfl (r_load (v := .string (kat xs h)) rfl Tryd.isAgg9 rfl (by have := (hx.keep RStr.kept (Ext0.cells hE)).str h (by omega) (by omega); rwa [Int.toNat_natCast] at this ⊢)) ?_
    refine l_val rfl rfl rfl (r_move rfl) ?_
    refine l_by rfl rfl rfl (r_call rfl rfl Tryd.func88 rfl rfl) (Less_calls _ _ _) ?_   -- sort.go:135 slot 27 := (call {callee=(value (func 88)), args=[(tmp 25), (tmp 26)], argTypes=[9, 9]})
    rintro _ w ⟨rfl, hX⟩
    replace hE := hE.trans hX
    refine ⟨_, rfl, ?_⟩
    refine l_nil ?_
    refine c_cond rfl (fun hb => ?_) (fun hb => ?_)
    · -- True
      have hr27 := hb
      have hsucc : IntKind.i64.wrap ((h : Int) + 1) = ((h + 1 : Nat) : Int) := wrap_succ (n := n) (by omega) (by omega)
      have hlo2 : ∀ k, k < h + 1 → ltB (kat xs k) s = true := fun k hk => by
        rcases Nat.lt_or_eq_of_le (Nat.le_of_lt_succ hk) with h1 | rfl
        · exact ltB_trans (rises_all hr h1 (by omega)) hb
        · exact hb
      -- region 6
      refine c_ops ?_
      refine l_val rfl rfl rfl (r_move rfl) ?_
      refine l_val rfl rfl rfl (r_add rfl rfl rfl) ?_
      refine l_val rfl rfl rfl (r_assign rfl) ?_
      refine l_nil ?_
      refine ⟨by repeat (first | exact Agree.over _ _ _ | exact Agree.refl _ _ | (refine Agree.puto ?_ _ _ rfl) | (refine Agree.put ?_ _ _ rfl) | (refine Agree.sub ?_ rfl)), ?_⟩
      first | exact ⟨j - (h + 1), by omega, h + 1, j, by omega, hjn, rfl, by show Value.int .i64 (IntKind.i64.wrap ((h : Int) + 1)) = _; rw [hsucc], rfl, hlo2, hhi, hE⟩ | exact ⟨h - i, by omega, i, h, by omega, by omega, rfl, rfl, rfl, hlo, hhi2, hE⟩
    · -- False
      have hr27 := hb
      have hhi2 : ∀ k, h ≤ k → k < xs.length → ltB (kat xs k) s = false := fun k hk hkl => by
        rcases Nat.lt_or_eq_of_le hk with h1 | rfl
        · cases h2 : ltB (kat xs k) s with
          | false => rfl
          | true => rw [ltB_trans (rises_all hr h1 hkl) h2] at hb; cases hb
        · exact hb
      -- region 7
      refine c_ops ?_
      refine l_val rfl rfl rfl (r_move rfl) ?_
      refine l_val rfl rfl rfl (r_assign rfl) ?_
      refine l_nil ?_
      refine ⟨by repeat (first | exact Agree.over _ _ _ | exact Agree.refl _ _ | (refine Agree.puto ?_ _ _ rfl) | (refine Agree.put ?_ _ _ rfl) | (refine Agree.sub ?_ rfl)), ?_⟩
      first | exact ⟨j - (h + 1), by omega, h + 1, j, by omega, hjn, rfl, by show Value.int .i64 (IntKind.i64.wrap ((h : Int) + 1)) = _; rw [hsucc], rfl, hlo2, hhi, hE⟩ | exact ⟨h - i, by omega, i, h, by omega, by omega, rfl, rfl, rfl, hlo, hhi2, hE⟩
  · -- False
    have hr15 := hb
    replace hb := of_decide_eq_false hb
    obtain rfl : i = j := by omega
    refine c_exit ?_
    refine c_seq ?_
    -- region 8
    refine c_ops ?_
    refine l_val rfl rfl rfl (r_move rfl) ?_
    refine l_val rfl rfl rfl (r_move rfl) ?_
    refine l_val rfl rfl rfl (r_move rfl) ?_
    refine l_val rfl rfl rfl (r_lss rfl rfl rfl) ?_
    refine l_val rfl rfl rfl (r_move rfl) ?_
    refine l_case 35 rfl (fun hb => ?_) (fun hb => ?_)
    · -- slot 35 is True
      have hr35 := hb
      replace hb := of_decide_eq_true hb
      have hin : i < xs.length := by omega
      refine l_val rfl rfl rfl (r_move rfl) ?_
      refine l_val rfl rfl rfl (r_move rfl) ?_
      refine l_val rfl rfl rfl (r_indexAddr_sl rfl Tryd.underlying43 Tryd.sizeOf9 rfl hsome rfl (by omega) (by omega)) ?_
      refine l_val rfl rfl rfl (r_load (v := .string (kat xs i)) rfl Tryd.isAgg9 rfl (by have := (hx.keep RStr.kept (Ext0.cells hE)).str i (by omega) (by omega); rwa [Int.toNat_natCast] at this ⊢)) ?_
      refine l_val rfl rfl rfl (r_move rfl) ?_
      refine l_val rfl rfl rfl (r_seql rfl rfl rfl) ?_
      refine l_val rfl rfl rfl (r_move rfl) ?_
      refine l_case 42 rfl (fun hb => ?_) (fun hb => ?_)
      · -- slot 42 is True
        have hr42 := hb
        replace hb := of_decide_eq_true hb
        have hid : idxS xs s = some i := idxS_yes hin hlo hb
        have hdec : decide (0 ≤ idxV (idxS xs s)) = true := by rw [hid]; simp [idxV]
        have hres : 0 ≤ idxV (idxS xs s) → (i : Int) = idxV (idxS xs s) := fun _ => by rw [hid]; rfl
        refine l_not rfl rfl rfl ?_
        refine l_not rfl rfl rfl ?_
        refine l_not rfl rfl rfl ?_
        refine l_not rfl rfl rfl ?_
        refine l_not rfl rfl rfl ?_
        refine l_not rfl rfl rfl ?_
        refine l_not rfl rfl rfl ?_
        refine l_not rfl rfl rfl ?_
        refine l_not rfl rfl rfl ?_
        refine l_val rfl rfl rfl (r_pick rfl rfl) ?_
        refine l_val rfl rfl rfl (r_pick rfl rfl) ?_
        refine l_val rfl rfl rfl (r_assign rfl) ?_
        refine l_val rfl rfl rfl (r_assign rfl) ?_
        refine l_nil ?_
        refine c_ret ?_
        exact ⟨(i : Int), congrArg Ending.returned (tuple2 rfl (congrArg Value.bool hdec.symm)), hres, hE⟩
      · -- slot 42 is False
        have hr42 := hb
        replace hb := of_decide_eq_false hb
        have hid : idxS xs s = none := idxS_no hr hlo hhi (fun _ => hb)
        have hdec : decide (0 ≤ idxV (idxS xs s)) = false := by rw [hid]; rfl
        have hres : 0 ≤ idxV (idxS xs s) → (i : Int) = idxV (idxS xs s) := fun h => absurd h (of_decide_eq_false hdec)
        refine l_val rfl rfl rfl (r_move rfl) ?_
        refine l_val rfl rfl rfl (r_move rfl) ?_
        refine l_val rfl rfl rfl (r_indexAddr_sl rfl Tryd.underlying43 Tryd.sizeOf9 rfl hsome rfl (by omega) (by omega)) ?_
        refine l_val rfl rfl rfl (r_load (v := .string (kat xs i)) rfl Tryd.isAgg9 rfl (by have := (hx.keep RStr.kept (Ext0.cells hE)).str i (by omega) (by omega); rwa [Int.toNat_natCast] at this ⊢)) ?_
        refine l_by rfl rfl rfl (r_call rfl rfl Tryd.func89 rfl rfl) (isNaN2_calls _ _) ?_   -- sort.go:142 slot 47 := (call {callee=(value (func 89)), args=[(tmp 46)], argTypes=[9]})
        rintro _ w ⟨rfl, hX⟩
        replace hE := hE.trans hX
        refine ⟨_, rfl, ?_⟩
        refine l_val rfl rfl rfl (r_move rfl) ?_
        refine l_not rfl rfl rfl ?_
        refine l_not rfl rfl rfl ?_
        refine l_val rfl rfl rfl (r_pick rfl rfl) ?_
        refine l_val rfl rfl rfl (r_pick rfl rfl) ?_
        refine l_val rfl rfl rfl (r_pick rfl rfl) ?_
        refine l_val rfl rfl rfl (r_assign rfl) ?_
        refine l_val rfl rfl rfl (r_assign rfl) ?_
        refine l_nil ?_
        refine c_ret ?_
        exact ⟨(i : Int), congrArg Ending.returned (tuple2 rfl (congrArg Value.bool hdec.symm)), hres, hE⟩
    · -- slot 35 is False
      have hr35 := hb
      replace hb := of_decide_eq_false hb
      have hid : idxS xs s = none := idxS_no hr hlo hhi (fun h => by omega)
      have hdec : decide (0 ≤ idxV (idxS xs s)) = false := by rw [hid]; rfl
      have hres : 0 ≤ idxV (idxS xs s) → (i : Int) = idxV (idxS xs s) := fun h => absurd h (of_decide_eq_false hdec)
      refine l_not rfl rfl rfl ?_
      refine l_not rfl rfl rfl ?_
      refine l_not rfl rfl rfl ?_
      refine l_not rfl rfl rfl ?_
      refine l_not rfl rfl rfl ?_
      refine l_not rfl rfl rfl ?_
      refine l_not rfl rfl rfl ?_
      refine l_not rfl rfl rfl ?_
      refine l_not rfl rfl rfl ?_
      refine l_not rfl rfl rfl ?_
      refine l_not rfl rfl rfl ?_
      refine l_not rfl rfl rfl ?_
      refine l_not rfl rfl rfl ?_
      refine l_not rfl rfl rfl ?_
      refine l_not rfl rfl rfl ?_
      refine l_not rfl rfl rfl ?_
      refine l_not rfl rfl rfl ?_
      refine l_val rfl rfl rfl (r_pick rfl rfl) ?_
      refine l_val rfl rfl rfl (r_assign rfl) ?_
      refine l_val rfl rfl rfl (r_assign rfl) ?_
      refine l_nil ?_
      refine c_ret ?_
      exact ⟨(i : Int), congrArg Ending.returned (tuple2 rfl (congrArg Value.bool hdec.symm)), hres, hE⟩
end Go.Proofs.YtndophlnapjkhaaDoor.Vc
