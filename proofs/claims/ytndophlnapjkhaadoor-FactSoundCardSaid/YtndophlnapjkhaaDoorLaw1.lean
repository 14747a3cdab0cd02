/- Small helpers of the statements: Bring, EqInts, CopyInts; Copy of package fact. Conditions: those of each statement. -/
import Derived.Test.YtndophlnapjkhaaDoorFind4
namespace Go.Proofs.YtndophlnapjkhaaDoor.Vc
open Go Go.RowKit
set_option linter.unusedVariables false
set_option linter.unusedSimpArgs false

theorem r_append_no {P : Program} {w : World} {ρ : Operand → Value} {o : Oper} {x y : Operand} {t el : TypeId} {base sz n : Nat} {v : Value} {xs : List Value} {L : List Res} (i : Nat) {c : Nat} (h : o.op = .call { callee := .builtin .append, args := #[x, y], argTypes := #[t, t] })
    (hu : P.underlying t = some (.slice el)) {i0 : TypeInfo} (hinf : P.info? el = some i0) (hx : ρ x = v) (hy : ρ y = .slice none 0 c) (hL : Has w L) (hi : L[i]? = some (.row base el sz v n xs)) : (execOp ρ o).run P w = .ok (.value v) w := by
  have hown := hL.row i hi
  have : (Builtin.append_ #[t, t] o.type #[v, .slice none 0 c]).run P w = .ok v w := by
    rcases hown.2 with ⟨rfl, rfl⟩ | ⟨g, cap, cur, rfl, _, _, hnc, _⟩
    · simp [Builtin.append_, run_underlying hu, sizeOf, typeInfo, hinf, Builtin.lenOf, Builtin.firstCells]
    · simp [Builtin.append_, run_underlying hu, sizeOf, typeInfo, hinf, Builtin.lenOf, Builtin.firstCells, hnc, storeCells]
  simp [execOp, h, resolve, invoke, builtin, hx, hy, this]
theorem n_append_ints {w w0 : World} {ρ : Operand → Value} {o : Oper} {S : Nat → Prop} {L : List Res} {x y : Operand} {base n m c : Nat} {v : Value} {A : Option Addr} {xs : List Value} {ys : List Int} (i : Nat) (h : o.op = .call { callee := .builtin .append, args := #[x, y], argTypes := #[30, 30] })
    (hx : ρ x = v) (hy : ρ y = .slice A m c) (hs : Sl w 1 RInt A m c ys) (hL : Has w L) (hE : Ext S w0 w) (hi : L[i]? = some (.row base 3 1 v n xs)) (hbytes : (n + m) * 8 ≤ 140737488355328) (hbase : w0.heap.size ≤ base) (hbw : base ≤ w.heap.size) :
    ∃ v' w', (execOp ρ o).run Tryd.prog w = .ok (.value v') w' ∧ Has w' (L.set i (.row base 3 1 v' (n + m) (xs ++ ys.map (Value.int .i64)))) ∧ Ext S w0 w' := by
  have hl := hs.len
  cases A with
  | none =>
    have hm : m = 0 := by
      rcases Nat.eq_zero_or_pos m with h0 | h0
      · exact h0
      · have := hs.is h0
        cases this
    subst hm
    have hys : ys = [] := List.eq_nil_of_length_eq_zero hl
    subst hys
    obtain ⟨i0, hinf, _⟩ := Option.map_eq_some_iff.1 info_int
    refine ⟨v, w, r_append_no (P := Tryd.prog) i h Tryd.underlying30 hinf hx hy hL hi, ?_, hE⟩
    rw [List.map_nil, List.append_nil, Nat.add_zero]
    have hil : i < L.length := (List.getElem?_eq_some_iff.1 hi).1
    have : L.set i (.row base 3 1 v n xs) = L := by
      apply List.ext_getElem?
      intro j
      rw [List.getElem?_set]
      split
      · rename_i e
        subst e
        rw [hi]
      · rfl
    rw [this]
    exact hL
  | some a =>
    obtain ⟨v', w', hr, hL', hE', _⟩ := r_append (P := Tryd.prog) (w := w) (ys := ys.map (Value.int .i64)) i h Tryd.underlying30 info_int rfl (by decide) hx hy hL hE hi (by simp [hl]) (fun j u hj => by
      rw [List.getElem?_map, Option.map_eq_some_iff] at hj
      obtain ⟨z, hz, rfl⟩ := hj
      obtain ⟨cs, h1, h2, h3⟩ := hs.at_ j z hz
      rw [h2] at h3
      have := h3 0 _ rfl
      rw [Nat.mul_one, Nat.add_zero] at this
      exact this) (fun u hu => by
      obtain ⟨z, _, rfl⟩ := List.mem_map.1 hu
      rfl) hbytes (by omega) hbase hbw
    exact ⟨v', w', hr, hL', hE'⟩
theorem tmod_lo {a n : Int} (hn : 0 < n) : -n < a.tmod n := by
  have h1 := Int.natAbs_tmod a n
  have h2 := Nat.mod_lt a.natAbs (by omega : n.natAbs > 0)
  omega
theorem tmod_hi {a n : Int} (hn : 0 < n) : a.tmod n < n := Int.tmod_lt_of_pos a hn
theorem Bring_calls (w0 : World) (i n : Int) (h0 : 0 < n) (h1 : n ≤ 1000000) :
    Calls Tryd.prog 14 [.int .i64 i, .int .i64 n].toArray w0 fun en w' => ∃ b, en = .returned (.int .i64 b) ∧ 0 ≤ b ∧ b < n ∧ Ext0 w0 w' := by
  have hE : Ext0 w0 w0 := Ext.refl _ _
  have hlo := tmod_lo (a := i) h0
  have hhi := tmod_hi (a := i) h0
  refine calls [4] Tryd.func14 rfl rfl rfl rfl ?_
  refine c_seq ?_
  -- region 0
  refine c_ops ?_
  refine l_val rfl rfl rfl (r_assign rfl) ?_
  refine l_nil ?_
  refine c_seq ?_
  -- region 1
  refine c_ops ?_
  refine l_val rfl rfl rfl (r_move rfl) ?_
  refine l_val rfl rfl rfl (r_move rfl) ?_
  refine l_val rfl rfl rfl (r_rem rfl rfl rfl (by omega)) ?_   -- ref.go:6 slot 7 := (binOp BinOp.rem 3 (tmp 5) (tmp 6) 3)
  refine l_val rfl rfl rfl (r_assign rfl) ?_
  refine l_nil ?_
  refine c_seq ?_
  refine c_seq ?_
  -- region 2
  refine c_ops ?_
  refine l_val rfl rfl rfl (r_move rfl) ?_
  refine l_val rfl rfl rfl (r_lss rfl rfl rfl) ?_
  refine l_nil ?_
  refine c_cond rfl (fun hb => ?_) (fun hb => ?_)
  · -- True
    have hr9 := hb
    replace hb := of_decide_eq_true hb
    -- region 3
    refine c_ops ?_
    refine l_val rfl rfl rfl (r_move rfl) ?_
    refine l_val rfl rfl rfl (r_move rfl) ?_
    refine l_val rfl rfl rfl (r_add rfl rfl rfl) ?_
    refine l_val rfl rfl rfl (r_assign rfl) ?_
    refine l_nil ?_
    refine c_seq ?_
    -- region 4
    refine c_ops ?_
    refine l_val rfl rfl rfl (r_move rfl) ?_
    refine l_val rfl rfl rfl (r_assign rfl) ?_
    refine l_nil ?_
    refine c_ret ?_
    exact ⟨i.tmod n + n, congrArg (fun x => Ending.returned (Value.int .i64 x)) (wrap_small (by omega) (by omega)), by omega, by omega, hE⟩
  · -- False
    have hr9 := hb
    replace hb := of_decide_eq_false hb
    refine c_skip ?_
    refine c_seq ?_
    -- region 4
    refine c_ops ?_
    refine l_val rfl rfl rfl (r_move rfl) ?_
    refine l_val rfl rfl rfl (r_assign rfl) ?_
    refine l_nil ?_
    refine c_ret ?_
    exact ⟨i.tmod n, rfl, by omega, by omega, hE⟩
theorem EqInts_calls (w0 : World) (A : Option Addr) (c : Nat) (a : List Int) (ha : Ints w0 A c a) (B : Option Addr) (d : Nat) (b : List Int) (hb' : Ints w0 B d b) :
    Calls Tryd.prog 16 [.slice A a.length c, .slice B b.length d].toArray w0 fun en w' => en = .returned (.bool (decide (a = b))) ∧ Ext0 w0 w' := by
  have hE : Ext0 w0 w0 := Ext.refl _ _
  have hL : Has w0 [] := trivial
  refine calls [4] Tryd.func16 rfl rfl rfl rfl ?_
  refine c_seq ?_
  -- region 0
  refine c_ops ?_
  refine l_val rfl rfl rfl (r_assign rfl) ?_
  refine l_nil ?_
  refine c_seq ?_
  refine c_seq ?_
  -- region 1
  refine c_ops ?_
  refine l_val rfl rfl rfl (r_move rfl) ?_
  refine l_val rfl rfl rfl (r_len rfl Tryd.underlying30 rfl) ?_
  refine l_val rfl rfl rfl (r_move rfl) ?_
  refine l_val rfl rfl rfl (r_len rfl Tryd.underlying30 rfl) ?_
  refine l_val rfl rfl rfl (r_neq rfl rfl rfl) ?_
  refine l_nil ?_
  refine c_cond rfl (fun hb => ?_) (fun hb => ?_)
  · -- True
    have hr10 := hb
    replace hb := of_decide_eq_false (by simpa using hb)
    have hne : a.length ≠ b.length := by omega
    refine c_seq ?_
    -- region 2
    refine c_ops ?_
    refine l_val rfl rfl rfl (r_assign rfl) ?_
    refine l_nil ?_
    refine c_ret ?_
    exact ⟨ret_bool rfl (decide_eq_false (fun e => hne (by rw [e]))).symm, hE⟩
  · -- False
    have hr10 := hb
    replace hb := of_decide_eq_true (by simpa using hb)
    have hll : a.length = b.length := by omega
    refine c_skip ?_
    refine c_seq ?_
    refine c_seq ?_
    -- region 3
    refine c_ops ?_
    refine l_val rfl rfl rfl (r_assign rfl) ?_
    refine l_nil ?_
    refine c_block ?_
    -- loop 0: slots that it writes and that are read in it ahead of that: [5]
    refine c_loop [4, 5, 11, 12, 13, 14, 15, 16, 17, 18, 19, 20, 21, 22, 23, 24, 25] (fun m1 e w => ∃ k : Nat, k ≤ a.length ∧ m1 = a.length - k ∧ e 5 = .int .i64 k ∧ (∀ j : Nat, j < k → iat a j = iat b j) ∧ Ext0 w0 w) a.length ?_ ?_
    · exact ⟨0, Nat.zero_le _, rfl, rfl, fun j hj => absurd hj (Nat.not_lt_zero _), hE⟩
    intro m1 e w hI
    obtain ⟨k, hk, hm, h5, heq, hE⟩ := hI
    refine c_know h5 ?_
    have hL : Has w [] := trivial
    have hmx := ha.max
    refine c_seq ?_
    refine c_seq ?_
    -- region 4
    refine c_ops ?_
    refine l_val rfl rfl rfl (r_move rfl) ?_
    refine l_val rfl rfl rfl (r_move rfl) ?_
    refine l_val rfl rfl rfl (r_len rfl Tryd.underlying30 rfl) ?_
    refine l_val rfl rfl rfl (r_lss rfl rfl rfl) ?_
    refine l_nil ?_
    refine c_cond rfl (fun hb => ?_) (fun hb => ?_)
    · -- True
      have hr14 := hb
      replace hb := of_decide_eq_true hb
      have hka : k < a.length := by omega
      have hkb : k < b.length := by omega
      refine c_skip ?_
      refine c_seq ?_
      refine c_block ?_
      refine c_seq ?_
      -- region 6
      refine c_draw mixed (hL) hE ?_
      replace hL := hL.drew
      replace hE := hE.drew
      have hK := hL
      refine h_t 0 rfl rfl (by kernel_rfl) (fun _ _ _ h => h) ⟨hK, hE⟩ rfl (fun W hW => r_move rfl) ?_
      refine h_t 1 rfl rfl (by kernel_rfl) (fun _ _ _ h => h) ⟨hK, hE⟩ rfl (fun W hW => r_move rfl) ?_
      refine h_t 2 rfl rfl (by kernel_rfl) (fun _ _ _ h => h) ⟨hK, hE⟩ rfl (fun W hW => r_indexAddr_sl rfl Tryd.underlying30 Tryd.sizeOf3 rfl ha.is rfl (by omega) (by omega)) ?_
      refine h_t 3 rfl rfl (by kernel_rfl) (fun _ _ _ h => h) ⟨hK, hE⟩ rfl (fun W hW => r_load (v := .int .i64 (iat a k)) rfl Tryd.isAgg3 rfl ((ha.keep RInt.kept (Ext0.cells hW.2)).int k (by omega) (by omega))) ?_
      refine h_t 4 rfl rfl (by kernel_rfl) (fun _ _ _ h => h) ⟨hK, hE⟩ rfl (fun W hW => r_move rfl) ?_
      refine h_t 5 rfl rfl (by kernel_rfl) (fun _ _ _ h => h) ⟨hK, hE⟩ rfl (fun W hW => r_move rfl) ?_
      refine h_t 6 rfl rfl (by kernel_rfl) (fun _ _ _ h => h) ⟨hK, hE⟩ rfl (fun W hW => r_indexAddr_sl rfl Tryd.underlying30 Tryd.sizeOf3 rfl hb'.is rfl (by omega) (by omega)) ?_
      refine h_t 7 rfl rfl (by kernel_rfl) (fun _ _ _ h => h) ⟨hK, hE⟩ rfl (fun W hW => r_load (v := .int .i64 (iat b k)) rfl Tryd.isAgg3 rfl ((hb'.keep RInt.kept (Ext0.cells hW.2)).int k (by omega) (by omega))) ?_
      refine h_t 8 rfl rfl (by kernel_rfl) (fun _ _ _ h => h) ⟨hK, hE⟩ rfl (fun W hW => r_neq rfl rfl rfl) ?_
      refine h_done (by kernel_rfl) ?_
      refine c_cond rfl (fun hb => ?_) (fun hb => ?_)
      · -- True
        have hr25 := hb
        replace hb := of_decide_eq_false (by simpa using hb)
        refine c_seq ?_
        -- region 7
        refine c_ops ?_
        refine l_val rfl rfl rfl (r_assign rfl) ?_
        refine l_nil ?_
        refine c_ret ?_
        exact ⟨ret_bool rfl (decide_eq_false (iat_eq hka hkb hb)).symm, hE⟩
      · -- False
        have hr25 := hb
        replace hb := of_decide_eq_true (by simpa using hb)
        have heq2 : ∀ j : Nat, j < k + 1 → iat a j = iat b j := fun j hj => (by
          rcases Nat.lt_or_eq_of_le (Nat.le_of_lt_succ hj) with h | rfl
          · exact heq j h
          · exact hb)
        refine c_skip ?_
        -- region 5
        refine c_ops ?_
        refine l_val rfl rfl rfl (r_move rfl) ?_
        refine l_val rfl rfl rfl (r_add rfl rfl rfl) ?_
        refine l_val rfl rfl rfl (r_assign rfl) ?_
        refine l_nil ?_
        refine ⟨by repeat (first | exact Agree.over _ _ _ | exact Agree.refl _ _ | (refine Agree.puto ?_ _ _ rfl) | (refine Agree.put ?_ _ _ rfl) | (refine Agree.sub ?_ rfl)), ?_⟩
        exact ⟨a.length - (k + 1), by omega, k + 1, by omega, rfl, by show Value.int .i64 (IntKind.i64.wrap ((k : Int) + 1)) = _; rw [wrap_succ hka hmx], heq2, hE⟩
    · -- False
      have hr14 := hb
      replace hb := of_decide_eq_false hb
      obtain rfl : k = a.length := by omega
      refine c_exit ?_
      refine c_seq ?_
      -- region 8
      refine c_ops ?_
      refine l_val rfl rfl rfl (r_assign rfl) ?_
      refine l_nil ?_
      refine c_ret ?_
      exact ⟨ret_bool rfl (decide_eq_true (eq_of_iat hll heq)).symm, hE⟩
theorem CopyInts_calls (w0 : World) (A : Option Addr) (n c : Nat) (l : List Int) (hl : Sl w0 1 RInt A n c l) (hbig : n ≤ 1000000000000) :
    Calls Tryd.prog 17 [.slice A n c].toArray w0 fun en w' => ∃ v, en = .returned v ∧ w'.ownsRow w0.heap.size 3 1 v n (l.map (Value.int .i64)) ∧ Ext0 w0 w' := by
  have hE : Ext0 w0 w0 := Ext.refl _ _
  have hL : Has w0 [.row w0.heap.size 3 1 (.slice none 0 0) 0 []] := Has.nilRow (L := []) trivial _ _ _
  refine calls [2] Tryd.func17 rfl rfl rfl rfl ?_
  refine c_seq ?_
  -- region 0
  refine c_ops ?_
  refine l_val rfl rfl rfl (r_assign rfl) ?_
  refine l_nil ?_
  refine c_seq ?_
  -- region 1
  refine c_ops ?_
  refine l_val rfl rfl rfl (r_assign rfl) ?_
  refine l_nil ?_
  refine c_seq ?_
  -- region 2
  refine c_ops ?_
  refine l_val rfl rfl rfl (r_move rfl) ?_
  refine l_val rfl rfl rfl (r_move rfl) ?_
  refine l_new rfl rfl rfl (n_append_ints 0 rfl rfl rfl hl hL hE rfl (by omega) (Nat.le_refl _) (Nat.le_refl _)) ?_
  rintro _ w ⟨hL, hE⟩
  replace hL := hL.row 0 rfl
  rw [Nat.zero_add, List.nil_append] at hL
  refine l_val rfl rfl rfl (r_assign rfl) ?_
  refine l_nil ?_
  refine c_ret ?_
  exact ⟨_, rfl, hL, hE⟩
theorem copy_perm {α : Type} (a b : α) (T : List α) : (a :: b :: T).Perm (b :: (T ++ [a])) :=
  (List.Perm.swap b a T).trans (List.Perm.cons b (List.perm_append_comm (l₁ := [a]) (l₂ := T)))
/-- A copy of facts: a row of one's own, and each one's numbers. -/
def CopyOut (w0 : World) (l : List Fact) (en : Ending) (w' : World) : Prop := ∃ (v : Value) (fv : List FV), en = .returned v ∧ fv.map (·.1) = l ∧ Has w' (.row w0.heap.size 37 3 v fv.length (fv.map fcell).flatten :: fv.map (fres 3 w0.heap.size)) ∧ Ext0 w0 w'
theorem Copy_calls (w0 : World) (A : Option Addr) (c : Nat) (l : List Fact) (hl : FactsAt w0 A c l) (hn : l.length ≤ 8000) (hw : ∀ f ∈ l, f.why.length ≤ 1000000000000) :
    Calls Tryd.prog 20 [.slice A l.length c].toArray w0 (CopyOut w0 l) := by
  have hE : Ext0 w0 w0 := Ext.refl _ _
  have hL : Has w0 [] := trivial
  refine calls [2] Tryd.func20 rfl rfl rfl rfl ?_
  refine c_seq ?_
  -- region 0
  refine c_ops ?_
  refine l_val rfl rfl rfl (r_assign rfl) ?_
  refine l_nil ?_
  refine c_seq ?_
  refine c_seq ?_
  -- region 1
  refine c_ops ?_
  refine l_val rfl rfl rfl (r_move rfl) ?_
  refine l_val rfl rfl rfl (r_len rfl Tryd.underlying29 rfl) ?_
  refine l_val rfl rfl rfl (r_move rfl) ?_
  refine l_nil ?_
  refine c_block ?_
  -- loop 0: slots that it writes and that are read in it ahead of that: [7, 2]
  refine c_loop [2, 4, 7, 8, 9, 10, 11, 12, 13, 14, 15, 16, 17, 18, 19] (fun m1 e w => ∃ (n : Nat) (v : Value) (fv : List FV), n ≤ l.length ∧ m1 = l.length - n ∧ e 7 = .int .i64 n ∧ e 2 = v ∧ fv.map (·.1) = l.take n ∧ Has w (.row w0.heap.size 37 3 v (fv).length ((fv).map fcell).flatten :: (fv).map (fres 3 w0.heap.size)) ∧ Ext0 w0 w) l.length ?_ ?_
  · exact ⟨0, .slice none 0 0, [], Nat.zero_le _, rfl, rfl, rfl, rfl, hL.nilRow _ _ _, hE⟩
  intro m1 e w hI
  obtain ⟨n, v, fv, hnl, hmn, h7, h2, hfv, hL, hE⟩ := hI
  refine c_know h7 ?_
  refine c_know (t := 2) (by exact h2) ?_
  have hfl : fv.length = n := by have := congrArg List.length hfv; simpa [Nat.min_eq_left hnl] using this
  have hmx := hl.max
  refine c_seq ?_
  -- region 2
  refine c_ops ?_
  refine l_val rfl rfl rfl (r_lss rfl rfl rfl) ?_
  refine l_nil ?_
  refine c_seq ?_
  refine c_cond rfl (fun hb => ?_) (fun hb => ?_)
  · -- True
    have hr8 := hb
    replace hb := of_decide_eq_true hb
    have hnn : n < l.length := by omega
    obtain ⟨A1, c1, hfc, hfw⟩ := hl.fact n (by omega) (by omega)
    have hfm := fat_mem (l := l) (k := (n : Int)) (by omega) (by omega)
    refine c_skip ?_
    refine c_seq ?_
    refine c_block ?_
    refine c_seq ?_
    -- region 3
    refine c_ops ?_
    refine l_val rfl rfl rfl (r_indexAddr_sl rfl Tryd.underlying29 Tryd.sizeOf37 rfl hl.is rfl (by omega) (by omega)) ?_
    refine l_val rfl rfl rfl (r_load_agg (vs := [.int .i64 (fat l n).a, .int .i64 (fat l n).b, .slice A1 (fat l n).why.length c1]) rfl Tryd.isAgg37 Tryd.sizeOf37 rfl (fun j v hj => Ext0.cells hE _ _ (hfc j v hj))) ?_
    refine l_new rfl rfl rfl (n_alloc rfl Tryd.zeroValue37 hL hE) ?_
    rintro _ w ⟨b4, rfl, hb4, hL, hE, hX⟩
    refine l_new_do rfl rfl (r_store 0 rfl Tryd.sizeOf37 rfl hL hE rfl rfl rfl rfl (fun h => absurd h (Nat.not_lt.2 hb4))) ?_
    rintro w ⟨hL, hE, hz, hk⟩
    refine l_nil ?_
    refine c_seq ?_
    -- region 4
    refine c_ops ?_
    replace hL : Has _ (.blk b4 (.cells #[.int .i64 (fat l n).a, .int .i64 (fat l n).b, .slice A1 (fat l n).why.length c1] 37 (0, 0)) :: .row w0.heap.size 37 3 v (fv).length ((fv).map fcell).flatten :: (fv).map (fres 3 w0.heap.size)) := hL
    refine l_val rfl rfl rfl (r_fieldAddr (n := 0) rfl Tryd.underlying37 rfl Tryd.sizeOf30 rfl) ?_
    refine l_val rfl rfl rfl (r_load_blk rfl Tryd.isAgg30 rfl (hL.get 0 rfl) rfl) ?_
    refine l_by rfl rfl rfl (r_call rfl rfl Tryd.func41 rfl rfl) (Clone_int _ A1 c1 (fat l n).why (hfw.keep RInt.kept (Ext0.cells hE)) (hw _ hfm)) ?_   -- fact.go:261 slot 13 := (call {callee=(value (func 41)), args=[(tmp 12)], argTypes=[30]})
    rintro _ w ⟨v12, rfl, hrow, hX⟩
    have h1v := one_row hrow
    obtain ⟨A12, c12, rfl⟩ := ownsRow_slice hrow
    replace hL := hL.cons hX (r := .row w0.heap.size 3 1 (Value.slice A12 (fat l n).why.length c12) (fat l n).why.length ((fat l n).why.map (Value.int .i64))) (ownsRow_base hrow hE.size) (fun b hb => (ownsRow_lt hrow hb).2)
    replace hE := hE.step0 hX
    refine ⟨_, rfl, ?_⟩
    refine l_val rfl rfl rfl (r_fieldAddr (n := 0) rfl Tryd.underlying37 rfl Tryd.sizeOf30 rfl) ?_
    refine l_new_do rfl rfl (r_store 1 rfl Tryd.sizeOf30 rfl hL hE rfl rfl rfl rfl (fun h => absurd h (Nat.not_lt.2 hb4))) ?_
    rintro w ⟨hL, hE, hz, hk⟩
    refine l_nil ?_
    -- region 5
    refine c_ops ?_
    replace hL : Has _ (.row w0.heap.size 3 1 (Value.slice A12 (fat l n).why.length c12) (fat l n).why.length ((fat l n).why.map (Value.int .i64)) :: .blk b4 (.cells #[.int .i64 (fat l n).a, .int .i64 (fat l n).b, (Value.slice A12 (fat l n).why.length c12)] 37 (0, 0)) :: .row w0.heap.size 37 3 v (fv).length ((fv).map fcell).flatten :: (fv).map (fres 3 w0.heap.size)) := hL
    refine l_val rfl rfl rfl (r_move rfl) ?_
    refine l_val rfl rfl rfl (r_load_agg (vs := [.int .i64 (fat l n).a, .int .i64 (fat l n).b, (Value.slice A12 (fat l n).why.length c12)]) rfl Tryd.isAgg37 Tryd.sizeOf37 rfl (blk_raw (cs := #[.int .i64 (fat l n).a, .int .i64 (fat l n).b, (Value.slice A12 (fat l n).why.length c12)]) (hL.get 1 rfl) rfl)) ?_
    refine l_new rfl rfl rfl (n_slice (cells := #[.int .i64 (fat l n).a, .int .i64 (fat l n).b, (Value.slice A12 (fat l n).why.length c12)]) rfl Tryd.underlying29 Tryd.sizeOf37 Tryd.zeroValue37 rfl rfl (fill_fact _ _ _) hL hE) ?_
    rintro _ w ⟨s17, rfl, hs17, hL, hE, hX⟩
    refine l_new rfl rfl rfl (r_append (ys := fcell (fat l n, (Value.slice A12 (fat l n).why.length c12))) 3 rfl Tryd.underlying29 info_fact rfl (by decide) rfl rfl hL hE rfl rfl (blk_raw (cs := #[.int .i64 (fat l n).a, .int .i64 (fat l n).b, (Value.slice A12 (fat l n).why.length c12)]) (hL.get 0 rfl) rfl) (fun u hu => List.all_eq_true.1 (all3 h1v) u hu) (by omega) (by omega) (Nat.le_refl _) hE.size) ?_
    rintro _ w ⟨hL, hE, hk⟩
    obtain ⟨A4, c4, rfl⟩ := ownsRow_slice (hL.row 3 rfl)
    replace hL : Has w (.blk s17 (.cells #[.int .i64 (fat l n).a, .int .i64 (fat l n).b, (Value.slice A12 (fat l n).why.length c12)] 37 (0, 0)) :: .row w0.heap.size 3 1 (Value.slice A12 (fat l n).why.length c12) (fat l n).why.length ((fat l n).why.map (Value.int .i64)) :: .blk b4 (.cells #[.int .i64 (fat l n).a, .int .i64 (fat l n).b, (Value.slice A12 (fat l n).why.length c12)] 37 (0, 0)) :: .row w0.heap.size 37 3 (.slice A4 (fv.length + 1) c4) (fv ++ [(fat l n, (Value.slice A12 (fat l n).why.length c12))]).length ((fv ++ [(fat l n, (Value.slice A12 (fat l n).why.length c12))]).map fcell).flatten :: (fv).map (fres 3 w0.heap.size)) := by rw [← fcells_snoc, List.length_append]; exact hL
    refine l_val rfl rfl rfl (r_assign rfl) ?_
    refine l_nil ?_
    -- region 6
    refine c_ops ?_
    refine l_val rfl rfl rfl (r_add rfl rfl rfl) ?_
    refine l_val rfl rfl rfl (r_move rfl) ?_
    refine l_nil ?_
    refine ⟨by repeat (first | exact Agree.over _ _ _ | exact Agree.refl _ _ | (refine Agree.puto ?_ _ _ rfl) | (refine Agree.put ?_ _ _ rfl) | (refine Agree.sub ?_ rfl)), ?_⟩
    refine ⟨l.length - (n + 1), by omega, n + 1, (.slice A4 (fv.length + 1) c4), fv ++ [(fat l n, (Value.slice A12 (fat l n).why.length c12))], by omega, rfl, by show Value.int .i64 (IntKind.i64.wrap ((n : Int) + 1)) = _; rw [wrap_succ hnn hmx], rfl, by rw [take_snoc (fat_nat hnn), ← hfv]; simp, ?_, hE⟩
    rw [List.map_append (f := fres 3 w0.heap.size)]
    exact Has.perm (copy_perm _ _ _) (hL.tail.sub (.cons_cons _ (.cons _ (.refl _))))
  · -- False
    have hr8 := hb
    replace hb := of_decide_eq_false hb
    obtain rfl : n = l.length := by omega
    rw [List.take_length] at hfv
    refine c_exit ?_
    refine c_seq ?_
    -- region 7
    refine c_ops ?_
    refine l_val rfl rfl rfl (r_move rfl) ?_
    refine l_val rfl rfl rfl (r_assign rfl) ?_
    refine l_nil ?_
    refine c_ret ?_
    exact ⟨v, fv, rfl, hfv, hL, hE⟩
end Go.Proofs.YtndophlnapjkhaaDoor.Vc
