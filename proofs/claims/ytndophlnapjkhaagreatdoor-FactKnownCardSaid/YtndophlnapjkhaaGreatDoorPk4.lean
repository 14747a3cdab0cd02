/- Laws and walks for what the last text proves, part 4: FactKnown of the layer 'fact'. Conditions: those of each statement. -/
import Derived.Test.YtndophlnapjkhaaGreatDoorPk3
set_option linter.unusedVariables false
set_option linter.unusedSimpArgs false
set_option linter.unusedSectionVars false
namespace Go.Proofs.YtndophlnapjkhaaGreatDoor.Vc
open Go Go.RowKit
set_option linter.unusedVariables false
set_option linter.unusedSimpArgs false
theorem r_append_no {P : Program} {w : World} {ρ : Operand → Value} {o : Oper} {x y : Operand} {t el : TypeId} {base sz n : Nat} {v : Value} {xs : List Value} {L : List Res} (i : Nat) {c : Nat} (h : o.op = .call { callee := .builtin .append, args := #[x, y], argTypes := #[t, t] })
    (hu : P.underlying t = some (.slice el)) {i0 : TypeInfo} (hinf : P.info? el = some i0) (hx : ρ x = v) (hy : ρ y = .slice none 0 c) (hL : Has w L) (hi : L[i]? = some (.row base el sz v n xs)) : (execOp ρ o).run P w = .ok (.value v) w := by
 have hown := hL.row i hi
 have : (Builtin.append_ #[t, t] o.type #[v, .slice none 0 c]).run P w = .ok v w := by
  rcases hown.2 with ⟨rfl, rfl⟩ | ⟨g, cap, cur, rfl, _, _, hnc, _⟩
  ·simp [Builtin.append_, run_underlying hu, sizeOf, typeInfo, hinf, Builtin.lenOf, Builtin.firstCells]
  ·simp [Builtin.append_, run_underlying hu, sizeOf, typeInfo, hinf, Builtin.lenOf, Builtin.firstCells, hnc, storeCells]
 simp [execOp, h, resolve, invoke, builtin, hx, hy, this]
theorem n_append_ints {w w0 : World} {ρ : Operand → Value} {o : Oper} {S : Nat → Prop} {L : List Res} {x y : Operand} {base n m c : Nat} {v : Value} {A : Option Addr} {xs : List Value} {ys : List Int} (i : Nat) (h : o.op = .call { callee := .builtin .append, args := #[x, y], argTypes := #[26, 26] })
    (hx : ρ x = v) (hy : ρ y = .slice A m c) (hs : Sl w 1 RInt A m c ys) (hL : Has w L) (hE : Ext S w0 w) (hi : L[i]? = some (.row base 3 1 v n xs)) (hbytes : (n + m) * 8 ≤ 140737488355328) (hbase : w0.heap.size ≤ base) (hbw : base ≤ w.heap.size) :
    ∃ v' w', (execOp ρ o).run Tryz.prog w = .ok (.value v') w' ∧ Has w' (L.set i (.row base 3 1 v' (n + m) (xs ++ ys.map (Value.int .i64)))) ∧ Ext S w0 w' := by
 have hl := hs.len
 cases A with
 | none =>
  have hm : m = 0 := by
   rcases Nat.eq_zero_or_pos m with h0 | h0
   ·exact h0
   ·have := hs.is h0
    cases this
  subst hm
  have hys : ys = [] := List.eq_nil_of_length_eq_zero hl
  subst hys
  obtain ⟨i0, hinf, _⟩ := Option.map_eq_some_iff.1 info_int
  refine ⟨v, w, r_append_no (P := Tryz.prog) i h Tryz.underlying26 hinf hx hy hL hi, ?_, hE⟩
  rw [List.map_nil, List.append_nil, Nat.add_zero]
  have hil : i < L.length := (List.getElem?_eq_some_iff.1 hi).1
  have : L.set i (.row base 3 1 v n xs) = L := by
   apply List.ext_getElem?
   intro j
   rw [List.getElem?_set]
   split
   ·rename_i e
    subst e
    rw [hi]
   ·rfl
  rw [this]
  exact hL
 | some a =>
  obtain ⟨v', w', hr, hL', hE', _⟩ := r_append (P := Tryz.prog) (w := w) (ys := ys.map (Value.int .i64)) i h Tryz.underlying26 info_int rfl (by decide) hx hy hL hE hi (by simp [hl]) (fun j u hj => by
   rw [List.getElem?_map, Option.map_eq_some_iff] at hj
   obtain ⟨z, hz, rfl⟩ := hj
   obtain ⟨cs, h1, h2, h3⟩ := hs.at_ j z hz
   rw [h2] at h3
   have := h3 0 _ rfl
   rw [Nat.mul_one, Nat.add_zero] at this
   exact this) (fun u hu => by
   obtain ⟨z, _, rfl⟩ := List.mem_map.1 hu
   rfl) hbytes (by omega) hbase hbw
  exact ⟨v', w', hr, hL', hE'⟩
theorem EqInts_calls (w0 : World) (A : Option Addr) (c : Nat) (a : List Int) (ha : Ints w0 A c a) (B : Option Addr) (d : Nat) (b : List Int) (hb' : Ints w0 B d b) :
    Calls Tryz.prog 10 [.slice A a.length c, .slice B b.length d].toArray w0 fun en w' => en = .returned (.bool (decide (a = b))) ∧ Ext0 w0 w' := by
 have hE : Ext0 w0 w0 := Ext.refl _ _
 have hL : Has w0 [] := trivial
 refine calls [4] Tryz.func10 rfl rfl rfl rfl ?_
 refine c_seq ?_
 refine c_ops ?_
 refine as' rfl rfl rfl rfl ?_
 refine l_nil ?_
 refine c_seq ?_
 refine c_seq ?_
 refine c_ops ?_
 refine mv' rfl rfl rfl rfl ?_
 refine l_val rfl rfl rfl (r_len rfl Tryz.underlying26 rfl) ?_
 refine mv' rfl rfl rfl rfl ?_
 refine l_val rfl rfl rfl (r_len rfl Tryz.underlying26 rfl) ?_
 refine l_val rfl rfl rfl (r_neq rfl rfl rfl) ?_
 refine l_nil ?_
 refine c_cond rfl (fun hb => ?_) (fun hb => ?_)
 ·have hr10 := hb
  replace hb := of_decide_eq_false (by simpa using hb)
  have hne : a.length ≠ b.length := by omega
  refine c_seq ?_
  refine c_ops ?_
  refine as' rfl rfl rfl rfl ?_
  refine l_nil ?_
  refine c_ret ?_
  exact ⟨ret_bool rfl (decide_eq_false (fun e => hne (by rw [e]))).symm, hE⟩
 ·have hr10 := hb
  replace hb := of_decide_eq_true (by simpa using hb)
  have hll : a.length = b.length := by omega
  refine c_skip ?_
  refine c_seq ?_
  refine c_seq ?_
  refine c_ops ?_
  refine as' rfl rfl rfl rfl ?_
  refine l_nil ?_
  refine c_block ?_
  refine c_loop [4, 5, 11, 12, 13, 14, 15, 16, 17, 18, 19, 20, 21, 22, 23, 24, 25] (fun m1 e w => ∃ k : Nat, k ≤ a.length ∧ m1 = a.length - k ∧ e 5 = .int .i64 k ∧ (∀ j : Nat, j < k → iat a j = iat b j) ∧ Ext0 w0 w) a.length ?_ ?_
  ·exact ⟨0, Nat.zero_le _, rfl, rfl, fun j hj => absurd hj (Nat.not_lt_zero _), hE⟩
  intro m1 e w hI
  obtain ⟨k, hk, hm, h5, heq, hE⟩ := hI
  refine c_know h5 ?_
  have hL : Has w [] := trivial
  have hmx := ha.max
  refine c_seq ?_
  refine c_seq ?_
  refine c_ops ?_
  refine mv' rfl rfl rfl rfl ?_
  refine mv' rfl rfl rfl rfl ?_
  refine l_val rfl rfl rfl (r_len rfl Tryz.underlying26 rfl) ?_
  refine l_val rfl rfl rfl (r_lss rfl rfl rfl) ?_
  refine l_nil ?_
  refine c_cond rfl (fun hb => ?_) (fun hb => ?_)
  ·have hr14 := hb
   replace hb := of_decide_eq_true hb
   have hka : k < a.length := by omega
   have hkb : k < b.length := by omega
   refine c_skip ?_
   refine c_seq ?_
   refine c_block ?_
   refine c_seq ?_
   refine c_draw mixed (hL) hE ?_
   replace hL := hL.drew
   replace hE := hE.drew
   have hK := hL
   refine h_t 0 rfl rfl (by kernel_rfl) (fun _ _ _ h => h) ⟨hK, hE⟩ rfl (fun W hW => r_move rfl) ?_
   refine h_t 1 rfl rfl (by kernel_rfl) (fun _ _ _ h => h) ⟨hK, hE⟩ rfl (fun W hW => r_move rfl) ?_
   refine h_t 2 rfl rfl (by kernel_rfl) (fun _ _ _ h => h) ⟨hK, hE⟩ rfl (fun W hW => r_indexAddr_sl rfl Tryz.underlying26 Tryz.sizeOf3 rfl ha.is rfl (by omega) (by omega)) ?_
   refine h_t 3 rfl rfl (by kernel_rfl) (fun _ _ _ h => h) ⟨hK, hE⟩ rfl (fun W hW => r_load (v := .int .i64 (iat a k)) rfl Tryz.isAgg3 rfl ((ha.keep RInt.kept (Ext0.cells hW.2)).int k (by omega) (by omega))) ?_
   refine h_t 4 rfl rfl (by kernel_rfl) (fun _ _ _ h => h) ⟨hK, hE⟩ rfl (fun W hW => r_move rfl) ?_
   refine h_t 5 rfl rfl (by kernel_rfl) (fun _ _ _ h => h) ⟨hK, hE⟩ rfl (fun W hW => r_move rfl) ?_
   refine h_t 6 rfl rfl (by kernel_rfl) (fun _ _ _ h => h) ⟨hK, hE⟩ rfl (fun W hW => r_indexAddr_sl rfl Tryz.underlying26 Tryz.sizeOf3 rfl hb'.is rfl (by omega) (by omega)) ?_
   refine h_t 7 rfl rfl (by kernel_rfl) (fun _ _ _ h => h) ⟨hK, hE⟩ rfl (fun W hW => r_load (v := .int .i64 (iat b k)) rfl Tryz.isAgg3 rfl ((hb'.keep RInt.kept (Ext0.cells hW.2)).int k (by omega) (by omega))) ?_
   refine h_t 8 rfl rfl (by kernel_rfl) (fun _ _ _ h => h) ⟨hK, hE⟩ rfl (fun W hW => r_neq rfl rfl rfl) ?_
   refine h_done (by kernel_rfl) ?_
   refine c_cond rfl (fun hb => ?_) (fun hb => ?_)
   ·have hr25 := hb
    replace hb := of_decide_eq_false (by simpa using hb)
    refine c_seq ?_
    refine c_ops ?_
    refine as' rfl rfl rfl rfl ?_
    refine l_nil ?_
    refine c_ret ?_
    exact ⟨ret_bool rfl (decide_eq_false (iat_eq hka hkb hb)).symm, hE⟩
   ·have hr25 := hb
    replace hb := of_decide_eq_true (by simpa using hb)
    have heq2 : ∀ j : Nat, j < k + 1 → iat a j = iat b j := fun j hj => (by
     rcases Nat.lt_or_eq_of_le (Nat.le_of_lt_succ hj) with h | rfl
     ·exact heq j h
     ·exact hb)
    refine c_skip ?_
    refine c_ops ?_
    refine mv' rfl rfl rfl rfl ?_
    refine l_val rfl rfl rfl (r_add rfl rfl rfl) ?_
    refine as' rfl rfl rfl rfl ?_
    refine l_nil ?_
    refine ag' ?_
    exact ⟨a.length - (k + 1), by omega, k + 1, by omega, rfl, by show Value.int .i64 (IntKind.i64.wrap ((k : Int) + 1)) = _; rw [wrap_succ hka hmx], heq2, hE⟩
  ·have hr14 := hb
   replace hb := of_decide_eq_false hb
   obtain rfl : k = a.length := by omega
   refine c_exit ?_
   refine c_seq ?_
   refine c_ops ?_
   refine as' rfl rfl rfl rfl ?_
   refine l_nil ?_
   refine c_ret ?_
   exact ⟨ret_bool rfl (decide_eq_true (eq_of_iat hll heq)).symm, hE⟩
theorem CopyInts_calls (w0 : World) (A : Option Addr) (n c : Nat) (l : List Int) (hl : Sl w0 1 RInt A n c l) (hbig : n ≤ 1000000000000) :
    Calls Tryz.prog 25 [.slice A n c].toArray w0 fun en w' => ∃ v, en = .returned v ∧ w'.ownsRow w0.heap.size 3 1 v n (l.map (Value.int .i64)) ∧ Ext0 w0 w' := by
 have hE : Ext0 w0 w0 := Ext.refl _ _
 have hL : Has w0 [.row w0.heap.size 3 1 (.slice none 0 0) 0 []] := Has.nilRow (L := []) trivial _ _ _
 refine calls [2] Tryz.func25 rfl rfl rfl rfl ?_
 refine c_seq ?_
 refine c_ops ?_
 refine as' rfl rfl rfl rfl ?_
 refine l_nil ?_
 refine c_seq ?_
 refine c_ops ?_
 refine as' rfl rfl rfl rfl ?_
 refine l_nil ?_
 refine c_seq ?_
 refine c_ops ?_
 refine mv' rfl rfl rfl rfl ?_
 refine mv' rfl rfl rfl rfl ?_
 refine l_new rfl rfl rfl (n_append_ints 0 rfl rfl rfl hl hL hE rfl (by omega) (Nat.le_refl _) (Nat.le_refl _)) ?_
 rintro _ w ⟨hL, hE⟩
 replace hL := hL.row 0 rfl
 rw [Nat.zero_add, List.nil_append] at hL
 refine as' rfl rfl rfl rfl ?_
 refine l_nil ?_
 refine c_ret ?_
 exact ⟨_, rfl, hL, hE⟩
theorem copy_perm {α : Type} (a b : α) (T : List α) : (a :: b :: T).Perm (b :: (T ++ [a])) :=
 (List.Perm.swap b a T).trans (List.Perm.cons b (List.perm_append_comm (l₁ := [a]) (l₂ := T)))
def CopyOut (w0 : World) (l : List Fact) (en : Ending) (w' : World) : Prop := ∃ (v : Value) (fv : List FV), en = .returned v ∧ fv.map (·.1) = l ∧ Has w' (.row w0.heap.size 43 3 v fv.length (fv.map fcell).flatten :: fv.map (fres 3 w0.heap.size)) ∧ Ext0 w0 w'
theorem Copy_calls (w0 : World) (A : Option Addr) (c : Nat) (l : List Fact) (hl : FactsAt w0 A c l) (hn : l.length ≤ 8000) (hw : ∀ f ∈ l, f.why.length ≤ 1000000000000) :
    Calls Tryz.prog 21 [.slice A l.length c].toArray w0 (CopyOut w0 l) := by
 have hE : Ext0 w0 w0 := Ext.refl _ _
 have hL : Has w0 [] := trivial
 refine calls [2] Tryz.func21 rfl rfl rfl rfl ?_
 refine c_seq ?_
 refine c_ops ?_
 refine as' rfl rfl rfl rfl ?_
 refine l_nil ?_
 refine c_seq ?_
 refine c_seq ?_
 refine c_ops ?_
 refine mv' rfl rfl rfl rfl ?_
 refine l_val rfl rfl rfl (r_len rfl Tryz.underlying25 rfl) ?_
 refine mv' rfl rfl rfl rfl ?_
 refine l_nil ?_
 refine c_block ?_
 refine c_loop [2, 4, 7, 8, 9, 10, 11, 12, 13, 14, 15, 16, 17, 18, 19] (fun m1 e w => ∃ (n : Nat) (v : Value) (fv : List FV), n ≤ l.length ∧ m1 = l.length - n ∧ e 7 = .int .i64 n ∧ e 2 = v ∧ fv.map (·.1) = l.take n ∧ Has w (.row w0.heap.size 43 3 v (fv).length ((fv).map fcell).flatten :: (fv).map (fres 3 w0.heap.size)) ∧ Ext0 w0 w) l.length ?_ ?_
 ·exact ⟨0, .slice none 0 0, [], Nat.zero_le _, rfl, rfl, rfl, rfl, hL.nilRow _ _ _, hE⟩
 intro m1 e w hI
 obtain ⟨n, v, fv, hnl, hmn, h7, h2, hfv, hL, hE⟩ := hI
 refine c_know h7 ?_
 refine c_know (t := 2) (by exact h2) ?_
 have hfl : fv.length = n := by have := congrArg List.length hfv; simpa [Nat.min_eq_left hnl] using this
 have hmx := hl.max
 refine c_seq ?_
 refine c_ops ?_
 refine l_val rfl rfl rfl (r_lss rfl rfl rfl) ?_
 refine l_nil ?_
 refine c_seq ?_
 refine c_cond rfl (fun hb => ?_) (fun hb => ?_)
 ·have hr8 := hb
  replace hb := of_decide_eq_true hb
  have hnn : n < l.length := by omega
  obtain ⟨A1, c1, hfc, hfw⟩ := hl.fact n (by omega) (by omega)
  have hfm := fat_mem (l := l) (k := (n : Int)) (by omega) (by omega)
  refine c_skip ?_
  refine c_seq ?_
  refine c_block ?_
  refine c_seq ?_
  refine c_ops ?_
  refine l_val rfl rfl rfl (r_indexAddr_sl rfl Tryz.underlying25 Tryz.sizeOf43 rfl hl.is rfl (by omega) (by omega)) ?_
  refine l_val rfl rfl rfl (r_load_agg (vs := [.int .i64 (fat l n).a, .int .i64 (fat l n).b, .slice A1 (fat l n).why.length c1]) rfl Tryz.isAgg43 Tryz.sizeOf43 rfl (fun j v hj => Ext0.cells hE _ _ (hfc j v hj))) ?_
  refine l_new rfl rfl rfl (n_alloc rfl Tryz.zeroValue43 hL hE) ?_
  rintro _ w ⟨b4, rfl, hb4, hL, hE, hX⟩
  refine l_new_do rfl rfl (r_store 0 rfl Tryz.sizeOf43 rfl hL hE rfl rfl rfl rfl (fun h => absurd h (Nat.not_lt.2 hb4))) ?_
  rintro w ⟨hL, hE, hz, hk⟩
  refine l_nil ?_
  refine c_seq ?_
  refine c_ops ?_
  replace hL : Has _ (.blk b4 (.cells #[.int .i64 (fat l n).a, .int .i64 (fat l n).b, .slice A1 (fat l n).why.length c1] 43 (0, 0)) :: .row w0.heap.size 43 3 v (fv).length ((fv).map fcell).flatten :: (fv).map (fres 3 w0.heap.size)) := hL
  refine l_val rfl rfl rfl (r_fieldAddr (n := 0) rfl Tryz.underlying43 rfl Tryz.sizeOf26 rfl) ?_
  refine l_val rfl rfl rfl (r_load_blk rfl Tryz.isAgg26 rfl (hL.get 0 rfl) rfl) ?_
  refine l_by rfl rfl rfl (r_call rfl rfl Tryz.func47 rfl rfl) (Clone_int _ A1 c1 (fat l n).why (hfw.keep RInt.kept (Ext0.cells hE)) (hw _ hfm)) ?_
  rintro _ w ⟨v12, rfl, hrow, hX⟩
  have h1v := one_row hrow
  obtain ⟨A12, c12, rfl⟩ := ownsRow_slice hrow
  replace hL := hL.cons hX (r := .row w0.heap.size 3 1 (Value.slice A12 (fat l n).why.length c12) (fat l n).why.length ((fat l n).why.map (Value.int .i64))) (ownsRow_base hrow hE.size) (fun b hb => (ownsRow_lt hrow hb).2)
  replace hE := hE.step0 hX
  refine ⟨_, rfl, ?_⟩
  refine l_val rfl rfl rfl (r_fieldAddr (n := 0) rfl Tryz.underlying43 rfl Tryz.sizeOf26 rfl) ?_
  refine l_new_do rfl rfl (r_store 1 rfl Tryz.sizeOf26 rfl hL hE rfl rfl rfl rfl (fun h => absurd h (Nat.not_lt.2 hb4))) ?_
  rintro w ⟨hL, hE, hz, hk⟩
  refine l_nil ?_
  refine c_ops ?_
  replace hL : Has _ (.row w0.heap.size 3 1 (Value.slice A12 (fat l n).why.length c12) (fat l n).why.length ((fat l n).why.map (Value.int .i64)) :: .blk b4 (.cells #[.int .i64 (fat l n).a, .int .i64 (fat l n).b, (Value.slice A12 (fat l n).why.length c12)] 43 (0, 0)) :: .row w0.heap.size 43 3 v (fv).length ((fv).map fcell).flatten :: (fv).map (fres 3 w0.heap.size)) := hL
  refine mv' rfl rfl rfl rfl ?_
  refine l_val rfl rfl rfl (r_load_agg (vs := [.int .i64 (fat l n).a, .int .i64 (fat l n).b, (Value.slice A12 (fat l n).why.length c12)]) rfl Tryz.isAgg43 Tryz.sizeOf43 rfl (blk_raw (cs := #[.int .i64 (fat l n).a, .int .i64 (fat l n).b, (Value.slice A12 (fat l n).why.length c12)]) (hL.get 1 rfl) rfl)) ?_
  refine l_new rfl rfl rfl (n_slice (cells := #[.int .i64 (fat l n).a, .int .i64 (fat l n).b, (Value.slice A12 (fat l n).why.length c12)]) rfl Tryz.underlying25 Tryz.sizeOf43 Tryz.zeroValue43 rfl rfl (fill_fact _ _ _) hL hE) ?_
  rintro _ w ⟨s17, rfl, hs17, hL, hE, hX⟩
  refine l_new rfl rfl rfl (r_append (ys := fcell (fat l n, (Value.slice A12 (fat l n).why.length c12))) 3 rfl Tryz.underlying25 info_fact rfl (by decide) rfl rfl hL hE rfl rfl (blk_raw (cs := #[.int .i64 (fat l n).a, .int .i64 (fat l n).b, (Value.slice A12 (fat l n).why.length c12)]) (hL.get 0 rfl) rfl) (fun u hu => List.all_eq_true.1 (all3 h1v) u hu) (by omega) (by omega) (Nat.le_refl _) hE.size) ?_
  rintro _ w ⟨hL, hE, hk⟩
  obtain ⟨A4, c4, rfl⟩ := ownsRow_slice (hL.row 3 rfl)
  replace hL : Has w (.blk s17 (.cells #[.int .i64 (fat l n).a, .int .i64 (fat l n).b, (Value.slice A12 (fat l n).why.length c12)] 43 (0, 0)) :: .row w0.heap.size 3 1 (Value.slice A12 (fat l n).why.length c12) (fat l n).why.length ((fat l n).why.map (Value.int .i64)) :: .blk b4 (.cells #[.int .i64 (fat l n).a, .int .i64 (fat l n).b, (Value.slice A12 (fat l n).why.length c12)] 43 (0, 0)) :: .row w0.heap.size 43 3 (.slice A4 (fv.length + 1) c4) (fv ++ [(fat l n, (Value.slice A12 (fat l n).why.length c12))]).length ((fv ++ [(fat l n, (Value.slice A12 (fat l n).why.length c12))]).map fcell).flatten :: (fv).map (fres 3 w0.heap.size)) := by rw [← fcells_snoc, List.length_append]; exact hL
  refine as' rfl rfl rfl rfl ?_
  refine l_nil ?_
  refine c_ops ?_
  refine l_val rfl rfl rfl (r_add rfl rfl rfl) ?_
  refine mv' rfl rfl rfl rfl ?_
  refine l_nil ?_
  refine ag' ?_
  refine ⟨l.length - (n + 1), by omega, n + 1, (.slice A4 (fv.length + 1) c4), fv ++ [(fat l n, (Value.slice A12 (fat l n).why.length c12))], by omega, rfl, by show Value.int .i64 (IntKind.i64.wrap ((n : Int) + 1)) = _; rw [wrap_succ hnn hmx], rfl, by rw [take_snoc (fat_nat hnn), ← hfv]; simp, ?_, hE⟩
  rw [List.map_append (f := fres 3 w0.heap.size)]
  exact Has.perm (copy_perm _ _ _) (hL.tail.sub (.cons_cons _ (.cons _ (.refl _))))
 ·have hr8 := hb
  replace hb := of_decide_eq_false hb
  obtain rfl : n = l.length := by omega
  rw [List.take_length] at hfv
  refine c_exit ?_
  refine c_seq ?_
  refine c_ops ?_
  refine mv' rfl rfl rfl rfl ?_
  refine as' rfl rfl rfl rfl ?_
  refine l_nil ?_
  refine c_ret ?_
  exact ⟨v, fv, rfl, hfv, hL, hE⟩
end Go.Proofs.YtndophlnapjkhaaGreatDoor.Vc
namespace Go.Proofs.YtndophlnapjkhaaGreatDoor.Vc
open Go Go.RowKit
set_option linter.unusedVariables false
def smallL : List GNode := [⟨4, 0, ⟨#[]⟩, [], []⟩, ⟨2, 0, ⟨#[]⟩, [], []⟩, ⟨8, 0, ⟨#[]⟩, [], [0, 1]⟩, ⟨7, 0, ⟨#[]⟩, [⟨#[97]⟩], [0]⟩, ⟨7, 0, ⟨#[]⟩, [⟨#[97]⟩], [2]⟩, ⟨1, 0, ⟨#[]⟩, [], []⟩, ⟨9, 0, ⟨#[]⟩, [], [3]⟩]
theorem small_check : checkG smallL = 0 := by kernel_rfl
theorem small1 : findErr smallL [(0, 2)] = 0 ∧ allF smallL [(0, 2)] = ([0], [⟨0, 2, [0]⟩]) := ⟨by kernel_rfl, by kernel_rfl⟩
theorem small2 : findErr smallL [(3, 4)] = 0 ∧ allF smallL [(3, 4)] = ([0], [⟨3, 4, [0, 1]⟩, ⟨0, 2, [0]⟩]) := ⟨by kernel_rfl, by kernel_rfl⟩
theorem small3 : findErr smallL [(6, 4), (2, 5)] = 0 ∧ allF smallL [(6, 4), (2, 5)] = ([0, 3], [⟨6, 4, [-1, 1]⟩, ⟨3, 4, [0, 2]⟩, ⟨0, 2, [0]⟩, ⟨2, 5, [4, 5]⟩, ⟨0, 5, [0]⟩, ⟨1, 5, [0]⟩]) := ⟨by kernel_rfl, by kernel_rfl⟩
theorem small4 : findErr smallL [(2, 0)] = 160 := by kernel_rfl
theorem small5 : findErr smallL [(7, 0)] = 9 := by kernel_rfl
theorem small6 : checkF smallL [⟨0, 1, [0]⟩] = 0 ∧ firstF smallL [⟨0, 1, [0]⟩] = 0 := ⟨by kernel_rfl, by kernel_rfl⟩
theorem small7 : checkF smallL [⟨3, 4, [0, 0]⟩] = 0 ∧ firstF smallL [⟨3, 4, [0, 0]⟩] = 0 := ⟨by kernel_rfl, by kernel_rfl⟩
theorem small8 : checkF smallL [⟨5, 0, [0]⟩] = 0 ∧ hereF smallL [⟨5, 0, [0]⟩] 0 = true := ⟨by kernel_rfl, by kernel_rfl⟩
theorem small9 : checkF smallL [⟨0, 5, [0]⟩] = 0 ∧ hereF smallL [⟨0, 5, [0]⟩] 0 = false ∧ onF smallL (fat [⟨0, 5, [0]⟩] 0) = [] := ⟨by kernel_rfl, by kernel_rfl, by kernel_rfl⟩
end Go.Proofs.YtndophlnapjkhaaGreatDoor.Vc
namespace Go.Proofs.YtndophlnapjkhaaGreatDoor.Vc
open Go Go.RowKit
set_option linter.unusedVariables false
set_option linter.unusedSimpArgs false
theorem Casts1_calls (w0 : World) (b : Nat) (Ag : Option Addr) (cg : Nat) (g : List GNode) (hg : Nodes w0 Ag cg g) (t : TypeId) (n : Int) (h0 : 0 ≤ n) (h1 : n < g.length) (hL : Has w0 [.blk b (.cells #[.slice Ag g.length cg] t (0, 0))]) : Calls Tryz.prog 41 [.int .i64 n, .pointer (some ⟨b, 0, none⟩)].toArray w0 fun en w' => en = .returned (.bool (dynB g n)) ∧ Ext0 w0 w' := by
 have hE : Ext0 w0 w0 := Ext.refl _ _
 obtain ⟨Ak, ck, Al, cl, hcell, _, _⟩ := hg.node n h0 h1
 refine calls [3] Tryz.func41 rfl rfl rfl rfl ?_
 refine c_seq ?_
 refine c_ops ?_
 refine as' rfl rfl rfl rfl ?_
 refine l_nil ?_
 refine c_seq ?_
 refine c_ops ?_
 refine l_val rfl rfl rfl (r_load_blk rfl Tryz.isAgg22 rfl (hL.get 0 rfl) rfl) ?_
 refine mv' rfl rfl rfl rfl ?_
 refine l_val rfl rfl rfl (r_indexAddr_sl rfl Tryz.underlying22 Tryz.sizeOf46 rfl hg.is rfl h0 h1) ?_
 refine l_val rfl rfl rfl (r_fieldAddr (n := 0) rfl Tryz.underlying46 rfl Tryz.sizeOf3 rfl) ?_
 refine l_val rfl rfl rfl (r_load rfl Tryz.isAgg3 rfl (Ext0.cells hE _ _ (hcell 0 _ rfl))) ?_
 refine l_val rfl rfl rfl (r_eql rfl rfl rfl) ?_
 refine as' rfl rfl rfl rfl ?_
 refine l_nil ?_
 refine c_ret ?_
 exact ⟨rfl, hE⟩
theorem Contains_any (St : Unit → World → Prop) (T : Nat → Prop) (R : World → Int → List Value → Prop) (p : Int → Bool) (w0 : World) (A : Option Addr) (n c : Nat) (xs : List Int) (fv : Value)
    (hx : ∀ W, Ext T w0 W → Sl W 1 R A n c xs) (hf : Tests Tryz.prog St T (D1 R) (fun (_ : Unit) x => (p x, ())) fv) (hs : St () w0) :
    Calls Tryz.prog 42 [.slice A n c, fv].toArray w0 fun en w' => en = .returned (.bool (xs.any p)) ∧ Ext T w0 w' ∧ St () w' :=
 (ContainsFunc_int St T R (fun _ x => (p x, ())) w0 A n c xs fv () hx hf hs).mono (fun en w' ⟨h1, h2, h3⟩ => ⟨by rw [h1, findS_pure], h2, h3⟩)
theorem unseen_le (n : Nat) (m : List (Int × Int)) : unseen n m ≤ n := by
 have := sum_le (fun (i : Nat) => if (getM m (i : Int)).isSome then 0 else 1) (fun _ => 1) (List.range n) (fun i _ => by split <;> omega)
 have h2 : ((List.range n).map fun _ => 1).sum = n := by
  have : ∀ (l : List Nat), (l.map fun _ => 1).sum = l.length := fun l => by
   induction l with
   | nil => rfl
   | cons x r ih => simp [ih]; omega
  rw [this, List.length_range]
 unfold unseen
 omega
set_option maxHeartbeats 8000000 in
theorem Casts_calls (w0 : World) (Ag : Option Addr) (cg : Nat) (g : List GNode) (hg : Nodes w0 Ag cg g) (hfit : Fits g) (hk0 : KeysLaid w0) (Af : Option Addr) (cf : Nat) (l : List Fact) (hl : FactsAt w0 Af cf l) (k : Int) :
    Calls Tryz.prog 19 [.slice Ag g.length cg, .slice Af l.length cf, .int .i64 k].toArray w0 fun en w' => ∃ b, en = .returned (.bool b) ∧ (b = true ↔ checkF g l = 0 ∧ 0 ≤ k ∧ k < l.length ∧ ∃ j, Reach g l k j ∧ hereF g l j = true) ∧ Ext0 w0 w' := by
 have hE : Ext0 w0 w0 := Ext.refl _ _
 have hL : Has w0 [] := trivial
 refine calls [6] Tryz.func19 rfl rfl rfl rfl ?_
 refine c_seq ?_
 refine c_ops ?_
 refine l_new rfl rfl rfl (n_box rfl hL hE) ?_
 rintro _ w ⟨b3, rfl, hb3, hL, hE, hX⟩
 refine as' rfl rfl rfl rfl ?_
 refine l_nil ?_
 refine c_seq ?_
 refine c_ops ?_
 refine l_val rfl rfl rfl (r_load_blk rfl Tryz.isAgg22 rfl (hL.get 0 rfl) rfl) ?_
 refine mv' rfl rfl rfl rfl ?_
 refine l_val rfl rfl rfl (r_build rfl rfl (built_facts _ _ _ _ _ _)) ?_
 refine l_new rfl rfl rfl (n_box rfl hL hE) ?_
 rintro _ w ⟨b17, rfl, hb17, hL, hE, hX⟩
 refine as' rfl rfl rfl rfl ?_
 refine l_nil ?_
 refine c_seq ?_
 refine c_seq ?_
 refine c_ops ?_
 refine mv' rfl rfl rfl rfl ?_
 refine mv' rfl rfl rfl rfl ?_
 refine l_by rfl rfl rfl (r_call rfl rfl Tryz.func40 rfl rfl) (has_calls _ b17 Ag cg g (hg.keep RNode.kept (Ext0.cells hE)) hfit (hk0.keep (Ext0.cells hE)) (by rw [blk_cell (hL.get 0 rfl)]; rfl) Af cf l (hl.keep RFact.kept (Ext0.cells hE)) (by rw [blk_cell (hL.get 0 rfl)]; rfl) k) ?_
 rintro _ w ⟨rfl, hX⟩
 replace hL := hL.ext0 hX
 replace hE := hE.step0 hX
 refine ⟨_, rfl, ?_⟩
 refine l_val rfl rfl rfl (r_not rfl rfl) ?_
 refine l_nil ?_
 refine c_cond rfl (fun hb => ?_) (fun hb => ?_)
 ·have hr21 := hb
  have hno : (decide (checkF g l = 0) && decide (0 ≤ k) && decide (k < l.length)) = false := by have h := hr21; rw [Bool.not_eq_true'] at h; exact h
  refine c_seq ?_
  refine c_ops ?_
  refine as' rfl rfl rfl rfl ?_
  refine l_nil ?_
  refine c_ret ?_
  exact ⟨false, rfl, ⟨fun h => absurd h (by decide), fun h => by simp [h.1, h.2.1, h.2.2.1] at hno⟩, hE⟩
 ·have hr21 := hb
  have hyes : checkF g l = 0 ∧ 0 ≤ k ∧ k < l.length := by have h := hr21; rw [Bool.not_eq_false'] at h; simp at h; exact ⟨h.1.1, h.1.2, h.2⟩
  obtain ⟨hok, hn, hall⟩ := checkF_ok hfit hyes.1
  have hl8 : l.length ≤ 8000 := by
   have h := hyes.1
   unfold checkF at h
   split at h
   ·split at h
    ·cases h
    ·omega
   ·rename_i h1; exact absurd h h1
  refine c_skip ?_
  refine c_seq ?_
  refine c_ops ?_
  refine l_val rfl rfl rfl (r_makeFunc rfl) ?_
  refine as' rfl rfl rfl rfl ?_
  refine l_nil ?_
  refine c_seq ?_
  refine c_ops ?_
  refine l_new rfl rfl rfl (n_makeMap rfl hL hE) ?_
  rintro _ w ⟨m23, rfl, hm23, hL, hE, hX⟩
  refine mv' rfl rfl rfl rfl ?_
  refine l_new_do rfl rfl (r_mapInsert (m := ([] : List (Int × Int))) (enc := Value.int .i64) (venc := Value.int .i64) (k := k) (v := (1 : Int)) 0 rfl Tryz.underlying76 (KeyLaw.int Tryz.underlying3) rfl rfl rfl hL hE rfl (fun h => absurd h (Nat.not_lt.2 hm23))) ?_
  rintro w ⟨hL, hE, hz, hk⟩
  refine mv' rfl rfl rfl rfl ?_
  refine as' rfl rfl rfl rfl ?_
  refine l_nil ?_
  refine c_seq ?_
  refine c_seq ?_
  refine c_ops ?_
  refine mv' rfl rfl rfl rfl ?_
  refine l_new rfl rfl rfl (n_slice rfl Tryz.underlying26 Tryz.sizeOf3 Tryz.zeroValue3 rfl rfl (fill_int1 _) hL hE) ?_
  rintro _ w ⟨s27, rfl, hs27, hL, hE, hX⟩
  refine as' rfl rfl rfl rfl ?_
  refine l_nil ?_
  refine c_block ?_
  refine c_loop [6, 10, 11, 13, 28, 29, 30, 31, 32, 33, 34, 35, 36, 37, 38, 39, 40, 41, 42, 43, 44, 45, 46, 47, 48, 49, 50, 51, 52, 53, 54, 55, 56, 57, 58, 59, 60, 61, 62, 63, 64, 65, 66, 67, 68, 69, 70] (fun m1 e w => ∃ (mm : List (Int × Int)) (q : List Int) (bq off cap : Nat) (cur : Array Value), m1 = 2 * unseen l.length mm + q.length ∧ m1 ≤ 2 * l.length + 1 ∧ e 10 = .slice (some ⟨bq, off, none⟩) q.length cap ∧ QAt cur off cap q ∧ BfsIn g l k mm q none ∧ (bq < w0.heap.size → False) ∧ Has w [.blk bq (.cells cur 3 (0, 0)), .blk m23 (mapObj (Value.int .i64) (Value.int .i64) mm), .blk b17 (.cells #[.slice Ag g.length cg, .slice Af l.length cf] 51 (0, 0)), .blk b3 (.cells #[.slice Ag g.length cg] 22 (0, 0))] ∧ Ext0 w0 w) (2 * unseen l.length [(k, 1)] + 1) ?_ ?_
  ·exact ⟨[(k, 1)], [k], s27, 0, 1, #[.int .i64 k], rfl, by have := unseen_le l.length [(k, (1 : Int))]; omega, rfl, ⟨by simp, by simp, fun i x hi => by cases i with | zero => (simp at hi; subst hi; rfl) | succ i => simp at hi⟩, Bfs.begin hyes.2.1 hyes.2.2, fun h => absurd h (Nat.not_lt.2 hs27), hL, hE⟩
  intro m1 e w hI
  obtain ⟨mm, q, bq, off, cap, cur, hm, hm2, h10, hq, hB, hS, hL, hE⟩ := hI
  refine c_know h10 ?_
  obtain ⟨M, hM⟩ : ∃ M, M = m1 := ⟨_, rfl⟩
  refine c_seq ?_
  refine c_seq ?_
  refine c_ops ?_
  refine mv' rfl rfl rfl rfl ?_
  refine l_val rfl rfl rfl (r_len rfl Tryz.underlying26 rfl) ?_
  refine l_val rfl rfl rfl (r_gtr rfl rfl rfl) ?_
  refine l_nil ?_
  refine c_cond rfl (fun hb => ?_) (fun hb => ?_)
  ·have hr30 := hb
   replace hb := of_decide_eq_true hb
   obtain ⟨i0, q', rfl⟩ : ∃ i0 q', q = i0 :: q' := by
    cases q with
    | nil => simp at hb
    | cons a r => exact ⟨a, r, rfl⟩
   have hi0 : 0 ≤ i0 ∧ i0 < l.length ∧ Reach g l k i0 := by
    have h := hB.queue i0 List.mem_cons_self
    cases hv : getM mm i0 with
    | none => exact absurd hv h
    | some v => exact (hB.vals i0 v hv).2
   obtain ⟨A1, c1, hfc, hfw⟩ := hl.fact i0 hi0.1 hi0.2.1
   have hfm := fat_mem hi0.1 hi0.2.1
   have hfo := (formed_ok (hall _ hfm)).1
   have hfi := (formed_ok (hall _ hfm)).2
   have hqm : (i0 :: q').length ≤ 9223372036854775807 := by omega
   refine c_skip ?_
   refine c_block ?_
   refine c_seq ?_
   refine c_ops ?_
   refine mv' rfl rfl rfl rfl ?_
   refine mv' rfl rfl rfl rfl ?_
   refine l_val rfl rfl rfl (r_indexAddr_sl rfl Tryz.underlying26 Tryz.sizeOf3 rfl (fun _ => rfl) rfl (by decide) (by simp)) ?_
   refine l_val rfl rfl rfl (r_load (v := .int .i64 i0) rfl Tryz.isAgg3 rfl ((hq.sl (hL.get 0 rfl) hqm).int 0 (by decide) (by simp))) ?_
   refine l_val rfl rfl rfl (r_indexAddr_sl rfl Tryz.underlying25 Tryz.sizeOf43 rfl hl.is rfl hi0.1 hi0.2.1) ?_
   refine l_val rfl rfl rfl (r_load_agg (vs := [.int .i64 (fat l i0).a, .int .i64 (fat l i0).b, .slice A1 (fat l i0).why.length c1]) rfl Tryz.isAgg43 Tryz.sizeOf43 rfl (fun j v hj => Ext0.cells hE _ _ (hfc j v hj))) ?_
   refine l_new rfl rfl rfl (n_alloc rfl Tryz.zeroValue43 hL hE) ?_
   rintro _ w ⟨b11, rfl, hb11, hL, hE, hX⟩
   refine l_new_do rfl rfl (r_store 0 rfl Tryz.sizeOf43 rfl hL hE rfl rfl rfl rfl (fun h => absurd h (Nat.not_lt.2 hb11))) ?_
   rintro w ⟨hL, hE, hz, hk⟩
   refine l_nil ?_
   refine c_seq ?_
   refine c_ops ?_
   refine mv' rfl rfl rfl rfl ?_
   refine l_new rfl rfl rfl (n_pop rfl Tryz.underlying26 Tryz.sizeOf3 rfl rfl hq) ?_
   rintro _ w ⟨off2, rfl, hq2, rfl⟩
   refine as' rfl rfl rfl rfl ?_
   refine l_nil ?_
   refine c_seq ?_
   refine c_merge [39, 40, 41, 42, 43, 44, 45, 46, 47, 48, 49, 50, 51] (fun e w => e 51 = .bool (hereF g l i0) ∧ Has w [.blk b11 (.cells #[.int .i64 (fat l i0).a, .int .i64 (fat l i0).b, .slice A1 (fat l i0).why.length c1] 43 (0, 0)), .blk bq (.cells cur 3 (0, 0)), .blk m23 (mapObj (Value.int .i64) (Value.int .i64) mm), .blk b17 (.cells #[.slice Ag g.length cg, .slice Af l.length cf] 51 (0, 0)), .blk b3 (.cells #[.slice Ag g.length cg] 22 (0, 0))] ∧ Ext0 w0 w) ?_ ?_
   ·skip
    refine c_ops ?_
    refine mv' rfl rfl rfl rfl ?_
    refine l_val rfl rfl rfl (r_fieldAddr (n := 0) rfl Tryz.underlying43 rfl Tryz.sizeOf3 rfl) ?_
    refine l_val rfl rfl rfl (r_load_blk rfl Tryz.isAgg3 rfl (hL.get 0 rfl) rfl) ?_
    refine l_by rfl rfl rfl (r_call rfl rfl Tryz.func41 rfl rfl) (Casts1_calls _ b3 Ag cg g (hg.keep RNode.kept (Ext0.cells hE)) _ _ hfo.a.1 hfo.a.2 (hL.sub (.cons _ (.cons _ (.cons _ (.cons _ (.cons_cons _ .slnil))))))) ?_
    rintro _ w ⟨rfl, hX⟩
    replace hL := hL.ext0 hX
    replace hE := hE.step0 hX
    refine ⟨_, rfl, ?_⟩
    refine mv' rfl rfl rfl rfl ?_
    refine l_case 43 rfl (fun hb => ?_) (fun hb => ?_)
    ·have hr43 := hb
     refine l_val rfl rfl rfl (r_load_blk rfl Tryz.isAgg22 rfl (hL.get 4 rfl) rfl) ?_
     refine l_val rfl rfl rfl (r_fieldAddr (n := 0) rfl Tryz.underlying43 rfl Tryz.sizeOf3 rfl) ?_
     refine l_val rfl rfl rfl (r_load_blk rfl Tryz.isAgg3 rfl (hL.get 0 rfl) rfl) ?_
     refine l_by rfl rfl rfl (r_call rfl rfl Tryz.func43 rfl rfl) (Members_calls _ Ag cg g (hg.keep RNode.kept (Ext0.cells hE)) hok.fits (fat l i0).b) ?_
     rintro _ w ⟨v, rfl, hrow, hX⟩
     replace hL := hL.ext0 hX
     replace hE := hE.step0 hX
     have hofI := Sl.ofInts (l := membersG g (fat l i0).b) hrow
     obtain ⟨A2, c2, hv2, hmem, _⟩ := hofI
     subst hv2
     refine ⟨_, rfl, ?_⟩
     refine mv' rfl rfl rfl rfl ?_
     have hT : Tests Tryz.prog (fun (_ : Unit) W => Has W [.blk b3 (.cells #[.slice Ag g.length cg] 22 (0, 0))] ∧ Nodes W Ag cg g) (fun _ => False) (D1 (fun W s cs => RInt W s cs ∧ (0 ≤ s ∧ s < g.length))) (fun _ n => (dynB g n, ())) (.func (.func 41) #[] #[.pointer (some ⟨b3, 0, none⟩)]) := ⟨_, _, _, _, _, rfl, Tryz.func41, rfl, rfl, fun _ n v W hs hv => (by
      obtain rfl : v = .int .i64 n := by injection hv.1
      exact (Casts1_calls W b3 Ag cg g hs.2 _ n hv.2.1 hv.2.2 hs.1).mono (fun en w' ⟨h1, h2⟩ => ⟨h1, h2, hs.1.ext0 h2, hs.2.keep RNode.kept (Ext0.cells h2)⟩))⟩
     refine l_by rfl rfl rfl (r_call rfl rfl Tryz.func42 rfl rfl) (Contains_any (fun (_ : Unit) W => Has W [.blk b3 (.cells #[.slice Ag g.length cg] 22 (0, 0))] ∧ Nodes W Ag cg g) (fun _ => False) (fun W s cs => RInt W s cs ∧ (0 ≤ s ∧ s < g.length)) (dynB g) _ _ _ _ (membersG g (fat l i0).b) _ (fun W hW => (hmem.keep RInt.kept (Ext0.cells hW)).and (fun s hs => ⟨(hok.members hs).1, (hok.members hs).2.1⟩)) hT ⟨hL.sub (.cons _ (.cons _ (.cons _ (.cons _ (.cons_cons _ .slnil))))), hg.keep RNode.kept (Ext0.cells hE)⟩) ?_
     rintro _ w ⟨rfl, hX, hY⟩
     replace hL := hL.ext0 hX
     replace hE := hE.step0 hX
     refine ⟨_, rfl, ?_⟩
     refine l_val rfl rfl rfl (r_not rfl rfl) ?_
     refine l_val rfl rfl rfl (r_pick rfl rfl) ?_
     refine l_nil ?_
     refine ag' ?_
     exact ⟨congrArg Value.bool (by simp only [hereF, hr43, Bool.true_and, Bool.and_true, Bool.false_and, Bool.and_false, Bool.true_or, Bool.or_true, Bool.false_or, Bool.or_false, Bool.not_true, Bool.not_false, cond_true, cond_false]), hL, hE⟩
    ·have hr43 := hb
     refine l_not rfl rfl rfl ?_
     refine l_not rfl rfl rfl ?_
     refine l_not rfl rfl rfl ?_
     refine l_not rfl rfl rfl ?_
     refine l_not rfl rfl rfl ?_
     refine l_not rfl rfl rfl ?_
     refine l_not rfl rfl rfl ?_
     refine l_val rfl rfl rfl (r_pick rfl rfl) ?_
     refine l_nil ?_
     refine ag' ?_
     exact ⟨congrArg Value.bool (by simp only [hereF, hr43, Bool.true_and, Bool.and_true, Bool.false_and, Bool.and_false, Bool.true_or, Bool.or_true, Bool.false_or, Bool.or_false, Bool.not_true, Bool.not_false, cond_true, cond_false]), hL, hE⟩
   rintro e w hI
   obtain ⟨h51, hL, hE⟩ := hI
   refine c_know h51 ?_
   refine c_cond rfl (fun hb => ?_) (fun hb => ?_)
   ·have hr51 := hb
    refine c_seq ?_
    refine c_ops ?_
    refine as' rfl rfl rfl rfl ?_
    refine l_nil ?_
    refine c_ret ?_
    exact ⟨true, rfl, ⟨fun _ => ⟨hyes.1, hyes.2.1, hyes.2.2, i0, hi0.2.2, hb⟩, fun _ => rfl⟩, hE⟩
   ·have hr51 := hb
    have hB2 := hB.pop hb
    have hlen0 : (i0 :: q').length = q'.length + 1 := rfl
    refine c_skip ?_
    refine c_seq ?_
    refine c_ops ?_
    refine mv' rfl rfl rfl rfl ?_
    refine l_val rfl rfl rfl (r_load_blk_agg rfl Tryz.isAgg43 Tryz.sizeOf43 rfl (hL.get 0 rfl) rfl) ?_
    refine l_by rfl rfl rfl (r_call rfl rfl Tryz.func44 rfl rfl) (on_calls _ b17 Ag cg g (hg.keep RNode.kept (Ext0.cells hE)) hok (by rw [blk_cell (hL.get 3 rfl)]; rfl) (fat l i0) A1 c1 (hfw.keep RInt.kept (Ext0.cells hE)) hfo) ?_
    rintro _ w ⟨A7, c7, rfl, honI, hX⟩
    replace hL := hL.ext0 hX
    replace hE := hE.step0 hX
    have hon := honI w0 hfw
    refine ⟨_, rfl, ?_⟩
    refine l_val rfl rfl rfl (r_len rfl Tryz.underlying26 rfl) ?_
    refine mv' rfl rfl rfl rfl ?_
    refine l_nil ?_
    refine c_block ?_
    refine c_loop [10, 13, 56, 57, 58, 59, 60, 61, 62, 63, 64, 65, 66, 67, 68, 69, 70] (fun m1 e w => ∃ (n : Nat) (mm : List (Int × Int)) (q : List Int) (bq off cap : Nat) (cur : Array Value), n ≤ (onF g (fat l i0)).length ∧ m1 = (onF g (fat l i0)).length - n ∧ 2 * unseen l.length mm + q.length < M ∧ e 56 = .int .i64 n ∧ e 10 = .slice (some ⟨bq, off, none⟩) q.length cap ∧ QAt cur off cap q ∧ BfsIn g l k mm q (some (i0, n)) ∧ (bq < w0.heap.size → False) ∧ Has w [.blk b11 (.cells #[.int .i64 (fat l i0).a, .int .i64 (fat l i0).b, .slice A1 (fat l i0).why.length c1] 43 (0, 0)), .blk bq (.cells cur 3 (0, 0)), .blk m23 (mapObj (Value.int .i64) (Value.int .i64) mm), .blk b17 (.cells #[.slice Ag g.length cg, .slice Af l.length cf] 51 (0, 0)), .blk b3 (.cells #[.slice Ag g.length cg] 22 (0, 0))] ∧ Ext0 w0 w) (onF g (fat l i0)).length ?_ ?_
    ·exact ⟨0, mm, q', bq, off2, cap - 1, cur, Nat.zero_le _, rfl, by omega, rfl, rfl, hq2, hB2, hS, hL, hE⟩
    intro m1 e w hI
    obtain ⟨n, mm, q, bq, off, cap, cur, hnl, hmn, hMm, h56, h10, hq, hB3, hS, hL, hE⟩ := hI
    refine c_know h56 ?_
    refine c_know (t := 10) (by exact h10) ?_
    refine c_seq ?_
    refine c_ops ?_
    refine l_val rfl rfl rfl (r_lss rfl rfl rfl) ?_
    refine l_nil ?_
    refine c_seq ?_
    refine c_cond rfl (fun hb => ?_) (fun hb => ?_)
    ·have hr57 := hb
     replace hb := of_decide_eq_true hb
     have hnn : n < (onF g (fat l i0)).length := by omega
     obtain ⟨x, hx⟩ : ∃ x, x = iat (onF g (fat l i0)) n := ⟨_, rfl⟩
     have hxn : (onF g (fat l i0))[n]? = some x := by rw [hx]; exact iat_nat hnn
     have hxi := hfi x (List.mem_of_getElem? hxn)
     refine c_skip ?_
     refine c_seq ?_
     refine c_block ?_
     refine c_seq ?_
     refine c_ops ?_
     refine l_val rfl rfl rfl (r_indexAddr_sl rfl Tryz.underlying26 Tryz.sizeOf3 rfl hon.is rfl (by omega) (by omega)) ?_
     refine l_val rfl rfl rfl (r_load (v := .int .i64 x) rfl Tryz.isAgg3 rfl (by rw [hx]; exact (hon.keep RInt.kept (Ext0.cells hE)).int n (by omega) (by omega))) ?_
     refine as' rfl rfl rfl rfl ?_
     refine l_nil ?_
     refine c_seq ?_
     refine c_ops ?_
     refine mv' rfl rfl rfl rfl ?_
     refine mv' rfl rfl rfl rfl ?_
     refine l_val rfl rfl rfl (r_lookup_int (k := x) rfl Tryz.underlying76 (KeyLaw.int Tryz.underlying3) Tryz.zeroValue3 rfl rfl (hL.get 2 rfl)) ?_
     refine l_val rfl rfl rfl (r_eql rfl rfl rfl) ?_
     refine l_nil ?_
     refine c_cond rfl (fun hb => ?_) (fun hb => ?_)
     ·have hr63 := hb
      replace hb := of_decide_eq_true hb
      have hxnone : getM mm x = none := by
       cases hv : getM mm x with
       | none => rfl
       | some v =>
        rw [hv, (hB3.vals x v hv).1] at hb
        cases hb
      have hBn := hB3.new hxn hxi
      have hun := unseen_new hxnone hxi.1 hxi.2
      refine c_seq ?_
      refine c_ops ?_
      refine mv' rfl rfl rfl rfl ?_
      refine mv' rfl rfl rfl rfl ?_
      refine l_new_do rfl rfl (r_mapUpdate (k := x) (v := (1 : Int)) 2 rfl Tryz.underlying76 (KeyLaw.int Tryz.underlying3) rfl rfl rfl hL hE rfl (fun h => absurd h (Nat.not_lt.2 hm23))) ?_
      rintro w ⟨hL, hE, hz, hk⟩
      refine l_nil ?_
      refine c_ops ?_
      refine mv' rfl rfl rfl rfl ?_
      refine mv' rfl rfl rfl rfl ?_
      refine l_new rfl rfl rfl (n_slice rfl Tryz.underlying26 Tryz.sizeOf3 Tryz.zeroValue3 rfl rfl (fill_int1 _) hL hE) ?_
      rintro _ w ⟨s68, rfl, hs68, hL, hE, hX⟩
      refine l_new rfl rfl rfl (n_push (v := x) 2 rfl Tryz.underlying26 info_int rfl rfl hL hE rfl hq (by rw [blk_cell (hL.get 0 rfl)]; rfl) hS (by omega)) ?_
      rintro _ w ⟨bq2, off2, cap2, cur2, rfl, hq2, hL, hE, hS2⟩
      refine as' rfl rfl rfl rfl ?_
      refine l_nil ?_
      refine c_ops ?_
      refine l_val rfl rfl rfl (r_add rfl rfl rfl) ?_
      refine mv' rfl rfl rfl rfl ?_
      refine l_nil ?_
      refine ag' ?_
      first | exact ⟨(onF g (fat l i0)).length - (n + 1), by omega, n + 1, setM mm x 1, q ++ [x], bq2, off2, cap2, cur2, by omega, rfl, by simp; omega, by show Value.int .i64 (IntKind.i64.wrap ((n : Int) + 1)) = _; rw [wrap_succ hnn hon.max], congrArg (fun n => Value.slice (some ⟨bq2, off2, none⟩) n cap2) (by simp), hq2, hBn, hS2, hL.tail, hE⟩ | exact ⟨(onF g (fat l i0)).length - (n + 1), by omega, n + 1, mm, q, bq, off, cap, cur, by omega, rfl, hMm, by show Value.int .i64 (IntKind.i64.wrap ((n : Int) + 1)) = _; rw [wrap_succ hnn hon.max], rfl, hq, hBs, hS, hL, hE⟩
     ·have hr63 := hb
      replace hb := of_decide_eq_false hb
      have hxsome : getM mm x ≠ none := by intro h; rw [h] at hb; exact hb rfl
      have hBs := hB3.seen hxn hxsome
      refine c_skip ?_
      refine c_ops ?_
      refine l_val rfl rfl rfl (r_add rfl rfl rfl) ?_
      refine mv' rfl rfl rfl rfl ?_
      refine l_nil ?_
      refine ag' ?_
      first | exact ⟨(onF g (fat l i0)).length - (n + 1), by omega, n + 1, setM mm x 1, q ++ [x], bq2, off2, cap2, cur2, by omega, rfl, by simp; omega, by show Value.int .i64 (IntKind.i64.wrap ((n : Int) + 1)) = _; rw [wrap_succ hnn hon.max], congrArg (fun n => Value.slice (some ⟨bq2, off2, none⟩) n cap2) (by simp), hq2, hBn, hS2, hL.tail, hE⟩ | exact ⟨(onF g (fat l i0)).length - (n + 1), by omega, n + 1, mm, q, bq, off, cap, cur, by omega, rfl, hMm, by show Value.int .i64 (IntKind.i64.wrap ((n : Int) + 1)) = _; rw [wrap_succ hnn hon.max], rfl, hq, hBs, hS, hL, hE⟩
    ·have hr57 := hb
     replace hb := of_decide_eq_false hb
     obtain rfl : n = (onF g (fat l i0)).length := by omega
     have hB4 := hB3.finish
     refine c_exit ?_
     refine ag' ?_
     exact ⟨2 * unseen l.length mm + q.length, by omega, mm, q, bq, off, cap, cur, rfl, by omega, rfl, hq, hB4, hS, hL.tail, hE⟩
  ·have hr30 := hb
   replace hb := of_decide_eq_false hb
   obtain rfl : q = [] := List.eq_nil_of_length_eq_zero (by omega)
   refine c_exit ?_
   refine c_seq ?_
   refine c_ops ?_
   refine as' rfl rfl rfl rfl ?_
   refine l_nil ?_
   refine c_ret ?_
   exact ⟨false, rfl, ⟨fun h => absurd h (by decide), fun h => by
   obtain ⟨_, _, _, j, hj, hh⟩ := h
   rw [(hB.all hj).2] at hh
   cases hh⟩, hE⟩
end Go.Proofs.YtndophlnapjkhaaGreatDoor.Vc
namespace Go.Proofs.YtndophlnapjkhaaGreatDoor.Vc
open Go Go.RowKit
set_option linter.unusedVariables false
set_option linter.unusedSimpArgs false
theorem Els.cons {α : Type} {w : World} {sz : Nat} {R : World → α → List Value → Prop} {l : List α} {css : List (List Value)} {x : α} {cs : List Value} (hl : cs.length = sz) (hx : R w x cs) (h : Els w sz R l css) : Els w sz R (x :: l) (cs :: css) := by
 refine ⟨by simp [h.many], fun i y ds h1 h2 => ?_⟩
 cases i with
 | zero =>
  cases h1; cases h2
  exact ⟨hl, hx⟩
 | succ i => exact h.each i y ds (by simpa using h1) (by simpa using h2)
theorem Sl.ofBlkN {α : Type} {R : World → α → List Value → Prop} {w : World} {sz b n c : Nat} {cs : Array Value} {t : TypeId} {fr : Nat × Nat} {l : List α} {css : List (List Value)} (hb : w.heap[b]? = some (.cells cs t fr)) (hE : Els w sz R l css) (hcs : cs.toList = css.flatten) (hn : l.length = n) (hc : n ≤ c) (hm : n ≤ 9223372036854775807) : Sl w sz R (some ⟨b, 0, none⟩) n c l := by
 refine ⟨hn, hc, hm, fun _ => rfl, fun i x hi => ?_⟩
 have hil : i < css.length := by rw [hE.many]; exact (List.getElem?_eq_some_iff.1 hi).1
 obtain ⟨h1, h2⟩ := hE.each i x _ hi (List.getElem?_eq_getElem hil)
 refine ⟨_, h1, h2, fun j u hj => ?_⟩
 have hjl : j < sz := by rw [← h1]; exact (List.getElem?_eq_some_iff.1 hj).1
 have hf := flat_get hE.all i j _ (List.getElem?_eq_getElem hil) hjl
 rw [hj, ← hcs] at hf
 rw [show (adr (some (⟨b, 0, none⟩ : Addr))) = ⟨b, 0, none⟩ from rfl, blk_add, blk_cell hb, Nat.zero_add]
 simpa using hf
theorem lit_ints {w : World} {b n : Nat} {cs : Array Value} {t : TypeId} {fr : Nat × Nat} {l : List Int} (hb : w.heap[b]? = some (.cells cs t fr)) (hcs : cs.toList = l.map (Value.int .i64)) (hn : l.length = n) (hm : n ≤ 9223372036854775807) : Sl w 1 RInt (some ⟨b, 0, none⟩) n n l :=
 Sl.ofBlkN hb (Els.ints w l) (by rw [hcs, flat_ints]) hn (Nat.le_refl _) hm
theorem lit_str {w : World} {b : Nat} {s : ByteArray} {t : TypeId} {fr : Nat × Nat} (hb : w.heap[b]? = some (.cells #[.string s] t fr)) : Sl w 1 RStr (some ⟨b, 0, none⟩) 1 1 [s] :=
 Sl.ofBlkN hb (Els.strs w [s]) rfl rfl (Nat.le_refl _) (by decide)
theorem lit_pairs {w : World} {b n : Nat} {cs : Array Value} {t : TypeId} {fr : Nat × Nat} {l : FP} (hb : w.heap[b]? = some (.cells cs t fr)) (hcs : cs.toList = (l.map cells2).flatten) (hn : l.length = n) (hm : n ≤ 9223372036854775807) : Sl w 2 RPair (some ⟨b, 0, none⟩) n n l :=
 Sl.ofBlkN hb (Els.pairs w l) hcs hn (Nat.le_refl _) hm
theorem FindOut.known {w0 w' : World} {g : List GNode} {ps : FP} {en : Ending} {at_ : List Int} {l : List Fact} (h : FindOut w0 g ps en w') (h0 : findErr g ps = 0) (ha : allF g ps = (at_, l)) :
    ∃ A c Ai ci, en = .returned (.tuple #[.slice A l.length c, .slice Ai at_.length ci, .int .i64 0]) ∧ FactsAt w' A c l ∧ Ints w' Ai ci at_ ∧ Ext0 w0 w' := by
 have hf : foundF g ps = (at_, l) := by unfold foundF; rw [if_pos h0, ha]
 unfold FindOut at h
 rw [hf, h0] at h
 exact h
theorem FindOut.err {w0 w' : World} {g : List GNode} {ps : FP} {en : Ending} {k : Int} (h : FindOut w0 g ps en w') (hk : k ≠ 0) (h0 : findErr g ps = k) :
    ∃ A c Ai ci, en = .returned (.tuple #[.slice A 0 c, .slice Ai 0 ci, .int .i64 k]) ∧ Ext0 w0 w' := by
 have hf : foundF g ps = ([], []) := by unfold foundF; rw [if_neg (by rw [h0]; exact hk)]
 unfold FindOut at h
 rw [hf, h0] at h
 obtain ⟨A, c, Ai, ci, h1, _, _, h2⟩ := h
 exact ⟨A, c, Ai, ci, h1, h2⟩
theorem Same_true (w0 : World) (A : Option Addr) (c : Nat) (a : List Fact) (ha : FactsAt w0 A c a) (B : Option Addr) (d : Nat) (hb' : FactsAt w0 B d a) :
    Calls Tryz.prog 22 [.slice A a.length c, .slice B a.length d].toArray w0 fun en w' => en = .returned (.bool true) ∧ Ext0 w0 w' :=
 (Same_calls w0 A c a ha B d a hb').mono fun en w' h => ⟨by rw [h.1, decide_eq_true rfl], h.2⟩
theorem EqInts_true (w0 : World) (A : Option Addr) (c : Nat) (a : List Int) (ha : Ints w0 A c a) (B : Option Addr) (d : Nat) (hb' : Ints w0 B d a) :
    Calls Tryz.prog 10 [.slice A a.length c, .slice B a.length d].toArray w0 fun en w' => en = .returned (.bool true) ∧ Ext0 w0 w' :=
 (EqInts_calls w0 A c a ha B d a hb').mono fun en w' h => ⟨by rw [h.1, decide_eq_true rfl], h.2⟩
theorem fits_small : Fits smallL := by
 refine ⟨fun x hx => ⟨?_, fun s hs => ?_⟩, fun x hx => ?_⟩
 ·have : ∀ x ∈ smallL, x.name.size ≤ 9223372036854775807 := by decide
  exact this x hx
 ·have : ∀ x ∈ smallL, ∀ s ∈ x.keys, s.size ≤ 9223372036854775807 := by decide
  exact this x hx s hs
 ·have : ∀ x ∈ smallL, x.l.length ≤ 1000000000000 := by decide
  exact this x hx
theorem built_n0 (k : Int) : Tryz.prog.built 46 [(0, .int .i64 k)] = some #[.int .i64 k, .int .i64 0, .string ⟨#[]⟩, .slice none 0 0, .slice none 0 0] := by kernel_rfl
theorem built_nl (k : Int) (A : Option Addr) (n c : Nat) : Tryz.prog.built 46 [(0, .int .i64 k), (4, .slice A n c)] = some #[.int .i64 k, .int .i64 0, .string ⟨#[]⟩, .slice none 0 0, .slice A n c] := by kernel_rfl
theorem built_nkl (k : Int) (A B : Option Addr) (n c m d : Nat) : Tryz.prog.built 46 [(0, .int .i64 k), (3, .slice B m d), (4, .slice A n c)] = some #[.int .i64 k, .int .i64 0, .string ⟨#[]⟩, .slice B m d, .slice A n c] := by kernel_rfl
theorem built_f3 (a b : Int) (A : Option Addr) (n c : Nat) : Tryz.prog.built 43 [(0, .int .i64 a), (1, .int .i64 b), (2, .slice A n c)] = some #[.int .i64 a, .int .i64 b, .slice A n c] := by kernel_rfl
theorem built_p2 (a b : Int) : Tryz.prog.built 32 [(0, .int .i64 a), (1, .int .i64 b)] = some #[.int .i64 a, .int .i64 b] := by kernel_rfl
theorem fill_int2 (a b : Int) : Instr.fill (fun i => some (i * 1, 1)) ((List.range (2 * 1)).map ((Value.int .i64 0).cells[· % (Value.int .i64 0).cells.size]!)).toArray [(0, .int .i64 a), (1, .int .i64 b)] = some #[.int .i64 a, .int .i64 b] := by kernel_rfl
theorem fill_pair2 (a b c d : Int) : Instr.fill (fun i => some (i * 2, 2)) ((List.range (2 * 2)).map ((Value.agg #[.int .i64 0, .int .i64 0]).cells[· % (Value.agg #[.int .i64 0, .int .i64 0]).cells.size]!)).toArray [(0, .agg #[.int .i64 a, .int .i64 b]), (1, .agg #[.int .i64 c, .int .i64 d])] = some #[.int .i64 a, .int .i64 b, .int .i64 c, .int .i64 d] := by kernel_rfl
theorem fill_fact2 (a0 b0 : Int) (v0 : Value) (a1 b1 : Int) (v1 : Value) : Instr.fill (fun i => some (i * 3, 3)) ((List.range (2 * 3)).map ((Value.agg #[.int .i64 0, .int .i64 0, .slice none 0 0]).cells[· % (Value.agg #[.int .i64 0, .int .i64 0, .slice none 0 0]).cells.size]!)).toArray [(0, .agg #[.int .i64 a0, .int .i64 b0, v0]), (1, .agg #[.int .i64 a1, .int .i64 b1, v1])] = some #[.int .i64 a0, .int .i64 b0, v0, .int .i64 a1, .int .i64 b1, v1] := by kernel_rfl
theorem fill_fact6 (a0 b0 : Int) (v0 : Value) (a1 b1 : Int) (v1 : Value) (a2 b2 : Int) (v2 : Value) (a3 b3 : Int) (v3 : Value) (a4 b4 : Int) (v4 : Value) (a5 b5 : Int) (v5 : Value) : Instr.fill (fun i => some (i * 3, 3)) ((List.range (6 * 3)).map ((Value.agg #[.int .i64 0, .int .i64 0, .slice none 0 0]).cells[· % (Value.agg #[.int .i64 0, .int .i64 0, .slice none 0 0]).cells.size]!)).toArray [(0, .agg #[.int .i64 a0, .int .i64 b0, v0]), (1, .agg #[.int .i64 a1, .int .i64 b1, v1]), (2, .agg #[.int .i64 a2, .int .i64 b2, v2]), (3, .agg #[.int .i64 a3, .int .i64 b3, v3]), (4, .agg #[.int .i64 a4, .int .i64 b4, v4]), (5, .agg #[.int .i64 a5, .int .i64 b5, v5])] = some #[.int .i64 a0, .int .i64 b0, v0, .int .i64 a1, .int .i64 b1, v1, .int .i64 a2, .int .i64 b2, v2, .int .i64 a3, .int .i64 b3, v3, .int .i64 a4, .int .i64 b4, v4, .int .i64 a5, .int .i64 b5, v5] := by kernel_rfl
abbrev nd (k : Int) (B : Option Addr) (m : Nat) (A : Option Addr) (n : Nat) : Array Value := #[.int .i64 k, .int .i64 0, .string ⟨#[]⟩, .slice B m m, .slice A n n]
abbrev sb (s : Nat) : Option Addr := some ⟨s, 0, none⟩
set_option maxHeartbeats 2000000 in
theorem smallG_calls (w0 : World) : Calls Tryz.prog 24 ([] : List Value).toArray w0 fun en w' => ∃ A c, en = .returned (.slice A smallL.length c) ∧ Nodes w' A c smallL ∧ Ext0 w0 w' := by
 have hE : Ext0 w0 w0 := Ext.refl _ _
 have hL : Has w0 [] := trivial
 refine calls [0] Tryz.func24 rfl rfl rfl rfl ?_
 refine c_seq ?_
 refine c_ops ?_
 refine as' rfl rfl rfl rfl ?_
 refine l_nil ?_
 refine c_seq ?_
 refine c_ops ?_
 refine l_val rfl rfl rfl (r_build rfl rfl (built_n0 _)) ?_
 refine l_val rfl rfl rfl (r_build rfl rfl (built_n0 _)) ?_
 refine l_new rfl rfl rfl (n_slice rfl Tryz.underlying26 Tryz.sizeOf3 Tryz.zeroValue3 rfl rfl (fill_int2 _ _) hL hE) ?_
 rintro _ w ⟨s3, rfl, hs3, hL, hE, hX⟩
 refine l_val rfl rfl rfl (r_build rfl rfl (built_nl _ _ _ _)) ?_
 refine l_new rfl rfl rfl (n_slice rfl Tryz.underlying44 Tryz.sizeOf9 Tryz.zeroValue9 rfl rfl rfl hL hE) ?_
 rintro _ w ⟨s5, rfl, hs5, hL, hE, hX⟩
 refine l_new rfl rfl rfl (n_slice rfl Tryz.underlying26 Tryz.sizeOf3 Tryz.zeroValue3 rfl rfl (fill_int1 _) hL hE) ?_
 rintro _ w ⟨s6, rfl, hs6, hL, hE, hX⟩
 refine l_val rfl rfl rfl (r_build rfl rfl (built_nkl _ _ _ _ _ _ _)) ?_
 refine l_new rfl rfl rfl (n_slice rfl Tryz.underlying44 Tryz.sizeOf9 Tryz.zeroValue9 rfl rfl rfl hL hE) ?_
 rintro _ w ⟨s8, rfl, hs8, hL, hE, hX⟩
 refine l_new rfl rfl rfl (n_slice rfl Tryz.underlying26 Tryz.sizeOf3 Tryz.zeroValue3 rfl rfl (fill_int1 _) hL hE) ?_
 rintro _ w ⟨s9, rfl, hs9, hL, hE, hX⟩
 refine l_val rfl rfl rfl (r_build rfl rfl (built_nkl _ _ _ _ _ _ _)) ?_
 refine l_val rfl rfl rfl (r_build rfl rfl (built_n0 _)) ?_
 refine l_new rfl rfl rfl (n_slice rfl Tryz.underlying26 Tryz.sizeOf3 Tryz.zeroValue3 rfl rfl (fill_int1 _) hL hE) ?_
 rintro _ w ⟨s12, rfl, hs12, hL, hE, hX⟩
 refine l_val rfl rfl rfl (r_build rfl rfl (built_nl _ _ _ _)) ?_
 refine l_new rfl rfl rfl (n_slice (cells := #[.int .i64 4, .int .i64 0, .string ⟨#[]⟩, .slice none 0 0, .slice none 0 0, .int .i64 2, .int .i64 0, .string ⟨#[]⟩, .slice none 0 0, .slice none 0 0, .int .i64 8, .int .i64 0, .string ⟨#[]⟩, .slice none 0 0, .slice (sb s3) 2 2, .int .i64 7, .int .i64 0, .string ⟨#[]⟩, .slice (sb s5) 1 1, .slice (sb s6) 1 1, .int .i64 7, .int .i64 0, .string ⟨#[]⟩, .slice (sb s8) 1 1, .slice (sb s9) 1 1, .int .i64 1, .int .i64 0, .string ⟨#[]⟩, .slice none 0 0, .slice none 0 0, .int .i64 9, .int .i64 0, .string ⟨#[]⟩, .slice none 0 0, .slice (sb s12) 1 1]) rfl Tryz.underlying22 Tryz.sizeOf46 Tryz.zeroValue46 rfl rfl (by kernel_rfl) hL hE) ?_
 rintro _ w ⟨s14, rfl, hs14, hL, hE, hX⟩
 refine as' rfl rfl rfl rfl ?_
 refine l_nil ?_
 refine c_ret ?_
 exact ⟨some ⟨s14, 0, none⟩, 7, rfl, Sl.ofBlkN (hL.get 0 rfl) (Els.cons rfl ⟨none, 0, none, 0, rfl, Sl.nil _ _ _ _ _, Sl.nil _ _ _ _ _⟩ (Els.cons rfl ⟨none, 0, none, 0, rfl, Sl.nil _ _ _ _ _, Sl.nil _ _ _ _ _⟩ (Els.cons rfl ⟨none, 0, _, 2, rfl, Sl.nil _ _ _ _ _, lit_ints (hL.get 6 rfl) rfl rfl (by decide)⟩ (Els.cons rfl ⟨_, 1, _, 1, rfl, lit_str (hL.get 5 rfl), lit_ints (hL.get 4 rfl) rfl rfl (by decide)⟩ (Els.cons rfl ⟨_, 1, _, 1, rfl, lit_str (hL.get 3 rfl), lit_ints (hL.get 2 rfl) rfl rfl (by decide)⟩ (Els.cons rfl ⟨none, 0, none, 0, rfl, Sl.nil _ _ _ _ _, Sl.nil _ _ _ _ _⟩ (Els.cons rfl ⟨none, 0, _, 1, rfl, Sl.nil _ _ _ _ _, lit_ints (hL.get 1 rfl) rfl rfl (by decide)⟩ (Els.nil _ _ _)))))))) rfl rfl (Nat.le_refl _) (by decide), hE⟩
theorem finds_calls (w0 : World) (hk0 : KeysLaid w0) (Ap : Option Addr) (cp : Nat) (ps : FP) (hp : PairsAt w0 Ap cp ps) (hps : ps.length ≤ 1000000) (Aw : Option Addr) (cw : Nat) (want : List Fact) (hw : FactsAt w0 Aw cw want) (Ai : Option Addr) (ci : Nat) (at_ : List Int) (hat : Ints w0 Ai ci at_) (h0 : findErr smallL ps = 0) (ha : allF smallL ps = (at_, want)) :
    Calls Tryz.prog 33 [.slice Ap ps.length cp, .slice Aw want.length cw, .slice Ai at_.length ci].toArray w0 fun en w' => en = .returned (.bool true) ∧ Ext0 w0 w' := by
 have hE : Ext0 w0 w0 := Ext.refl _ _
 have hL : Has w0 [] := trivial
 refine calls [6] Tryz.func33 rfl rfl rfl rfl ?_
 refine c_seq ?_
 refine c_ops ?_
 refine as' rfl rfl rfl rfl ?_
 refine l_nil ?_
 refine c_seq ?_
 refine c_ops ?_
 refine l_by rfl rfl rfl (r_call rfl rfl Tryz.func24 rfl rfl) (smallG_calls _) ?_
 rintro _ w ⟨A0, c0, rfl, hg, hX⟩
 replace hE := hE.trans hX
 refine ⟨_, rfl, ?_⟩
 refine mv' rfl rfl rfl rfl ?_
 refine l_by rfl rfl rfl (r_call rfl rfl Tryz.func7 rfl rfl) (Find_calls _ A0 c0 smallL hg fits_small (by decide) (hk0.keep (Ext0.cells hE)) Ap cp ps (hp.keep RPair.kept (Ext0.cells hE)) hps) ?_
 rintro _ w hF
 obtain ⟨A1, c1, A2, c2, rfl, hf1, hi1, hX⟩ := hF.known h0 ha
 replace hE := hE.trans hX
 refine ⟨_, rfl, ?_⟩
 refine mv' rfl rfl rfl rfl ?_
 refine l_val rfl rfl rfl (r_extract rfl rfl rfl) ?_
 refine l_val rfl rfl rfl (r_extract rfl rfl rfl) ?_
 refine l_val rfl rfl rfl (r_extract rfl rfl rfl) ?_
 refine as' rfl rfl rfl rfl ?_
 refine as' rfl rfl rfl rfl ?_
 refine as' rfl rfl rfl rfl ?_
 refine l_nil ?_
 refine c_seq ?_
 refine c_ops ?_
 refine mv' rfl rfl rfl rfl ?_
 refine l_val rfl rfl rfl (r_eql rfl rfl rfl) ?_
 refine mv' rfl rfl rfl rfl ?_
 refine mv' rfl rfl rfl rfl ?_
 refine mv' rfl rfl rfl rfl ?_
 refine l_by rfl rfl rfl (r_call rfl rfl Tryz.func22 rfl rfl) (Same_true _ A1 c1 want hf1 Aw cw (hw.keep RFact.kept (Ext0.cells hE))) ?_
 rintro _ w ⟨rfl, hX⟩
 replace hE := hE.trans hX
 replace hi1 := hi1.keep RInt.kept (Ext0.cells hX)
 refine ⟨_, rfl, ?_⟩
 refine l_val rfl rfl rfl (r_pick rfl rfl) ?_
 refine mv' rfl rfl rfl rfl ?_
 refine mv' rfl rfl rfl rfl ?_
 refine mv' rfl rfl rfl rfl ?_
 refine l_by rfl rfl rfl (r_call rfl rfl Tryz.func10 rfl rfl) (EqInts_true _ A2 c2 at_ hi1 Ai ci (hat.keep RInt.kept (Ext0.cells hE))) ?_
 rintro _ w ⟨rfl, hX⟩
 replace hE := hE.trans hX
 refine ⟨_, rfl, ?_⟩
 refine l_val rfl rfl rfl (r_pick rfl rfl) ?_
 refine as' rfl rfl rfl rfl ?_
 refine l_nil ?_
 refine c_ret ?_
 exact ⟨rfl, hE⟩
theorem reach_none {g : List GNode} {l : List Fact} {k j : Int} (h : Reach g l k j) (h0 : onF g (fat l k) = []) : j = k := by
 induction h with
 | refl => rfl
 | step _ hj ih => rw [ih, h0] at hj; simp at hj
set_option maxHeartbeats 8000000 in
theorem works_calls (w0 : World) (hk0 : KeysLaid w0) : Calls Tryz.prog 11 ([] : List Value).toArray w0 fun en w' => en = .returned (.bool true) ∧ Ext0 w0 w' := by
 have hE : Ext0 w0 w0 := Ext.refl _ _
 have hL : Has w0 [] := trivial
 refine calls [0] Tryz.func11 rfl rfl rfl rfl ?_
 refine c_seq ?_
 refine c_ops ?_
 refine as' rfl rfl rfl rfl ?_
 refine l_nil ?_
 refine c_seq ?_
 refine c_seq ?_
 refine c_ops ?_
 refine l_val rfl rfl rfl (r_build rfl rfl (built_p2 _ _)) ?_
 refine l_new rfl rfl rfl (n_slice rfl Tryz.underlying23 Tryz.sizeOf32 Tryz.zeroValue32 rfl rfl (fill_pair _ _) hL hE) ?_
 rintro _ w ⟨s12, rfl, hs12, hL, hE, hX⟩
 first | replace hg := hg.keep RNode.kept (Ext0.cells hX) | skip
 refine l_new rfl rfl rfl (n_slice rfl Tryz.underlying26 Tryz.sizeOf3 Tryz.zeroValue3 rfl rfl (fill_int1 _) hL hE) ?_
 rintro _ w ⟨s13, rfl, hs13, hL, hE, hX⟩
 first | replace hg := hg.keep RNode.kept (Ext0.cells hX) | skip
 refine l_val rfl rfl rfl (r_build rfl rfl (built_f3 _ _ _ _ _)) ?_
 refine l_new rfl rfl rfl (n_slice rfl Tryz.underlying25 Tryz.sizeOf43 Tryz.zeroValue43 rfl rfl (fill_fact _ _ _) hL hE) ?_
 rintro _ w ⟨s15, rfl, hs15, hL, hE, hX⟩
 first | replace hg := hg.keep RNode.kept (Ext0.cells hX) | skip
 refine l_new rfl rfl rfl (n_slice rfl Tryz.underlying26 Tryz.sizeOf3 Tryz.zeroValue3 rfl rfl (fill_int1 _) hL hE) ?_
 rintro _ w ⟨s16, rfl, hs16, hL, hE, hX⟩
 first | replace hg := hg.keep RNode.kept (Ext0.cells hX) | skip
 refine l_by rfl rfl rfl (r_call rfl rfl Tryz.func33 rfl rfl) (finds_calls _ (hk0.keep (Ext0.cells hE)) _ 1 [(0, 2)] (lit_pairs (hL.get 3 rfl) rfl rfl (by decide)) (by decide) _ 1 [⟨0, 2, [0]⟩] (Sl.ofBlkN (hL.get 1 rfl) (Els.cons rfl ⟨_, 1, rfl, lit_ints (hL.get 2 rfl) rfl rfl (by decide)⟩ (Els.nil _ _ _)) rfl rfl (Nat.le_refl _) (by decide)) _ 1 [0] (lit_ints (hL.get 0 rfl) rfl rfl (by decide)) small1.1 small1.2) ?_
 rintro _ w ⟨rfl, hX⟩
 replace hL := hL.ext0 hX
 replace hE := hE.trans hX
 refine ⟨_, rfl, ?_⟩
 refine l_val rfl rfl rfl (r_not rfl rfl) ?_
 refine mv' rfl rfl rfl rfl ?_
 refine l_val rfl rfl rfl (r_build rfl rfl (built_p2 _ _)) ?_
 refine l_new rfl rfl rfl (n_slice rfl Tryz.underlying23 Tryz.sizeOf32 Tryz.zeroValue32 rfl rfl (fill_pair _ _) hL hE) ?_
 rintro _ w ⟨s21, rfl, hs21, hL, hE, hX⟩
 first | replace hg := hg.keep RNode.kept (Ext0.cells hX) | skip
 refine l_new rfl rfl rfl (n_slice rfl Tryz.underlying26 Tryz.sizeOf3 Tryz.zeroValue3 rfl rfl (fill_int2 _ _) hL hE) ?_
 rintro _ w ⟨s22, rfl, hs22, hL, hE, hX⟩
 first | replace hg := hg.keep RNode.kept (Ext0.cells hX) | skip
 refine l_val rfl rfl rfl (r_build rfl rfl (built_f3 _ _ _ _ _)) ?_
 refine l_new rfl rfl rfl (n_slice rfl Tryz.underlying26 Tryz.sizeOf3 Tryz.zeroValue3 rfl rfl (fill_int1 _) hL hE) ?_
 rintro _ w ⟨s24, rfl, hs24, hL, hE, hX⟩
 first | replace hg := hg.keep RNode.kept (Ext0.cells hX) | skip
 refine l_val rfl rfl rfl (r_build rfl rfl (built_f3 _ _ _ _ _)) ?_
 refine l_new rfl rfl rfl (n_slice rfl Tryz.underlying25 Tryz.sizeOf43 Tryz.zeroValue43 rfl rfl (fill_fact2 _ _ _ _ _ _) hL hE) ?_
 rintro _ w ⟨s26, rfl, hs26, hL, hE, hX⟩
 first | replace hg := hg.keep RNode.kept (Ext0.cells hX) | skip
 refine l_new rfl rfl rfl (n_slice rfl Tryz.underlying26 Tryz.sizeOf3 Tryz.zeroValue3 rfl rfl (fill_int1 _) hL hE) ?_
 rintro _ w ⟨s27, rfl, hs27, hL, hE, hX⟩
 first | replace hg := hg.keep RNode.kept (Ext0.cells hX) | skip
 refine l_by rfl rfl rfl (r_call rfl rfl Tryz.func33 rfl rfl) (finds_calls _ (hk0.keep (Ext0.cells hE)) _ 1 [(3, 4)] (lit_pairs (hL.get 4 rfl) rfl rfl (by decide)) (by decide) _ 2 [⟨3, 4, [0, 1]⟩, ⟨0, 2, [0]⟩] (Sl.ofBlkN (hL.get 1 rfl) (Els.cons rfl ⟨_, 2, rfl, lit_ints (hL.get 3 rfl) rfl rfl (by decide)⟩ (Els.cons rfl ⟨_, 1, rfl, lit_ints (hL.get 2 rfl) rfl rfl (by decide)⟩ (Els.nil _ _ _))) rfl rfl (Nat.le_refl _) (by decide)) _ 1 [0] (lit_ints (hL.get 0 rfl) rfl rfl (by decide)) small2.1 small2.2) ?_
 rintro _ w ⟨rfl, hX⟩
 replace hL := hL.ext0 hX
 replace hE := hE.trans hX
 refine ⟨_, rfl, ?_⟩
 refine l_val rfl rfl rfl (r_not rfl rfl) ?_
 refine l_val rfl rfl rfl (r_pick rfl rfl) ?_
 refine l_nil ?_
 refine c_no rfl ?_
 refine c_skip ?_
 refine c_seq ?_
 refine c_seq ?_
 refine c_ops ?_
 refine l_val rfl rfl rfl (r_build rfl rfl (built_p2 _ _)) ?_
 refine l_val rfl rfl rfl (r_build rfl rfl (built_p2 _ _)) ?_
 refine l_new rfl rfl rfl (n_slice rfl Tryz.underlying23 Tryz.sizeOf32 Tryz.zeroValue32 rfl rfl (fill_pair2 _ _ _ _) hL hE) ?_
 rintro _ w ⟨s33, rfl, hs33, hL, hE, hX⟩
 first | replace hg := hg.keep RNode.kept (Ext0.cells hX) | skip
 refine l_new rfl rfl rfl (n_slice rfl Tryz.underlying26 Tryz.sizeOf3 Tryz.zeroValue3 rfl rfl (fill_int2 _ _) hL hE) ?_
 rintro _ w ⟨s34, rfl, hs34, hL, hE, hX⟩
 first | replace hg := hg.keep RNode.kept (Ext0.cells hX) | skip
 refine l_val rfl rfl rfl (r_build rfl rfl (built_f3 _ _ _ _ _)) ?_
 refine l_new rfl rfl rfl (n_slice rfl Tryz.underlying26 Tryz.sizeOf3 Tryz.zeroValue3 rfl rfl (fill_int2 _ _) hL hE) ?_
 rintro _ w ⟨s36, rfl, hs36, hL, hE, hX⟩
 first | replace hg := hg.keep RNode.kept (Ext0.cells hX) | skip
 refine l_val rfl rfl rfl (r_build rfl rfl (built_f3 _ _ _ _ _)) ?_
 refine l_new rfl rfl rfl (n_slice rfl Tryz.underlying26 Tryz.sizeOf3 Tryz.zeroValue3 rfl rfl (fill_int1 _) hL hE) ?_
 rintro _ w ⟨s38, rfl, hs38, hL, hE, hX⟩
 first | replace hg := hg.keep RNode.kept (Ext0.cells hX) | skip
 refine l_val rfl rfl rfl (r_build rfl rfl (built_f3 _ _ _ _ _)) ?_
 refine l_new rfl rfl rfl (n_slice rfl Tryz.underlying26 Tryz.sizeOf3 Tryz.zeroValue3 rfl rfl (fill_int2 _ _) hL hE) ?_
 rintro _ w ⟨s40, rfl, hs40, hL, hE, hX⟩
 first | replace hg := hg.keep RNode.kept (Ext0.cells hX) | skip
 refine l_val rfl rfl rfl (r_build rfl rfl (built_f3 _ _ _ _ _)) ?_
 refine l_new rfl rfl rfl (n_slice rfl Tryz.underlying26 Tryz.sizeOf3 Tryz.zeroValue3 rfl rfl (fill_int1 _) hL hE) ?_
 rintro _ w ⟨s42, rfl, hs42, hL, hE, hX⟩
 first | replace hg := hg.keep RNode.kept (Ext0.cells hX) | skip
 refine l_val rfl rfl rfl (r_build rfl rfl (built_f3 _ _ _ _ _)) ?_
 refine l_new rfl rfl rfl (n_slice rfl Tryz.underlying26 Tryz.sizeOf3 Tryz.zeroValue3 rfl rfl (fill_int1 _) hL hE) ?_
 rintro _ w ⟨s44, rfl, hs44, hL, hE, hX⟩
 first | replace hg := hg.keep RNode.kept (Ext0.cells hX) | skip
 refine l_val rfl rfl rfl (r_build rfl rfl (built_f3 _ _ _ _ _)) ?_
 refine l_new rfl rfl rfl (n_slice rfl Tryz.underlying25 Tryz.sizeOf43 Tryz.zeroValue43 rfl rfl (fill_fact6 _ _ _ _ _ _ _ _ _ _ _ _ _ _ _ _ _ _) hL hE) ?_
 rintro _ w ⟨s46, rfl, hs46, hL, hE, hX⟩
 first | replace hg := hg.keep RNode.kept (Ext0.cells hX) | skip
 refine l_new rfl rfl rfl (n_slice rfl Tryz.underlying26 Tryz.sizeOf3 Tryz.zeroValue3 rfl rfl (fill_int2 _ _) hL hE) ?_
 rintro _ w ⟨s47, rfl, hs47, hL, hE, hX⟩
 first | replace hg := hg.keep RNode.kept (Ext0.cells hX) | skip
 refine l_by rfl rfl rfl (r_call rfl rfl Tryz.func33 rfl rfl) (finds_calls _ (hk0.keep (Ext0.cells hE)) _ 2 [(6, 4), (2, 5)] (lit_pairs (hL.get 8 rfl) rfl rfl (by decide)) (by decide) _ 6 [⟨6, 4, [-1, 1]⟩, ⟨3, 4, [0, 2]⟩, ⟨0, 2, [0]⟩, ⟨2, 5, [4, 5]⟩, ⟨0, 5, [0]⟩, ⟨1, 5, [0]⟩] (Sl.ofBlkN (hL.get 1 rfl) (Els.cons rfl ⟨_, 2, rfl, lit_ints (hL.get 7 rfl) rfl rfl (by decide)⟩ (Els.cons rfl ⟨_, 2, rfl, lit_ints (hL.get 6 rfl) rfl rfl (by decide)⟩ (Els.cons rfl ⟨_, 1, rfl, lit_ints (hL.get 5 rfl) rfl rfl (by decide)⟩ (Els.cons rfl ⟨_, 2, rfl, lit_ints (hL.get 4 rfl) rfl rfl (by decide)⟩ (Els.cons rfl ⟨_, 1, rfl, lit_ints (hL.get 3 rfl) rfl rfl (by decide)⟩ (Els.cons rfl ⟨_, 1, rfl, lit_ints (hL.get 2 rfl) rfl rfl (by decide)⟩ (Els.nil _ _ _))))))) rfl rfl (Nat.le_refl _) (by decide)) _ 2 [0, 3] (lit_ints (hL.get 0 rfl) rfl rfl (by decide)) small3.1 small3.2) ?_
 rintro _ w ⟨rfl, hX⟩
 replace hL := hL.ext0 hX
 replace hE := hE.trans hX
 refine ⟨_, rfl, ?_⟩
 refine l_val rfl rfl rfl (r_not rfl rfl) ?_
 refine l_nil ?_
 refine c_no rfl ?_
 refine c_skip ?_
 refine c_seq ?_
 refine c_ops ?_
 refine l_by rfl rfl rfl (r_call rfl rfl Tryz.func24 rfl rfl) (smallG_calls _) ?_
 rintro _ w ⟨A0, c0, rfl, hg, hX⟩
 replace hL := hL.ext0 hX
 replace hE := hE.trans hX
 refine ⟨_, rfl, ?_⟩
 refine l_val rfl rfl rfl (r_build rfl rfl (built_p2 _ _)) ?_
 refine l_new rfl rfl rfl (n_slice rfl Tryz.underlying23 Tryz.sizeOf32 Tryz.zeroValue32 rfl rfl (fill_pair _ _) hL hE) ?_
 rintro _ w ⟨s53, rfl, hs53, hL, hE, hX⟩
 first | replace hg := hg.keep RNode.kept (Ext0.cells hX) | skip
 refine l_by rfl rfl rfl (r_call rfl rfl Tryz.func7 rfl rfl) (Find_calls _ A0 c0 smallL hg fits_small (by decide) (hk0.keep (Ext0.cells hE)) _ 1 [(2, 0)] (lit_pairs (hL.get 0 rfl) rfl rfl (by decide)) (by decide)) ?_
 rintro _ w hF
 obtain ⟨A1, c1, A2, c2, rfl, hX⟩ := hF.err (by decide) small4
 replace hL := hL.ext0 hX
 replace hE := hE.trans hX
 refine ⟨_, rfl, ?_⟩
 refine mv' rfl rfl rfl rfl ?_
 refine l_val rfl rfl rfl (r_extract rfl rfl rfl) ?_
 refine l_val rfl rfl rfl (r_extract rfl rfl rfl) ?_
 refine l_val rfl rfl rfl (r_extract rfl rfl rfl) ?_
 refine as' rfl rfl rfl rfl ?_
 refine as' rfl rfl rfl rfl ?_
 refine as' rfl rfl rfl rfl ?_
 refine l_nil ?_
 refine c_seq ?_
 refine c_ops ?_
 refine l_by rfl rfl rfl (r_call rfl rfl Tryz.func24 rfl rfl) (smallG_calls _) ?_
 rintro _ w ⟨A0, c0, rfl, hg, hX⟩
 replace hL := hL.ext0 hX
 replace hE := hE.trans hX
 refine ⟨_, rfl, ?_⟩
 refine l_val rfl rfl rfl (r_build rfl rfl (built_p2 _ _)) ?_
 refine l_new rfl rfl rfl (n_slice rfl Tryz.underlying23 Tryz.sizeOf32 Tryz.zeroValue32 rfl rfl (fill_pair _ _) hL hE) ?_
 rintro _ w ⟨s61, rfl, hs61, hL, hE, hX⟩
 first | replace hg := hg.keep RNode.kept (Ext0.cells hX) | skip
 refine l_by rfl rfl rfl (r_call rfl rfl Tryz.func7 rfl rfl) (Find_calls _ A0 c0 smallL hg fits_small (by decide) (hk0.keep (Ext0.cells hE)) _ 1 [(7, 0)] (lit_pairs (hL.get 0 rfl) rfl rfl (by decide)) (by decide)) ?_
 rintro _ w hF
 obtain ⟨A1, c1, A2, c2, rfl, hX⟩ := hF.err (by decide) small5
 replace hL := hL.ext0 hX
 replace hE := hE.trans hX
 refine ⟨_, rfl, ?_⟩
 refine mv' rfl rfl rfl rfl ?_
 refine l_val rfl rfl rfl (r_extract rfl rfl rfl) ?_
 refine l_val rfl rfl rfl (r_extract rfl rfl rfl) ?_
 refine l_val rfl rfl rfl (r_extract rfl rfl rfl) ?_
 refine as' rfl rfl rfl rfl ?_
 refine as' rfl rfl rfl rfl ?_
 refine as' rfl rfl rfl rfl ?_
 refine l_nil ?_
 refine c_seq ?_
 refine c_ops ?_
 refine l_by rfl rfl rfl (r_call rfl rfl Tryz.func24 rfl rfl) (smallG_calls _) ?_
 rintro _ w ⟨A0, c0, rfl, hg, hX⟩
 replace hL := hL.ext0 hX
 replace hE := hE.trans hX
 refine ⟨_, rfl, ?_⟩
 refine l_new rfl rfl rfl (n_slice rfl Tryz.underlying26 Tryz.sizeOf3 Tryz.zeroValue3 rfl rfl (fill_int1 _) hL hE) ?_
 rintro _ w ⟨s68, rfl, hs68, hL, hE, hX⟩
 first | replace hg := hg.keep RNode.kept (Ext0.cells hX) | skip
 refine l_val rfl rfl rfl (r_build rfl rfl (built_f3 _ _ _ _ _)) ?_
 refine l_new rfl rfl rfl (n_slice rfl Tryz.underlying25 Tryz.sizeOf43 Tryz.zeroValue43 rfl rfl (fill_fact _ _ _) hL hE) ?_
 rintro _ w ⟨s70, rfl, hs70, hL, hE, hX⟩
 first | replace hg := hg.keep RNode.kept (Ext0.cells hX) | skip
 refine l_by rfl rfl rfl (r_call rfl rfl Tryz.func13 rfl rfl) ((First_calls _ A0 c0 smallL hg fits_small (hk0.keep (Ext0.cells hE)) _ 1 [⟨0, 1, [0]⟩] (Sl.ofBlkN (hL.get 0 rfl) (Els.cons rfl ⟨_, 1, rfl, lit_ints (hL.get 1 rfl) rfl rfl (by decide)⟩ (Els.nil _ _ _)) rfl rfl (Nat.le_refl _) (by decide)))) ?_
 rintro _ w ⟨hen, hX⟩
 rw [if_pos small6.1, small6.1, small6.2] at hen
 subst hen
 replace hL := hL.ext0 hX
 replace hE := hE.trans hX
 refine ⟨_, rfl, ?_⟩
 refine mv' rfl rfl rfl rfl ?_
 refine l_val rfl rfl rfl (r_extract rfl rfl rfl) ?_
 refine l_val rfl rfl rfl (r_extract rfl rfl rfl) ?_
 refine as' rfl rfl rfl rfl ?_
 refine as' rfl rfl rfl rfl ?_
 refine l_nil ?_
 refine c_seq ?_
 refine c_ops ?_
 refine l_by rfl rfl rfl (r_call rfl rfl Tryz.func24 rfl rfl) (smallG_calls _) ?_
 rintro _ w ⟨A0, c0, rfl, hg, hX⟩
 replace hL := hL.ext0 hX
 replace hE := hE.trans hX
 refine ⟨_, rfl, ?_⟩
 refine l_new rfl rfl rfl (n_slice rfl Tryz.underlying26 Tryz.sizeOf3 Tryz.zeroValue3 rfl rfl (fill_int2 _ _) hL hE) ?_
 rintro _ w ⟨s76, rfl, hs76, hL, hE, hX⟩
 first | replace hg := hg.keep RNode.kept (Ext0.cells hX) | skip
 refine l_val rfl rfl rfl (r_build rfl rfl (built_f3 _ _ _ _ _)) ?_
 refine l_new rfl rfl rfl (n_slice rfl Tryz.underlying25 Tryz.sizeOf43 Tryz.zeroValue43 rfl rfl (fill_fact _ _ _) hL hE) ?_
 rintro _ w ⟨s78, rfl, hs78, hL, hE, hX⟩
 first | replace hg := hg.keep RNode.kept (Ext0.cells hX) | skip
 refine l_by rfl rfl rfl (r_call rfl rfl Tryz.func13 rfl rfl) ((First_calls _ A0 c0 smallL hg fits_small (hk0.keep (Ext0.cells hE)) _ 1 [⟨3, 4, [0, 0]⟩] (Sl.ofBlkN (hL.get 0 rfl) (Els.cons rfl ⟨_, 2, rfl, lit_ints (hL.get 1 rfl) rfl rfl (by decide)⟩ (Els.nil _ _ _)) rfl rfl (Nat.le_refl _) (by decide)))) ?_
 rintro _ w ⟨hen, hX⟩
 rw [if_pos small7.1, small7.1, small7.2] at hen
 subst hen
 replace hL := hL.ext0 hX
 replace hE := hE.trans hX
 refine ⟨_, rfl, ?_⟩
 refine mv' rfl rfl rfl rfl ?_
 refine l_val rfl rfl rfl (r_extract rfl rfl rfl) ?_
 refine l_val rfl rfl rfl (r_extract rfl rfl rfl) ?_
 refine as' rfl rfl rfl rfl ?_
 refine as' rfl rfl rfl rfl ?_
 refine l_nil ?_
 refine c_seq ?_
 refine c_ops ?_
 refine mv' rfl rfl rfl rfl ?_
 refine l_val rfl rfl rfl (r_eql rfl rfl rfl) ?_
 refine l_know (t := 83) (v := .bool true) rfl ?_
 refine mv' rfl rfl rfl rfl ?_
 refine mv' rfl rfl rfl rfl ?_
 refine l_val rfl rfl rfl (r_eql rfl rfl rfl) ?_
 refine l_know (t := 86) (v := .bool true) rfl ?_
 refine l_val rfl rfl rfl (r_pick rfl rfl) ?_
 refine l_know (t := 87) (v := .bool true) rfl ?_
 refine mv' rfl rfl rfl rfl ?_
 refine l_by rfl rfl rfl (r_call rfl rfl Tryz.func24 rfl rfl) (smallG_calls _) ?_
 rintro _ w ⟨A0, c0, rfl, hg, hX⟩
 replace hL := hL.ext0 hX
 replace hE := hE.trans hX
 refine ⟨_, rfl, ?_⟩
 refine l_new rfl rfl rfl (n_slice rfl Tryz.underlying26 Tryz.sizeOf3 Tryz.zeroValue3 rfl rfl (fill_int1 _) hL hE) ?_
 rintro _ w ⟨s90, rfl, hs90, hL, hE, hX⟩
 first | replace hg := hg.keep RNode.kept (Ext0.cells hX) | skip
 refine l_val rfl rfl rfl (r_build rfl rfl (built_f3 _ _ _ _ _)) ?_
 refine l_new rfl rfl rfl (n_slice rfl Tryz.underlying25 Tryz.sizeOf43 Tryz.zeroValue43 rfl rfl (fill_fact _ _ _) hL hE) ?_
 rintro _ w ⟨s92, rfl, hs92, hL, hE, hX⟩
 first | replace hg := hg.keep RNode.kept (Ext0.cells hX) | skip
 refine l_by rfl rfl rfl (r_call rfl rfl Tryz.func19 rfl rfl) ((Casts_calls _ A0 c0 smallL hg fits_small (hk0.keep (Ext0.cells hE)) _ 1 [⟨5, 0, [0]⟩] (Sl.ofBlkN (hL.get 0 rfl) (Els.cons rfl ⟨_, 1, rfl, lit_ints (hL.get 1 rfl) rfl rfl (by decide)⟩ (Els.nil _ _ _)) rfl rfl (Nat.le_refl _) (by decide)) 0)) ?_
 rintro _ w ⟨cb, hen, hcb, hX⟩
 have h8 : cb = true := hcb.2 ⟨small8.1, by decide, by decide, 0, .refl, small8.2⟩
 rw [h8] at hen
 subst hen
 replace hL := hL.ext0 hX
 replace hE := hE.trans hX
 refine ⟨_, rfl, ?_⟩
 refine l_val rfl rfl rfl (r_pick rfl rfl) ?_
 refine l_know (t := 94) (v := .bool true) rfl ?_
 refine mv' rfl rfl rfl rfl ?_
 refine l_by rfl rfl rfl (r_call rfl rfl Tryz.func24 rfl rfl) (smallG_calls _) ?_
 rintro _ w ⟨A0, c0, rfl, hg, hX⟩
 replace hL := hL.ext0 hX
 replace hE := hE.trans hX
 refine ⟨_, rfl, ?_⟩
 refine l_new rfl rfl rfl (n_slice rfl Tryz.underlying26 Tryz.sizeOf3 Tryz.zeroValue3 rfl rfl (fill_int1 _) hL hE) ?_
 rintro _ w ⟨s97, rfl, hs97, hL, hE, hX⟩
 first | replace hg := hg.keep RNode.kept (Ext0.cells hX) | skip
 refine l_val rfl rfl rfl (r_build rfl rfl (built_f3 _ _ _ _ _)) ?_
 refine l_new rfl rfl rfl (n_slice rfl Tryz.underlying25 Tryz.sizeOf43 Tryz.zeroValue43 rfl rfl (fill_fact _ _ _) hL hE) ?_
 rintro _ w ⟨s99, rfl, hs99, hL, hE, hX⟩
 first | replace hg := hg.keep RNode.kept (Ext0.cells hX) | skip
 refine l_by rfl rfl rfl (r_call rfl rfl Tryz.func19 rfl rfl) ((Casts_calls _ A0 c0 smallL hg fits_small (hk0.keep (Ext0.cells hE)) _ 1 [⟨0, 5, [0]⟩] (Sl.ofBlkN (hL.get 0 rfl) (Els.cons rfl ⟨_, 1, rfl, lit_ints (hL.get 1 rfl) rfl rfl (by decide)⟩ (Els.nil _ _ _)) rfl rfl (Nat.le_refl _) (by decide)) 0)) ?_
 rintro _ w ⟨cb, hen, hcb, hX⟩
 have h8 : cb = false := Bool.eq_false_iff.2 (fun h => by obtain ⟨_, _, _, j, hj, hh⟩ := hcb.1 h; rw [reach_none hj small9.2.2, small9.2.1] at hh; cases hh)
 rw [h8] at hen
 subst hen
 replace hL := hL.ext0 hX
 replace hE := hE.trans hX
 refine ⟨_, rfl, ?_⟩
 refine l_val rfl rfl rfl (r_not rfl rfl) ?_
 refine l_know (t := 101) (v := .bool true) rfl ?_
 refine l_val rfl rfl rfl (r_pick rfl rfl) ?_
 refine l_know (t := 102) (v := .bool true) rfl ?_
 refine mv' rfl rfl rfl rfl ?_
 refine mv' rfl rfl rfl rfl ?_
 refine l_val rfl rfl rfl (r_eql rfl rfl rfl) ?_
 refine l_know (t := 105) (v := .bool true) rfl ?_
 refine l_val rfl rfl rfl (r_pick rfl rfl) ?_
 refine l_know (t := 106) (v := .bool true) rfl ?_
 refine mv' rfl rfl rfl rfl ?_
 refine mv' rfl rfl rfl rfl ?_
 refine l_val rfl rfl rfl (r_eql rfl rfl rfl) ?_
 refine l_know (t := 109) (v := .bool true) rfl ?_
 refine l_val rfl rfl rfl (r_pick rfl rfl) ?_
 refine l_know (t := 110) (v := .bool true) rfl ?_
 refine mv' rfl rfl rfl rfl ?_
 refine mv' rfl rfl rfl rfl ?_
 refine l_val rfl rfl rfl (r_eql rfl rfl rfl) ?_
 refine l_know (t := 113) (v := .bool true) rfl ?_
 refine l_val rfl rfl rfl (r_pick rfl rfl) ?_
 refine l_know (t := 114) (v := .bool true) rfl ?_
 refine mv' rfl rfl rfl rfl ?_
 refine mv' rfl rfl rfl rfl ?_
 refine l_val rfl rfl rfl (r_eql rfl rfl rfl) ?_
 refine l_know (t := 117) (v := .bool true) rfl ?_
 refine l_val rfl rfl rfl (r_pick rfl rfl) ?_
 refine l_know (t := 118) (v := .bool true) rfl ?_
 refine as' rfl rfl rfl rfl ?_
 refine l_nil ?_
 refine c_ret ?_
 exact ⟨rfl, hE⟩
end Go.Proofs.YtndophlnapjkhaaGreatDoor.Vc
namespace Go.Proofs.YtndophlnapjkhaaGreatDoor.Vc
open Go Go.RowKit
set_option linter.unusedVariables false
set_option linter.unusedSimpArgs false
def cutS (s : ByteArray) : ByteArray := s.extract 0 (min s.size 20)
def cutN (x : GNode) : GNode := ⟨x.kind, x.num, cutS x.name, (x.keys.take 12).map cutS, x.l.take 12⟩
def cutF (g : List GNode) : List GNode := (g.take 16).map cutN
theorem cutF_len (g : List GNode) : (cutF g).length ≤ 16 := by simp [cutF]; omega
theorem cutS_size (s : ByteArray) : (cutS s).size ≤ 20 := by simp [cutS]; omega
theorem cutF_fits (g : List GNode) : Fits (cutF g) := by
 refine ⟨fun x hx => ?_, fun x hx => ?_⟩ <;> obtain ⟨y, _, rfl⟩ := List.mem_map.1 hx
 ·refine ⟨Nat.le_trans (cutS_size y.name) (by decide), fun s hs => ?_⟩
  obtain ⟨t, _, rfl⟩ := List.mem_map.1 hs
  exact Nat.le_trans (cutS_size t) (by decide)
 ·simp [cutN]; omega
theorem cut_nat (n k : Nat) : (if (k : Int) < (n : Int) then (k : Int) else (n : Int)).toNat = min n k := by
 split <;> omega
section
variable {P : Program} {w : World} {ρ : Operand → Value} {o : Oper}
theorem r_cutS {x i : Operand} {t : TypeId} {s : ByteArray} {k : IntKind} (h : o.op = .slice t x none (some i) none) (hu : P.underlying t = some .string) (hx : ρ x = .string s) (hi : ρ i = .int k (if (20 : Int) < (s.size : Int) then 20 else (s.size : Int))) : (execOp ρ o).run P w = .ok (.value (.string (cutS s))) w := by
 have := r_str_to (P := P) (w := w) h hu hx hi (by split <;> omega) (by split <;> omega)
 rw [show (20 : Int) = ((20 : Nat) : Int) from rfl, cut_nat] at this
 exact this
theorem r_cutL {x i : Operand} {t el : TypeId} {A : Option Addr} {n c sz : Nat} {k : IntKind} (h : o.op = .slice t x none (some i) none) (hu : P.underlying t = some (.slice el)) (hs : Sized P el sz) (hx : ρ x = .slice A n c) (hi : ρ i = .int k (if (12 : Int) < (n : Int) then 12 else (n : Int))) (hc : n ≤ c) : (execOp ρ o).run P w = .ok (.value (.slice A (min n 12) c)) w := by
 have := r_slice_to (P := P) (w := w) h hu hs hx hi (by split <;> omega) (by split <;> omega)
 rw [show (12 : Int) = ((12 : Nat) : Int) from rfl, cut_nat] at this
 exact this
end
theorem Sl.take {α : Type} {w : World} {sz : Nat} {R : World → α → List Value → Prop} {A : Option Addr} {n c : Nat} {xs : List α} (h : Sl w sz R A n c xs) (k : Nat) : Sl w sz R A (min n k) c (xs.take k) := by
 have h1 := h.len
 have h2 := h.cap
 have h3 := h.max
 refine ⟨by rw [List.length_take, h1, Nat.min_comm], by omega, by omega, fun hp => h.is (by omega), fun i x hi => ?_⟩
 rw [List.getElem?_take] at hi
 split at hi
 ·exact h.at_ i x hi
 ·cases hi
abbrev NV : Type := GNode × Value × Value
def ncell (x : NV) : List Value := [.int .i64 x.1.kind, .int .i64 x.1.num, .string x.1.name, x.2.1, x.2.2]
def nres (B : Nat) (x : NV) : List Res := [.row B 9 1 x.2.1 x.1.keys.length (x.1.keys.map Value.string), .row B 3 1 x.2.2 x.1.l.length (x.1.l.map (Value.int .i64))]
theorem ncells_snoc (nv : List NV) (x : NV) : (nv.map ncell).flatten ++ ncell x = ((nv ++ [x]).map ncell).flatten := by simp
theorem flat_strs (l : List ByteArray) : (l.map fun x => [Value.string x]).flatten = l.map Value.string := by
 induction l with
 | nil => rfl
 | cons x r ih => simp [ih]
theorem Sl.ofStrs {w : World} {base e n : Nat} {v : Value} {l : List ByteArray} (h : w.ownsRow base e 1 v n (l.map Value.string)) : ∃ A c, v = .slice A n c ∧ Sl w 1 RStr A n c l := by
 have hn : l.length = n := by have := h.1; simpa using this
 rw [← flat_strs] at h
 obtain ⟨A, c, h1, h2, _⟩ := Sl.ofRow h (Els.strs w l) hn
 exact ⟨A, c, h1, h2⟩
theorem Els.nodes {w : World} {B : Nat} {L : List Res} {nv : List NV} (h : Has w L) (hs : ∀ x ∈ nv, ∀ r ∈ nres B x, r ∈ L) : Els w 5 RNode (nv.map (·.1)) (nv.map ncell) := by
 refine ⟨by simp, fun i x cs h1 h2 => ?_⟩
 rw [List.getElem?_map, Option.map_eq_some_iff] at h1 h2
 obtain ⟨y, hy, rfl⟩ := h1
 obtain ⟨y', hy', rfl⟩ := h2
 rw [hy] at hy'
 cases hy'
 have hm := hs y (List.mem_of_getElem? hy)
 obtain ⟨Ak, ck, hk, hsk⟩ := Sl.ofStrs (h.mem (.row B 9 1 y.2.1 y.1.keys.length (y.1.keys.map Value.string)) (hm _ List.mem_cons_self))
 obtain ⟨Al, cl, hl, hsl, _⟩ := Sl.ofInts (h.mem (.row B 3 1 y.2.2 y.1.l.length (y.1.l.map (Value.int .i64))) (hm _ (List.mem_cons_of_mem _ List.mem_cons_self)))
 exact ⟨rfl, Ak, ck, Al, cl, by simp only [ncell, nodeCells, hk, hl], hsk, hsl⟩
theorem nodes_at {w : World} {B base e n n' c : Nat} {A : Option Addr} {L : List Res} {nv : List NV} (h : Has w L) (hs : ∀ x ∈ nv, ∀ r ∈ nres B x, r ∈ L) (hr : w.ownsRow base e 5 (.slice A n' c) n (nv.map ncell).flatten) (hn : nv.length = n) : Nodes w A c (nv.map (·.1)) ∧ n' = n := by
 obtain ⟨A', c', hv, hsl, _⟩ := Sl.ofRow hr (Els.nodes h hs) (by simpa using hn)
 injection hv with h1 h2 h3
 subst h1; subst h2; subst h3
 refine ⟨?_, rfl⟩
 have hl : (nv.map (·.1)).length = n' := by simpa using hn
 unfold Nodes
 rw [hl]
 exact hsl
theorem info_str : (Tryz.prog.info? 9).map (fun i => (i.zero, i.size, i.bytes)) = some (some (.string ⟨#[]⟩), 1, 16) := by kernel_rfl
theorem info_node : (Tryz.prog.info? 46).map (fun i => (i.zero, i.size, i.bytes)) = some (some (.agg (nd 0 none 0 none 0)), 5, 80) := by kernel_rfl
theorem info_arr2 : (Tryz.prog.info? 32).map (fun i => (i.zero, i.size, i.bytes)) = some (some (.agg #[.int .i64 0, .int .i64 0]), 2, 16) := by kernel_rfl
theorem built_n4 (a b : Int) (s : ByteArray) (A : Option Addr) (n c : Nat) : Tryz.prog.built 46 [(0, .int .i64 a), (1, .int .i64 b), (2, .string s), (4, .slice A n c)] = some #[.int .i64 a, .int .i64 b, .string s, .slice none 0 0, .slice A n c] := by kernel_rfl
theorem fill_str1 (s : ByteArray) : Instr.fill (fun i => some (i * 1, 1)) ((List.range (1 * 1)).map ((Value.string ⟨#[]⟩).cells[· % (Value.string ⟨#[]⟩).cells.size]!)).toArray [(0, .string s)] = some #[.string s] := by rfl
theorem fill_node1 (a b : Int) (s : ByteArray) (u v : Value) : Instr.fill (fun i => some (i * 5, 5)) ((List.range (1 * 5)).map ((Value.agg (nd 0 none 0 none 0)).cells[· % (Value.agg (nd 0 none 0 none 0)).cells.size]!)).toArray [(0, .agg #[.int .i64 a, .int .i64 b, .string s, u, v])] = some #[.int .i64 a, .int .i64 b, .string s, u, v] := by kernel_rfl
theorem all5 {a b : Int} {s : ByteArray} {u v : Value} (h : u.oneCell' = true) (k : v.oneCell' = true) : ([.int .i64 a, .int .i64 b, .string s, u, v] : List Value).all Value.oneCell' = true := by
 simp only [List.all_cons, List.all_nil, h, k, Bool.and_true]
 rfl
theorem str_snoc (b e : Nat) (v : Value) (l : List ByteArray) (s : ByteArray) : Res.row b e 1 v (l.length + 1) (l.map Value.string ++ [.string s]) = .row b e 1 v (l ++ [s]).length ((l ++ [s]).map Value.string) := by simp
theorem nv_perm {α : Type} (a b c : α) (T : List α) : (a :: b :: c :: T).Perm (c :: (T ++ [a, b])) :=
 (List.Perm.append_right T (List.perm_append_comm (l₁ := [a, b]) (l₂ := [c]))).trans (List.Perm.cons c (List.perm_append_comm (l₁ := [a, b]) (l₂ := T)))
set_option maxHeartbeats 20000000 in
theorem cut_calls (w0 : World) (A : Option Addr) (c : Nat) (g : List GNode) (hg : Nodes w0 A c g) :
    Calls Tryz.prog 6 [.slice A g.length c].toArray w0 fun en w' => ∃ A' c', en = .returned (.slice A' (cutF g).length c') ∧ Nodes w' A' c' (cutF g) ∧ Ext0 w0 w' := by
 have hE : Ext0 w0 w0 := Ext.refl _ _
 have hL : Has w0 [] := trivial
 refine calls [2] Tryz.func6 rfl rfl rfl rfl ?_
 refine c_seq ?_
 refine c_ops ?_
 refine as' rfl rfl rfl rfl ?_
 refine l_nil ?_
 refine c_seq ?_
 refine c_ops ?_
 refine as' rfl rfl rfl rfl ?_
 refine l_nil ?_
 refine c_seq ?_
 refine c_seq ?_
 refine c_ops ?_
 refine as' rfl rfl rfl rfl ?_
 refine l_nil ?_
 refine c_block ?_
 refine c_loop [3, 4, 5, 6, 7, 8, 9, 10, 11, 12, 13, 14, 15, 16, 17, 18, 19, 20, 21, 22, 23, 24, 25, 26, 27, 28, 29, 30, 31, 32, 33, 34, 35, 36, 37, 38, 39, 40, 41, 42, 43, 44, 45, 46, 47, 48, 49, 50, 51, 52, 53, 54, 55, 56, 57, 58, 59, 60, 61, 62, 63, 64, 65, 66, 67, 68, 69, 70, 71, 72, 73, 74, 75, 76, 77, 78, 79, 80, 81, 82, 83, 84, 85, 86, 87, 88, 89, 90, 91, 92, 93, 94, 95, 96] (fun m1 e w => ∃ (n : Nat) (out : Value) (nv : List NV), n ≤ g.length ∧ n ≤ 16 ∧ m1 = 16 - n ∧ e 4 = .int .i64 n ∧ e 3 = out ∧ nv.map (·.1) = (g.take n).map cutN ∧ Has w (.row w0.heap.size 46 5 out (nv).length ((nv).map ncell).flatten :: (nv).flatMap (nres w0.heap.size)) ∧ Ext0 w0 w) 16 ?_ ?_
 ·exact ⟨0, .slice none 0 0, [], Nat.zero_le _, Nat.zero_le _, rfl, rfl, rfl, rfl, hL.nilRow _ _ _, hE⟩
 intro m1 e w hI
 obtain ⟨n, out, nv, hng, hn16', hmn, h4, h3, hnv, hL, hE⟩ := hI
 refine c_know h4 ?_
 refine c_know (t := 3) (by exact h3) ?_
 have hgm := hg.max
 have hnvl : nv.length = n := by have := congrArg List.length hnv; simpa [Nat.min_eq_left hng] using this
 refine c_seq ?_
 refine c_seq ?_
 refine c_ops ?_
 refine mv' rfl rfl rfl rfl ?_
 refine mv' rfl rfl rfl rfl ?_
 refine l_val rfl rfl rfl (r_len rfl Tryz.underlying22 rfl) ?_
 refine l_val rfl rfl rfl (r_lss rfl rfl rfl) ?_
 refine mv' rfl rfl rfl rfl ?_
 refine l_case 11 rfl (fun hb => ?_) (fun hb => ?_)
 ·have hr11 := hb
  replace hb := of_decide_eq_true hb
  have hnn : n < g.length := by omega
  refine mv' rfl rfl rfl rfl ?_
  refine l_val rfl rfl rfl (r_lss rfl rfl rfl) ?_
  refine l_val rfl rfl rfl (r_pick rfl rfl) ?_
  refine l_nil ?_
  refine c_cond rfl (fun hb => ?_) (fun hb => ?_)
  ·have hr14 := hb
   replace hb := of_decide_eq_true hb
   have hn16 : n < 16 := by omega
   obtain ⟨Ak, ck, Al, cl, hcell, hks, hls⟩ := hg.node n (by omega) (by omega)
   have hlm := hls.max
   have hkm := hks.max
   refine c_skip ?_
   refine c_seq ?_
   refine c_block ?_
   refine c_merge [5, 17, 18, 19, 20, 21, 22, 23, 24, 25, 26, 27, 28, 29, 30, 31, 32, 33, 34, 35, 36, 37, 38, 39, 40, 41, 42, 43, 44, 45, 46, 47, 48, 49, 50, 51, 52, 53, 54] (fun e w => ∃ (b5 cl2 : Nat) (Al2 : Option Addr), w0.heap.size ≤ b5 ∧ e 5 = .pointer (some ⟨b5, 0, none⟩) ∧ Has w (.blk b5 (.cells #[.int .i64 (gat g n).kind, .int .i64 (gat g n).num, .string (cutS (gat g n).name), .slice none 0 0, (Value.slice Al2 ((gat g n).l.take 12).length cl2)] 46 (0, 0)) :: .row w0.heap.size 3 1 (Value.slice Al2 ((gat g n).l.take 12).length cl2) ((gat g n).l.take 12).length (((gat g n).l.take 12).map (Value.int .i64)) :: .row w0.heap.size 46 5 out (nv).length ((nv).map ncell).flatten :: (nv).flatMap (nres w0.heap.size)) ∧ Ext0 w0 w) ?_ ?_
   ·skip
    refine c_draw mixed (hL) hE ?_
    replace hL := hL.drew
    replace hE := hE.drew
    have hK := hL
    refine h_t 0 rfl rfl (by kernel_rfl) (fun _ _ _ h => h) ⟨hK, hE⟩ rfl (fun W hW => r_move rfl) ?_
    refine h_t 1 rfl rfl (by kernel_rfl) (fun _ _ _ h => h) ⟨hK, hE⟩ rfl (fun W hW => r_move rfl) ?_
    refine h_t 2 rfl rfl (by kernel_rfl) (fun _ _ _ h => h) ⟨hK, hE⟩ rfl (fun W hW => r_indexAddr_sl rfl Tryz.underlying22 Tryz.sizeOf46 rfl hg.is rfl (by omega) (by omega)) ?_
    refine h_t 3 rfl rfl (by kernel_rfl) (fun _ _ _ h => h) ⟨hK, hE⟩ rfl (fun W hW => r_fieldAddr (n := 0) rfl Tryz.underlying46 rfl Tryz.sizeOf3 rfl) ?_
    refine h_t 4 rfl rfl (by kernel_rfl) (fun _ _ _ h => h) ⟨hK, hE⟩ rfl (fun W hW => r_load rfl Tryz.isAgg3 rfl (Ext0.cells hW.2 _ _ (hcell 0 _ rfl))) ?_
    refine h_t 5 rfl rfl (by kernel_rfl) (fun _ _ _ h => h) ⟨hK, hE⟩ rfl (fun W hW => r_move rfl) ?_
    refine h_t 6 rfl rfl (by kernel_rfl) (fun _ _ _ h => h) ⟨hK, hE⟩ rfl (fun W hW => r_move rfl) ?_
    refine h_t 7 rfl rfl (by kernel_rfl) (fun _ _ _ h => h) ⟨hK, hE⟩ rfl (fun W hW => r_indexAddr_sl rfl Tryz.underlying22 Tryz.sizeOf46 rfl hg.is rfl (by omega) (by omega)) ?_
    refine h_t 8 rfl rfl (by kernel_rfl) (fun _ _ _ h => h) ⟨hK, hE⟩ rfl (fun W hW => r_fieldAddr (n := 0) rfl Tryz.underlying46 rfl Tryz.sizeOf3 rfl) ?_
    refine h_t 9 rfl rfl (by kernel_rfl) (fun _ _ _ h => h) ⟨hK, hE⟩ rfl (fun W hW => r_load rfl Tryz.isAgg3 rfl (Ext0.cells hW.2 _ _ (hcell 1 _ rfl))) ?_
    refine h_t 10 rfl rfl (by kernel_rfl) (fun _ _ _ h => h) ⟨hK, hE⟩ rfl (fun W hW => r_move rfl) ?_
    refine h_t 11 rfl rfl (by kernel_rfl) (fun _ _ _ h => h) ⟨hK, hE⟩ rfl (fun W hW => r_move rfl) ?_
    refine h_t 12 rfl rfl (by kernel_rfl) (fun _ _ _ h => h) ⟨hK, hE⟩ rfl (fun W hW => r_indexAddr_sl rfl Tryz.underlying22 Tryz.sizeOf46 rfl hg.is rfl (by omega) (by omega)) ?_
    refine h_t 13 rfl rfl (by kernel_rfl) (fun _ _ _ h => h) ⟨hK, hE⟩ rfl (fun W hW => r_fieldAddr (n := 0) rfl Tryz.underlying46 rfl Tryz.sizeOf9 rfl) ?_
    refine h_t 14 rfl rfl (by kernel_rfl) (fun _ _ _ h => h) ⟨hK, hE⟩ rfl (fun W hW => r_load rfl Tryz.isAgg9 rfl (Ext0.cells hW.2 _ _ (hcell 2 _ rfl))) ?_
    refine h_t 15 rfl rfl (by kernel_rfl) (fun _ _ _ h => h) ⟨hK, hE⟩ rfl (fun W hW => r_move rfl) ?_
    refine h_t 16 rfl rfl (by kernel_rfl) (fun _ _ _ h => h) ⟨hK, hE⟩ rfl (fun W hW => r_move rfl) ?_
    refine h_t 17 rfl rfl (by kernel_rfl) (fun _ _ _ h => h) ⟨hK, hE⟩ rfl (fun W hW => r_indexAddr_sl rfl Tryz.underlying22 Tryz.sizeOf46 rfl hg.is rfl (by omega) (by omega)) ?_
    refine h_t 18 rfl rfl (by kernel_rfl) (fun _ _ _ h => h) ⟨hK, hE⟩ rfl (fun W hW => r_fieldAddr (n := 0) rfl Tryz.underlying46 rfl Tryz.sizeOf9 rfl) ?_
    refine h_t 19 rfl rfl (by kernel_rfl) (fun _ _ _ h => h) ⟨hK, hE⟩ rfl (fun W hW => r_load rfl Tryz.isAgg9 rfl (Ext0.cells hW.2 _ _ (hcell 2 _ rfl))) ?_
    refine h_t 20 rfl rfl (by kernel_rfl) (fun _ _ _ h => h) ⟨hK, hE⟩ rfl (fun W hW => r_len_str rfl Tryz.underlying9 rfl) ?_
    refine h_t 21 rfl rfl (by kernel_rfl) (fun _ _ _ h => h) ⟨hK, hE⟩ rfl (fun W hW => r_min rfl rfl rfl) ?_
    refine h_t 22 rfl rfl (by kernel_rfl) (fun _ _ _ h => h) ⟨hK, hE⟩ rfl (fun W hW => r_cutS rfl Tryz.underlying9 rfl rfl) ?_
    refine h_t 23 rfl rfl (by kernel_rfl) (fun _ _ _ h => h) ⟨hK, hE⟩ rfl (fun W hW => r_move rfl) ?_
    refine h_t 24 rfl rfl (by kernel_rfl) (fun _ _ _ h => h) ⟨hK, hE⟩ rfl (fun W hW => r_move rfl) ?_
    refine h_t 25 rfl rfl (by kernel_rfl) (fun _ _ _ h => h) ⟨hK, hE⟩ rfl (fun W hW => r_indexAddr_sl rfl Tryz.underlying22 Tryz.sizeOf46 rfl hg.is rfl (by omega) (by omega)) ?_
    refine h_t 26 rfl rfl (by kernel_rfl) (fun _ _ _ h => h) ⟨hK, hE⟩ rfl (fun W hW => r_fieldAddr (n := 0) rfl Tryz.underlying46 rfl Tryz.sizeOf26 rfl) ?_
    refine h_t 27 rfl rfl (by kernel_rfl) (fun _ _ _ h => h) ⟨hK, hE⟩ rfl (fun W hW => r_load rfl Tryz.isAgg26 rfl (Ext0.cells hW.2 _ _ (hcell 4 _ rfl))) ?_
    refine h_t 28 rfl rfl (by kernel_rfl) (fun _ _ _ h => h) ⟨hK, hE⟩ rfl (fun W hW => r_move rfl) ?_
    refine h_t 29 rfl rfl (by kernel_rfl) (fun _ _ _ h => h) ⟨hK, hE⟩ rfl (fun W hW => r_move rfl) ?_
    refine h_t 30 rfl rfl (by kernel_rfl) (fun _ _ _ h => h) ⟨hK, hE⟩ rfl (fun W hW => r_indexAddr_sl rfl Tryz.underlying22 Tryz.sizeOf46 rfl hg.is rfl (by omega) (by omega)) ?_
    refine h_t 31 rfl rfl (by kernel_rfl) (fun _ _ _ h => h) ⟨hK, hE⟩ rfl (fun W hW => r_fieldAddr (n := 0) rfl Tryz.underlying46 rfl Tryz.sizeOf26 rfl) ?_
    refine h_t 32 rfl rfl (by kernel_rfl) (fun _ _ _ h => h) ⟨hK, hE⟩ rfl (fun W hW => r_load rfl Tryz.isAgg26 rfl (Ext0.cells hW.2 _ _ (hcell 4 _ rfl))) ?_
    refine h_t 33 rfl rfl (by kernel_rfl) (fun _ _ _ h => h) ⟨hK, hE⟩ rfl (fun W hW => r_len rfl Tryz.underlying26 rfl) ?_
    refine h_t 34 rfl rfl (by kernel_rfl) (fun _ _ _ h => h) ⟨hK, hE⟩ rfl (fun W hW => r_min rfl rfl rfl) ?_
    refine h_t 35 rfl rfl (by kernel_rfl) (fun _ _ _ h => h) ⟨hK, hE⟩ rfl (fun W hW => r_cutL rfl Tryz.underlying26 Tryz.sizeOf3 rfl rfl hls.cap) ?_
    refine h_many [36, 38] (by kernel_rfl) ⟨?_, ?_, trivial⟩
    ·refine o_by 36 rfl rfl rfl rfl (r_call rfl rfl Tryz.func25 rfl rfl) (CopyInts_calls _ Al (min (gat g n).l.length 12) cl ((gat g n).l.take 12) ((hls.keep RInt.kept (Ext0.cells hE)).take 12) (by omega)) ?_
     rintro _ w ⟨lv0, rfl, hrow, hX⟩
     rw [show min (gat g n).l.length 12 = ((gat g n).l.take 12).length from by rw [List.length_take, Nat.min_comm]] at hrow
     have h1l := one_row hrow
     obtain ⟨Al2, cl2, rfl⟩ := ownsRow_slice hrow
     replace hL := hL.cons hX (r := .row w0.heap.size 3 1 (Value.slice Al2 ((gat g n).l.take 12).length cl2) ((gat g n).l.take 12).length (((gat g n).l.take 12).map (Value.int .i64))) (ownsRow_base hrow hE.size) (fun b hb => (ownsRow_lt hrow hb).2)
     replace hE := hE.step0 hX
     have hK := hL.sub (.cons _ (.cons_cons _ (.refl _)))
     refine ⟨_, rfl, ⟨hK, hE⟩, ?_⟩
     refine h_t 37 rfl rfl (by kernel_rfl) (fun _ _ _ h => h) ⟨hK, hE⟩ rfl (fun W hW => r_build rfl rfl (built_n4 _ _ _ _ _ _)) ?_
     refine h_new 38 rfl rfl (by kernel_rfl) rfl (n_alloc rfl Tryz.zeroValue46 hL hE) ?_
     rintro _ w ⟨b5, rfl, hb5, hL, hE, hX⟩
     have hK := hL.sub (.cons _ (.cons _ (.cons_cons _ (.refl _))))
     refine ⟨⟨hK, hE⟩, ?_⟩
     refine h_new_do 39 rfl rfl (by kernel_rfl) rfl (r_store 0 rfl Tryz.sizeOf46 rfl hL hE rfl rfl rfl rfl (fun h => absurd h (Nat.not_lt.2 hb5))) ?_
     rintro w ⟨hL, hE, hz, hk⟩
     have hK := hL.sub (.cons _ (.cons _ (.cons_cons _ (.refl _))))
     refine ⟨⟨hK, hE⟩, ?_⟩
     refine h_done (by kernel_rfl) ?_
     refine ag' ?_
     exact ⟨b5, cl2, Al2, hb5, rfl, (((hL.front 2 rfl).front 2 rfl).front 2 rfl), hE⟩
    ·refine o_new 38 rfl rfl rfl rfl (n_alloc rfl Tryz.zeroValue46 hL hE) ?_
     rintro _ w ⟨b5, rfl, hb5, hL, hE, hX⟩
     have hK := hL.sub (.cons _ (.cons_cons _ (.refl _)))
     refine ⟨⟨hK, hE⟩, ?_⟩
     refine h_by 36 rfl rfl (by kernel_rfl) rfl (r_call rfl rfl Tryz.func25 rfl rfl) (CopyInts_calls _ Al (min (gat g n).l.length 12) cl ((gat g n).l.take 12) ((hls.keep RInt.kept (Ext0.cells hE)).take 12) (by omega)) ?_
     rintro _ w ⟨lv0, rfl, hrow, hX⟩
     rw [show min (gat g n).l.length 12 = ((gat g n).l.take 12).length from by rw [List.length_take, Nat.min_comm]] at hrow
     have h1l := one_row hrow
     obtain ⟨Al2, cl2, rfl⟩ := ownsRow_slice hrow
     replace hL := hL.cons hX (r := .row w0.heap.size 3 1 (Value.slice Al2 ((gat g n).l.take 12).length cl2) ((gat g n).l.take 12).length (((gat g n).l.take 12).map (Value.int .i64))) (ownsRow_base hrow hE.size) (fun b hb => (ownsRow_lt hrow hb).2)
     replace hE := hE.step0 hX
     have hK := hL.sub (.cons _ (.cons _ (.cons_cons _ (.refl _))))
     refine ⟨_, rfl, ⟨hK, hE⟩, ?_⟩
     refine h_t 37 rfl rfl (by kernel_rfl) (fun _ _ _ h => h) ⟨hK, hE⟩ rfl (fun W hW => r_build rfl rfl (built_n4 _ _ _ _ _ _)) ?_
     refine h_new_do 39 rfl rfl (by kernel_rfl) rfl (r_store 1 rfl Tryz.sizeOf46 rfl hL hE rfl rfl rfl rfl (fun h => absurd h (Nat.not_lt.2 hb5))) ?_
     rintro w ⟨hL, hE, hz, hk⟩
     have hK := hL.sub (.cons _ (.cons _ (.cons_cons _ (.refl _))))
     refine ⟨⟨hK, hE⟩, ?_⟩
     refine h_done (by kernel_rfl) ?_
     refine ag' ?_
     exact ⟨b5, cl2, Al2, hb5, rfl, (((hL.front 2 rfl).front 1 rfl).front 2 rfl), hE⟩
   rintro e w hI
   obtain ⟨b5, cl2, Al2, hb5, h5, hL, hE⟩ := hI
   refine c_know (t := 5) (by exact h5) ?_
   have h1l : Value.oneCell' (Value.slice Al2 ((gat g n).l.take 12).length cl2) = true := rfl
   refine c_seq ?_
   refine c_seq ?_
   refine c_ops ?_
   refine as' rfl rfl rfl rfl ?_
   refine l_nil ?_
   refine c_block ?_
   refine c_loop [6, 55, 56, 57, 58, 59, 60, 61, 62, 63, 64, 65, 66, 67, 68, 69, 70, 71, 72, 73, 74, 75, 76, 77, 78, 79, 80, 81, 82, 83, 84, 85, 86, 87, 88, 89, 90, 91, 92] (fun m1 e w => ∃ (k : Nat) (kv : Value), k ≤ (gat g n).keys.length ∧ k ≤ 12 ∧ m1 = 12 - k ∧ e 6 = .int .i64 k ∧ kv.oneCell' = true ∧ Has w (.blk b5 (.cells #[.int .i64 (gat g n).kind, .int .i64 (gat g n).num, .string (cutS (gat g n).name), kv, (Value.slice Al2 ((gat g n).l.take 12).length cl2)] 46 (0, 0)) :: .row w0.heap.size 9 1 kv (((gat g n).keys.take k).map cutS).length ((((gat g n).keys.take k).map cutS).map Value.string) :: .row w0.heap.size 3 1 (Value.slice Al2 ((gat g n).l.take 12).length cl2) ((gat g n).l.take 12).length (((gat g n).l.take 12).map (Value.int .i64)) :: .row w0.heap.size 46 5 out (nv).length ((nv).map ncell).flatten :: (nv).flatMap (nres w0.heap.size)) ∧ Ext0 w0 w) 12 ?_ ?_
   ·exact ⟨0, .slice none 0 0, Nat.zero_le _, Nat.zero_le _, rfl, rfl, rfl, Has.perm (List.Perm.swap _ _ _) (hL.nilRow w0.heap.size 9 1), hE⟩
   intro m1 e w hI
   obtain ⟨k, kv, hkl, hk12', hmk, h6, h1k, hL, hE⟩ := hI
   refine c_know h6 ?_
   refine c_seq ?_
   refine c_seq ?_
   refine c_ops ?_
   refine mv' rfl rfl rfl rfl ?_
   refine mv' rfl rfl rfl rfl ?_
   refine mv' rfl rfl rfl rfl ?_
   refine l_val rfl rfl rfl (r_indexAddr_sl rfl Tryz.underlying22 Tryz.sizeOf46 rfl hg.is rfl (by omega) (by omega)) ?_
   refine l_val rfl rfl rfl (r_fieldAddr (n := 0) rfl Tryz.underlying46 rfl Tryz.sizeOf44 rfl) ?_
   refine l_val rfl rfl rfl (r_load rfl Tryz.isAgg44 rfl (Ext0.cells hE _ _ (hcell 3 _ rfl))) ?_
   refine l_val rfl rfl rfl (r_len rfl Tryz.underlying44 rfl) ?_
   refine l_val rfl rfl rfl (r_lss rfl rfl rfl) ?_
   refine mv' rfl rfl rfl rfl ?_
   refine l_case 63 rfl (fun hb => ?_) (fun hb => ?_)
   ·have hr63 := hb
    replace hb := of_decide_eq_true hb
    have hkn : k < (gat g n).keys.length := by omega
    refine mv' rfl rfl rfl rfl ?_
    refine l_val rfl rfl rfl (r_lss rfl rfl rfl) ?_
    refine l_val rfl rfl rfl (r_pick rfl rfl) ?_
    refine l_nil ?_
    refine c_cond rfl (fun hb => ?_) (fun hb => ?_)
    ·have hr66 := hb
     replace hb := of_decide_eq_true hb
     have hk12 : k < 12 := by omega
     have hsk := sat_nat hkn
     refine c_skip ?_
     refine c_merge [69, 70, 71, 72, 73, 74, 75, 76, 77, 78, 79, 80, 81, 82, 83, 84, 85, 86, 87, 88, 89, 90, 91, 92] (fun e w => ∃ kv, kv.oneCell' = true ∧ Has w (.blk b5 (.cells #[.int .i64 (gat g n).kind, .int .i64 (gat g n).num, .string (cutS (gat g n).name), kv, (Value.slice Al2 ((gat g n).l.take 12).length cl2)] 46 (0, 0)) :: .row w0.heap.size 9 1 kv (((gat g n).keys.take (k + 1)).map cutS).length ((((gat g n).keys.take (k + 1)).map cutS).map Value.string) :: .row w0.heap.size 3 1 (Value.slice Al2 ((gat g n).l.take 12).length cl2) ((gat g n).l.take 12).length (((gat g n).l.take 12).map (Value.int .i64)) :: .row w0.heap.size 46 5 out (nv).length ((nv).map ncell).flatten :: (nv).flatMap (nres w0.heap.size)) ∧ Ext0 w0 w) ?_ ?_
     ·refine c_block ?_
      refine c_draw mixed (hL.sub (.cons _ (.cons _ (.cons_cons _ (.cons_cons _ (.refl _)))))) hE ?_
      replace hL := hL.drew
      replace hE := hE.drew
      have hK := hL.sub (.cons _ (.cons _ (.cons_cons _ (.cons_cons _ (.refl _)))))
      refine h_t 0 rfl rfl (by kernel_rfl) (fun _ _ _ h => h) ⟨hK, hE⟩ rfl (fun W hW => r_fieldAddr (n := 0) rfl Tryz.underlying46 rfl Tryz.sizeOf44 rfl) ?_
      refine h_t 2 rfl rfl (by kernel_rfl) (fun _ _ _ h => h) ⟨hK, hE⟩ rfl (fun W hW => r_move rfl) ?_
      refine h_t 3 rfl rfl (by kernel_rfl) (fun _ _ _ h => h) ⟨hK, hE⟩ rfl (fun W hW => r_move rfl) ?_
      refine h_t 4 rfl rfl (by kernel_rfl) (fun _ _ _ h => h) ⟨hK, hE⟩ rfl (fun W hW => r_indexAddr_sl rfl Tryz.underlying22 Tryz.sizeOf46 rfl hg.is rfl (by omega) (by omega)) ?_
      refine h_t 5 rfl rfl (by kernel_rfl) (fun _ _ _ h => h) ⟨hK, hE⟩ rfl (fun W hW => r_fieldAddr (n := 0) rfl Tryz.underlying46 rfl Tryz.sizeOf44 rfl) ?_
      refine h_t 6 rfl rfl (by kernel_rfl) (fun _ _ _ h => h) ⟨hK, hE⟩ rfl (fun W hW => r_load rfl Tryz.isAgg44 rfl (Ext0.cells hW.2 _ _ (hcell 3 _ rfl))) ?_
      refine h_t 7 rfl rfl (by kernel_rfl) (fun _ _ _ h => h) ⟨hK, hE⟩ rfl (fun W hW => r_move rfl) ?_
      refine h_t 8 rfl rfl (by kernel_rfl) (fun _ _ _ h => h) ⟨hK, hE⟩ rfl (fun W hW => r_indexAddr_sl rfl Tryz.underlying44 Tryz.sizeOf9 rfl hks.is rfl (by omega) (by omega)) ?_
      refine h_t 9 rfl rfl (by kernel_rfl) (fun _ _ _ h => h) ⟨hK, hE⟩ rfl (fun W hW => r_load (v := .string ((gat g n).keys.getD (k : Int).toNat ByteArray.empty)) rfl Tryz.isAgg9 rfl (Ext0.cells hW.2 _ _ (hks.str k (by omega) (by omega)))) ?_
      refine h_t 10 rfl rfl (by kernel_rfl) (fun _ _ _ h => h) ⟨hK, hE⟩ rfl (fun W hW => r_move rfl) ?_
      refine h_t 11 rfl rfl (by kernel_rfl) (fun _ _ _ h => h) ⟨hK, hE⟩ rfl (fun W hW => r_move rfl) ?_
      refine h_t 12 rfl rfl (by kernel_rfl) (fun _ _ _ h => h) ⟨hK, hE⟩ rfl (fun W hW => r_indexAddr_sl rfl Tryz.underlying22 Tryz.sizeOf46 rfl hg.is rfl (by omega) (by omega)) ?_
      refine h_t 13 rfl rfl (by kernel_rfl) (fun _ _ _ h => h) ⟨hK, hE⟩ rfl (fun W hW => r_fieldAddr (n := 0) rfl Tryz.underlying46 rfl Tryz.sizeOf44 rfl) ?_
      refine h_t 14 rfl rfl (by kernel_rfl) (fun _ _ _ h => h) ⟨hK, hE⟩ rfl (fun W hW => r_load rfl Tryz.isAgg44 rfl (Ext0.cells hW.2 _ _ (hcell 3 _ rfl))) ?_
      refine h_t 15 rfl rfl (by kernel_rfl) (fun _ _ _ h => h) ⟨hK, hE⟩ rfl (fun W hW => r_move rfl) ?_
      refine h_t 16 rfl rfl (by kernel_rfl) (fun _ _ _ h => h) ⟨hK, hE⟩ rfl (fun W hW => r_indexAddr_sl rfl Tryz.underlying44 Tryz.sizeOf9 rfl hks.is rfl (by omega) (by omega)) ?_
      refine h_t 17 rfl rfl (by kernel_rfl) (fun _ _ _ h => h) ⟨hK, hE⟩ rfl (fun W hW => r_load (v := .string ((gat g n).keys.getD (k : Int).toNat ByteArray.empty)) rfl Tryz.isAgg9 rfl (Ext0.cells hW.2 _ _ (hks.str k (by omega) (by omega)))) ?_
      refine h_t 18 rfl rfl (by kernel_rfl) (fun _ _ _ h => h) ⟨hK, hE⟩ rfl (fun W hW => r_len_str rfl Tryz.underlying9 rfl) ?_
      refine h_t 19 rfl rfl (by kernel_rfl) (fun _ _ _ h => h) ⟨hK, hE⟩ rfl (fun W hW => r_min rfl rfl rfl) ?_
      refine h_t 20 rfl rfl (by kernel_rfl) (fun _ _ _ h => h) ⟨hK, hE⟩ rfl (fun W hW => r_cutS rfl Tryz.underlying9 rfl rfl) ?_
      refine h_many [1, 21] (by kernel_rfl) ⟨?_, ?_, trivial⟩
      ·refine o_val 1 rfl rfl rfl rfl (r_load_blk rfl Tryz.isAgg44 rfl (hL.get 0 rfl) rfl) ⟨hK, hE⟩ ?_
       refine h_new 21 rfl rfl (by kernel_rfl) rfl (n_slice (cells := #[.string (cutS ((gat g n).keys.getD (k : Int).toNat ByteArray.empty))]) rfl Tryz.underlying44 Tryz.sizeOf9 Tryz.zeroValue9 rfl rfl (fill_str1 _) hL hE) ?_
       rintro _ w ⟨s90, rfl, hs90, hL, hE, hX⟩
       have hK := hL.sub (.cons _ (.cons _ (.cons _ (.cons_cons _ (.cons_cons _ (.refl _))))))
       refine ⟨⟨hK, hE⟩, ?_⟩
       refine h_new 22 rfl rfl (by kernel_rfl) rfl (r_append (ys := [.string (cutS ((gat g n).keys.getD (k : Int).toNat ByteArray.empty))]) 2 rfl Tryz.underlying44 info_str rfl (by decide) rfl rfl hL hE rfl rfl (blk_raw (cs := #[.string (cutS ((gat g n).keys.getD (k : Int).toNat ByteArray.empty))]) (hL.get 0 rfl) rfl) (fun u hu => by rw [List.mem_singleton] at hu; rw [hu]; rfl) (by simp; omega) (by simp; omega) (Nat.le_refl _) hE.size) ?_
       rintro _ w ⟨hL, hE, hk⟩
       have h1k2 := one_row (hL.row 2 rfl)
       obtain ⟨A4, c4, rfl⟩ := ownsRow_slice (hL.row 2 rfl)
       replace hL : Has w (.blk s90 (.cells #[.string (cutS ((gat g n).keys.getD (k : Int).toNat ByteArray.empty))] 9 (0, 0)) :: .blk b5 (.cells #[.int .i64 (gat g n).kind, .int .i64 (gat g n).num, .string (cutS (gat g n).name), kv, (Value.slice Al2 ((gat g n).l.take 12).length cl2)] 46 (0, 0)) :: .row w0.heap.size 9 1 (Value.slice A4 ((((gat g n).keys.take k).map cutS).length + 1) c4) ((((gat g n).keys.take k).map cutS) ++ [(cutS ((gat g n).keys.getD (k : Int).toNat ByteArray.empty))]).length (((((gat g n).keys.take k).map cutS) ++ [(cutS ((gat g n).keys.getD (k : Int).toNat ByteArray.empty))]).map Value.string) :: .row w0.heap.size 3 1 (Value.slice Al2 ((gat g n).l.take 12).length cl2) ((gat g n).l.take 12).length (((gat g n).l.take 12).map (Value.int .i64)) :: .row w0.heap.size 46 5 out (nv).length ((nv).map ncell).flatten :: (nv).flatMap (nres w0.heap.size)) := by rw [← str_snoc]; exact hL
       have hK := hL.sub (.cons _ (.cons _ (.cons _ (.cons_cons _ (.cons_cons _ (.refl _))))))
       refine ⟨⟨hK, hE⟩, ?_⟩
       refine h_t 23 rfl rfl (by kernel_rfl) (fun _ _ _ h => h) ⟨hK, hE⟩ rfl (fun W hW => r_fieldAddr (n := 0) rfl Tryz.underlying46 rfl Tryz.sizeOf44 rfl) ?_
       refine h_new_do 24 rfl rfl (by kernel_rfl) rfl (r_store 1 rfl Tryz.sizeOf44 rfl hL hE rfl rfl rfl rfl (fun h => absurd h (Nat.not_lt.2 hb5))) ?_
       rintro w ⟨hL, hE, hz, hk⟩
       have hK := hL.sub (.cons _ (.cons _ (.cons _ (.cons_cons _ (.cons_cons _ (.refl _))))))
       refine ⟨⟨hK, hE⟩, ?_⟩
       refine h_done (by kernel_rfl) ?_
       refine ag' ?_
       exact ⟨(Value.slice A4 ((((gat g n).keys.take k).map cutS).length + 1) c4), h1k2, by rw [take_snoc hsk, List.map_append (f := cutS)]; exact hL.tail, hE⟩
      ·refine o_new 21 rfl rfl rfl rfl (n_slice (cells := #[.string (cutS ((gat g n).keys.getD (k : Int).toNat ByteArray.empty))]) rfl Tryz.underlying44 Tryz.sizeOf9 Tryz.zeroValue9 rfl rfl (fill_str1 _) hL hE) ?_
       rintro _ w ⟨s90, rfl, hs90, hL, hE, hX⟩
       have hK := hL.sub (.cons _ (.cons _ (.cons _ (.cons_cons _ (.cons_cons _ (.refl _))))))
       refine ⟨⟨hK, hE⟩, ?_⟩
       refine h_one 1 rfl rfl (by kernel_rfl) rfl (r_load_blk rfl Tryz.isAgg44 rfl (hL.get 1 rfl) rfl) ⟨hK, hE⟩ ?_
       refine h_new 22 rfl rfl (by kernel_rfl) rfl (r_append (ys := [.string (cutS ((gat g n).keys.getD (k : Int).toNat ByteArray.empty))]) 2 rfl Tryz.underlying44 info_str rfl (by decide) rfl rfl hL hE rfl rfl (blk_raw (cs := #[.string (cutS ((gat g n).keys.getD (k : Int).toNat ByteArray.empty))]) (hL.get 0 rfl) rfl) (fun u hu => by rw [List.mem_singleton] at hu; rw [hu]; rfl) (by simp; omega) (by simp; omega) (Nat.le_refl _) hE.size) ?_
       rintro _ w ⟨hL, hE, hk⟩
       have h1k2 := one_row (hL.row 2 rfl)
       obtain ⟨A4, c4, rfl⟩ := ownsRow_slice (hL.row 2 rfl)
       replace hL : Has w (.blk s90 (.cells #[.string (cutS ((gat g n).keys.getD (k : Int).toNat ByteArray.empty))] 9 (0, 0)) :: .blk b5 (.cells #[.int .i64 (gat g n).kind, .int .i64 (gat g n).num, .string (cutS (gat g n).name), kv, (Value.slice Al2 ((gat g n).l.take 12).length cl2)] 46 (0, 0)) :: .row w0.heap.size 9 1 (Value.slice A4 ((((gat g n).keys.take k).map cutS).length + 1) c4) ((((gat g n).keys.take k).map cutS) ++ [(cutS ((gat g n).keys.getD (k : Int).toNat ByteArray.empty))]).length (((((gat g n).keys.take k).map cutS) ++ [(cutS ((gat g n).keys.getD (k : Int).toNat ByteArray.empty))]).map Value.string) :: .row w0.heap.size 3 1 (Value.slice Al2 ((gat g n).l.take 12).length cl2) ((gat g n).l.take 12).length (((gat g n).l.take 12).map (Value.int .i64)) :: .row w0.heap.size 46 5 out (nv).length ((nv).map ncell).flatten :: (nv).flatMap (nres w0.heap.size)) := by rw [← str_snoc]; exact hL
       have hK := hL.sub (.cons _ (.cons _ (.cons _ (.cons_cons _ (.cons_cons _ (.refl _))))))
       refine ⟨⟨hK, hE⟩, ?_⟩
       refine h_t 23 rfl rfl (by kernel_rfl) (fun _ _ _ h => h) ⟨hK, hE⟩ rfl (fun W hW => r_fieldAddr (n := 0) rfl Tryz.underlying46 rfl Tryz.sizeOf44 rfl) ?_
       refine h_new_do 24 rfl rfl (by kernel_rfl) rfl (r_store 1 rfl Tryz.sizeOf44 rfl hL hE rfl rfl rfl rfl (fun h => absurd h (Nat.not_lt.2 hb5))) ?_
       rintro w ⟨hL, hE, hz, hk⟩
       have hK := hL.sub (.cons _ (.cons _ (.cons _ (.cons_cons _ (.cons_cons _ (.refl _))))))
       refine ⟨⟨hK, hE⟩, ?_⟩
       refine h_done (by kernel_rfl) ?_
       refine ag' ?_
       exact ⟨(Value.slice A4 ((((gat g n).keys.take k).map cutS).length + 1) c4), h1k2, by rw [take_snoc hsk, List.map_append (f := cutS)]; exact hL.tail, hE⟩
     rintro e w hI
     obtain ⟨kv, h1k, hL, hE⟩ := hI
     refine c_ops ?_
     refine mv' rfl rfl rfl rfl ?_
     refine l_val rfl rfl rfl (r_add rfl rfl rfl) ?_
     refine as' rfl rfl rfl rfl ?_
     refine l_nil ?_
     refine ag' ?_
     exact ⟨12 - (k + 1), by omega, k + 1, kv, by omega, by omega, rfl, by show Value.int .i64 (IntKind.i64.wrap ((k : Int) + 1)) = _; rw [wrap_succ hkn hkm], h1k, hL, hE⟩
    ·have hr66 := hb
     replace hb := of_decide_eq_false hb
     have hkk : (gat g n).keys.take k = (gat g n).keys.take 12 := by rw [show k = 12 by omega]
     refine c_exit ?_
     refine c_ops ?_
     refine mv' rfl rfl rfl rfl ?_
     refine l_val rfl rfl rfl (r_load_agg (vs := [.int .i64 (gat g n).kind, .int .i64 (gat g n).num, .string (cutS (gat g n).name), kv, (Value.slice Al2 ((gat g n).l.take 12).length cl2)]) rfl Tryz.isAgg46 Tryz.sizeOf46 rfl (blk_raw (cs := #[.int .i64 (gat g n).kind, .int .i64 (gat g n).num, .string (cutS (gat g n).name), kv, (Value.slice Al2 ((gat g n).l.take 12).length cl2)]) (hL.get 0 rfl) rfl)) ?_
     refine l_new rfl rfl rfl (n_slice (cells := #[.int .i64 (gat g n).kind, .int .i64 (gat g n).num, .string (cutS (gat g n).name), kv, (Value.slice Al2 ((gat g n).l.take 12).length cl2)]) rfl Tryz.underlying22 Tryz.sizeOf46 Tryz.zeroValue46 rfl rfl (fill_node1 _ _ _ _ _) hL hE) ?_
     rintro _ w ⟨s95, rfl, hs95, hL, hE, hX⟩
     refine l_new rfl rfl rfl (r_append (ys := ncell (cutN (gat g n), kv, (Value.slice Al2 ((gat g n).l.take 12).length cl2))) 4 rfl Tryz.underlying22 info_node rfl (by decide) rfl rfl hL hE rfl rfl (blk_raw (cs := #[.int .i64 (gat g n).kind, .int .i64 (gat g n).num, .string (cutS (gat g n).name), kv, (Value.slice Al2 ((gat g n).l.take 12).length cl2)]) (hL.get 0 rfl) rfl) (fun u hu => List.all_eq_true.1 (all5 h1k h1l) u hu) (by omega) (by omega) (Nat.le_refl _) hE.size) ?_
     rintro _ w ⟨hL, hE, hk⟩
     obtain ⟨A6, c6, rfl⟩ := ownsRow_slice (hL.row 4 rfl)
     replace hL : Has w (.blk s95 (.cells #[.int .i64 (gat g n).kind, .int .i64 (gat g n).num, .string (cutS (gat g n).name), kv, (Value.slice Al2 ((gat g n).l.take 12).length cl2)] 46 (0, 0)) :: .blk b5 (.cells #[.int .i64 (gat g n).kind, .int .i64 (gat g n).num, .string (cutS (gat g n).name), kv, (Value.slice Al2 ((gat g n).l.take 12).length cl2)] 46 (0, 0)) :: .row w0.heap.size 9 1 kv (((gat g n).keys.take 12).map cutS).length ((((gat g n).keys.take 12).map cutS).map Value.string) :: .row w0.heap.size 3 1 (Value.slice Al2 ((gat g n).l.take 12).length cl2) ((gat g n).l.take 12).length (((gat g n).l.take 12).map (Value.int .i64)) :: .row w0.heap.size 46 5 (.slice A6 (nv.length + 1) c6) (nv ++ [(cutN (gat g n), kv, (Value.slice Al2 ((gat g n).l.take 12).length cl2))]).length ((nv ++ [(cutN (gat g n), kv, (Value.slice Al2 ((gat g n).l.take 12).length cl2))]).map ncell).flatten :: (nv).flatMap (nres w0.heap.size)) := by rw [← ncells_snoc, List.length_append, ← hkk]; exact hL
     refine as' rfl rfl rfl rfl ?_
     refine l_nil ?_
     refine c_ops ?_
     refine mv' rfl rfl rfl rfl ?_
     refine l_val rfl rfl rfl (r_add rfl rfl rfl) ?_
     refine as' rfl rfl rfl rfl ?_
     refine l_nil ?_
     refine ag' ?_
     refine ⟨16 - (n + 1), by omega, n + 1, (.slice A6 (nv.length + 1) c6), nv ++ [(cutN (gat g n), kv, (Value.slice Al2 ((gat g n).l.take 12).length cl2))], by omega, by omega, rfl, by show Value.int .i64 (IntKind.i64.wrap ((n : Int) + 1)) = _; rw [wrap_succ hnn hgm], rfl, by rw [take_snoc (gat_nat hnn), List.map_append, List.map_append, ← hnv]; rfl, ?_, hE⟩
     rw [List.flatMap_append]
     exact Has.perm (nv_perm _ _ _ _) hL.tail.tail
   ·have hr63 := hb
    replace hb := of_decide_eq_false hb
    have hkk : (gat g n).keys.take k = (gat g n).keys.take 12 := by rw [List.take_of_length_le (by omega), List.take_of_length_le (by omega)]
    refine l_not rfl rfl rfl ?_
    refine l_not rfl rfl rfl ?_
    refine l_val rfl rfl rfl (r_pick rfl rfl) ?_
    refine l_nil ?_
    refine c_no rfl ?_
    refine c_exit ?_
    refine c_ops ?_
    refine mv' rfl rfl rfl rfl ?_
    refine l_val rfl rfl rfl (r_load_agg (vs := [.int .i64 (gat g n).kind, .int .i64 (gat g n).num, .string (cutS (gat g n).name), kv, (Value.slice Al2 ((gat g n).l.take 12).length cl2)]) rfl Tryz.isAgg46 Tryz.sizeOf46 rfl (blk_raw (cs := #[.int .i64 (gat g n).kind, .int .i64 (gat g n).num, .string (cutS (gat g n).name), kv, (Value.slice Al2 ((gat g n).l.take 12).length cl2)]) (hL.get 0 rfl) rfl)) ?_
    refine l_new rfl rfl rfl (n_slice (cells := #[.int .i64 (gat g n).kind, .int .i64 (gat g n).num, .string (cutS (gat g n).name), kv, (Value.slice Al2 ((gat g n).l.take 12).length cl2)]) rfl Tryz.underlying22 Tryz.sizeOf46 Tryz.zeroValue46 rfl rfl (fill_node1 _ _ _ _ _) hL hE) ?_
    rintro _ w ⟨s95, rfl, hs95, hL, hE, hX⟩
    refine l_new rfl rfl rfl (r_append (ys := ncell (cutN (gat g n), kv, (Value.slice Al2 ((gat g n).l.take 12).length cl2))) 4 rfl Tryz.underlying22 info_node rfl (by decide) rfl rfl hL hE rfl rfl (blk_raw (cs := #[.int .i64 (gat g n).kind, .int .i64 (gat g n).num, .string (cutS (gat g n).name), kv, (Value.slice Al2 ((gat g n).l.take 12).length cl2)]) (hL.get 0 rfl) rfl) (fun u hu => List.all_eq_true.1 (all5 h1k h1l) u hu) (by omega) (by omega) (Nat.le_refl _) hE.size) ?_
    rintro _ w ⟨hL, hE, hk⟩
    obtain ⟨A6, c6, rfl⟩ := ownsRow_slice (hL.row 4 rfl)
    replace hL : Has w (.blk s95 (.cells #[.int .i64 (gat g n).kind, .int .i64 (gat g n).num, .string (cutS (gat g n).name), kv, (Value.slice Al2 ((gat g n).l.take 12).length cl2)] 46 (0, 0)) :: .blk b5 (.cells #[.int .i64 (gat g n).kind, .int .i64 (gat g n).num, .string (cutS (gat g n).name), kv, (Value.slice Al2 ((gat g n).l.take 12).length cl2)] 46 (0, 0)) :: .row w0.heap.size 9 1 kv (((gat g n).keys.take 12).map cutS).length ((((gat g n).keys.take 12).map cutS).map Value.string) :: .row w0.heap.size 3 1 (Value.slice Al2 ((gat g n).l.take 12).length cl2) ((gat g n).l.take 12).length (((gat g n).l.take 12).map (Value.int .i64)) :: .row w0.heap.size 46 5 (.slice A6 (nv.length + 1) c6) (nv ++ [(cutN (gat g n), kv, (Value.slice Al2 ((gat g n).l.take 12).length cl2))]).length ((nv ++ [(cutN (gat g n), kv, (Value.slice Al2 ((gat g n).l.take 12).length cl2))]).map ncell).flatten :: (nv).flatMap (nres w0.heap.size)) := by rw [← ncells_snoc, List.length_append, ← hkk]; exact hL
    refine as' rfl rfl rfl rfl ?_
    refine l_nil ?_
    refine c_ops ?_
    refine mv' rfl rfl rfl rfl ?_
    refine l_val rfl rfl rfl (r_add rfl rfl rfl) ?_
    refine as' rfl rfl rfl rfl ?_
    refine l_nil ?_
    refine ag' ?_
    refine ⟨16 - (n + 1), by omega, n + 1, (.slice A6 (nv.length + 1) c6), nv ++ [(cutN (gat g n), kv, (Value.slice Al2 ((gat g n).l.take 12).length cl2))], by omega, by omega, rfl, by show Value.int .i64 (IntKind.i64.wrap ((n : Int) + 1)) = _; rw [wrap_succ hnn hgm], rfl, by rw [take_snoc (gat_nat hnn), List.map_append, List.map_append, ← hnv]; rfl, ?_, hE⟩
    rw [List.flatMap_append]
    exact Has.perm (nv_perm _ _ _ _) hL.tail.tail
  ·have hr14 := hb
   replace hb := of_decide_eq_false hb
   have hend : (g.take n).map cutN = cutF g := by unfold cutF; rw [show n = 16 by omega]
   refine c_exit ?_
   refine c_seq ?_
   refine c_ops ?_
   refine mv' rfl rfl rfl rfl ?_
   refine as' rfl rfl rfl rfl ?_
   refine l_nil ?_
   refine c_ret ?_
   obtain ⟨A9, c9, rfl⟩ := ownsRow_slice (hL.row 0 rfl)
   have hns := (nodes_at (hL.sub (.cons _ (.refl _))) (fun x hx r hr => List.mem_flatMap.2 ⟨x, hx, hr⟩) (hL.row 0 rfl) rfl).1
   rw [hnv, hend] at hns
   exact ⟨A9, c9, congrArg (fun n => Ending.returned (.slice A9 n c9)) (show nv.length = (cutF g).length by rw [← hend, ← hnv, List.length_map]), hns, hE⟩
 ·have hr11 := hb
  replace hb := of_decide_eq_false hb
  have hend : (g.take n).map cutN = cutF g := by unfold cutF; rw [List.take_of_length_le (by omega), List.take_of_length_le (by omega)]
  refine l_not rfl rfl rfl ?_
  refine l_not rfl rfl rfl ?_
  refine l_val rfl rfl rfl (r_pick rfl rfl) ?_
  refine l_nil ?_
  refine c_no rfl ?_
  refine c_exit ?_
  refine c_seq ?_
  refine c_ops ?_
  refine mv' rfl rfl rfl rfl ?_
  refine as' rfl rfl rfl rfl ?_
  refine l_nil ?_
  refine c_ret ?_
  obtain ⟨A9, c9, rfl⟩ := ownsRow_slice (hL.row 0 rfl)
  have hns := (nodes_at (hL.sub (.cons _ (.refl _))) (fun x hx r hr => List.mem_flatMap.2 ⟨x, hx, hr⟩) (hL.row 0 rfl) rfl).1
  rw [hnv, hend] at hns
  exact ⟨A9, c9, congrArg (fun n => Ending.returned (.slice A9 n c9)) (show nv.length = (cutF g).length by rw [← hend, ← hnv, List.length_map]), hns, hE⟩
end Go.Proofs.YtndophlnapjkhaaGreatDoor.Vc
namespace Go.Proofs.YtndophlnapjkhaaGreatDoor.Vc
open Go Go.RowKit
set_option linter.unusedVariables false
theorem h_listed {P : Program} {n : Nat} {ops : Array Oper} {Q : Post} {S : World → Prop} {fuel : Nat} {listed listed' : Array Bool} {e : Env} {w : World} (h : listed = listed') (k : hwp P n ops Q S fuel listed' e w) : hwp P n ops Q S fuel listed e w := h ▸ k
theorem c_fresh {P : Program} {n : Nat} {Q : Post} {e : Env} {w : World} {c : Code} (I : Env → Prop) (h : I e) (k : ∀ e, I e → cwp P n c Q e w) : cwp P n c Q e w := k e h
theorem c_loop0 {P : Program} {n : Nat} {Q : Post} {e : Env} {w : World} {c : Code} (I : Nat → Env → World → Prop) (m : Nat) (h0 : I m e w) (round : ∀ m e' w, I m e' w → cwp P n c (Post.then (fun e' w' => ∃ m', m' < m ∧ I m' e' w') Q) e' w) : cwp P n (.loop c) Q e w := by
 intro a ha b k cs
 have key : ∀ m a e' w, Agrees n a e' → I m e' w →
     ∃ x a' w', lift n Q x a' w' ∧ Arrives P (lone (b.at a (.code c :: .inLoop c :: k)) cs w) b k cs x a' w' := by
  intro m
  induction m using Nat.strongRecOn with
  | _ m ih =>
   intro a e' w ha hI
   obtain ⟨x, a₁, w₁, ⟨e₁, ha₁, hq⟩, harr⟩ := round m e' w hI a ha b (.inLoop c :: k) cs
   cases x with
   | normal =>
    obtain ⟨m', hlt, hI₁⟩ := hq
    obtain ⟨x₂, a₂, w₂, hq₂, harr₂⟩ := ih m' hlt a₁ e₁ w₁ ha₁ hI₁
    exact ⟨x₂, a₂, w₂, hq₂, .of_steps (Steps.trans harr (.one step_inLoop)) harr₂⟩
   | exit id => exact ⟨_, a₁, w₁, ⟨e₁, ha₁, hq⟩, .pass (x := .inLoop c) rfl (fun _ _ => .inl (by simp)) harr⟩
   | goto l => exact ⟨_, a₁, w₁, ⟨e₁, ha₁, hq⟩, .pass (x := .inLoop c) rfl (fun _ _ => .inl (by simp)) harr⟩
   | ret => exact ⟨_, a₁, w₁, ⟨e₁, ha₁, hq⟩, .pass (x := .inLoop c) rfl (fun _ _ => .inl (by simp)) harr⟩
   | panic ch => exact ⟨_, a₁, w₁, ⟨e₁, ha₁, hq⟩, .pass (x := .inLoop c) rfl (fun _ _ => .inl (by simp)) harr⟩
   | outgrown => exact ⟨_, a₁, w₁, ⟨e₁, ha₁, hq⟩, .pass (x := .inLoop c) rfl (fun _ _ => .inl (by simp)) harr⟩
 obtain ⟨x, a', w', hq, harr⟩ := key m a e w ha h0
 exact ⟨x, a', w', hq, .of_steps (.one step_loop) harr⟩
end Go.Proofs.YtndophlnapjkhaaGreatDoor.Vc
namespace Go.Proofs.YtndophlnapjkhaaGreatDoor.Vc
open Go Go.RowKit
set_option linter.unusedVariables false
set_option linter.unusedSimpArgs false
theorem rsmall_calls (w0 : World) (c : Int) : Calls Tryz.prog 112 [.int .u8 c].toArray w0 fun en w' => en = .returned (.bool (smallB c)) ∧ Ext0 w0 w' := by
 have hE : Ext0 w0 w0 := Ext.refl _ _
 refine calls [2] Tryz.func112 rfl rfl rfl rfl ?_
 refine c_seq ?_
 refine c_ops ?_
 refine as' rfl rfl rfl rfl ?_
 refine l_nil ?_
 refine c_seq ?_
 refine c_ops ?_
 refine mv' rfl rfl rfl rfl ?_
 refine l_val rfl rfl rfl (r_geq rfl rfl rfl) ?_
 refine mv' rfl rfl rfl rfl ?_
 refine l_case 5 rfl (fun hb => ?_) (fun hb => ?_)
 ·have hr5 := hb
  replace hb := of_decide_eq_true hb
  refine mv' rfl rfl rfl rfl ?_
  refine l_val rfl rfl rfl (r_leq rfl rfl rfl) ?_
  refine l_val rfl rfl rfl (r_pick rfl rfl) ?_
  refine as' rfl rfl rfl rfl ?_
  refine l_nil ?_
  refine c_ret ?_
  exact ⟨ret_bool rfl (by simp [smallB, hb]), hE⟩
 ·have hr5 := hb
  replace hb := of_decide_eq_false hb
  refine l_not rfl rfl rfl ?_
  refine l_not rfl rfl rfl ?_
  refine l_val rfl rfl rfl (r_pick rfl rfl) ?_
  refine as' rfl rfl rfl rfl ?_
  refine l_nil ?_
  refine c_ret ?_
  exact ⟨ret_bool rfl (by simp [smallB, hb]), hE⟩
theorem rdigit_calls (w0 : World) (c : Int) : Calls Tryz.prog 113 [.int .u8 c].toArray w0 fun en w' => en = .returned (.bool (digitB c)) ∧ Ext0 w0 w' := by
 have hE : Ext0 w0 w0 := Ext.refl _ _
 refine calls [2] Tryz.func113 rfl rfl rfl rfl ?_
 refine c_seq ?_
 refine c_ops ?_
 refine as' rfl rfl rfl rfl ?_
 refine l_nil ?_
 refine c_seq ?_
 refine c_ops ?_
 refine mv' rfl rfl rfl rfl ?_
 refine l_val rfl rfl rfl (r_geq rfl rfl rfl) ?_
 refine mv' rfl rfl rfl rfl ?_
 refine l_case 5 rfl (fun hb => ?_) (fun hb => ?_)
 ·have hr5 := hb
  replace hb := of_decide_eq_true hb
  refine mv' rfl rfl rfl rfl ?_
  refine l_val rfl rfl rfl (r_leq rfl rfl rfl) ?_
  refine l_val rfl rfl rfl (r_pick rfl rfl) ?_
  refine as' rfl rfl rfl rfl ?_
  refine l_nil ?_
  refine c_ret ?_
  exact ⟨ret_bool rfl (by simp [digitB, hb]), hE⟩
 ·have hr5 := hb
  replace hb := of_decide_eq_false hb
  refine l_not rfl rfl rfl ?_
  refine l_not rfl rfl rfl ?_
  refine l_val rfl rfl rfl (r_pick rfl rfl) ?_
  refine as' rfl rfl rfl rfl ?_
  refine l_nil ?_
  refine c_ret ?_
  exact ⟨ret_bool rfl (by simp [digitB, hb]), hE⟩
theorem tag3 (x : Int) : ([smallB, digitB, scoreB].any (· x)) = (smallB x || (digitB x || scoreB x)) := by simp [List.any_cons]
theorem formedB_all {s : ByteArray} {q : Int → Bool} {qs : List (Int → Bool)} (h : ∀ j, j < s.size → qs.any (· ((bytesL s).getD j 0)) = true) : formedB s q qs = (decide (s.size ≠ 0) && decide (s.size ≤ 16) && q ((bytesL s).getD 0 0)) := by
 have hl := bytesL_length s
 have : (bytesL s).all (fun c => qs.any (· c)) = true := by
  rw [List.all_eq_true]
  intro c hc
  obtain ⟨j, hj⟩ := List.mem_iff_getElem?.1 hc
  have hjl := (List.getElem?_eq_some_iff.1 hj).1
  have := h j (by omega)
  rw [List.getD_eq_getElem?_getD, hj] at this
  exact this
 unfold formedB
 rw [this, Bool.and_true]
theorem rtagged_calls (w0 : World) (s : ByteArray) (hmax : s.size ≤ 9223372036854775807) :
    Calls Tryz.prog 98 [.string s].toArray w0 fun en w' => en = .returned (.bool (taggedB s)) ∧ Ext0 w0 w' := by
 have hE : Ext0 w0 w0 := Ext.refl _ _
 refine calls [2] Tryz.func98 rfl rfl rfl rfl ?_
 refine c_seq ?_
 refine c_ops ?_
 refine as' rfl rfl rfl rfl ?_
 refine l_nil ?_
 refine c_seq ?_
 refine c_seq ?_
 refine c_ops ?_
 refine as' rfl rfl rfl rfl ?_
 refine l_nil ?_
 refine c_block ?_
 refine c_loop [2, 3, 4, 5, 6, 7, 8, 9, 10, 11, 12, 13, 14, 15, 16, 17, 18, 19, 20, 21, 22, 23, 24, 25, 26, 27] (fun m1 e w => ∃ (k : Nat), k ≤ s.size ∧ m1 = s.size - k ∧ e 3 = .int .i64 (k : Nat) ∧ (∀ j, j < k → [smallB, digitB, scoreB].any (· ((bytesL s).getD j 0)) = true) ∧ Ext0 w0 w) (s.size) ?_ ?_
 ·exact ⟨0, Nat.zero_le _, rfl, rfl, fun j hj => absurd hj (Nat.not_lt_zero _), hE⟩
 intro m1 e w hI
 obtain ⟨k, hkl, hkm, h3s, hall, hE⟩ := hI
 refine c_know (t := 3) (by exact h3s) ?_
 refine c_seq ?_
 refine c_seq ?_
 refine c_ops ?_
 refine mv' rfl rfl rfl rfl ?_
 refine mv' rfl rfl rfl rfl ?_
 refine l_val rfl rfl rfl (r_len_str rfl Tryz.underlying9 rfl) ?_
 refine l_val rfl rfl rfl (r_lss rfl rfl rfl) ?_
 refine l_nil ?_
 refine c_cond rfl (fun hb => ?_) (fun hb => ?_)
 ·have hr7 := hb
  replace hb := of_decide_eq_true hb
  have hklt : k < s.size := by omega
  obtain ⟨c, hc, hci, _⟩ := byte_at s k hklt
  refine c_skip ?_
  refine c_seq ?_
  refine c_block ?_
  refine c_seq ?_
  refine c_ops ?_
  refine mv' rfl rfl rfl rfl ?_
  refine mv' rfl rfl rfl rfl ?_
  refine l_val rfl rfl rfl (r_index_str rfl Tryz.underlying9 rfl rfl (Int.natCast_nonneg _) hc) ?_
  refine l_by rfl rfl rfl (r_call rfl rfl Tryz.func112 rfl rfl) (rsmall_calls _ _) ?_
  rintro _ w ⟨rfl, hX⟩
  replace hE := hE.trans hX
  refine ⟨_, rfl, ?_⟩
  refine l_val rfl rfl rfl (r_not rfl rfl) ?_
  refine mv' rfl rfl rfl rfl ?_
  refine l_case 15 rfl (fun hb => ?_) (fun hb => ?_)
  ·have hr15 := hb
   refine mv' rfl rfl rfl rfl ?_
   refine mv' rfl rfl rfl rfl ?_
   refine l_val rfl rfl rfl (r_index_str rfl Tryz.underlying9 rfl rfl (Int.natCast_nonneg _) hc) ?_
   refine l_by rfl rfl rfl (r_call rfl rfl Tryz.func113 rfl rfl) (rdigit_calls _ _) ?_
   rintro _ w ⟨rfl, hX⟩
   replace hE := hE.trans hX
   refine ⟨_, rfl, ?_⟩
   refine l_val rfl rfl rfl (r_not rfl rfl) ?_
   refine l_val rfl rfl rfl (r_pick rfl rfl) ?_
   refine mv' rfl rfl rfl rfl ?_
   refine l_case 22 rfl (fun hb => ?_) (fun hb => ?_)
   ·have hr22 := hb
    refine mv' rfl rfl rfl rfl ?_
    refine mv' rfl rfl rfl rfl ?_
    refine l_val rfl rfl rfl (r_index_str rfl Tryz.underlying9 rfl rfl (Int.natCast_nonneg _) hc) ?_
    refine l_val rfl rfl rfl (r_neq rfl rfl rfl) ?_
    refine l_val rfl rfl rfl (r_pick rfl rfl) ?_
    refine l_nil ?_
    refine c_cond rfl (fun hb => ?_) (fun hb => ?_)
    ·have hr27 := hb
     replace hb := of_decide_eq_false (by simpa using hb)
     have hno : [smallB, digitB, scoreB].any (· ((bytesL s).getD k 0)) = false := by rw [tag3, ← hci]; simp at hr15 hr22; simp [scoreB, hr15, hr22, hb]
     refine c_seq ?_
     refine c_ops ?_
     refine as' rfl rfl rfl rfl ?_
     refine l_nil ?_
     refine c_ret ?_
     exact ⟨ret_bool rfl (formedB_no k hklt hno).symm, hE⟩
    ·have hr27 := hb
     replace hb := of_decide_eq_true (by simpa using hb)
     have hyes : [smallB, digitB, scoreB].any (· ((bytesL s).getD k 0)) = true := by rw [tag3, ← hci]; simp [scoreB, hb]
     refine c_skip ?_
     refine c_ops ?_
     refine mv' rfl rfl rfl rfl ?_
     refine l_val rfl rfl rfl (r_add rfl rfl rfl) ?_
     refine as' rfl rfl rfl rfl ?_
     refine l_nil ?_
     refine ag' ?_
     exact ⟨s.size - (k + 1), by omega, k + 1, by omega, rfl, by show Value.int .i64 (IntKind.i64.wrap ((k : Int) + 1)) = _; rw [wrap_succ hklt hmax], fun j hj => by rcases Nat.lt_or_eq_of_le (Nat.le_of_lt_succ hj) with h | rfl <;> first | exact hall j h | exact hyes, hE⟩
   ·have hr22 := hb
    have hyes : [smallB, digitB, scoreB].any (· ((bytesL s).getD k 0)) = true := by rw [tag3, ← hci]; simp at hb; simp [hb]
    refine l_not rfl rfl rfl ?_
    refine l_not rfl rfl rfl ?_
    refine l_not rfl rfl rfl ?_
    refine l_not rfl rfl rfl ?_
    refine l_val rfl rfl rfl (r_pick rfl rfl) ?_
    refine l_nil ?_
    refine c_no rfl ?_
    refine c_skip ?_
    refine c_ops ?_
    refine mv' rfl rfl rfl rfl ?_
    refine l_val rfl rfl rfl (r_add rfl rfl rfl) ?_
    refine as' rfl rfl rfl rfl ?_
    refine l_nil ?_
    refine ag' ?_
    exact ⟨s.size - (k + 1), by omega, k + 1, by omega, rfl, by show Value.int .i64 (IntKind.i64.wrap ((k : Int) + 1)) = _; rw [wrap_succ hklt hmax], fun j hj => by rcases Nat.lt_or_eq_of_le (Nat.le_of_lt_succ hj) with h | rfl <;> first | exact hall j h | exact hyes, hE⟩
  ·have hr15 := hb
   have hyes : [smallB, digitB, scoreB].any (· ((bytesL s).getD k 0)) = true := by rw [tag3, ← hci]; simp at hb; simp [hb]
   refine l_not rfl rfl rfl ?_
   refine l_not rfl rfl rfl ?_
   refine l_not rfl rfl rfl ?_
   refine l_not rfl rfl rfl ?_
   refine l_not rfl rfl rfl ?_
   refine l_val rfl rfl rfl (r_pick rfl rfl) ?_
   refine mv' rfl rfl rfl rfl ?_
   refine l_not rfl rfl rfl ?_
   refine l_not rfl rfl rfl ?_
   refine l_not rfl rfl rfl ?_
   refine l_not rfl rfl rfl ?_
   refine l_val rfl rfl rfl (r_pick rfl rfl) ?_
   refine l_nil ?_
   refine c_no rfl ?_
   refine c_skip ?_
   refine c_ops ?_
   refine mv' rfl rfl rfl rfl ?_
   refine l_val rfl rfl rfl (r_add rfl rfl rfl) ?_
   refine as' rfl rfl rfl rfl ?_
   refine l_nil ?_
   refine ag' ?_
   exact ⟨s.size - (k + 1), by omega, k + 1, by omega, rfl, by show Value.int .i64 (IntKind.i64.wrap ((k : Int) + 1)) = _; rw [wrap_succ hklt hmax], fun j hj => by rcases Nat.lt_or_eq_of_le (Nat.le_of_lt_succ hj) with h | rfl <;> first | exact hall j h | exact hyes, hE⟩
 ·have hr7 := hb
  replace hb := of_decide_eq_false hb
  have hform : taggedB s = _ := formedB_all (fun j hj => hall j (by omega))
  refine c_exit ?_
  refine c_seq ?_
  refine c_ops ?_
  refine mv' rfl rfl rfl rfl ?_
  refine l_val rfl rfl rfl (r_len_str rfl Tryz.underlying9 rfl) ?_
  refine l_val rfl rfl rfl (r_geq rfl rfl rfl) ?_
  refine mv' rfl rfl rfl rfl ?_
  refine l_case 31 rfl (fun hb => ?_) (fun hb => ?_)
  ·have hr31 := hb
   replace hb := of_decide_eq_true hb
   have hs0 : s.size ≠ 0 := by omega
   refine mv' rfl rfl rfl rfl ?_
   refine l_val rfl rfl rfl (r_len_str rfl Tryz.underlying9 rfl) ?_
   refine l_val rfl rfl rfl (r_leq rfl rfl rfl) ?_
   refine l_val rfl rfl rfl (r_pick rfl rfl) ?_
   refine mv' rfl rfl rfl rfl ?_
   refine l_case 36 rfl (fun hb => ?_) (fun hb => ?_)
   ·have hr36 := hb
    replace hb := of_decide_eq_true hb
    have hs16 : s.size ≤ 16 := by omega
    obtain ⟨c0, hc0, hci0, _⟩ := byte_at s 0 (by omega)
    refine mv' rfl rfl rfl rfl ?_
    refine l_val rfl rfl rfl (r_index_str rfl Tryz.underlying9 rfl rfl (Int.le_refl _) hc0) ?_
    refine l_by rfl rfl rfl (r_call rfl rfl Tryz.func112 rfl rfl) (rsmall_calls _ _) ?_
    rintro _ w ⟨rfl, hX⟩
    replace hE := hE.trans hX
    refine ⟨_, rfl, ?_⟩
    refine l_val rfl rfl rfl (r_pick rfl rfl) ?_
    refine as' rfl rfl rfl rfl ?_
    refine l_nil ?_
    refine c_ret ?_
    exact ⟨ret_bool rfl (by rw [hform, hci0, decide_eq_true hs0, decide_eq_true hs16]; rfl), hE⟩
   ·have hr36 := hb
    replace hb := of_decide_eq_false hb
    have hs16 : ¬ s.size ≤ 16 := by omega
    refine l_not rfl rfl rfl ?_
    refine l_not rfl rfl rfl ?_
    refine l_not rfl rfl rfl ?_
    refine l_val rfl rfl rfl (r_pick rfl rfl) ?_
    refine as' rfl rfl rfl rfl ?_
    refine l_nil ?_
    refine c_ret ?_
    exact ⟨ret_bool rfl (by rw [hform, decide_eq_true hs0, decide_eq_false hs16]; rfl), hE⟩
  ·have hr31 := hb
   replace hb := of_decide_eq_false hb
   have hs0 : ¬ s.size ≠ 0 := by omega
   refine l_not rfl rfl rfl ?_
   refine l_not rfl rfl rfl ?_
   refine l_not rfl rfl rfl ?_
   refine l_val rfl rfl rfl (r_pick rfl rfl) ?_
   refine mv' rfl rfl rfl rfl ?_
   refine l_not rfl rfl rfl ?_
   refine l_not rfl rfl rfl ?_
   refine l_not rfl rfl rfl ?_
   refine l_val rfl rfl rfl (r_pick rfl rfl) ?_
   refine as' rfl rfl rfl rfl ?_
   refine l_nil ?_
   refine c_ret ?_
   exact ⟨ret_bool rfl (by rw [hform, decide_eq_false hs0]; rfl), hE⟩
theorem rkeys_calls (w0 : World) : Calls Tryz.prog 99 ([] : List Value).toArray w0 fun en w' => ∃ b, en = .returned (.slice (some ⟨b, 0, none⟩) 18 18) ∧ w'.heap[b]? = some (.cells (keysL.map Value.string).toArray 9 (0, 0)) ∧ Ext0 w0 w' := by
 have hE : Ext0 w0 w0 := Ext.refl _ _
 have hL : Has w0 [] := trivial
 refine calls [0] Tryz.func99 rfl rfl rfl rfl ?_
 refine c_seq ?_
 refine c_ops ?_
 refine as' rfl rfl rfl rfl ?_
 refine l_nil ?_
 refine c_seq ?_
 refine c_ops ?_
 refine l_new rfl rfl rfl (n_slice (cells := (keysL.map Value.string).toArray) rfl Tryz.underlying44 Tryz.sizeOf9 Tryz.zeroValue9 rfl rfl (by kernel_rfl) hL hE) ?_
 rintro _ w ⟨s1, rfl, hs1, hL, hE, hX⟩
 refine as' rfl rfl rfl rfl ?_
 refine l_nil ?_
 refine c_ret ?_
 exact ⟨s1, rfl, hL.get 0 rfl, hE⟩
theorem keys_sl {w : World} {b : Nat} (h : w.heap[b]? = some (.cells (keysL.map Value.string).toArray 9 (0, 0))) : Sl w 1 RStr (some ⟨b, 0, none⟩) 18 18 keysL :=
 Sl.ofBlk1 h rfl (Nat.le_refl _) (by decide) (fun i x hi => ⟨.string x, by simp [hi], rfl⟩)
theorem rIsKey_calls (w0 : World) (s : ByteArray) : Calls Tryz.prog 79 [.string s].toArray w0 fun en w' => en = .returned (.bool (isKeyB s)) ∧ Ext0 w0 w' := by
 have hE : Ext0 w0 w0 := Ext.refl _ _
 refine calls [2] Tryz.func79 rfl rfl rfl rfl ?_
 refine c_seq ?_
 refine c_ops ?_
 refine as' rfl rfl rfl rfl ?_
 refine l_nil ?_
 refine c_seq ?_
 refine c_ops ?_
 refine l_by rfl rfl rfl (r_call rfl rfl Tryz.func99 rfl rfl) (rkeys_calls _) ?_
 rintro _ w ⟨b, rfl, hbk, hX⟩
 replace hE := hE.trans hX
 have hks0 := keys_sl hbk
 obtain ⟨w1, hw1⟩ : ∃ w1, w1 = w := ⟨_, rfl⟩
 rw [← hw1] at hks0
 have hEE : Ext0 w1 w := hw1 ▸ Ext.refl _ _
 refine ⟨_, rfl, ?_⟩
 refine as' rfl rfl rfl rfl ?_
 refine l_nil ?_
 refine c_seq ?_
 refine c_seq ?_
 refine c_ops ?_
 refine as' rfl rfl rfl rfl ?_
 refine l_nil ?_
 refine c_block ?_
 refine c_loop [2, 4, 6, 7, 8, 9, 10, 11, 12, 13, 14, 15, 16, 17] (fun m1 e w => ∃ (k : Nat), k ≤ 18 ∧ m1 = 18 - k ∧ e 4 = .int .i64 (k : Nat) ∧ (∀ j, j < k → keysL.getD j ByteArray.empty ≠ s) ∧ Ext0 w1 w ∧ Ext0 w0 w) (18) ?_ ?_
 ·exact ⟨0, Nat.zero_le _, rfl, rfl, fun j hj => absurd hj (Nat.not_lt_zero _), hEE, hE⟩
 intro m1 e w hI
 obtain ⟨k, hkl, hkm, h4s, hall, hEE, hE⟩ := hI
 refine c_know (t := 4) (by exact h4s) ?_
 refine c_seq ?_
 refine c_seq ?_
 refine c_ops ?_
 refine mv' rfl rfl rfl rfl ?_
 refine mv' rfl rfl rfl rfl ?_
 refine l_val rfl rfl rfl (r_len rfl Tryz.underlying44 rfl) ?_
 refine l_val rfl rfl rfl (r_lss rfl rfl rfl) ?_
 refine l_nil ?_
 refine c_cond rfl (fun hb => ?_) (fun hb => ?_)
 ·have hr9 := hb
  replace hb := of_decide_eq_true hb
  have hklt : k < 18 := by omega
  refine c_skip ?_
  refine c_seq ?_
  refine c_block ?_
  refine c_seq ?_
  refine c_ops ?_
  refine mv' rfl rfl rfl rfl ?_
  refine mv' rfl rfl rfl rfl ?_
  refine l_val rfl rfl rfl (r_indexAddr_sl rfl Tryz.underlying44 Tryz.sizeOf9 rfl hks0.is rfl (by omega) (by omega)) ?_
  refine l_val rfl rfl rfl (r_load rfl Tryz.isAgg9 rfl ((hks0.keep RStr.kept (Ext0.cells hEE)).str k (by omega) (by omega))) ?_
  refine mv' rfl rfl rfl rfl ?_
  refine l_val rfl rfl rfl (r_seql rfl rfl rfl) ?_
  refine l_nil ?_
  refine c_cond rfl (fun hb => ?_) (fun hb => ?_)
  ·have hr17 := hb
   replace hb := of_decide_eq_true hb
   refine c_seq ?_
   refine c_ops ?_
   refine as' rfl rfl rfl rfl ?_
   refine l_nil ?_
   refine c_ret ?_
   exact ⟨ret_bool rfl (isKeyB_yes k hklt hb).symm, hE⟩
  ·have hr17 := hb
   replace hb := of_decide_eq_false hb
   refine c_skip ?_
   refine c_ops ?_
   refine mv' rfl rfl rfl rfl ?_
   refine l_val rfl rfl rfl (r_add rfl rfl rfl) ?_
   refine as' rfl rfl rfl rfl ?_
   refine l_nil ?_
   refine ag' ?_
   exact ⟨18 - (k + 1), by omega, k + 1, by omega, rfl, by show Value.int .i64 (IntKind.i64.wrap ((k : Int) + 1)) = _; rw [wrap_succ hklt (by omega)], fun j hj => by rcases Nat.lt_or_eq_of_le (Nat.le_of_lt_succ hj) with h | rfl <;> first | exact hall j h | exact hb, hEE, hE⟩
 ·have hr9 := hb
  replace hb := of_decide_eq_false hb
  refine c_exit ?_
  refine c_seq ?_
  refine c_ops ?_
  refine as' rfl rfl rfl rfl ?_
  refine l_nil ?_
  refine c_ret ?_
  exact ⟨ret_bool rfl (isKeyB_no (fun j hj => hall j (by omega))).symm, hE⟩
theorem rIsName_calls (w0 : World) (s : ByteArray) (hmax : s.size ≤ 9223372036854775807) :
    Calls Tryz.prog 78 [.string s].toArray w0 fun en w' => en = .returned (.bool (isNameB s)) ∧ Ext0 w0 w' := by
 have hE : Ext0 w0 w0 := Ext.refl _ _
 refine calls [2] Tryz.func78 rfl rfl rfl rfl ?_
 refine c_seq ?_
 refine c_ops ?_
 refine as' rfl rfl rfl rfl ?_
 refine l_nil ?_
 refine c_seq ?_
 refine c_ops ?_
 refine mv' rfl rfl rfl rfl ?_
 refine l_by rfl rfl rfl (r_call rfl rfl Tryz.func98 rfl rfl) (rtagged_calls _ s hmax) ?_
 rintro _ w ⟨rfl, hX⟩
 replace hE := hE.trans hX
 refine ⟨_, rfl, ?_⟩
 refine mv' rfl rfl rfl rfl ?_
 refine l_case 5 rfl (fun hb => ?_) (fun hb => ?_)
 ·have hr5 := hb
  refine mv' rfl rfl rfl rfl ?_
  refine l_by rfl rfl rfl (r_call rfl rfl Tryz.func79 rfl rfl) (rIsKey_calls _ s) ?_
  rintro _ w ⟨rfl, hX⟩
  replace hE := hE.trans hX
  refine ⟨_, rfl, ?_⟩
  refine l_val rfl rfl rfl (r_not rfl rfl) ?_
  refine l_val rfl rfl rfl (r_pick rfl rfl) ?_
  refine as' rfl rfl rfl rfl ?_
  refine l_nil ?_
  refine c_ret ?_
  exact ⟨ret_bool rfl (by unfold isNameB; rw [hb]; rfl), hE⟩
 ·have hr5 := hb
  refine l_not rfl rfl rfl ?_
  refine l_not rfl rfl rfl ?_
  refine l_not rfl rfl rfl ?_
  refine l_val rfl rfl rfl (r_pick rfl rfl) ?_
  refine as' rfl rfl rfl rfl ?_
  refine l_nil ?_
  refine c_ret ?_
  exact ⟨ret_bool rfl (by unfold isNameB; rw [hb]; rfl), hE⟩
end Go.Proofs.YtndophlnapjkhaaGreatDoor.Vc
namespace Go.Proofs.YtndophlnapjkhaaGreatDoor.Vc
open Go Go.RowKit
set_option linter.unusedVariables false
set_option linter.unusedSimpArgs false
theorem info_bool : (Tryz.prog.info? 4).map (fun i => (i.zero, i.size, i.bytes)) = some (some (.bool false), 1, 1) := by kernel_rfl
theorem r_store1 {P : Program} {w : World} {ρ : Operand → Value} {o : Oper} {t : TypeId} {x y : Operand} {b j : Nat} {cs : List Value} {v : Value} {u : TypeId} {S : Nat → Prop} {w0 : World} {L : List Res} (i : Nat) (h : o.op = .store t x y) (hn : Sized P t 1) (hx : ρ x = .pointer (some ((⟨b, 0, none⟩ : Addr).add j))) (hy : ρ y = v) (h1 : v.oneCell' = true) (hc : v.cells = #[v])
    (hL : Has w L) (hE : Ext S w0 w) (hi : L[i]? = some (.blk b (.cells cs.toArray u (0, 0)))) (hl : j < cs.length) (hS : b < w0.heap.size → S b) :
    ∃ w', (execOp ρ o).run P w = .ok .skip w' ∧ Has w' (L.set i (.blk b (.cells (cs.set j v).toArray u (0, 0)))) ∧ Ext S w0 w' ∧ w'.heap.size = w.heap.size ∧ (∀ k, k ≠ b → w'.heap[k]? = w.heap[k]?) := by
 rw [blk_add, Nat.zero_add] at hx
 have hcl : (ρ y).cells.toList = [v] := by rw [hy, hc]
 have := r_store (P := P) i h hn hx hL hE hi (by rw [hy, hc]; rfl) (by rw [hcl]; simp [h1]) (Nat.ble_eq_true_of_le (by simp; omega)) hS
 rw [hcl] at this
 have he : putAt cs.toArray j [v] = (cs.set j v).toArray := by simp [putAt]
 rw [he] at this
 exact this
theorem any_get {α : Type} {p : α → Bool} {l : List α} {k : Nat} {x : α} (h : l[k]? = some x) (hp : p x = true) : l.any p = true := by
 rw [List.any_eq_true]
 exact ⟨x, List.mem_of_getElem? h, hp⟩
theorem any_none {p : Int → Bool} {l : List Int} (h : ∀ j : Nat, j < l.length → p (iat l j) = false) : l.any p = false := by
 rw [List.any_eq_false]
 intro x hx
 obtain ⟨j, hj⟩ := List.mem_iff_getElem?.1 hx
 have hl := (List.getElem?_eq_some_iff.1 hj).1
 have := h j hl
 rw [iat_nat hl] at hj
 cases hj
 simp [this]
theorem inside_calls (w0 : World) (Ag : Option Addr) (cg : Nat) (g : List GNode) (hg : Nodes w0 Ag cg g) (A : Option Addr) (c : Nat) (l : List Int) (hl : Ints w0 A c l) :
    Calls Tryz.prog 82 [.slice Ag g.length cg, .slice A l.length c].toArray w0 fun en w' => en = .returned (.bool (!l.any (outB g.length))) ∧ Ext0 w0 w' := by
 have hE : Ext0 w0 w0 := Ext.refl _ _
 refine calls [4] Tryz.func82 rfl rfl rfl rfl ?_
 refine c_seq ?_
 refine c_ops ?_
 refine as' rfl rfl rfl rfl ?_
 refine l_nil ?_
 refine c_seq ?_
 refine c_seq ?_
 refine c_ops ?_
 refine as' rfl rfl rfl rfl ?_
 refine l_nil ?_
 refine c_block ?_
 refine c_loop [4, 5, 6, 7, 8, 9, 10, 11, 12, 13, 14, 15, 16, 17, 18, 19, 20, 21, 22, 23, 24, 25] (fun m1 e w => ∃ (k : Nat), k ≤ l.length ∧ m1 = l.length - k ∧ e 5 = .int .i64 (k : Nat) ∧ (∀ j : Nat, j < k → outB g.length (iat l j) = false) ∧ Ext0 w0 w) (l.length) ?_ ?_
 ·exact ⟨0, Nat.zero_le _, rfl, rfl, fun j hj => absurd hj (Nat.not_lt_zero _), hE⟩
 intro m1 e w hI
 obtain ⟨k, hkl, hkm, h5s, hall, hE⟩ := hI
 refine c_know (t := 5) (by exact h5s) ?_
 have hL : Has w [] := trivial
 refine c_seq ?_
 refine c_seq ?_
 refine c_ops ?_
 refine mv' rfl rfl rfl rfl ?_
 refine mv' rfl rfl rfl rfl ?_
 refine l_val rfl rfl rfl (r_len rfl Tryz.underlying26 rfl) ?_
 refine l_val rfl rfl rfl (r_lss rfl rfl rfl) ?_
 refine l_nil ?_
 refine c_cond rfl (fun hb => ?_) (fun hb => ?_)
 ·have hr9 := hb
  replace hb := of_decide_eq_true hb
  have hklt : k < l.length := by omega
  have hk := iat_nat hklt
  refine c_skip ?_
  refine c_seq ?_
  refine c_block ?_
  refine c_seq ?_
  refine c_ops ?_
  refine mv' rfl rfl rfl rfl ?_
  refine mv' rfl rfl rfl rfl ?_
  refine l_val rfl rfl rfl (r_indexAddr_sl rfl Tryz.underlying26 Tryz.sizeOf3 rfl hl.is rfl (by omega) (by omega)) ?_
  refine l_val rfl rfl rfl (r_load (v := .int .i64 (iat l k)) rfl Tryz.isAgg3 rfl ((hl.keep RInt.kept (Ext0.cells hE)).int k (by omega) (by omega))) ?_
  refine l_val rfl rfl rfl (r_lss rfl rfl rfl) ?_
  refine mv' rfl rfl rfl rfl ?_
  refine l_case 17 rfl (fun hb => ?_) (fun hb => ?_)
  ·have hr17 := hb
   replace hb := of_decide_eq_true hb
   have hno : outB g.length (iat l k) = true := by simp [outB, hb]
   refine l_not rfl rfl rfl ?_
   refine l_not rfl rfl rfl ?_
   refine l_not rfl rfl rfl ?_
   refine l_not rfl rfl rfl ?_
   refine l_not rfl rfl rfl ?_
   refine l_not rfl rfl rfl ?_
   refine l_not rfl rfl rfl ?_
   refine l_val rfl rfl rfl (r_pick rfl rfl) ?_
   refine l_nil ?_
   refine c_yes rfl ?_
   refine c_seq ?_
   refine c_ops ?_
   refine as' rfl rfl rfl rfl ?_
   refine l_nil ?_
   refine c_ret ?_
   exact ⟨ret_bool rfl (by rw [any_get hk hno]; rfl), hE⟩
  ·have hr17 := hb
   replace hb := of_decide_eq_false hb
   refine mv' rfl rfl rfl rfl ?_
   refine mv' rfl rfl rfl rfl ?_
   refine l_val rfl rfl rfl (r_indexAddr_sl rfl Tryz.underlying26 Tryz.sizeOf3 rfl hl.is rfl (by omega) (by omega)) ?_
   refine l_val rfl rfl rfl (r_load (v := .int .i64 (iat l k)) rfl Tryz.isAgg3 rfl ((hl.keep RInt.kept (Ext0.cells hE)).int k (by omega) (by omega))) ?_
   refine mv' rfl rfl rfl rfl ?_
   refine l_val rfl rfl rfl (r_len rfl Tryz.underlying22 rfl) ?_
   refine l_val rfl rfl rfl (r_geq rfl rfl rfl) ?_
   refine l_val rfl rfl rfl (r_pick rfl rfl) ?_
   refine l_nil ?_
   refine c_cond rfl (fun hb => ?_) (fun hb => ?_)
   ·have hr25 := hb
    replace hb := of_decide_eq_true hb
    have hno : outB g.length (iat l k) = true := by simp [outB, hb]
    refine c_seq ?_
    refine c_ops ?_
    refine as' rfl rfl rfl rfl ?_
    refine l_nil ?_
    refine c_ret ?_
    exact ⟨ret_bool rfl (by rw [any_get hk hno]; rfl), hE⟩
   ·have hr25 := hb
    replace hb := of_decide_eq_false hb
    have hyes : outB g.length (iat l k) = false := by have h1 := of_decide_eq_false hr17; simp [outB]; omega
    refine c_skip ?_
    refine c_ops ?_
    refine mv' rfl rfl rfl rfl ?_
    refine l_val rfl rfl rfl (r_add rfl rfl rfl) ?_
    refine as' rfl rfl rfl rfl ?_
    refine l_nil ?_
    refine ag' ?_
    exact ⟨l.length - (k + 1), by omega, k + 1, by omega, rfl, by show Value.int .i64 (IntKind.i64.wrap ((k : Int) + 1)) = _; rw [wrap_succ hklt hl.max], fun j hj => by rcases Nat.lt_or_eq_of_le (Nat.le_of_lt_succ hj) with h | rfl <;> first | exact hall j h | exact hyes, hE⟩
 ·have hr9 := hb
  replace hb := of_decide_eq_false hb
  refine c_exit ?_
  refine c_seq ?_
  refine c_ops ?_
  refine as' rfl rfl rfl rfl ?_
  refine l_nil ?_
  refine c_ret ?_
  exact ⟨ret_bool rfl (by rw [any_none (fun j hj => hall j (by omega))]; rfl), hE⟩
def inCells (n : Nat) (l : List Int) : List Value := (List.range n).map fun (i : Nat) => Value.bool (decide ((i : Int) ∈ l))
theorem inCells_get {n : Nat} {l : List Int} {i : Nat} (h : i < n) : (inCells n l)[i]? = some (.bool (decide ((i : Int) ∈ l))) := by
 unfold inCells
 rw [List.getElem?_map, List.getElem?_range h]
 rfl
theorem inCells_set {n : Nat} {l : List Int} {x : Int} (h0 : 0 ≤ x) : (inCells n l).set x.toNat (.bool true) = inCells n (l ++ [x]) := by
 apply List.ext_getElem?
 intro i
 rw [List.getElem?_set]
 have hlen : (inCells n l).length = n := by simp [inCells]
 rcases Nat.lt_or_ge i n with hi | hi
 ·rw [inCells_get hi, inCells_get hi]
  split
  ·rename_i e
   subst e
   rw [hlen, if_pos hi, Int.toNat_of_nonneg h0]
   simp
  ·rename_i e
   have : ¬ (i : Int) = x := fun e2 => e (by omega)
   simp [this]
 ·rw [List.getElem?_eq_none (by rw [hlen]; exact hi), List.getElem?_eq_none (by simp [inCells]; exact hi)]
  split
  ·rename_i e
   rw [hlen, if_neg (by omega)]
  ·rfl
theorem made_none (n : Nat) : (madeCells #[Value.bool false] (n * 1)) = (inCells n []).toArray := by
 unfold madeCells inCells
 apply Array.ext'
 simp [Nat.mod_one]
theorem nodup_snoc {l : List Int} {x : Int} : (l ++ [x]).Nodup ↔ l.Nodup ∧ x ∉ l := by
 rw [List.nodup_append]
 constructor
 ·rintro ⟨h1, _, h3⟩
  exact ⟨h1, fun hx => h3 x hx x (by simp) rfl⟩
 ·rintro ⟨h1, h2⟩
  refine ⟨h1, by simp, ?_⟩
  rintro a ha b hb rfl
  rw [List.mem_singleton] at hb
  subst hb
  exact h2 ha
theorem nodup_take {l : List Int} (h : l.Nodup) (k : Nat) : (l.take k).Nodup := (List.take_sublist k l).nodup h
set_option maxHeartbeats 2000000 in
theorem places_calls (w0 : World) (Ag : Option Addr) (cg : Nat) (g : List GNode) (hg : Nodes w0 Ag cg g) (hn : g.length ≤ 1000000) (A : Option Addr) (c : Nat) (l : List Int) (hl : Ints w0 A c l) :
    Calls Tryz.prog 100 [.slice Ag g.length cg, .slice A l.length c].toArray w0 fun en w' => en = .returned (.bool (!l.any (outB g.length) && diffB l)) ∧ Ext0 w0 w' := by
 have hE : Ext0 w0 w0 := Ext.refl _ _
 have hL : Has w0 [] := trivial
 refine calls [4] Tryz.func100 rfl rfl rfl rfl ?_
 refine c_seq ?_
 refine c_ops ?_
 refine as' rfl rfl rfl rfl ?_
 refine l_nil ?_
 refine c_seq ?_
 refine c_ops ?_
 refine mv' rfl rfl rfl rfl ?_
 refine l_val rfl rfl rfl (r_len rfl Tryz.underlying22 rfl) ?_
 refine l_new rfl rfl rfl (n_make rfl Tryz.underlying62 info_bool rfl rfl hL hE (by omega) (by omega)) ?_
 rintro _ w ⟨s9, rfl, hs9, hL, hE, hX⟩
 replace hL : Has w [.blk s9 (.cells (inCells g.length []).toArray 4 (0, 0))] := by rw [← made_none]; exact hL
 refine as' rfl rfl rfl rfl ?_
 refine l_nil ?_
 refine c_seq ?_
 refine c_seq ?_
 refine c_ops ?_
 refine as' rfl rfl rfl rfl ?_
 refine l_nil ?_
 refine c_block ?_
 refine c_loop0 (fun m1 e w => (e 0 = .slice Ag g.length cg ∧ e 1 = .slice A l.length c ∧ e 5 = .slice (some ⟨s9, 0, none⟩) g.length g.length) ∧ ∃ (k : Nat), k ≤ l.length ∧ m1 = l.length - k ∧ e 6 = .int .i64 (k : Nat) ∧ (∀ j : Nat, j < k → outB g.length (iat l j) = false) ∧ (l.take k).Nodup ∧ Has w [.blk s9 (.cells (inCells g.length (l.take k)).toArray 4 (0, 0))] ∧ Ext0 w0 w) (l.length) ?_ ?_
 ·exact ⟨⟨rfl, rfl, rfl⟩, 0, Nat.zero_le _, rfl, rfl, fun j hj => absurd hj (Nat.not_lt_zero _), by simp, by simpa using hL, hE⟩
 rintro m1 e w ⟨⟨hq0, hq1, hq5⟩, hI⟩
 refine c_know (t := 0) (by exact hq0) ?_
 refine c_know (t := 1) (by exact hq1) ?_
 refine c_know (t := 5) (by exact hq5) ?_
 clear hq0 hq1 hq5
 obtain ⟨k, hkl, hkm, h6s, hall, hnd, hL, hE⟩ := hI
 refine c_know (t := 6) (by exact h6s) ?_
 refine c_seq ?_
 refine c_seq ?_
 refine c_ops ?_
 refine mv' rfl rfl rfl rfl ?_
 refine mv' rfl rfl rfl rfl ?_
 refine l_val rfl rfl rfl (r_len rfl Tryz.underlying26 rfl) ?_
 refine l_val rfl rfl rfl (r_lss rfl rfl rfl) ?_
 refine l_nil ?_
 refine c_cond rfl (fun hb => ?_) (fun hb => ?_)
 ·have hr13 := hb
  replace hb := of_decide_eq_true hb
  have hklt : k < l.length := by omega
  have hk := iat_nat hklt
  refine c_skip ?_
  refine c_seq ?_
  refine c_block ?_
  refine c_seq ?_
  refine c_seq ?_
  refine c_ops ?_
  refine mv' rfl rfl rfl rfl ?_
  refine mv' rfl rfl rfl rfl ?_
  refine l_val rfl rfl rfl (r_indexAddr_sl rfl Tryz.underlying26 Tryz.sizeOf3 rfl hl.is rfl (by omega) (by omega)) ?_
  refine l_val rfl rfl rfl (r_load (v := .int .i64 (iat l k)) rfl Tryz.isAgg3 rfl ((hl.keep RInt.kept (Ext0.cells hE)).int k (by omega) (by omega))) ?_
  refine l_val rfl rfl rfl (r_lss rfl rfl rfl) ?_
  refine mv' rfl rfl rfl rfl ?_
  refine l_case 21 rfl (fun hb => ?_) (fun hb => ?_)
  ·have hr21 := hb
   replace hb := of_decide_eq_true hb
   have hno : outB g.length (iat l k) = true := by simp [outB, hb]
   refine l_not rfl rfl rfl ?_
   refine l_not rfl rfl rfl ?_
   refine l_not rfl rfl rfl ?_
   refine l_not rfl rfl rfl ?_
   refine l_not rfl rfl rfl ?_
   refine l_not rfl rfl rfl ?_
   refine l_not rfl rfl rfl ?_
   refine l_val rfl rfl rfl (r_pick rfl rfl) ?_
   refine mv' rfl rfl rfl rfl ?_
   refine l_not rfl rfl rfl ?_
   refine l_not rfl rfl rfl ?_
   refine l_not rfl rfl rfl ?_
   refine l_not rfl rfl rfl ?_
   refine l_not rfl rfl rfl ?_
   refine l_not rfl rfl rfl ?_
   refine l_not rfl rfl rfl ?_
   refine l_val rfl rfl rfl (r_pick rfl rfl) ?_
   refine l_nil ?_
   refine c_yes rfl ?_
   refine c_seq ?_
   refine c_ops ?_
   refine as' rfl rfl rfl rfl ?_
   refine l_nil ?_
   refine c_ret ?_
   exact ⟨ret_bool rfl (by rw [any_get hk hno]; rfl), hE⟩
  ·have hr21 := hb
   replace hb := of_decide_eq_false hb
   refine mv' rfl rfl rfl rfl ?_
   refine mv' rfl rfl rfl rfl ?_
   refine l_val rfl rfl rfl (r_indexAddr_sl rfl Tryz.underlying26 Tryz.sizeOf3 rfl hl.is rfl (by omega) (by omega)) ?_
   refine l_val rfl rfl rfl (r_load (v := .int .i64 (iat l k)) rfl Tryz.isAgg3 rfl ((hl.keep RInt.kept (Ext0.cells hE)).int k (by omega) (by omega))) ?_
   refine mv' rfl rfl rfl rfl ?_
   refine l_val rfl rfl rfl (r_len rfl Tryz.underlying22 rfl) ?_
   refine l_val rfl rfl rfl (r_geq rfl rfl rfl) ?_
   refine l_val rfl rfl rfl (r_pick rfl rfl) ?_
   refine mv' rfl rfl rfl rfl ?_
   refine l_case 30 rfl (fun hb => ?_) (fun hb => ?_)
   ·have hr30 := hb
    replace hb := of_decide_eq_true hb
    have hno : outB g.length (iat l k) = true := by simp [outB, hb]
    refine l_not rfl rfl rfl ?_
    refine l_not rfl rfl rfl ?_
    refine l_not rfl rfl rfl ?_
    refine l_not rfl rfl rfl ?_
    refine l_not rfl rfl rfl ?_
    refine l_not rfl rfl rfl ?_
    refine l_not rfl rfl rfl ?_
    refine l_val rfl rfl rfl (r_pick rfl rfl) ?_
    refine l_nil ?_
    refine c_yes rfl ?_
    refine c_seq ?_
    refine c_ops ?_
    refine as' rfl rfl rfl rfl ?_
    refine l_nil ?_
    refine c_ret ?_
    exact ⟨ret_bool rfl (by rw [any_get hk hno]; rfl), hE⟩
   ·have hr30 := hb
    replace hb := of_decide_eq_false hb
    have hin : 0 ≤ iat l k ∧ iat l k < g.length := by have h1 := of_decide_eq_false hr21; omega
    have hin3 : outB g.length (iat l k) = false := by simp [outB]; omega
    have hsn : w.cell? ((⟨s9, 0, none⟩ : Addr).add ((iat l k).toNat * 1)) = some (.bool (decide (iat l k ∈ l.take k))) := by
     rw [blk_add, blk_cell (hL.get 0 rfl), Nat.zero_add, Nat.mul_one]
     have := inCells_get (n := g.length) (l := l.take k) (i := (iat l k).toNat) (by omega)
     rw [Int.toNat_of_nonneg hin.1] at this
     simpa using this
    refine mv' rfl rfl rfl rfl ?_
    refine mv' rfl rfl rfl rfl ?_
    refine mv' rfl rfl rfl rfl ?_
    refine l_val rfl rfl rfl (r_indexAddr_sl rfl Tryz.underlying26 Tryz.sizeOf3 rfl hl.is rfl (by omega) (by omega)) ?_
    refine l_val rfl rfl rfl (r_load (v := .int .i64 (iat l k)) rfl Tryz.isAgg3 rfl ((hl.keep RInt.kept (Ext0.cells hE)).int k (by omega) (by omega))) ?_
    refine l_val rfl rfl rfl (r_indexAddr rfl Tryz.underlying62 Tryz.sizeOf4 rfl rfl hin.1 hin.2) ?_
    refine l_val rfl rfl rfl (r_load (v := .bool (decide (iat l k ∈ l.take k))) rfl Tryz.isAgg4 rfl hsn) ?_
    refine l_val rfl rfl rfl (r_pick rfl rfl) ?_
    refine l_nil ?_
    refine c_cond rfl (fun hb => ?_) (fun hb => ?_)
    ·have hr38 := hb
     have hno : diffB l = false := by
      unfold diffB
      apply decide_eq_false
      intro hd
      have h1 := nodup_take hd (k + 1)
      rw [take_snoc hk, nodup_snoc] at h1
      exact h1.2 (of_decide_eq_true hb)
     refine c_seq ?_
     refine c_ops ?_
     refine as' rfl rfl rfl rfl ?_
     refine l_nil ?_
     refine c_ret ?_
     exact ⟨ret_bool rfl (by rw [hno, Bool.and_false]), hE⟩
    ·have hr38 := hb
     have hyes := hin3
     have hnd2 : (l.take (k + 1)).Nodup := by rw [take_snoc hk, nodup_snoc]; exact ⟨hnd, of_decide_eq_false hb⟩
     refine c_skip ?_
     refine c_ops ?_
     refine mv' rfl rfl rfl rfl ?_
     refine mv' rfl rfl rfl rfl ?_
     refine mv' rfl rfl rfl rfl ?_
     refine l_val rfl rfl rfl (r_indexAddr_sl rfl Tryz.underlying26 Tryz.sizeOf3 rfl hl.is rfl (by omega) (by omega)) ?_
     refine l_val rfl rfl rfl (r_load (v := .int .i64 (iat l k)) rfl Tryz.isAgg3 rfl ((hl.keep RInt.kept (Ext0.cells hE)).int k (by omega) (by omega))) ?_
     refine l_val rfl rfl rfl (r_indexAddr rfl Tryz.underlying62 Tryz.sizeOf4 rfl rfl hin.1 hin.2) ?_
     refine l_new_do rfl rfl (r_store1 (v := .bool true) 0 rfl Tryz.sizeOf4 rfl rfl rfl rfl hL hE rfl (by rw [Nat.mul_one]; simp [inCells]; omega) (fun h => absurd h (Nat.not_lt.2 hs9))) ?_
     rintro w ⟨hL, hE, hz, hk'⟩
     rw [Nat.mul_one, inCells_set hin.1, ← take_snoc hk] at hL
     refine l_nil ?_
     refine c_ops ?_
     refine mv' rfl rfl rfl rfl ?_
     refine l_val rfl rfl rfl (r_add rfl rfl rfl) ?_
     refine as' rfl rfl rfl rfl ?_
     refine l_nil ?_
     exact ⟨l.length - (k + 1), by omega, ⟨rfl, rfl, rfl⟩, k + 1, by omega, rfl, by show Value.int .i64 (IntKind.i64.wrap ((k : Int) + 1)) = _; rw [wrap_succ hklt hl.max], fun j hj => by rcases Nat.lt_or_eq_of_le (Nat.le_of_lt_succ hj) with h | rfl <;> first | exact hall j h | exact hyes, hnd2, hL, hE⟩
 ·have hr13 := hb
  replace hb := of_decide_eq_false hb
  refine c_exit ?_
  refine c_seq ?_
  refine c_ops ?_
  refine as' rfl rfl rfl rfl ?_
  refine l_nil ?_
  refine c_ret ?_
  exact ⟨ret_bool rfl (by rw [List.take_of_length_le (by omega)] at hnd; rw [any_none (fun j hj => hall j (by omega))]; simp [diffB, hnd]), hE⟩
end Go.Proofs.YtndophlnapjkhaaGreatDoor.Vc
namespace Go.Proofs.YtndophlnapjkhaaGreatDoor.Vc
open Go Go.RowKit
set_option linter.unusedVariables false
set_option linter.unusedSimpArgs false
theorem rises_of {l : List ByteArray} (h : ∀ i : Nat, 0 < i → i < l.length → ltB (kat l (i - 1)) (kat l i) = true) : risesB l = true := risesB_yes fun i h0 hi hc => by
 have hlt := h i h0 hi
 unfold kat at hlt
 unfold cmp2 at hc
 split at hc
 ·rename_i e
  rw [e, ltB_irrefl] at hlt
  cases hlt
 ·unfold cmpB at hc
  split at hc
  ·rename_i hl
   have := ltB_trans hlt hl
   rw [ltB_irrefl] at this
   cases this
  ·first | omega | (split at hc <;> omega)
def rKeysB (l : List ByteArray) : Bool := l.all isNameB && risesB l
theorem rKeysB_name {l : List ByteArray} {k : Nat} (hk : k < l.length) (h : isNameB (kat l k) = false) : rKeysB l = false := by
 unfold rKeysB
 have : l.all isNameB = false := by
  rw [List.all_eq_false]
  exact ⟨_, List.mem_of_getElem? (kat_some hk), by simp [h]⟩
 rw [this]
 rfl
theorem rKeysB_rise {l : List ByteArray} {k : Nat} (h0 : 0 < k) (hk : k < l.length) (h : ltB (kat l (k - 1)) (kat l k) = false) : rKeysB l = false := by
 unfold rKeysB
 cases hr : risesB l with
 | false => rw [Bool.and_false]
 | true => rw [rises_next hr h0 hk] at h; cases h
theorem rKeysB_yes {l : List ByteArray} (h : ∀ j : Nat, j < l.length → isNameB (kat l j) = true ∧ (0 < j → ltB (kat l (j - 1)) (kat l j) = true)) : rKeysB l = true := by
 unfold rKeysB
 rw [rises_of (fun i h0 hi => (h i hi).2 h0), Bool.and_true, List.all_eq_true]
 intro s hs
 obtain ⟨j, hj⟩ := List.mem_iff_getElem?.1 hs
 have hl := (List.getElem?_eq_some_iff.1 hj).1
 rw [kat_some hl] at hj
 cases hj
 exact (h j hl).1
def recB (g : List GNode) (x : GNode) : Bool := rKeysB x.keys && (decide (x.name = ⟨#[]⟩) && decide (x.num = 0) && decide ((x.keys.length : Int) ≤ 16) && decide ((x.l.length : Int) = x.keys.length) && !x.l.any (outB g.length))
theorem record_rcalls (w0 : World) (Ag : Option Addr) (cg : Nat) (g : List GNode) (hg : Nodes w0 Ag cg g) (x : GNode) (Ak : Option Addr) (ck : Nat) (Al : Option Addr) (cl : Nat) (hks : Strs w0 Ak ck x.keys) (hls : Ints w0 Al cl x.l) (hfit : FitsN x) :
    Calls Tryz.prog 80 [.slice Ag g.length cg, .agg (nodeCells x Ak ck Al cl).toArray].toArray w0 fun en w' => en = .returned (.bool (recB g x)) ∧ Ext0 w0 w' := by
 have hE : Ext0 w0 w0 := Ext.refl _ _
 have hL : Has w0 [] := trivial
 refine calls [4] Tryz.func80 rfl rfl rfl rfl ?_
 refine c_seq ?_
 refine c_ops ?_
 refine l_new rfl rfl rfl (n_box rfl hL hE) ?_
 rintro _ w ⟨b3, rfl, hb3, hL, hE, hX⟩
 refine as' rfl rfl rfl rfl ?_
 refine l_nil ?_
 refine c_seq ?_
 refine c_seq ?_
 refine c_ops ?_
 refine as' rfl rfl rfl rfl ?_
 refine l_nil ?_
 refine c_block ?_
 refine c_loop0 (fun m1 e w => (e 0 = .slice Ag g.length cg ∧ e 3 = .pointer (some ⟨b3, 0, none⟩)) ∧ ∃ (k : Nat), k ≤ x.keys.length ∧ m1 = x.keys.length - k ∧ e 5 = .int .i64 (k : Nat) ∧ (∀ j : Nat, j < k → isNameB (kat x.keys j) = true ∧ (0 < j → ltB (kat x.keys (j - 1)) (kat x.keys j) = true)) ∧ Has w [.blk b3 (.cells (nodeCells x Ak ck Al cl).toArray 46 (0, 0))] ∧ Ext0 w0 w) (x.keys.length) ?_ ?_
 ·exact ⟨⟨rfl, rfl⟩, 0, Nat.zero_le _, rfl, rfl, fun j hj => absurd hj (Nat.not_lt_zero _), hL, hE⟩
 rintro m1 e w ⟨⟨hq0, hq3⟩, hI⟩
 refine c_know (t := 0) (by exact hq0) ?_
 refine c_know (t := 3) (by exact hq3) ?_
 clear hq0 hq3
 obtain ⟨k, hkl, hkm, h5s, hall, hL, hE⟩ := hI
 refine c_know (t := 5) (by exact h5s) ?_
 refine c_seq ?_
 refine c_seq ?_
 refine c_ops ?_
 refine mv' rfl rfl rfl rfl ?_
 refine l_val rfl rfl rfl (r_fieldAddr (n := 0) rfl Tryz.underlying46 rfl Tryz.sizeOf44 rfl) ?_
 refine l_val rfl rfl rfl (r_load_blk rfl Tryz.isAgg44 rfl (hL.get 0 rfl) rfl) ?_
 refine l_val rfl rfl rfl (r_len rfl Tryz.underlying44 rfl) ?_
 refine l_val rfl rfl rfl (r_lss rfl rfl rfl) ?_
 refine l_nil ?_
 refine c_cond rfl (fun hb => ?_) (fun hb => ?_)
 ·have hr10 := hb
  replace hb := of_decide_eq_true hb
  have hklt : k < x.keys.length := by omega
  refine c_skip ?_
  refine c_seq ?_
  refine c_block ?_
  refine c_seq ?_
  refine c_draw mixed (hL) hE ?_
  replace hL := hL.drew
  replace hE := hE.drew
  have hK := hL
  refine h_t 0 rfl rfl (by kernel_rfl) (fun _ _ _ h => h) ⟨hK, hE⟩ rfl (fun W hW => r_fieldAddr (n := 0) rfl Tryz.underlying46 rfl Tryz.sizeOf44 rfl) ?_
  refine h_listed (listed' := #[T',F',F',F',F',F',F',F',F',F',F',F',F',F',F',F',F',F',F',F',F',F',F',F',F']) (by kernel_rfl) ?_
  refine h_t 1 rfl rfl (by kernel_rfl) (fun _ _ _ h => h) ⟨hK, hE⟩ rfl (fun W hW => r_load_blk rfl Tryz.isAgg44 rfl (hW.1.get 0 rfl) rfl) ?_
  refine h_listed (listed' := #[T',T',F',F',F',F',F',F',F',F',F',F',F',F',F',F',F',F',F',F',F',F',F',F',F']) (by kernel_rfl) ?_
  refine h_t 2 rfl rfl (by kernel_rfl) (fun _ _ _ h => h) ⟨hK, hE⟩ rfl (fun W hW => r_move rfl) ?_
  refine h_listed (listed' := #[T',T',T',F',F',F',F',F',F',F',F',F',F',F',F',F',F',F',F',F',F',F',F',F',F']) (by kernel_rfl) ?_
  refine h_t 3 rfl rfl (by kernel_rfl) (fun _ _ _ h => h) ⟨hK, hE⟩ rfl (fun W hW => r_indexAddr_sl rfl Tryz.underlying44 Tryz.sizeOf9 rfl hks.is rfl (by omega) (by omega)) ?_
  refine h_listed (listed' := #[T',T',T',T',F',F',F',F',F',F',F',F',F',F',F',F',F',F',F',F',F',F',F',F',F']) (by kernel_rfl) ?_
  refine h_t 4 rfl rfl (by kernel_rfl) (fun _ _ _ h => h) ⟨hK, hE⟩ rfl (fun W hW => r_load (v := .string (kat x.keys k)) rfl Tryz.isAgg9 rfl ((hks.keep RStr.kept (Ext0.cells hW.2)).str k (by omega) (by omega))) ?_
  refine h_listed (listed' := #[T',T',T',T',T',F',F',F',F',F',F',F',F',F',F',F',F',F',F',F',F',F',F',F',F']) (by kernel_rfl) ?_
  refine h_by 5 rfl rfl (by kernel_rfl) rfl (r_call rfl rfl Tryz.func78 rfl rfl) (rIsName_calls _ _ (hfit.2 _ (List.mem_of_getElem? (kat_some hklt)))) ?_
  rintro _ w ⟨rfl, hX⟩
  replace hL := hL.ext0 hX
  replace hE := hE.step0 hX
  have hK := hL
  refine ⟨_, rfl, ⟨hK, hE⟩, ?_⟩
  refine h_listed (listed' := #[T',T',T',T',T',T',F',F',F',F',F',F',F',F',F',F',F',F',F',F',F',F',F',F',F']) (by kernel_rfl) ?_
  refine h_t 6 rfl rfl (by kernel_rfl) (fun _ _ _ h => h) ⟨hK, hE⟩ rfl (fun W hW => r_not rfl rfl) ?_
  refine h_listed (listed' := #[T',T',T',T',T',T',T',F',F',F',F',F',F',F',F',F',F',F',F',F',F',F',F',F',F']) (by kernel_rfl) ?_
  refine h_t 7 rfl rfl (by kernel_rfl) (fun _ _ _ h => h) ⟨hK, hE⟩ rfl (fun W hW => r_move rfl) ?_
  refine h_listed (listed' := #[T',T',T',T',T',T',T',T',F',F',F',F',F',F',F',F',F',F',F',F',F',F',F',F',F']) (by kernel_rfl) ?_
  refine h_case 20 rfl (fun hb => ?_) (fun hb => ?_)
  ·have hr20 := hb
   have hrf : rKeysB x.keys = false := rKeysB_name hklt (by simpa using hb)
   refine h_listed (listed' := #[T',T',T',T',T',T',T',T',F',F',F',F',F',F',F',F',F',F',F',F',F',F',F',F',F']) (by kernel_rfl) ?_
   refine h_n 8 rfl rfl (by kernel_rfl) (fun _ _ _ h => h) ⟨hK, hE⟩ rfl ?_
   refine h_listed (listed' := #[T',T',T',T',T',T',T',T',T',F',F',F',F',F',F',F',F',F',F',F',F',F',F',F',F']) (by kernel_rfl) ?_
   refine h_n 9 rfl rfl (by kernel_rfl) (fun _ _ _ h => h) ⟨hK, hE⟩ rfl ?_
   refine h_listed (listed' := #[T',T',T',T',T',T',T',T',T',T',F',F',F',F',F',F',F',F',F',F',F',F',F',F',F']) (by kernel_rfl) ?_
   refine h_n 10 rfl rfl (by kernel_rfl) (fun _ _ _ h => h) ⟨hK, hE⟩ rfl ?_
   refine h_listed (listed' := #[T',T',T',T',T',T',T',T',T',T',T',F',F',F',F',F',F',F',F',F',F',F',F',F',F']) (by kernel_rfl) ?_
   refine h_n 11 rfl rfl (by kernel_rfl) (fun _ _ _ h => h) ⟨hK, hE⟩ rfl ?_
   refine h_listed (listed' := #[T',T',T',T',T',T',T',T',T',T',T',T',F',F',F',F',F',F',F',F',F',F',F',F',F']) (by kernel_rfl) ?_
   refine h_n 12 rfl rfl (by kernel_rfl) (fun _ _ _ h => h) ⟨hK, hE⟩ rfl ?_
   refine h_listed (listed' := #[T',T',T',T',T',T',T',T',T',T',T',T',T',F',F',F',F',F',F',F',F',F',F',F',F']) (by kernel_rfl) ?_
   refine h_n 13 rfl rfl (by kernel_rfl) (fun _ _ _ h => h) ⟨hK, hE⟩ rfl ?_
   refine h_listed (listed' := #[T',T',T',T',T',T',T',T',T',T',T',T',T',T',F',F',F',F',F',F',F',F',F',F',F']) (by kernel_rfl) ?_
   refine h_n 14 rfl rfl (by kernel_rfl) (fun _ _ _ h => h) ⟨hK, hE⟩ rfl ?_
   refine h_listed (listed' := #[T',T',T',T',T',T',T',T',T',T',T',T',T',T',T',F',F',F',F',F',F',F',F',F',F']) (by kernel_rfl) ?_
   refine h_n 15 rfl rfl (by kernel_rfl) (fun _ _ _ h => h) ⟨hK, hE⟩ rfl ?_
   refine h_listed (listed' := #[T',T',T',T',T',T',T',T',T',T',T',T',T',T',T',T',F',F',F',F',F',F',F',F',F']) (by kernel_rfl) ?_
   refine h_n 16 rfl rfl (by kernel_rfl) (fun _ _ _ h => h) ⟨hK, hE⟩ rfl ?_
   refine h_listed (listed' := #[T',T',T',T',T',T',T',T',T',T',T',T',T',T',T',T',T',F',F',F',F',F',F',F',F']) (by kernel_rfl) ?_
   refine h_n 17 rfl rfl (by kernel_rfl) (fun _ _ _ h => h) ⟨hK, hE⟩ rfl ?_
   refine h_listed (listed' := #[T',T',T',T',T',T',T',T',T',T',T',T',T',T',T',T',T',T',F',F',F',F',F',F',F']) (by kernel_rfl) ?_
   refine h_n 18 rfl rfl (by kernel_rfl) (fun _ _ _ h => h) ⟨hK, hE⟩ rfl ?_
   refine h_listed (listed' := #[T',T',T',T',T',T',T',T',T',T',T',T',T',T',T',T',T',T',T',F',F',F',F',F',F']) (by kernel_rfl) ?_
   refine h_n 19 rfl rfl (by kernel_rfl) (fun _ _ _ h => h) ⟨hK, hE⟩ rfl ?_
   refine h_listed (listed' := #[T',T',T',T',T',T',T',T',T',T',T',T',T',T',T',T',T',T',T',T',F',F',F',F',F']) (by kernel_rfl) ?_
   refine h_n 20 rfl rfl (by kernel_rfl) (fun _ _ _ h => h) ⟨hK, hE⟩ rfl ?_
   refine h_listed (listed' := #[T',T',T',T',T',T',T',T',T',T',T',T',T',T',T',T',T',T',T',T',T',F',F',F',F']) (by kernel_rfl) ?_
   refine h_n 21 rfl rfl (by kernel_rfl) (fun _ _ _ h => h) ⟨hK, hE⟩ rfl ?_
   refine h_listed (listed' := #[T',T',T',T',T',T',T',T',T',T',T',T',T',T',T',T',T',T',T',T',T',T',F',F',F']) (by kernel_rfl) ?_
   refine h_n 22 rfl rfl (by kernel_rfl) (fun _ _ _ h => h) ⟨hK, hE⟩ rfl ?_
   refine h_listed (listed' := #[T',T',T',T',T',T',T',T',T',T',T',T',T',T',T',T',T',T',T',T',T',T',T',F',F']) (by kernel_rfl) ?_
   refine h_n 23 rfl rfl (by kernel_rfl) (fun _ _ _ h => h) ⟨hK, hE⟩ rfl ?_
   refine h_listed (listed' := #[T',T',T',T',T',T',T',T',T',T',T',T',T',T',T',T',T',T',T',T',T',T',T',T',F']) (by kernel_rfl) ?_
   refine h_t 24 rfl rfl (by kernel_rfl) (fun _ _ _ h => h) ⟨hK, hE⟩ rfl (fun W hW => r_pick rfl rfl) ?_
   refine h_listed (listed' := #[T',T',T',T',T',T',T',T',T',T',T',T',T',T',T',T',T',T',T',T',T',T',T',T',T']) (by kernel_rfl) ?_
   refine h_done (by kernel_rfl) ?_
   refine c_yes rfl ?_
   refine c_seq ?_
   refine c_ops ?_
   refine as' rfl rfl rfl rfl ?_
   refine l_nil ?_
   refine c_ret ?_
   exact ⟨ret_bool rfl (by unfold recB; simp only [hrf, hr10, hr20, Bool.true_and, Bool.and_true, Bool.false_and, Bool.and_false, Bool.true_or, Bool.or_true, Bool.false_or, Bool.or_false, Bool.not_true, Bool.not_false, cond_true, cond_false]), hE⟩
  ·have hr20 := hb
   have hyn : isNameB (kat x.keys k) = true := by simpa using hb
   refine h_listed (listed' := #[T',T',T',T',T',T',T',T',F',F',F',F',F',F',F',F',F',F',F',F',F',F',F',F',F']) (by kernel_rfl) ?_
   refine h_t 8 rfl rfl (by kernel_rfl) (fun _ _ _ h => h) ⟨hK, hE⟩ rfl (fun W hW => r_move rfl) ?_
   refine h_listed (listed' := #[T',T',T',T',T',T',T',T',T',F',F',F',F',F',F',F',F',F',F',F',F',F',F',F',F']) (by kernel_rfl) ?_
   refine h_t 9 rfl rfl (by kernel_rfl) (fun _ _ _ h => h) ⟨hK, hE⟩ rfl (fun W hW => r_gtr rfl rfl rfl) ?_
   refine h_listed (listed' := #[T',T',T',T',T',T',T',T',T',T',F',F',F',F',F',F',F',F',F',F',F',F',F',F',F']) (by kernel_rfl) ?_
   refine h_t 10 rfl rfl (by kernel_rfl) (fun _ _ _ h => h) ⟨hK, hE⟩ rfl (fun W hW => r_move rfl) ?_
   refine h_listed (listed' := #[T',T',T',T',T',T',T',T',T',T',T',F',F',F',F',F',F',F',F',F',F',F',F',F',F']) (by kernel_rfl) ?_
   refine h_case 23 rfl (fun hb => ?_) (fun hb => ?_)
   ·have hr23 := hb
    replace hb := of_decide_eq_true hb
    have hsub : IntKind.i64.wrap ((k : Int) - 1) = ((k - 1 : Nat) : Int) := by rw [wrap_small (by omega) (by have := hks.max; omega)]; omega
    refine h_listed (listed' := #[T',T',T',T',T',T',T',T',T',T',T',F',F',F',F',F',F',F',F',F',F',F',F',F',F']) (by kernel_rfl) ?_
    refine h_t 11 rfl rfl (by kernel_rfl) (fun _ _ _ h => h) ⟨hK, hE⟩ rfl (fun W hW => r_fieldAddr (n := 0) rfl Tryz.underlying46 rfl Tryz.sizeOf44 rfl) ?_
    refine h_listed (listed' := #[T',T',T',T',T',T',T',T',T',T',T',T',F',F',F',F',F',F',F',F',F',F',F',F',F']) (by kernel_rfl) ?_
    refine h_t 12 rfl rfl (by kernel_rfl) (fun _ _ _ h => h) ⟨hK, hE⟩ rfl (fun W hW => r_load_blk rfl Tryz.isAgg44 rfl (hW.1.get 0 rfl) rfl) ?_
    refine h_listed (listed' := #[T',T',T',T',T',T',T',T',T',T',T',T',T',F',F',F',F',F',F',F',F',F',F',F',F']) (by kernel_rfl) ?_
    refine h_t 13 rfl rfl (by kernel_rfl) (fun _ _ _ h => h) ⟨hK, hE⟩ rfl (fun W hW => r_move rfl) ?_
    refine h_listed (listed' := #[T',T',T',T',T',T',T',T',T',T',T',T',T',T',F',F',F',F',F',F',F',F',F',F',F']) (by kernel_rfl) ?_
    refine h_t 14 rfl rfl (by kernel_rfl) (fun _ _ _ h => h) ⟨hK, hE⟩ rfl (fun W hW => (r_sub rfl rfl rfl).trans (by rw [hsub])) ?_
    refine h_listed (listed' := #[T',T',T',T',T',T',T',T',T',T',T',T',T',T',T',F',F',F',F',F',F',F',F',F',F']) (by kernel_rfl) ?_
    refine h_t 15 rfl rfl (by kernel_rfl) (fun _ _ _ h => h) ⟨hK, hE⟩ rfl (fun W hW => r_indexAddr_sl rfl Tryz.underlying44 Tryz.sizeOf9 rfl hks.is rfl (by omega) (by omega)) ?_
    refine h_listed (listed' := #[T',T',T',T',T',T',T',T',T',T',T',T',T',T',T',T',F',F',F',F',F',F',F',F',F']) (by kernel_rfl) ?_
    refine h_t 16 rfl rfl (by kernel_rfl) (fun _ _ _ h => h) ⟨hK, hE⟩ rfl (fun W hW => r_load (v := .string (kat x.keys (k - 1))) rfl Tryz.isAgg9 rfl ((hks.keep RStr.kept (Ext0.cells hW.2)).str ((k - 1 : Nat) : Int) (by omega) (by omega))) ?_
    refine h_listed (listed' := #[T',T',T',T',T',T',T',T',T',T',T',T',T',T',T',T',T',F',F',F',F',F',F',F',F']) (by kernel_rfl) ?_
    refine h_t 17 rfl rfl (by kernel_rfl) (fun _ _ _ h => h) ⟨hK, hE⟩ rfl (fun W hW => r_fieldAddr (n := 0) rfl Tryz.underlying46 rfl Tryz.sizeOf44 rfl) ?_
    refine h_listed (listed' := #[T',T',T',T',T',T',T',T',T',T',T',T',T',T',T',T',T',T',F',F',F',F',F',F',F']) (by kernel_rfl) ?_
    refine h_t 18 rfl rfl (by kernel_rfl) (fun _ _ _ h => h) ⟨hK, hE⟩ rfl (fun W hW => r_load_blk rfl Tryz.isAgg44 rfl (hW.1.get 0 rfl) rfl) ?_
    refine h_listed (listed' := #[T',T',T',T',T',T',T',T',T',T',T',T',T',T',T',T',T',T',T',F',F',F',F',F',F']) (by kernel_rfl) ?_
    refine h_t 19 rfl rfl (by kernel_rfl) (fun _ _ _ h => h) ⟨hK, hE⟩ rfl (fun W hW => r_move rfl) ?_
    refine h_listed (listed' := #[T',T',T',T',T',T',T',T',T',T',T',T',T',T',T',T',T',T',T',T',F',F',F',F',F']) (by kernel_rfl) ?_
    refine h_t 20 rfl rfl (by kernel_rfl) (fun _ _ _ h => h) ⟨hK, hE⟩ rfl (fun W hW => r_indexAddr_sl rfl Tryz.underlying44 Tryz.sizeOf9 rfl hks.is rfl (by omega) (by omega)) ?_
    refine h_listed (listed' := #[T',T',T',T',T',T',T',T',T',T',T',T',T',T',T',T',T',T',T',T',T',F',F',F',F']) (by kernel_rfl) ?_
    refine h_t 21 rfl rfl (by kernel_rfl) (fun _ _ _ h => h) ⟨hK, hE⟩ rfl (fun W hW => r_load (v := .string (kat x.keys k)) rfl Tryz.isAgg9 rfl ((hks.keep RStr.kept (Ext0.cells hW.2)).str k (by omega) (by omega))) ?_
    refine h_listed (listed' := #[T',T',T',T',T',T',T',T',T',T',T',T',T',T',T',T',T',T',T',T',T',T',F',F',F']) (by kernel_rfl) ?_
    refine h_t 22 rfl rfl (by kernel_rfl) (fun _ _ _ h => h) ⟨hK, hE⟩ rfl (fun W hW => r_sgeq rfl rfl rfl) ?_
    refine h_listed (listed' := #[T',T',T',T',T',T',T',T',T',T',T',T',T',T',T',T',T',T',T',T',T',T',T',F',F']) (by kernel_rfl) ?_
    refine h_t 23 rfl rfl (by kernel_rfl) (fun _ _ _ h => h) ⟨hK, hE⟩ rfl (fun W hW => r_pick rfl rfl) ?_
    refine h_listed (listed' := #[T',T',T',T',T',T',T',T',T',T',T',T',T',T',T',T',T',T',T',T',T',T',T',T',F']) (by kernel_rfl) ?_
    refine h_t 24 rfl rfl (by kernel_rfl) (fun _ _ _ h => h) ⟨hK, hE⟩ rfl (fun W hW => r_pick rfl rfl) ?_
    refine h_listed (listed' := #[T',T',T',T',T',T',T',T',T',T',T',T',T',T',T',T',T',T',T',T',T',T',T',T',T']) (by kernel_rfl) ?_
    refine h_done (by kernel_rfl) ?_
    refine c_cond rfl (fun hb => ?_) (fun hb => ?_)
    ·have hr37 := hb
     have hrf : rKeysB x.keys = false := rKeysB_rise (by have := of_decide_eq_true hr23; omega) hklt (by simpa [ltB] using hb)
     refine c_seq ?_
     refine c_ops ?_
     refine as' rfl rfl rfl rfl ?_
     refine l_nil ?_
     refine c_ret ?_
     exact ⟨ret_bool rfl (by unfold recB; simp only [hrf, hr10, hr20, hr23, hr37, Bool.true_and, Bool.and_true, Bool.false_and, Bool.and_false, Bool.true_or, Bool.or_true, Bool.false_or, Bool.or_false, Bool.not_true, Bool.not_false, cond_true, cond_false]), hE⟩
    ·have hr37 := hb
     have hyr : 0 < k → ltB (kat x.keys (k - 1)) (kat x.keys k) = true := fun _ => by simpa [ltB] using hb
     refine c_skip ?_
     refine c_ops ?_
     refine mv' rfl rfl rfl rfl ?_
     refine l_val rfl rfl rfl (r_add rfl rfl rfl) ?_
     refine as' rfl rfl rfl rfl ?_
     refine l_nil ?_
     exact ⟨x.keys.length - (k + 1), by omega, ⟨rfl, rfl⟩, k + 1, by omega, rfl, by show Value.int .i64 (IntKind.i64.wrap ((k : Int) + 1)) = _; rw [wrap_succ hklt hks.max], fun j hj => by rcases Nat.lt_or_eq_of_le (Nat.le_of_lt_succ hj) with h | rfl <;> first | exact hall j h | exact ⟨hyn, hyr⟩, hL, hE⟩
   ·have hr23 := hb
    replace hb := of_decide_eq_false hb
    have hyr : 0 < k → ltB (kat x.keys (k - 1)) (kat x.keys k) = true := fun h => absurd h (by omega)
    refine h_listed (listed' := #[T',T',T',T',T',T',T',T',T',T',T',F',F',F',F',F',F',F',F',F',F',F',F',F',F']) (by kernel_rfl) ?_
    refine h_n 11 rfl rfl (by kernel_rfl) (fun _ _ _ h => h) ⟨hK, hE⟩ rfl ?_
    refine h_listed (listed' := #[T',T',T',T',T',T',T',T',T',T',T',T',F',F',F',F',F',F',F',F',F',F',F',F',F']) (by kernel_rfl) ?_
    refine h_n 12 rfl rfl (by kernel_rfl) (fun _ _ _ h => h) ⟨hK, hE⟩ rfl ?_
    refine h_listed (listed' := #[T',T',T',T',T',T',T',T',T',T',T',T',T',F',F',F',F',F',F',F',F',F',F',F',F']) (by kernel_rfl) ?_
    refine h_n 13 rfl rfl (by kernel_rfl) (fun _ _ _ h => h) ⟨hK, hE⟩ rfl ?_
    refine h_listed (listed' := #[T',T',T',T',T',T',T',T',T',T',T',T',T',T',F',F',F',F',F',F',F',F',F',F',F']) (by kernel_rfl) ?_
    refine h_n 14 rfl rfl (by kernel_rfl) (fun _ _ _ h => h) ⟨hK, hE⟩ rfl ?_
    refine h_listed (listed' := #[T',T',T',T',T',T',T',T',T',T',T',T',T',T',T',F',F',F',F',F',F',F',F',F',F']) (by kernel_rfl) ?_
    refine h_n 15 rfl rfl (by kernel_rfl) (fun _ _ _ h => h) ⟨hK, hE⟩ rfl ?_
    refine h_listed (listed' := #[T',T',T',T',T',T',T',T',T',T',T',T',T',T',T',T',F',F',F',F',F',F',F',F',F']) (by kernel_rfl) ?_
    refine h_n 16 rfl rfl (by kernel_rfl) (fun _ _ _ h => h) ⟨hK, hE⟩ rfl ?_
    refine h_listed (listed' := #[T',T',T',T',T',T',T',T',T',T',T',T',T',T',T',T',T',F',F',F',F',F',F',F',F']) (by kernel_rfl) ?_
    refine h_n 17 rfl rfl (by kernel_rfl) (fun _ _ _ h => h) ⟨hK, hE⟩ rfl ?_
    refine h_listed (listed' := #[T',T',T',T',T',T',T',T',T',T',T',T',T',T',T',T',T',T',F',F',F',F',F',F',F']) (by kernel_rfl) ?_
    refine h_n 18 rfl rfl (by kernel_rfl) (fun _ _ _ h => h) ⟨hK, hE⟩ rfl ?_
    refine h_listed (listed' := #[T',T',T',T',T',T',T',T',T',T',T',T',T',T',T',T',T',T',T',F',F',F',F',F',F']) (by kernel_rfl) ?_
    refine h_n 19 rfl rfl (by kernel_rfl) (fun _ _ _ h => h) ⟨hK, hE⟩ rfl ?_
    refine h_listed (listed' := #[T',T',T',T',T',T',T',T',T',T',T',T',T',T',T',T',T',T',T',T',F',F',F',F',F']) (by kernel_rfl) ?_
    refine h_n 20 rfl rfl (by kernel_rfl) (fun _ _ _ h => h) ⟨hK, hE⟩ rfl ?_
    refine h_listed (listed' := #[T',T',T',T',T',T',T',T',T',T',T',T',T',T',T',T',T',T',T',T',T',F',F',F',F']) (by kernel_rfl) ?_
    refine h_n 21 rfl rfl (by kernel_rfl) (fun _ _ _ h => h) ⟨hK, hE⟩ rfl ?_
    refine h_listed (listed' := #[T',T',T',T',T',T',T',T',T',T',T',T',T',T',T',T',T',T',T',T',T',T',F',F',F']) (by kernel_rfl) ?_
    refine h_n 22 rfl rfl (by kernel_rfl) (fun _ _ _ h => h) ⟨hK, hE⟩ rfl ?_
    refine h_listed (listed' := #[T',T',T',T',T',T',T',T',T',T',T',T',T',T',T',T',T',T',T',T',T',T',T',F',F']) (by kernel_rfl) ?_
    refine h_t 23 rfl rfl (by kernel_rfl) (fun _ _ _ h => h) ⟨hK, hE⟩ rfl (fun W hW => r_pick rfl rfl) ?_
    refine h_listed (listed' := #[T',T',T',T',T',T',T',T',T',T',T',T',T',T',T',T',T',T',T',T',T',T',T',T',F']) (by kernel_rfl) ?_
    refine h_t 24 rfl rfl (by kernel_rfl) (fun _ _ _ h => h) ⟨hK, hE⟩ rfl (fun W hW => r_pick rfl rfl) ?_
    refine h_listed (listed' := #[T',T',T',T',T',T',T',T',T',T',T',T',T',T',T',T',T',T',T',T',T',T',T',T',T']) (by kernel_rfl) ?_
    refine h_done (by kernel_rfl) ?_
    refine c_no rfl ?_
    refine c_skip ?_
    refine c_ops ?_
    refine mv' rfl rfl rfl rfl ?_
    refine l_val rfl rfl rfl (r_add rfl rfl rfl) ?_
    refine as' rfl rfl rfl rfl ?_
    refine l_nil ?_
    exact ⟨x.keys.length - (k + 1), by omega, ⟨rfl, rfl⟩, k + 1, by omega, rfl, by show Value.int .i64 (IntKind.i64.wrap ((k : Int) + 1)) = _; rw [wrap_succ hklt hks.max], fun j hj => by rcases Nat.lt_or_eq_of_le (Nat.le_of_lt_succ hj) with h | rfl <;> first | exact hall j h | exact ⟨hyn, hyr⟩, hL, hE⟩
 ·have hr10 := hb
  replace hb := of_decide_eq_false hb
  have hky : rKeysB x.keys = true := rKeysB_yes (fun j hj => hall j (by omega))
  refine c_exit ?_
  refine c_seq ?_
  refine c_ops ?_
  refine l_val rfl rfl rfl (r_fieldAddr (n := 0) rfl Tryz.underlying46 rfl Tryz.sizeOf9 rfl) ?_
  refine l_val rfl rfl rfl (r_load_blk rfl Tryz.isAgg9 rfl (hL.get 0 rfl) rfl) ?_
  refine l_val rfl rfl rfl (r_seql rfl rfl rfl) ?_
  refine mv' rfl rfl rfl rfl ?_
  refine l_case 41 rfl (fun hb => ?_) (fun hb => ?_)
  ·have hr41 := hb
   replace hb := of_decide_eq_true hb
   refine l_val rfl rfl rfl (r_fieldAddr (n := 0) rfl Tryz.underlying46 rfl Tryz.sizeOf3 rfl) ?_
   refine l_val rfl rfl rfl (r_load_blk rfl Tryz.isAgg3 rfl (hL.get 0 rfl) rfl) ?_
   refine l_val rfl rfl rfl (r_eql rfl rfl rfl) ?_
   refine l_val rfl rfl rfl (r_pick rfl rfl) ?_
   refine mv' rfl rfl rfl rfl ?_
   refine l_case 46 rfl (fun hb => ?_) (fun hb => ?_)
   ·have hr46 := hb
    replace hb := of_decide_eq_true hb
    refine l_val rfl rfl rfl (r_fieldAddr (n := 0) rfl Tryz.underlying46 rfl Tryz.sizeOf44 rfl) ?_
    refine l_val rfl rfl rfl (r_load_blk rfl Tryz.isAgg44 rfl (hL.get 0 rfl) rfl) ?_
    refine l_val rfl rfl rfl (r_len rfl Tryz.underlying44 rfl) ?_
    refine l_val rfl rfl rfl (r_leq rfl rfl rfl) ?_
    refine l_val rfl rfl rfl (r_pick rfl rfl) ?_
    refine mv' rfl rfl rfl rfl ?_
    refine l_case 52 rfl (fun hb => ?_) (fun hb => ?_)
    ·have hr52 := hb
     replace hb := of_decide_eq_true hb
     refine l_val rfl rfl rfl (r_fieldAddr (n := 0) rfl Tryz.underlying46 rfl Tryz.sizeOf26 rfl) ?_
     refine l_val rfl rfl rfl (r_load_blk rfl Tryz.isAgg26 rfl (hL.get 0 rfl) rfl) ?_
     refine l_val rfl rfl rfl (r_len rfl Tryz.underlying26 rfl) ?_
     refine l_val rfl rfl rfl (r_fieldAddr (n := 0) rfl Tryz.underlying46 rfl Tryz.sizeOf44 rfl) ?_
     refine l_val rfl rfl rfl (r_load_blk rfl Tryz.isAgg44 rfl (hL.get 0 rfl) rfl) ?_
     refine l_val rfl rfl rfl (r_len rfl Tryz.underlying44 rfl) ?_
     refine l_val rfl rfl rfl (r_eql rfl rfl rfl) ?_
     refine l_val rfl rfl rfl (r_pick rfl rfl) ?_
     refine mv' rfl rfl rfl rfl ?_
     refine l_case 61 rfl (fun hb => ?_) (fun hb => ?_)
     ·have hr61 := hb
      replace hb := of_decide_eq_true hb
      refine mv' rfl rfl rfl rfl ?_
      refine l_val rfl rfl rfl (r_fieldAddr (n := 0) rfl Tryz.underlying46 rfl Tryz.sizeOf26 rfl) ?_
      refine l_val rfl rfl rfl (r_load_blk rfl Tryz.isAgg26 rfl (hL.get 0 rfl) rfl) ?_
      refine l_by rfl rfl rfl (r_call rfl rfl Tryz.func82 rfl rfl) (inside_calls _ Ag cg g (hg.keep RNode.kept (Ext0.cells hE)) Al cl x.l (hls.keep RInt.kept (Ext0.cells hE))) ?_
      rintro _ w ⟨rfl, hX⟩
      replace hL := hL.ext0 hX
      replace hE := hE.step0 hX
      refine ⟨_, rfl, ?_⟩
      refine l_val rfl rfl rfl (r_pick rfl rfl) ?_
      refine as' rfl rfl rfl rfl ?_
      refine l_nil ?_
      refine c_ret ?_
      exact ⟨ret_bool rfl (by unfold recB; simp only [hky, hr10, hr41, hr46, hr52, hr61, Bool.true_and, Bool.and_true, Bool.false_and, Bool.and_false, Bool.true_or, Bool.or_true, Bool.false_or, Bool.or_false, Bool.not_true, Bool.not_false, cond_true, cond_false]), hE⟩
     ·have hr61 := hb
      replace hb := of_decide_eq_false hb
      refine l_not rfl rfl rfl ?_
      refine l_not rfl rfl rfl ?_
      refine l_not rfl rfl rfl ?_
      refine l_not rfl rfl rfl ?_
      refine l_val rfl rfl rfl (r_pick rfl rfl) ?_
      refine as' rfl rfl rfl rfl ?_
      refine l_nil ?_
      refine c_ret ?_
      exact ⟨ret_bool rfl (by unfold recB; simp only [hky, hr10, hr41, hr46, hr52, hr61, Bool.true_and, Bool.and_true, Bool.false_and, Bool.and_false, Bool.true_or, Bool.or_true, Bool.false_or, Bool.or_false, Bool.not_true, Bool.not_false, cond_true, cond_false]), hE⟩
    ·have hr52 := hb
     replace hb := of_decide_eq_false hb
     refine l_not rfl rfl rfl ?_
     refine l_not rfl rfl rfl ?_
     refine l_not rfl rfl rfl ?_
     refine l_not rfl rfl rfl ?_
     refine l_not rfl rfl rfl ?_
     refine l_not rfl rfl rfl ?_
     refine l_not rfl rfl rfl ?_
     refine l_val rfl rfl rfl (r_pick rfl rfl) ?_
     refine mv' rfl rfl rfl rfl ?_
     refine l_not rfl rfl rfl ?_
     refine l_not rfl rfl rfl ?_
     refine l_not rfl rfl rfl ?_
     refine l_not rfl rfl rfl ?_
     refine l_val rfl rfl rfl (r_pick rfl rfl) ?_
     refine as' rfl rfl rfl rfl ?_
     refine l_nil ?_
     refine c_ret ?_
     exact ⟨ret_bool rfl (by unfold recB; simp only [hky, hr10, hr41, hr46, hr52, Bool.true_and, Bool.and_true, Bool.false_and, Bool.and_false, Bool.true_or, Bool.or_true, Bool.false_or, Bool.or_false, Bool.not_true, Bool.not_false, cond_true, cond_false]), hE⟩
   ·have hr46 := hb
    replace hb := of_decide_eq_false hb
    refine l_not rfl rfl rfl ?_
    refine l_not rfl rfl rfl ?_
    refine l_not rfl rfl rfl ?_
    refine l_not rfl rfl rfl ?_
    refine l_val rfl rfl rfl (r_pick rfl rfl) ?_
    refine mv' rfl rfl rfl rfl ?_
    refine l_not rfl rfl rfl ?_
    refine l_not rfl rfl rfl ?_
    refine l_not rfl rfl rfl ?_
    refine l_not rfl rfl rfl ?_
    refine l_not rfl rfl rfl ?_
    refine l_not rfl rfl rfl ?_
    refine l_not rfl rfl rfl ?_
    refine l_val rfl rfl rfl (r_pick rfl rfl) ?_
    refine mv' rfl rfl rfl rfl ?_
    refine l_not rfl rfl rfl ?_
    refine l_not rfl rfl rfl ?_
    refine l_not rfl rfl rfl ?_
    refine l_not rfl rfl rfl ?_
    refine l_val rfl rfl rfl (r_pick rfl rfl) ?_
    refine as' rfl rfl rfl rfl ?_
    refine l_nil ?_
    refine c_ret ?_
    exact ⟨ret_bool rfl (by unfold recB; simp only [hky, hr10, hr41, hr46, Bool.true_and, Bool.and_true, Bool.false_and, Bool.and_false, Bool.true_or, Bool.or_true, Bool.false_or, Bool.or_false, Bool.not_true, Bool.not_false, cond_true, cond_false]), hE⟩
  ·have hr41 := hb
   replace hb := of_decide_eq_false hb
   refine l_not rfl rfl rfl ?_
   refine l_not rfl rfl rfl ?_
   refine l_not rfl rfl rfl ?_
   refine l_val rfl rfl rfl (r_pick rfl rfl) ?_
   refine mv' rfl rfl rfl rfl ?_
   refine l_not rfl rfl rfl ?_
   refine l_not rfl rfl rfl ?_
   refine l_not rfl rfl rfl ?_
   refine l_not rfl rfl rfl ?_
   refine l_val rfl rfl rfl (r_pick rfl rfl) ?_
   refine mv' rfl rfl rfl rfl ?_
   refine l_not rfl rfl rfl ?_
   refine l_not rfl rfl rfl ?_
   refine l_not rfl rfl rfl ?_
   refine l_not rfl rfl rfl ?_
   refine l_not rfl rfl rfl ?_
   refine l_not rfl rfl rfl ?_
   refine l_not rfl rfl rfl ?_
   refine l_val rfl rfl rfl (r_pick rfl rfl) ?_
   refine mv' rfl rfl rfl rfl ?_
   refine l_not rfl rfl rfl ?_
   refine l_not rfl rfl rfl ?_
   refine l_not rfl rfl rfl ?_
   refine l_not rfl rfl rfl ?_
   refine l_val rfl rfl rfl (r_pick rfl rfl) ?_
   refine as' rfl rfl rfl rfl ?_
   refine l_nil ?_
   refine c_ret ?_
   exact ⟨ret_bool rfl (by unfold recB; simp only [hky, hr10, hr41, Bool.true_and, Bool.and_true, Bool.false_and, Bool.and_false, Bool.true_or, Bool.or_true, Bool.false_or, Bool.or_false, Bool.not_true, Bool.not_false, cond_true, cond_false]), hE⟩
def unionB (g : List GNode) (x : GNode) : Bool := !(!decide (x.name = ⟨#[]⟩) || !decide (x.num = 0) || !decide ((x.keys.length : Int) = 0) || decide ((x.l.length : Int) < 2) || !(!x.l.any (outB g.length) && diffB x.l)) && x.l.all (fun k => !decide ((gat g k).kind = 8))
theorem union_rcalls (w0 : World) (Ag : Option Addr) (cg : Nat) (g : List GNode) (hg : Nodes w0 Ag cg g) (hn : g.length ≤ 1000000) (x : GNode) (Ak : Option Addr) (ck : Nat) (Al : Option Addr) (cl : Nat) (hks : Strs w0 Ak ck x.keys) (hls : Ints w0 Al cl x.l) :
    Calls Tryz.prog 81 [.slice Ag g.length cg, .agg (nodeCells x Ak ck Al cl).toArray].toArray w0 fun en w' => en = .returned (.bool (unionB g x)) ∧ Ext0 w0 w' := by
 have hE : Ext0 w0 w0 := Ext.refl _ _
 have hL : Has w0 [] := trivial
 refine calls [4] Tryz.func81 rfl rfl rfl rfl ?_
 refine c_seq ?_
 refine c_ops ?_
 refine l_new rfl rfl rfl (n_box rfl hL hE) ?_
 rintro _ w ⟨b3, rfl, hb3, hL, hE, hX⟩
 refine as' rfl rfl rfl rfl ?_
 refine l_nil ?_
 refine c_seq ?_
 refine c_merge [6, 7, 8, 9, 10, 11, 12, 13, 14, 15, 16, 17, 18, 19, 20, 21, 22, 23, 24, 25, 26, 27, 28, 29, 30, 31, 32] (fun e w => e 32 = .bool (!decide (x.name = ⟨#[]⟩) || !decide (x.num = 0) || !decide ((x.keys.length : Int) = 0) || decide ((x.l.length : Int) < 2) || !(!x.l.any (outB g.length) && diffB x.l)) ∧ Has w [.blk b3 (.cells (nodeCells x Ak ck Al cl).toArray 46 (0, 0))] ∧ Ext0 w0 w) ?_ ?_
 ·skip
  refine c_ops ?_
  refine l_val rfl rfl rfl (r_fieldAddr (n := 0) rfl Tryz.underlying46 rfl Tryz.sizeOf9 rfl) ?_
  refine l_val rfl rfl rfl (r_load_blk rfl Tryz.isAgg9 rfl (hL.get 0 rfl) rfl) ?_
  refine l_val rfl rfl rfl (r_sneq rfl rfl rfl) ?_
  refine mv' rfl rfl rfl rfl ?_
  refine l_case 9 rfl (fun hb => ?_) (fun hb => ?_)
  ·have hr9 := hb
   replace hb := of_decide_eq_false (by simpa using hb)
   refine l_not rfl rfl rfl ?_
   refine l_not rfl rfl rfl ?_
   refine l_not rfl rfl rfl ?_
   refine l_val rfl rfl rfl (r_pick rfl rfl) ?_
   refine mv' rfl rfl rfl rfl ?_
   refine l_not rfl rfl rfl ?_
   refine l_not rfl rfl rfl ?_
   refine l_not rfl rfl rfl ?_
   refine l_not rfl rfl rfl ?_
   refine l_val rfl rfl rfl (r_pick rfl rfl) ?_
   refine mv' rfl rfl rfl rfl ?_
   refine l_not rfl rfl rfl ?_
   refine l_not rfl rfl rfl ?_
   refine l_not rfl rfl rfl ?_
   refine l_not rfl rfl rfl ?_
   refine l_val rfl rfl rfl (r_pick rfl rfl) ?_
   refine mv' rfl rfl rfl rfl ?_
   refine l_not rfl rfl rfl ?_
   refine l_not rfl rfl rfl ?_
   refine l_not rfl rfl rfl ?_
   refine l_not rfl rfl rfl ?_
   refine l_not rfl rfl rfl ?_
   refine l_val rfl rfl rfl (r_pick rfl rfl) ?_
   refine l_nil ?_
   refine ag' ?_
   exact ⟨congrArg Value.bool (by simp only [hr9, Bool.true_and, Bool.and_true, Bool.false_and, Bool.and_false, Bool.true_or, Bool.or_true, Bool.false_or, Bool.or_false, Bool.not_true, Bool.not_false, cond_true, cond_false]), hL, hE⟩
  ·have hr9 := hb
   replace hb := of_decide_eq_true (by simpa using hb)
   refine l_val rfl rfl rfl (r_fieldAddr (n := 0) rfl Tryz.underlying46 rfl Tryz.sizeOf3 rfl) ?_
   refine l_val rfl rfl rfl (r_load_blk rfl Tryz.isAgg3 rfl (hL.get 0 rfl) rfl) ?_
   refine l_val rfl rfl rfl (r_neq rfl rfl rfl) ?_
   refine l_val rfl rfl rfl (r_pick rfl rfl) ?_
   refine mv' rfl rfl rfl rfl ?_
   refine l_case 14 rfl (fun hb => ?_) (fun hb => ?_)
   ·have hr14 := hb
    replace hb := of_decide_eq_false (by simpa using hb)
    refine l_not rfl rfl rfl ?_
    refine l_not rfl rfl rfl ?_
    refine l_not rfl rfl rfl ?_
    refine l_not rfl rfl rfl ?_
    refine l_val rfl rfl rfl (r_pick rfl rfl) ?_
    refine mv' rfl rfl rfl rfl ?_
    refine l_not rfl rfl rfl ?_
    refine l_not rfl rfl rfl ?_
    refine l_not rfl rfl rfl ?_
    refine l_not rfl rfl rfl ?_
    refine l_val rfl rfl rfl (r_pick rfl rfl) ?_
    refine mv' rfl rfl rfl rfl ?_
    refine l_not rfl rfl rfl ?_
    refine l_not rfl rfl rfl ?_
    refine l_not rfl rfl rfl ?_
    refine l_not rfl rfl rfl ?_
    refine l_not rfl rfl rfl ?_
    refine l_val rfl rfl rfl (r_pick rfl rfl) ?_
    refine l_nil ?_
    refine ag' ?_
    exact ⟨congrArg Value.bool (by simp only [hr9, hr14, Bool.true_and, Bool.and_true, Bool.false_and, Bool.and_false, Bool.true_or, Bool.or_true, Bool.false_or, Bool.or_false, Bool.not_true, Bool.not_false, cond_true, cond_false]), hL, hE⟩
   ·have hr14 := hb
    replace hb := of_decide_eq_true (by simpa using hb)
    refine l_val rfl rfl rfl (r_fieldAddr (n := 0) rfl Tryz.underlying46 rfl Tryz.sizeOf44 rfl) ?_
    refine l_val rfl rfl rfl (r_load_blk rfl Tryz.isAgg44 rfl (hL.get 0 rfl) rfl) ?_
    refine l_val rfl rfl rfl (r_len rfl Tryz.underlying44 rfl) ?_
    refine l_val rfl rfl rfl (r_neq rfl rfl rfl) ?_
    refine l_val rfl rfl rfl (r_pick rfl rfl) ?_
    refine mv' rfl rfl rfl rfl ?_
    refine l_case 20 rfl (fun hb => ?_) (fun hb => ?_)
    ·have hr20 := hb
     replace hb := of_decide_eq_false (by simpa using hb)
     refine l_not rfl rfl rfl ?_
     refine l_not rfl rfl rfl ?_
     refine l_not rfl rfl rfl ?_
     refine l_not rfl rfl rfl ?_
     refine l_val rfl rfl rfl (r_pick rfl rfl) ?_
     refine mv' rfl rfl rfl rfl ?_
     refine l_not rfl rfl rfl ?_
     refine l_not rfl rfl rfl ?_
     refine l_not rfl rfl rfl ?_
     refine l_not rfl rfl rfl ?_
     refine l_not rfl rfl rfl ?_
     refine l_val rfl rfl rfl (r_pick rfl rfl) ?_
     refine l_nil ?_
     refine ag' ?_
     exact ⟨congrArg Value.bool (by simp only [hr9, hr14, hr20, Bool.true_and, Bool.and_true, Bool.false_and, Bool.and_false, Bool.true_or, Bool.or_true, Bool.false_or, Bool.or_false, Bool.not_true, Bool.not_false, cond_true, cond_false]), hL, hE⟩
    ·have hr20 := hb
     replace hb := of_decide_eq_true (by simpa using hb)
     refine l_val rfl rfl rfl (r_fieldAddr (n := 0) rfl Tryz.underlying46 rfl Tryz.sizeOf26 rfl) ?_
     refine l_val rfl rfl rfl (r_load_blk rfl Tryz.isAgg26 rfl (hL.get 0 rfl) rfl) ?_
     refine l_val rfl rfl rfl (r_len rfl Tryz.underlying26 rfl) ?_
     refine l_val rfl rfl rfl (r_lss rfl rfl rfl) ?_
     refine l_val rfl rfl rfl (r_pick rfl rfl) ?_
     refine mv' rfl rfl rfl rfl ?_
     refine l_case 26 rfl (fun hb => ?_) (fun hb => ?_)
     ·have hr26 := hb
      replace hb := of_decide_eq_true hb
      refine l_not rfl rfl rfl ?_
      refine l_not rfl rfl rfl ?_
      refine l_not rfl rfl rfl ?_
      refine l_not rfl rfl rfl ?_
      refine l_not rfl rfl rfl ?_
      refine l_val rfl rfl rfl (r_pick rfl rfl) ?_
      refine l_nil ?_
      refine ag' ?_
      exact ⟨congrArg Value.bool (by simp only [hr9, hr14, hr20, hr26, Bool.true_and, Bool.and_true, Bool.false_and, Bool.and_false, Bool.true_or, Bool.or_true, Bool.false_or, Bool.or_false, Bool.not_true, Bool.not_false, cond_true, cond_false]), hL, hE⟩
     ·have hr26 := hb
      replace hb := of_decide_eq_false hb
      refine mv' rfl rfl rfl rfl ?_
      refine l_val rfl rfl rfl (r_fieldAddr (n := 0) rfl Tryz.underlying46 rfl Tryz.sizeOf26 rfl) ?_
      refine l_val rfl rfl rfl (r_load_blk rfl Tryz.isAgg26 rfl (hL.get 0 rfl) rfl) ?_
      refine l_by rfl rfl rfl (r_call rfl rfl Tryz.func100 rfl rfl) (places_calls _ Ag cg g (hg.keep RNode.kept (Ext0.cells hE)) hn Al cl x.l (hls.keep RInt.kept (Ext0.cells hE))) ?_
      rintro _ w ⟨rfl, hX⟩
      replace hL := hL.ext0 hX
      replace hE := hE.step0 hX
      refine ⟨_, rfl, ?_⟩
      refine l_val rfl rfl rfl (r_not rfl rfl) ?_
      refine l_val rfl rfl rfl (r_pick rfl rfl) ?_
      refine l_nil ?_
      refine ag' ?_
      exact ⟨congrArg Value.bool (by simp only [hr9, hr14, hr20, hr26, Bool.true_and, Bool.and_true, Bool.false_and, Bool.and_false, Bool.true_or, Bool.or_true, Bool.false_or, Bool.or_false, Bool.not_true, Bool.not_false, cond_true, cond_false]), hL, hE⟩
 rintro e w hI
 obtain ⟨h32, hL, hE⟩ := hI
 refine c_know h32 ?_
 refine c_cond rfl (fun hb => ?_) (fun hb => ?_)
 ·have hr32 := hb
  have hq := hr32
  refine c_seq ?_
  refine c_ops ?_
  refine as' rfl rfl rfl rfl ?_
  refine l_nil ?_
  refine c_ret ?_
  exact ⟨ret_bool rfl (by unfold unionB; rw [hq]; rfl), hE⟩
 ·have hr32 := hb
  have hq := hr32
  have hins : x.l.any (outB g.length) = false := by have h := hq; simp only [Bool.or_eq_false_iff, Bool.not_eq_false', Bool.and_eq_true, Bool.not_eq_true'] at h; exact h.2.1
  refine c_skip ?_
  refine c_seq ?_
  refine c_seq ?_
  refine c_ops ?_
  refine as' rfl rfl rfl rfl ?_
  refine l_nil ?_
  refine c_block ?_
  refine c_loop0 (fun m1 e w => (e 0 = .slice Ag g.length cg ∧ e 3 = .pointer (some ⟨b3, 0, none⟩)) ∧ ∃ (k : Nat), k ≤ x.l.length ∧ m1 = x.l.length - k ∧ e 5 = .int .i64 (k : Nat) ∧ (∀ j : Nat, j < k → (gat g (iat x.l j)).kind ≠ 8) ∧ Has w [.blk b3 (.cells (nodeCells x Ak ck Al cl).toArray 46 (0, 0))] ∧ Ext0 w0 w) (x.l.length) ?_ ?_
  ·exact ⟨⟨rfl, rfl⟩, 0, Nat.zero_le _, rfl, rfl, fun j hj => absurd hj (Nat.not_lt_zero _), hL, hE⟩
  rintro m1 e w ⟨⟨hq0, hq3⟩, hI⟩
  refine c_know (t := 0) (by exact hq0) ?_
  refine c_know (t := 3) (by exact hq3) ?_
  clear hq0 hq3
  obtain ⟨k, hkl, hkm, h5s, hall, hL, hE⟩ := hI
  refine c_know (t := 5) (by exact h5s) ?_
  refine c_seq ?_
  refine c_seq ?_
  refine c_ops ?_
  refine mv' rfl rfl rfl rfl ?_
  refine l_val rfl rfl rfl (r_fieldAddr (n := 0) rfl Tryz.underlying46 rfl Tryz.sizeOf26 rfl) ?_
  refine l_val rfl rfl rfl (r_load_blk rfl Tryz.isAgg26 rfl (hL.get 0 rfl) rfl) ?_
  refine l_val rfl rfl rfl (r_len rfl Tryz.underlying26 rfl) ?_
  refine l_val rfl rfl rfl (r_lss rfl rfl rfl) ?_
  refine l_nil ?_
  refine c_cond rfl (fun hb => ?_) (fun hb => ?_)
  ·have hr37 := hb
   replace hb := of_decide_eq_true hb
   have hklt : k < x.l.length := by omega
   have hk := iat_nat hklt
   have hin : 0 ≤ iat x.l k ∧ iat x.l k < g.length := outB_no (any_false hins (List.mem_of_getElem? hk))
   refine c_skip ?_
   refine c_seq ?_
   refine c_block ?_
   refine c_seq ?_
   refine c_ops ?_
   refine mv' rfl rfl rfl rfl ?_
   refine l_val rfl rfl rfl (r_fieldAddr (n := 0) rfl Tryz.underlying46 rfl Tryz.sizeOf26 rfl) ?_
   refine l_val rfl rfl rfl (r_load_blk rfl Tryz.isAgg26 rfl (hL.get 0 rfl) rfl) ?_
   refine mv' rfl rfl rfl rfl ?_
   refine l_val rfl rfl rfl (r_indexAddr_sl rfl Tryz.underlying26 Tryz.sizeOf3 rfl hls.is rfl (by omega) (by omega)) ?_
   refine l_val rfl rfl rfl (r_load (v := .int .i64 (iat x.l k)) rfl Tryz.isAgg3 rfl ((hls.keep RInt.kept (Ext0.cells hE)).int k (by omega) (by omega))) ?_
   obtain ⟨Ak1, ck1, Al1, cl1, hcell, _, _⟩ := hg.node (iat x.l k) hin.1 hin.2
   refine l_val rfl rfl rfl (r_indexAddr_sl rfl Tryz.underlying22 Tryz.sizeOf46 rfl hg.is rfl hin.1 hin.2) ?_
   refine l_val rfl rfl rfl (r_fieldAddr (n := 0) rfl Tryz.underlying46 rfl Tryz.sizeOf3 rfl) ?_
   refine l_val rfl rfl rfl (r_load rfl Tryz.isAgg3 rfl (Ext0.cells hE _ _ (hcell 0 _ rfl))) ?_
   refine l_val rfl rfl rfl (r_eql rfl rfl rfl) ?_
   refine l_nil ?_
   refine c_cond rfl (fun hb => ?_) (fun hb => ?_)
   ·have hr49 := hb
    replace hb := of_decide_eq_true hb
    have hno : (x.l.all fun k => !decide ((gat g k).kind = 8)) = false := by
     rw [List.all_eq_false]
     exact ⟨_, List.mem_of_getElem? hk, by simpa using hb⟩
    refine c_seq ?_
    refine c_ops ?_
    refine as' rfl rfl rfl rfl ?_
    refine l_nil ?_
    refine c_ret ?_
    exact ⟨ret_bool rfl (by unfold unionB; rw [hno, Bool.and_false]), hE⟩
   ·have hr49 := hb
    replace hb := of_decide_eq_false hb
    refine c_skip ?_
    refine c_ops ?_
    refine mv' rfl rfl rfl rfl ?_
    refine l_val rfl rfl rfl (r_add rfl rfl rfl) ?_
    refine as' rfl rfl rfl rfl ?_
    refine l_nil ?_
    exact ⟨x.l.length - (k + 1), by omega, ⟨rfl, rfl⟩, k + 1, by omega, rfl, by show Value.int .i64 (IntKind.i64.wrap ((k : Int) + 1)) = _; rw [wrap_succ hklt hls.max], fun j hj => by rcases Nat.lt_or_eq_of_le (Nat.le_of_lt_succ hj) with h | rfl <;> first | exact hall j h | exact hb, hL, hE⟩
  ·have hr37 := hb
   replace hb := of_decide_eq_false hb
   have hyes : (x.l.all fun k => !decide ((gat g k).kind = 8)) = true := by
    rw [List.all_eq_true]
    intro y hy
    obtain ⟨j, hj⟩ := List.mem_iff_getElem?.1 hy
    have hjl := (List.getElem?_eq_some_iff.1 hj).1
    rw [iat_nat hjl] at hj
    cases hj
    simpa using hall j (by omega)
   refine c_exit ?_
   refine c_seq ?_
   refine c_ops ?_
   refine as' rfl rfl rfl rfl ?_
   refine l_nil ?_
   refine c_ret ?_
   exact ⟨ret_bool rfl (by unfold unionB; rw [hq, hyes]; rfl), hE⟩
def bare3 (x : GNode) : Bool := decide ((x.keys.length : Int) = 0) && decide ((x.l.length : Int) = 0) && decide (x.num = 0)
def rMayB (g : List GNode) (x : GNode) : Bool :=
 cond (bareB x) (bare3 x && decide (x.name = ⟨#[]⟩))
 (cond (decide (x.kind = 5)) (bare3 x && (isNameB x.name || isKeyB x.name))
 (cond (decide (x.kind = 7)) (recB g x)
 (cond (decide (x.kind = 8)) (unionB g x)
 (cond (decide (x.kind = 9)) (decide (x.name = ⟨#[]⟩) && decide ((x.keys.length : Int) = 0) && decide (0 ≤ x.num) && decide (x.num < 16) && decide ((x.l.length : Int) = 1) && !x.l.any (outB g.length)) false))))
set_option maxHeartbeats 2000000 in
theorem may_rcalls (w0 : World) (Ag : Option Addr) (cg : Nat) (g : List GNode) (hg : Nodes w0 Ag cg g) (hn : g.length ≤ 1000000) (x : GNode) (Ak : Option Addr) (ck : Nat) (Al : Option Addr) (cl : Nat) (hks : Strs w0 Ak ck x.keys) (hls : Ints w0 Al cl x.l) (hfit : FitsN x) :
    Calls Tryz.prog 54 [.slice Ag g.length cg, .agg (nodeCells x Ak ck Al cl).toArray].toArray w0 fun en w' => en = .returned (.bool (rMayB g x)) ∧ Ext0 w0 w' := by
 have hE : Ext0 w0 w0 := Ext.refl _ _
 have hL : Has w0 [] := trivial
 refine calls [4] Tryz.func54 rfl rfl rfl rfl ?_
 refine c_seq ?_
 refine c_ops ?_
 refine l_new rfl rfl rfl (n_box rfl hL hE) ?_
 rintro _ w ⟨b3, rfl, hb3, hL, hE, hX⟩
 refine as' rfl rfl rfl rfl ?_
 refine l_nil ?_
 refine c_merge [5, 6, 7, 8, 9, 10, 11, 12, 13, 14, 15, 16, 17, 18, 19, 20] (fun e w => e 5 = .bool (bare3 x) ∧ Has w [.blk b3 (.cells (nodeCells x Ak ck Al cl).toArray 46 (0, 0))] ∧ Ext0 w0 w) ?_ ?_
 ·skip
  refine c_ops ?_
  refine l_val rfl rfl rfl (r_fieldAddr (n := 0) rfl Tryz.underlying46 rfl Tryz.sizeOf44 rfl) ?_
  refine l_val rfl rfl rfl (r_load_blk rfl Tryz.isAgg44 rfl (hL.get 0 rfl) rfl) ?_
  refine l_val rfl rfl rfl (r_len rfl Tryz.underlying44 rfl) ?_
  refine l_val rfl rfl rfl (r_eql rfl rfl rfl) ?_
  refine mv' rfl rfl rfl rfl ?_
  refine l_case 10 rfl (fun hb => ?_) (fun hb => ?_)
  ·have hr10 := hb
   replace hb := of_decide_eq_true hb
   refine l_val rfl rfl rfl (r_fieldAddr (n := 0) rfl Tryz.underlying46 rfl Tryz.sizeOf26 rfl) ?_
   refine l_val rfl rfl rfl (r_load_blk rfl Tryz.isAgg26 rfl (hL.get 0 rfl) rfl) ?_
   refine l_val rfl rfl rfl (r_len rfl Tryz.underlying26 rfl) ?_
   refine l_val rfl rfl rfl (r_eql rfl rfl rfl) ?_
   refine l_val rfl rfl rfl (r_pick rfl rfl) ?_
   refine mv' rfl rfl rfl rfl ?_
   refine l_case 16 rfl (fun hb => ?_) (fun hb => ?_)
   ·have hr16 := hb
    replace hb := of_decide_eq_true hb
    refine l_val rfl rfl rfl (r_fieldAddr (n := 0) rfl Tryz.underlying46 rfl Tryz.sizeOf3 rfl) ?_
    refine l_val rfl rfl rfl (r_load_blk rfl Tryz.isAgg3 rfl (hL.get 0 rfl) rfl) ?_
    refine l_val rfl rfl rfl (r_eql rfl rfl rfl) ?_
    refine l_val rfl rfl rfl (r_pick rfl rfl) ?_
    refine as' rfl rfl rfl rfl ?_
    refine l_nil ?_
    refine ag' ?_
    exact ⟨congrArg Value.bool (by simp only [bare3, hr10, hr16, Bool.true_and, Bool.and_true, Bool.false_and, Bool.and_false, Bool.true_or, Bool.or_true, Bool.false_or, Bool.or_false, Bool.not_true, Bool.not_false, cond_true, cond_false]), hL, hE⟩
   ·have hr16 := hb
    replace hb := of_decide_eq_false hb
    refine l_not rfl rfl rfl ?_
    refine l_not rfl rfl rfl ?_
    refine l_not rfl rfl rfl ?_
    refine l_val rfl rfl rfl (r_pick rfl rfl) ?_
    refine as' rfl rfl rfl rfl ?_
    refine l_nil ?_
    refine ag' ?_
    exact ⟨congrArg Value.bool (by simp only [bare3, hr10, hr16, Bool.true_and, Bool.and_true, Bool.false_and, Bool.and_false, Bool.true_or, Bool.or_true, Bool.false_or, Bool.or_false, Bool.not_true, Bool.not_false, cond_true, cond_false]), hL, hE⟩
  ·have hr10 := hb
   replace hb := of_decide_eq_false hb
   refine l_not rfl rfl rfl ?_
   refine l_not rfl rfl rfl ?_
   refine l_not rfl rfl rfl ?_
   refine l_not rfl rfl rfl ?_
   refine l_val rfl rfl rfl (r_pick rfl rfl) ?_
   refine mv' rfl rfl rfl rfl ?_
   refine l_not rfl rfl rfl ?_
   refine l_not rfl rfl rfl ?_
   refine l_not rfl rfl rfl ?_
   refine l_val rfl rfl rfl (r_pick rfl rfl) ?_
   refine as' rfl rfl rfl rfl ?_
   refine l_nil ?_
   refine ag' ?_
   exact ⟨congrArg Value.bool (by simp only [bare3, hr10, Bool.true_and, Bool.and_true, Bool.false_and, Bool.and_false, Bool.true_or, Bool.or_true, Bool.false_or, Bool.or_false, Bool.not_true, Bool.not_false, cond_true, cond_false]), hL, hE⟩
 rintro e w hI
 obtain ⟨h5, hL, hE⟩ := hI
 refine c_know h5 ?_
 refine c_seq ?_
 refine c_seq ?_
 refine c_ops ?_
 refine l_val rfl rfl rfl (r_fieldAddr (n := 0) rfl Tryz.underlying46 rfl Tryz.sizeOf3 rfl) ?_
 refine l_val rfl rfl rfl (r_load_blk rfl Tryz.isAgg3 rfl (hL.get 0 rfl) rfl) ?_
 refine l_nil ?_
 refine c_block ?_
 refine c_merge [23, 24, 25, 26, 27] (fun e w => e 23 = .bool (bareB x) ∧ Has w [.blk b3 (.cells (nodeCells x Ak ck Al cl).toArray 46 (0, 0))] ∧ Ext0 w0 w) ?_ ?_
 ·refine c_seq ?_
  refine c_ops ?_
  refine l_val rfl rfl rfl (r_eql rfl rfl rfl) ?_
  refine as' rfl rfl rfl rfl ?_
  refine l_nil ?_
  refine c_cond rfl (fun hb => ?_) (fun hb => ?_)
  ·have hr23 := hb
   replace hb := of_decide_eq_true hb
   refine c_skip ?_
   refine ag' ?_
   exact ⟨congrArg Value.bool (by simp_all [bareB]), hL, hE⟩
  ·have hr23 := hb
   replace hb := of_decide_eq_false hb
   refine c_seq ?_
   refine c_ops ?_
   refine l_val rfl rfl rfl (r_eql rfl rfl rfl) ?_
   refine as' rfl rfl rfl rfl ?_
   refine l_nil ?_
   refine c_cond rfl (fun hb => ?_) (fun hb => ?_)
   ·have hr23' := hb
    replace hb := of_decide_eq_true hb
    refine c_skip ?_
    refine ag' ?_
    exact ⟨congrArg Value.bool (by simp_all [bareB]), hL, hE⟩
   ·have hr23' := hb
    replace hb := of_decide_eq_false hb
    refine c_seq ?_
    refine c_ops ?_
    refine l_val rfl rfl rfl (r_eql rfl rfl rfl) ?_
    refine as' rfl rfl rfl rfl ?_
    refine l_nil ?_
    refine c_cond rfl (fun hb => ?_) (fun hb => ?_)
    ·have hr23'' := hb
     replace hb := of_decide_eq_true hb
     refine c_skip ?_
     refine ag' ?_
     exact ⟨congrArg Value.bool (by simp_all [bareB]), hL, hE⟩
    ·have hr23'' := hb
     replace hb := of_decide_eq_false hb
     refine c_ops ?_
     refine l_val rfl rfl rfl (r_eql rfl rfl rfl) ?_
     refine as' rfl rfl rfl rfl ?_
     refine l_nil ?_
     refine ag' ?_
     exact ⟨congrArg Value.bool (by simp_all [bareB]), hL, hE⟩
 rintro e w hI
 obtain ⟨h23, hL, hE⟩ := hI
 refine c_know h23 ?_
 refine c_cond rfl (fun hb => ?_) (fun hb => ?_)
 ·have hr23 := hb
  refine c_seq ?_
  refine c_ops ?_
  refine mv' rfl rfl rfl rfl ?_
  refine mv' rfl rfl rfl rfl ?_
  refine l_case 29 rfl (fun hb => ?_) (fun hb => ?_)
  ·have hr29 := hb
   refine l_val rfl rfl rfl (r_fieldAddr (n := 0) rfl Tryz.underlying46 rfl Tryz.sizeOf9 rfl) ?_
   refine l_val rfl rfl rfl (r_load_blk rfl Tryz.isAgg9 rfl (hL.get 0 rfl) rfl) ?_
   refine l_val rfl rfl rfl (r_seql rfl rfl rfl) ?_
   refine l_val rfl rfl rfl (r_pick rfl rfl) ?_
   refine as' rfl rfl rfl rfl ?_
   refine l_nil ?_
   refine c_ret ?_
   exact ⟨ret_bool rfl (by simp only [rMayB, hr23, hr29, Bool.true_and, Bool.and_true, Bool.false_and, Bool.and_false, Bool.true_or, Bool.or_true, Bool.false_or, Bool.or_false, Bool.not_true, Bool.not_false, cond_true, cond_false]), hE⟩
  ·have hr29 := hb
   refine l_not rfl rfl rfl ?_
   refine l_not rfl rfl rfl ?_
   refine l_not rfl rfl rfl ?_
   refine l_val rfl rfl rfl (r_pick rfl rfl) ?_
   refine as' rfl rfl rfl rfl ?_
   refine l_nil ?_
   refine c_ret ?_
   exact ⟨ret_bool rfl (by simp only [rMayB, hr23, hr29, Bool.true_and, Bool.and_true, Bool.false_and, Bool.and_false, Bool.true_or, Bool.or_true, Bool.false_or, Bool.or_false, Bool.not_true, Bool.not_false, cond_true, cond_false]), hE⟩
 ·have hr23 := hb
  refine c_seq ?_
  refine c_ops ?_
  refine l_val rfl rfl rfl (r_eql rfl rfl rfl) ?_
  refine as' rfl rfl rfl rfl ?_
  refine l_nil ?_
  refine c_cond rfl (fun hb => ?_) (fun hb => ?_)
  ·have hr34 := hb
   replace hb := of_decide_eq_true hb
   refine c_seq ?_
   refine c_ops ?_
   refine mv' rfl rfl rfl rfl ?_
   refine mv' rfl rfl rfl rfl ?_
   refine l_case 37 rfl (fun hb => ?_) (fun hb => ?_)
   ·have hr37 := hb
    refine l_val rfl rfl rfl (r_fieldAddr (n := 0) rfl Tryz.underlying46 rfl Tryz.sizeOf9 rfl) ?_
    refine l_val rfl rfl rfl (r_load_blk rfl Tryz.isAgg9 rfl (hL.get 0 rfl) rfl) ?_
    refine l_by rfl rfl rfl (r_call rfl rfl Tryz.func78 rfl rfl) (rIsName_calls _ _ hfit.1) ?_
    rintro _ w ⟨rfl, hX⟩
    replace hL := hL.ext0 hX
    replace hE := hE.step0 hX
    refine ⟨_, rfl, ?_⟩
    refine mv' rfl rfl rfl rfl ?_
    refine l_case 41 rfl (fun hb => ?_) (fun hb => ?_)
    ·have hr41 := hb
     refine l_not rfl rfl rfl ?_
     refine l_not rfl rfl rfl ?_
     refine l_not rfl rfl rfl ?_
     refine l_val rfl rfl rfl (r_pick rfl rfl) ?_
     refine l_val rfl rfl rfl (r_pick rfl rfl) ?_
     refine as' rfl rfl rfl rfl ?_
     refine l_nil ?_
     refine c_ret ?_
     exact ⟨ret_bool rfl (by simp only [rMayB, hr23, hr34, hr37, hr41, Bool.true_and, Bool.and_true, Bool.false_and, Bool.and_false, Bool.true_or, Bool.or_true, Bool.false_or, Bool.or_false, Bool.not_true, Bool.not_false, cond_true, cond_false]), hE⟩
    ·have hr41 := hb
     refine l_val rfl rfl rfl (r_fieldAddr (n := 0) rfl Tryz.underlying46 rfl Tryz.sizeOf9 rfl) ?_
     refine l_val rfl rfl rfl (r_load_blk rfl Tryz.isAgg9 rfl (hL.get 0 rfl) rfl) ?_
     refine l_by rfl rfl rfl (r_call rfl rfl Tryz.func79 rfl rfl) (rIsKey_calls _ _) ?_
     rintro _ w ⟨rfl, hX⟩
     replace hL := hL.ext0 hX
     replace hE := hE.step0 hX
     refine ⟨_, rfl, ?_⟩
     refine l_val rfl rfl rfl (r_pick rfl rfl) ?_
     refine l_val rfl rfl rfl (r_pick rfl rfl) ?_
     refine as' rfl rfl rfl rfl ?_
     refine l_nil ?_
     refine c_ret ?_
     exact ⟨ret_bool rfl (by simp only [rMayB, hr23, hr34, hr37, hr41, Bool.true_and, Bool.and_true, Bool.false_and, Bool.and_false, Bool.true_or, Bool.or_true, Bool.false_or, Bool.or_false, Bool.not_true, Bool.not_false, cond_true, cond_false]), hE⟩
   ·have hr37 := hb
    refine l_not rfl rfl rfl ?_
    refine l_not rfl rfl rfl ?_
    refine l_not rfl rfl rfl ?_
    refine l_not rfl rfl rfl ?_
    refine l_not rfl rfl rfl ?_
    refine l_not rfl rfl rfl ?_
    refine l_not rfl rfl rfl ?_
    refine l_not rfl rfl rfl ?_
    refine l_val rfl rfl rfl (r_pick rfl rfl) ?_
    refine as' rfl rfl rfl rfl ?_
    refine l_nil ?_
    refine c_ret ?_
    exact ⟨ret_bool rfl (by simp only [rMayB, hr23, hr34, hr37, Bool.true_and, Bool.and_true, Bool.false_and, Bool.and_false, Bool.true_or, Bool.or_true, Bool.false_or, Bool.or_false, Bool.not_true, Bool.not_false, cond_true, cond_false]), hE⟩
  ·have hr34 := hb
   replace hb := of_decide_eq_false hb
   refine c_seq ?_
   refine c_ops ?_
   refine l_val rfl rfl rfl (r_eql rfl rfl rfl) ?_
   refine as' rfl rfl rfl rfl ?_
   refine l_nil ?_
   refine c_cond rfl (fun hb => ?_) (fun hb => ?_)
   ·have hr47 := hb
    replace hb := of_decide_eq_true hb
    refine c_seq ?_
    refine c_ops ?_
    refine mv' rfl rfl rfl rfl ?_
    refine l_val rfl rfl rfl (r_load_blk_agg rfl Tryz.isAgg46 Tryz.sizeOf46 rfl (hL.get 0 rfl) rfl) ?_
    refine l_by rfl rfl rfl (r_call rfl rfl Tryz.func80 rfl rfl) (record_rcalls _ Ag cg g (hg.keep RNode.kept (Ext0.cells hE)) x Ak ck Al cl (hks.keep RStr.kept (Ext0.cells hE)) (hls.keep RInt.kept (Ext0.cells hE)) hfit) ?_
    rintro _ w ⟨rfl, hX⟩
    replace hL := hL.ext0 hX
    replace hE := hE.step0 hX
    refine ⟨_, rfl, ?_⟩
    refine as' rfl rfl rfl rfl ?_
    refine l_nil ?_
    refine c_ret ?_
    exact ⟨ret_bool rfl (by simp only [rMayB, hr23, hr34, hr47, Bool.true_and, Bool.and_true, Bool.false_and, Bool.and_false, Bool.true_or, Bool.or_true, Bool.false_or, Bool.or_false, Bool.not_true, Bool.not_false, cond_true, cond_false]), hE⟩
   ·have hr47 := hb
    replace hb := of_decide_eq_false hb
    refine c_seq ?_
    refine c_ops ?_
    refine l_val rfl rfl rfl (r_eql rfl rfl rfl) ?_
    refine as' rfl rfl rfl rfl ?_
    refine l_nil ?_
    refine c_cond rfl (fun hb => ?_) (fun hb => ?_)
    ·have hr52 := hb
     replace hb := of_decide_eq_true hb
     refine c_seq ?_
     refine c_ops ?_
     refine mv' rfl rfl rfl rfl ?_
     refine l_val rfl rfl rfl (r_load_blk_agg rfl Tryz.isAgg46 Tryz.sizeOf46 rfl (hL.get 0 rfl) rfl) ?_
     refine l_by rfl rfl rfl (r_call rfl rfl Tryz.func81 rfl rfl) (union_rcalls _ Ag cg g (hg.keep RNode.kept (Ext0.cells hE)) hn x Ak ck Al cl (hks.keep RStr.kept (Ext0.cells hE)) (hls.keep RInt.kept (Ext0.cells hE))) ?_
     rintro _ w ⟨rfl, hX⟩
     replace hL := hL.ext0 hX
     replace hE := hE.step0 hX
     refine ⟨_, rfl, ?_⟩
     refine as' rfl rfl rfl rfl ?_
     refine l_nil ?_
     refine c_ret ?_
     exact ⟨ret_bool rfl (by simp only [rMayB, hr23, hr34, hr47, hr52, Bool.true_and, Bool.and_true, Bool.false_and, Bool.and_false, Bool.true_or, Bool.or_true, Bool.false_or, Bool.or_false, Bool.not_true, Bool.not_false, cond_true, cond_false]), hE⟩
    ·have hr52 := hb
     replace hb := of_decide_eq_false hb
     refine c_seq ?_
     refine c_ops ?_
     refine l_val rfl rfl rfl (r_eql rfl rfl rfl) ?_
     refine as' rfl rfl rfl rfl ?_
     refine l_nil ?_
     refine c_cond rfl (fun hb => ?_) (fun hb => ?_)
     ·have hr57 := hb
      replace hb := of_decide_eq_true hb
      refine c_seq ?_
      refine c_ops ?_
      refine l_val rfl rfl rfl (r_fieldAddr (n := 0) rfl Tryz.underlying46 rfl Tryz.sizeOf9 rfl) ?_
      refine l_val rfl rfl rfl (r_load_blk rfl Tryz.isAgg9 rfl (hL.get 0 rfl) rfl) ?_
      refine l_val rfl rfl rfl (r_seql rfl rfl rfl) ?_
      refine mv' rfl rfl rfl rfl ?_
      refine l_case 62 rfl (fun hb => ?_) (fun hb => ?_)
      ·have hr62 := hb
       replace hb := of_decide_eq_true hb
       refine l_val rfl rfl rfl (r_fieldAddr (n := 0) rfl Tryz.underlying46 rfl Tryz.sizeOf44 rfl) ?_
       refine l_val rfl rfl rfl (r_load_blk rfl Tryz.isAgg44 rfl (hL.get 0 rfl) rfl) ?_
       refine l_val rfl rfl rfl (r_len rfl Tryz.underlying44 rfl) ?_
       refine l_val rfl rfl rfl (r_eql rfl rfl rfl) ?_
       refine l_val rfl rfl rfl (r_pick rfl rfl) ?_
       refine mv' rfl rfl rfl rfl ?_
       refine l_case 68 rfl (fun hb => ?_) (fun hb => ?_)
       ·have hr68 := hb
        replace hb := of_decide_eq_true hb
        refine l_val rfl rfl rfl (r_fieldAddr (n := 0) rfl Tryz.underlying46 rfl Tryz.sizeOf3 rfl) ?_
        refine l_val rfl rfl rfl (r_load_blk rfl Tryz.isAgg3 rfl (hL.get 0 rfl) rfl) ?_
        refine l_val rfl rfl rfl (r_geq rfl rfl rfl) ?_
        refine l_val rfl rfl rfl (r_pick rfl rfl) ?_
        refine mv' rfl rfl rfl rfl ?_
        refine l_case 73 rfl (fun hb => ?_) (fun hb => ?_)
        ·have hr73 := hb
         replace hb := of_decide_eq_true hb
         refine l_val rfl rfl rfl (r_fieldAddr (n := 0) rfl Tryz.underlying46 rfl Tryz.sizeOf3 rfl) ?_
         refine l_val rfl rfl rfl (r_load_blk rfl Tryz.isAgg3 rfl (hL.get 0 rfl) rfl) ?_
         refine l_val rfl rfl rfl (r_lss rfl rfl rfl) ?_
         refine l_val rfl rfl rfl (r_pick rfl rfl) ?_
         refine mv' rfl rfl rfl rfl ?_
         refine l_case 78 rfl (fun hb => ?_) (fun hb => ?_)
         ·have hr78 := hb
          replace hb := of_decide_eq_true hb
          refine l_val rfl rfl rfl (r_fieldAddr (n := 0) rfl Tryz.underlying46 rfl Tryz.sizeOf26 rfl) ?_
          refine l_val rfl rfl rfl (r_load_blk rfl Tryz.isAgg26 rfl (hL.get 0 rfl) rfl) ?_
          refine l_val rfl rfl rfl (r_len rfl Tryz.underlying26 rfl) ?_
          refine l_val rfl rfl rfl (r_eql rfl rfl rfl) ?_
          refine l_val rfl rfl rfl (r_pick rfl rfl) ?_
          refine mv' rfl rfl rfl rfl ?_
          refine l_case 84 rfl (fun hb => ?_) (fun hb => ?_)
          ·have hr84 := hb
           replace hb := of_decide_eq_true hb
           refine mv' rfl rfl rfl rfl ?_
           refine l_val rfl rfl rfl (r_fieldAddr (n := 0) rfl Tryz.underlying46 rfl Tryz.sizeOf26 rfl) ?_
           refine l_val rfl rfl rfl (r_load_blk rfl Tryz.isAgg26 rfl (hL.get 0 rfl) rfl) ?_
           refine l_by rfl rfl rfl (r_call rfl rfl Tryz.func82 rfl rfl) (inside_calls _ Ag cg g (hg.keep RNode.kept (Ext0.cells hE)) Al cl x.l (hls.keep RInt.kept (Ext0.cells hE))) ?_
           rintro _ w ⟨rfl, hX⟩
           replace hL := hL.ext0 hX
           replace hE := hE.step0 hX
           refine ⟨_, rfl, ?_⟩
           refine l_val rfl rfl rfl (r_pick rfl rfl) ?_
           refine as' rfl rfl rfl rfl ?_
           refine l_nil ?_
           refine c_ret ?_
           exact ⟨ret_bool rfl (by simp only [rMayB, hr23, hr34, hr47, hr52, hr57, hr62, hr68, hr73, hr78, hr84, Bool.true_and, Bool.and_true, Bool.false_and, Bool.and_false, Bool.true_or, Bool.or_true, Bool.false_or, Bool.or_false, Bool.not_true, Bool.not_false, cond_true, cond_false]), hE⟩
          ·have hr84 := hb
           replace hb := of_decide_eq_false hb
           refine l_not rfl rfl rfl ?_
           refine l_not rfl rfl rfl ?_
           refine l_not rfl rfl rfl ?_
           refine l_not rfl rfl rfl ?_
           refine l_val rfl rfl rfl (r_pick rfl rfl) ?_
           refine as' rfl rfl rfl rfl ?_
           refine l_nil ?_
           refine c_ret ?_
           exact ⟨ret_bool rfl (by simp only [rMayB, hr23, hr34, hr47, hr52, hr57, hr62, hr68, hr73, hr78, hr84, Bool.true_and, Bool.and_true, Bool.false_and, Bool.and_false, Bool.true_or, Bool.or_true, Bool.false_or, Bool.or_false, Bool.not_true, Bool.not_false, cond_true, cond_false]), hE⟩
         ·have hr78 := hb
          replace hb := of_decide_eq_false hb
          refine l_not rfl rfl rfl ?_
          refine l_not rfl rfl rfl ?_
          refine l_not rfl rfl rfl ?_
          refine l_not rfl rfl rfl ?_
          refine l_val rfl rfl rfl (r_pick rfl rfl) ?_
          refine mv' rfl rfl rfl rfl ?_
          refine l_not rfl rfl rfl ?_
          refine l_not rfl rfl rfl ?_
          refine l_not rfl rfl rfl ?_
          refine l_not rfl rfl rfl ?_
          refine l_val rfl rfl rfl (r_pick rfl rfl) ?_
          refine as' rfl rfl rfl rfl ?_
          refine l_nil ?_
          refine c_ret ?_
          exact ⟨ret_bool rfl (by simp only [rMayB, hr23, hr34, hr47, hr52, hr57, hr62, hr68, hr73, hr78, Bool.true_and, Bool.and_true, Bool.false_and, Bool.and_false, Bool.true_or, Bool.or_true, Bool.false_or, Bool.or_false, Bool.not_true, Bool.not_false, cond_true, cond_false]), hE⟩
        ·have hr73 := hb
         replace hb := of_decide_eq_false hb
         refine l_not rfl rfl rfl ?_
         refine l_not rfl rfl rfl ?_
         refine l_not rfl rfl rfl ?_
         refine l_val rfl rfl rfl (r_pick rfl rfl) ?_
         refine mv' rfl rfl rfl rfl ?_
         refine l_not rfl rfl rfl ?_
         refine l_not rfl rfl rfl ?_
         refine l_not rfl rfl rfl ?_
         refine l_not rfl rfl rfl ?_
         refine l_val rfl rfl rfl (r_pick rfl rfl) ?_
         refine mv' rfl rfl rfl rfl ?_
         refine l_not rfl rfl rfl ?_
         refine l_not rfl rfl rfl ?_
         refine l_not rfl rfl rfl ?_
         refine l_not rfl rfl rfl ?_
         refine l_val rfl rfl rfl (r_pick rfl rfl) ?_
         refine as' rfl rfl rfl rfl ?_
         refine l_nil ?_
         refine c_ret ?_
         exact ⟨ret_bool rfl (by simp only [rMayB, hr23, hr34, hr47, hr52, hr57, hr62, hr68, hr73, Bool.true_and, Bool.and_true, Bool.false_and, Bool.and_false, Bool.true_or, Bool.or_true, Bool.false_or, Bool.or_false, Bool.not_true, Bool.not_false, cond_true, cond_false]), hE⟩
       ·have hr68 := hb
        replace hb := of_decide_eq_false hb
        refine l_not rfl rfl rfl ?_
        refine l_not rfl rfl rfl ?_
        refine l_not rfl rfl rfl ?_
        refine l_val rfl rfl rfl (r_pick rfl rfl) ?_
        refine mv' rfl rfl rfl rfl ?_
        refine l_not rfl rfl rfl ?_
        refine l_not rfl rfl rfl ?_
        refine l_not rfl rfl rfl ?_
        refine l_val rfl rfl rfl (r_pick rfl rfl) ?_
        refine mv' rfl rfl rfl rfl ?_
        refine l_not rfl rfl rfl ?_
        refine l_not rfl rfl rfl ?_
        refine l_not rfl rfl rfl ?_
        refine l_not rfl rfl rfl ?_
        refine l_val rfl rfl rfl (r_pick rfl rfl) ?_
        refine mv' rfl rfl rfl rfl ?_
        refine l_not rfl rfl rfl ?_
        refine l_not rfl rfl rfl ?_
        refine l_not rfl rfl rfl ?_
        refine l_not rfl rfl rfl ?_
        refine l_val rfl rfl rfl (r_pick rfl rfl) ?_
        refine as' rfl rfl rfl rfl ?_
        refine l_nil ?_
        refine c_ret ?_
        exact ⟨ret_bool rfl (by simp only [rMayB, hr23, hr34, hr47, hr52, hr57, hr62, hr68, Bool.true_and, Bool.and_true, Bool.false_and, Bool.and_false, Bool.true_or, Bool.or_true, Bool.false_or, Bool.or_false, Bool.not_true, Bool.not_false, cond_true, cond_false]), hE⟩
      ·have hr62 := hb
       replace hb := of_decide_eq_false hb
       refine l_not rfl rfl rfl ?_
       refine l_not rfl rfl rfl ?_
       refine l_not rfl rfl rfl ?_
       refine l_not rfl rfl rfl ?_
       refine l_val rfl rfl rfl (r_pick rfl rfl) ?_
       refine mv' rfl rfl rfl rfl ?_
       refine l_not rfl rfl rfl ?_
       refine l_not rfl rfl rfl ?_
       refine l_not rfl rfl rfl ?_
       refine l_val rfl rfl rfl (r_pick rfl rfl) ?_
       refine mv' rfl rfl rfl rfl ?_
       refine l_not rfl rfl rfl ?_
       refine l_not rfl rfl rfl ?_
       refine l_not rfl rfl rfl ?_
       refine l_val rfl rfl rfl (r_pick rfl rfl) ?_
       refine mv' rfl rfl rfl rfl ?_
       refine l_not rfl rfl rfl ?_
       refine l_not rfl rfl rfl ?_
       refine l_not rfl rfl rfl ?_
       refine l_not rfl rfl rfl ?_
       refine l_val rfl rfl rfl (r_pick rfl rfl) ?_
       refine mv' rfl rfl rfl rfl ?_
       refine l_not rfl rfl rfl ?_
       refine l_not rfl rfl rfl ?_
       refine l_not rfl rfl rfl ?_
       refine l_not rfl rfl rfl ?_
       refine l_val rfl rfl rfl (r_pick rfl rfl) ?_
       refine as' rfl rfl rfl rfl ?_
       refine l_nil ?_
       refine c_ret ?_
       exact ⟨ret_bool rfl (by simp only [rMayB, hr23, hr34, hr47, hr52, hr57, hr62, Bool.true_and, Bool.and_true, Bool.false_and, Bool.and_false, Bool.true_or, Bool.or_true, Bool.false_or, Bool.or_false, Bool.not_true, Bool.not_false, cond_true, cond_false]), hE⟩
     ·have hr57 := hb
      replace hb := of_decide_eq_false hb
      refine c_skip ?_
      refine c_seq ?_
      refine c_ops ?_
      refine as' rfl rfl rfl rfl ?_
      refine l_nil ?_
      refine c_ret ?_
      exact ⟨ret_bool rfl (by simp only [rMayB, hr23, hr34, hr47, hr52, hr57, Bool.true_and, Bool.and_true, Bool.false_and, Bool.and_false, Bool.true_or, Bool.or_true, Bool.false_or, Bool.or_false, Bool.not_true, Bool.not_false, cond_true, cond_false]), hE⟩
theorem oddB_kind {g : List GNode} {x : GNode} {b : Bool} : (!oddB g.length x && b) = true ↔ x.l.any (outB g.length) = false ∧ (x.num = 0 ∨ x.kind = 9) ∧ (x.name = ⟨#[]⟩ ∨ x.kind = 5) ∧ (x.keys.length = 0 ∨ x.kind = 7) ∧ b = true := by
 unfold oddB
 simp only [Bool.and_eq_true, Bool.not_eq_true', Bool.or_eq_false_iff, Bool.and_eq_false_iff, Bool.not_eq_false', decide_eq_true_eq, decide_eq_false_iff_not, and_assoc]
 constructor
 ·rintro ⟨h1, h2, h3, h4, h5⟩
  exact ⟨h1, h2, h3, h4.imp_left (fun h => by omega), h5⟩
 ·rintro ⟨h1, h2, h3, h4, h5⟩
  exact ⟨h1, h2, h3, h4.imp_left (fun h => by omega), h5⟩
theorem any_nil {g : List GNode} {x : GNode} (h : (x.l.length : Int) = 0) : x.l.any (outB g.length) = false := by
 have : x.l = [] := List.eq_nil_of_length_eq_zero (by omega)
 rw [this]; rfl
theorem rKeysB_eq (l : List ByteArray) : rKeysB l = (risesB l && !l.any (fun s => !isNameB s)) := by
 unfold rKeysB
 rw [Bool.and_comm, List.all_eq_not_any_not]
theorem rMayB_eq (g : List GNode) (x : GNode) : rMayB g x = mayB g x := by
 rw [Bool.eq_iff_iff]
 unfold mayB
 rw [oddB_kind]
 unfold rMayB kindB
 cases hb : bareB x with
 | true =>
  have hk : x.kind = 1 ∨ x.kind = 2 ∨ x.kind = 3 ∨ x.kind = 4 := by simpa [bareB] using hb
  simp only [cond_true, bare3, Bool.and_eq_true, decide_eq_true_eq]
  constructor
  ·rintro ⟨⟨⟨h1, h2⟩, h3⟩, h4⟩
   exact ⟨any_nil h2, .inl h3, .inl h4, .inl (by omega), h2⟩
  ·rintro ⟨h1, h2, h3, h4, h5⟩
   exact ⟨⟨⟨by omega, h5⟩, by omega⟩, h3.elim id (fun h => by omega)⟩
 | false =>
  simp only [cond_false]
  by_cases h5 : x.kind = 5
  ·simp only [h5, decide_true, cond_true, bare3, Bool.and_eq_true, decide_eq_true_eq]
   constructor
   ·rintro ⟨⟨⟨h1, h2⟩, h3⟩, h4⟩
    exact ⟨any_nil h2, .inl h3, .inr trivial, .inl (by omega), h2, h4⟩
   ·rintro ⟨h1, h2, h3, h4, h6, h7⟩
    exact ⟨⟨⟨by omega, h6⟩, by omega⟩, h7⟩
  ·simp only [h5, decide_false, cond_false]
   by_cases h7 : x.kind = 7
   ·simp only [h7, decide_true, cond_true, recB, rKeysB_eq, Bool.and_eq_true, decide_eq_true_eq, Bool.not_eq_true']
    constructor
    ·rintro ⟨⟨h1, h2⟩, ⟨⟨⟨h3, h4⟩, h6⟩, h8⟩, h9⟩
     exact ⟨h9, .inl h4, .inl h3, .inr trivial, ⟨⟨h8, h6⟩, h1⟩, h2⟩
    ·rintro ⟨h1, h2, h3, h4, ⟨⟨h6, h8⟩, h9⟩, h10⟩
     exact ⟨⟨h9, h10⟩, ⟨⟨⟨by simpa using h3, by simpa using h2⟩, h8⟩, h6⟩, h1⟩
   ·simp only [h7, decide_false, cond_false]
    by_cases h8 : x.kind = 8
    ·simp only [h8, decide_true, cond_true, unionB, Bool.and_eq_true, Bool.or_eq_false_iff, decide_eq_true_eq, Bool.not_eq_true', Bool.not_eq_false', decide_eq_false_iff_not]
     constructor
     ·rintro ⟨⟨⟨⟨⟨h1, h2⟩, h3⟩, h4⟩, h6, h9⟩, h10⟩
      exact ⟨h6, .inl h2, .inl h1, .inl (by omega), ⟨h10, by omega⟩, h9⟩
     ·rintro ⟨h1, h2, h3, h4, ⟨h6, h9⟩, h10⟩
      exact ⟨⟨⟨⟨⟨by simpa using h3, by simpa using h2⟩, by simp at h4; simp [h4]⟩, by omega⟩, h1, h10⟩, h6⟩
    ·simp only [h8, decide_false, cond_false]
     by_cases h9 : x.kind = 9
     ·simp only [h9, decide_true, cond_true, Bool.and_eq_true, decide_eq_true_eq, Bool.not_eq_true']
      constructor
      ·rintro ⟨⟨⟨⟨⟨h1, h2⟩, h3⟩, h4⟩, h6⟩, h10⟩
       exact ⟨h10, .inr trivial, .inl h1, .inl (by omega), ⟨h3, h4⟩, h6⟩
      ·rintro ⟨h1, h2, h3, h4, ⟨h6, h10⟩, h11⟩
       exact ⟨⟨⟨⟨⟨by simpa using h3, by simp at h4; simp [h4]⟩, h6⟩, h10⟩, h11⟩, h1⟩
     ·simp only [h9, decide_false, cond_false]
      simp
theorem rCheck_calls (w0 : World) (Ag : Option Addr) (cg : Nat) (g : List GNode) (hg : Nodes w0 Ag cg g) (hfit : Fits g) (hn : g.length ≤ 1000000) :
    Calls Tryz.prog 30 [.slice Ag g.length cg].toArray w0 fun en w' => en = .returned (.int .i64 (checkG g)) ∧ Ext0 w0 w' := by
 have hE : Ext0 w0 w0 := Ext.refl _ _
 have hL : Has w0 [] := trivial
 refine calls [2] Tryz.func30 rfl rfl rfl rfl ?_
 refine c_seq ?_
 refine c_ops ?_
 refine as' rfl rfl rfl rfl ?_
 refine l_nil ?_
 refine c_seq ?_
 refine c_seq ?_
 refine c_ops ?_
 refine mv' rfl rfl rfl rfl ?_
 refine l_val rfl rfl rfl (r_len rfl Tryz.underlying22 rfl) ?_
 refine l_val rfl rfl rfl (r_gtr rfl rfl rfl) ?_
 refine l_nil ?_
 refine c_cond rfl (fun hb => ?_) (fun hb => ?_)
 ·have hr6 := hb
  replace hb := of_decide_eq_true hb
  refine c_seq ?_
  refine c_ops ?_
  refine as' rfl rfl rfl rfl ?_
  refine l_nil ?_
  refine c_ret ?_
  exact ⟨ret_int rfl (by unfold checkG; rw [if_pos hb]), hE⟩
 ·have hr6 := hb
  replace hb := of_decide_eq_false hb
  have h2000 : ¬ 2000 < (g.length : Int) := hb
  refine c_skip ?_
  refine c_seq ?_
  refine c_seq ?_
  refine c_ops ?_
  refine as' rfl rfl rfl rfl ?_
  refine l_nil ?_
  refine c_block ?_
  refine c_loop [2, 3, 7, 8, 9, 10, 11, 12, 13, 14, 15, 16, 17, 18, 19] (fun m1 e w => ∃ (k : Nat), k ≤ g.length ∧ m1 = g.length - k ∧ e 3 = .int .i64 (k : Nat) ∧ (∀ j : Nat, j < k → mayB g (gat g j) = true) ∧ Ext0 w0 w) (g.length) ?_ ?_
  ·exact ⟨0, Nat.zero_le _, rfl, rfl, fun j hj => absurd hj (Nat.not_lt_zero _), hE⟩
  intro m1 e w hI
  obtain ⟨k, hkl, hkm, h3s, hall, hE⟩ := hI
  refine c_know (t := 3) (by exact h3s) ?_
  have hL : Has w [] := trivial
  refine c_seq ?_
  refine c_seq ?_
  refine c_ops ?_
  refine mv' rfl rfl rfl rfl ?_
  refine mv' rfl rfl rfl rfl ?_
  refine l_val rfl rfl rfl (r_len rfl Tryz.underlying22 rfl) ?_
  refine l_val rfl rfl rfl (r_lss rfl rfl rfl) ?_
  refine l_nil ?_
  refine c_cond rfl (fun hb => ?_) (fun hb => ?_)
  ·have hr10 := hb
   replace hb := of_decide_eq_true hb
   have hklt : k < g.length := by omega
   refine c_skip ?_
   refine c_seq ?_
   refine c_block ?_
   refine c_seq ?_
   refine c_ops ?_
   refine mv' rfl rfl rfl rfl ?_
   refine mv' rfl rfl rfl rfl ?_
   refine mv' rfl rfl rfl rfl ?_
   refine l_val rfl rfl rfl (r_indexAddr_sl rfl Tryz.underlying22 Tryz.sizeOf46 rfl hg.is rfl (by omega) (by omega)) ?_
   obtain ⟨Ak, ck, Al, cl, hcell, hks, hls⟩ := hg.node k (by omega) (by omega)
   refine l_val rfl rfl rfl (r_load_agg (vs := nodeCells (gat g k) Ak ck Al cl) rfl Tryz.isAgg46 Tryz.sizeOf46 rfl (fun j v hj => Ext0.cells hE _ _ (hcell j v hj))) ?_
   refine l_by rfl rfl rfl (r_call rfl rfl Tryz.func54 rfl rfl) (may_rcalls _ Ag cg g (hg.keep RNode.kept (Ext0.cells hE)) hn (gat g k) Ak ck Al cl (hks.keep RStr.kept (Ext0.cells hE)) (hls.keep RInt.kept (Ext0.cells hE)) (hfit.texts _ (gat_mem hklt))) ?_
   rintro _ w ⟨hen, hX⟩
   rw [rMayB_eq] at hen
   subst hen
   replace hL := hL.ext0 hX
   replace hE := hE.step0 hX
   refine ⟨_, rfl, ?_⟩
   refine l_val rfl rfl rfl (r_not rfl rfl) ?_
   refine l_nil ?_
   refine c_cond rfl (fun hb => ?_) (fun hb => ?_)
   ·have hr19 := hb
    refine c_seq ?_
    refine c_ops ?_
    refine as' rfl rfl rfl rfl ?_
    refine l_nil ?_
    refine c_ret ?_
    exact ⟨ret_int rfl (by unfold checkG; rw [if_neg h2000, all_no hklt (by simpa using hb)]; rfl), hE⟩
   ·have hr19 := hb
    refine c_skip ?_
    refine c_ops ?_
    refine mv' rfl rfl rfl rfl ?_
    refine l_val rfl rfl rfl (r_add rfl rfl rfl) ?_
    refine as' rfl rfl rfl rfl ?_
    refine l_nil ?_
    refine ag' ?_
    exact ⟨g.length - (k + 1), by omega, k + 1, by omega, rfl, by show Value.int .i64 (IntKind.i64.wrap ((k : Int) + 1)) = _; rw [wrap_succ hklt hg.max], fun j hj => by rcases Nat.lt_or_eq_of_le (Nat.le_of_lt_succ hj) with h | rfl <;> first | exact hall j h | simpa using hb, hE⟩
  ·have hr10 := hb
   replace hb := of_decide_eq_false hb
   refine c_exit ?_
   refine c_seq ?_
   refine c_ops ?_
   refine as' rfl rfl rfl rfl ?_
   refine l_nil ?_
   refine c_ret ?_
   exact ⟨ret_int rfl (by unfold checkG; rw [if_neg h2000, all_yes (fun j hj => hall j (by omega))]; rfl), hE⟩
theorem rMembers_calls (w0 : World) (Ag : Option Addr) (cg : Nat) (g : List GNode) (hg : Nodes w0 Ag cg g) (hfit : Fits g) (n : Int) :
    Calls Tryz.prog 63 [.slice Ag g.length cg, .int .i64 n].toArray w0 fun en w' => ∃ v, en = .returned v ∧ w'.ownsRow w0.heap.size 3 1 v (membersG g n).length ((membersG g n).map (Value.int .i64)) ∧ Ext0 w0 w' := by
 have hE : Ext0 w0 w0 := Ext.refl _ _
 have hL : Has w0 [] := trivial
 refine calls [4] Tryz.func63 rfl rfl rfl rfl ?_
 refine c_seq ?_
 refine c_ops ?_
 refine as' rfl rfl rfl rfl ?_
 refine l_nil ?_
 refine c_seq ?_
 refine c_seq ?_
 refine c_ops ?_
 refine mv' rfl rfl rfl rfl ?_
 refine l_val rfl rfl rfl (r_lss rfl rfl rfl) ?_
 refine mv' rfl rfl rfl rfl ?_
 refine l_case 7 rfl (fun hb => ?_) (fun hb => ?_)
 ·have hr7 := hb
  replace hb := of_decide_eq_true hb
  have hm : membersG g n = [] := by unfold membersG; rw [if_pos (.inl (by omega))]
  refine l_not rfl rfl rfl ?_
  refine l_not rfl rfl rfl ?_
  refine l_not rfl rfl rfl ?_
  refine l_not rfl rfl rfl ?_
  refine l_val rfl rfl rfl (r_pick rfl rfl) ?_
  refine l_nil ?_
  refine c_yes rfl ?_
  refine c_seq ?_
  refine c_ops ?_
  refine as' rfl rfl rfl rfl ?_
  refine l_nil ?_
  refine c_ret ?_
  rw [hm]; exact ⟨_, rfl, ⟨rfl, .inl ⟨rfl, rfl⟩⟩, hE⟩
 ·have hr7 := hb
  replace hb := of_decide_eq_false hb
  refine mv' rfl rfl rfl rfl ?_
  refine mv' rfl rfl rfl rfl ?_
  refine l_val rfl rfl rfl (r_len rfl Tryz.underlying22 rfl) ?_
  refine l_val rfl rfl rfl (r_geq rfl rfl rfl) ?_
  refine l_val rfl rfl rfl (r_pick rfl rfl) ?_
  refine l_nil ?_
  refine c_cond rfl (fun hb => ?_) (fun hb => ?_)
  ·have hr12 := hb
   replace hb := of_decide_eq_true hb
   have hm : membersG g n = [] := by unfold membersG; rw [if_pos (.inr (by omega))]
   refine c_seq ?_
   refine c_ops ?_
   refine as' rfl rfl rfl rfl ?_
   refine l_nil ?_
   refine c_ret ?_
   rw [hm]; exact ⟨_, rfl, ⟨rfl, .inl ⟨rfl, rfl⟩⟩, hE⟩
  ·have hr12 := hb
   replace hb := of_decide_eq_false hb
   have hin : 0 ≤ n ∧ n < g.length := by have := of_decide_eq_false hr7; omega
   obtain ⟨Ak, ck, Al, cl, hcell, hks, hls⟩ := hg.node n hin.1 hin.2
   refine c_skip ?_
   refine c_seq ?_
   refine c_seq ?_
   refine c_ops ?_
   refine mv' rfl rfl rfl rfl ?_
   refine mv' rfl rfl rfl rfl ?_
   refine l_val rfl rfl rfl (r_indexAddr_sl rfl Tryz.underlying22 Tryz.sizeOf46 rfl hg.is rfl hin.1 hin.2) ?_
   refine l_val rfl rfl rfl (r_fieldAddr (n := 0) rfl Tryz.underlying46 rfl Tryz.sizeOf3 rfl) ?_
   refine l_val rfl rfl rfl (r_load rfl Tryz.isAgg3 rfl (Ext0.cells hE _ _ (hcell 0 _ rfl))) ?_
   refine l_val rfl rfl rfl (r_eql rfl rfl rfl) ?_
   refine l_nil ?_
   refine c_cond rfl (fun hb => ?_) (fun hb => ?_)
   ·have hr18 := hb
    replace hb := of_decide_eq_true hb
    have hm : membersG g n = (gat g n).l := by unfold membersG; rw [if_neg (by omega), if_pos hb]
    refine c_seq ?_
    refine c_ops ?_
    refine mv' rfl rfl rfl rfl ?_
    refine mv' rfl rfl rfl rfl ?_
    refine l_val rfl rfl rfl (r_indexAddr_sl rfl Tryz.underlying22 Tryz.sizeOf46 rfl hg.is rfl hin.1 hin.2) ?_
    refine l_val rfl rfl rfl (r_fieldAddr (n := 0) rfl Tryz.underlying46 rfl Tryz.sizeOf26 rfl) ?_
    refine l_val rfl rfl rfl (r_load rfl Tryz.isAgg26 rfl (Ext0.cells hE _ _ (hcell 4 _ rfl))) ?_
    refine l_by rfl rfl rfl (r_call rfl rfl Tryz.func25 rfl rfl) (CopyInts_calls _ Al (gat g n).l.length cl (gat g n).l (hls.keep RInt.kept (Ext0.cells hE)) (hfit.lists _ (gat_mem' hin.1 hin.2))) ?_
    rintro _ w ⟨v, rfl, hrow, hX⟩
    replace hrow := ownsRow_base hrow hE.size
    replace hE := hE.step0 hX
    refine ⟨_, rfl, ?_⟩
    refine as' rfl rfl rfl rfl ?_
    refine l_nil ?_
    refine c_ret ?_
    rw [hm]; exact ⟨v, rfl, hrow, hE⟩
   ·have hr18 := hb
    replace hb := of_decide_eq_false hb
    have hm : membersG g n = [n] := by unfold membersG; rw [if_neg (by omega), if_neg hb]
    refine c_skip ?_
    refine c_seq ?_
    refine c_ops ?_
    refine mv' rfl rfl rfl rfl ?_
    refine l_new rfl rfl rfl (n_slice (cells := #[.int .i64 n]) rfl Tryz.underlying26 Tryz.sizeOf3 Tryz.zeroValue3 rfl rfl (fill_int1 _) hL hE) ?_
    rintro _ w ⟨s26, rfl, hs26, hL, hE, hX⟩
    refine as' rfl rfl rfl rfl ?_
    refine l_nil ?_
    refine c_ret ?_
    rw [hm]; exact ⟨_, rfl, (hL.asRow (n := 1) hs26 rfl (by decide)).row 0 rfl, hE⟩
end Go.Proofs.YtndophlnapjkhaaGreatDoor.Vc
