/- Whether a fact holds; the first one that does not. Conditions: those of each statement. -/
import Derived.Test.YtndophlnapjkhaaDoorFact7
namespace Go.Proofs.YtndophlnapjkhaaDoor.Vc
open Go Go.RowKit
set_option linter.unusedVariables false
set_option linter.unusedSimpArgs false

theorem eq_fpair (a b c d : Int) (w : World) : (Op.equalIn 10000 72 (.agg #[.int .i64 a, .int .i64 b]) (.agg #[.int .i64 c, .int .i64 d])).run Tryd.prog w = .ok (decide (a = c) && decide (b = d)) w := by
  have u3 := Tryd.underlying3
  have a3 := Tryd.isAgg3
  have z3 := Tryd.sizeOf3
  have hS : Tryd.prog.underlying 72 = some (.struct (Tryd.prog.fieldsOf 72)) := by kernel_rfl
  have hp : Tryd.prog.stoodInHeld 72 = false := by kernel_rfl
  rw [show (10000 : Nat) = 9999 + 1 from rfl, run_equalIn_agg w 9999 72 _ _ hS hp]
  simp only [Program.fieldsOf, Tryd.underlying72]
  go_simp
  by_cases h1 : a = c <;> by_cases h2 : b = d <;> simp [h1, h2]
theorem r_neq_fpair {w : World} {ρ : Operand → Value} {o : Oper} {x y : Operand} {t' : TypeId} {p q : Int × Int} (h : o.op = .binOp .neq 72 x y t') (hx : ρ x = .agg (cells2 p).toArray) (hy : ρ y = .agg (cells2 q).toArray) : (execOp ρ o).run Tryd.prog w = .ok (.value (.bool (!decide (p = q)))) w := by
  have hm : Tryd.prog.eqGuardType Tryd.prog.depth 72 = false := by kernel_rfl
  have h1 := run_eqGuard_agg (P := Tryd.prog) w .neq 72 x y (cells2 p).toArray (cells2 q).toArray hm
  have h2 := run_neq_struct (P := Tryd.prog) w 72 (cells2 p).toArray (cells2 q).toArray
  have h3 := eq_fpair p.1 p.2 q.1 q.2 w
  have h4 : (decide (p.1 = q.1) && decide (p.2 = q.2)) = decide (p = q) := by
    rw [← Bool.decide_and]
    exact decide_eq_decide.2 Prod.ext_iff.symm
  rw [h4] at h3
  have h5 : (Op.equalIn 10000 72 (.agg (cells2 p).toArray) (.agg (cells2 q).toArray)).run Tryd.prog w = .ok (decide (p = q)) w := h3
  rw [h5] at h2
  simp only [execOp, h, hx, hy, Sem.run_bind, h1, Result.andThen_ok, h2]
  simp [h2]
def matchF (l : List Fact) : FP → List Int → Bool
  | p :: ps, k :: ks => decide (p = ((fat l k).a, (fat l k).b)) && matchF l ps ks
  | _, _ => true
def holdsF (g : List GNode) (l : List Fact) (f : Fact) : Bool := (byF g f).2 && decide (((byF g f).1.length : Int) = (onF g f).length) && matchF l (byF g f).1 (onF g f)
theorem matchF_step (l : List Fact) {ps : FP} {ks : List Int} {i : Nat} {p : Int × Int} {k : Int} (h1 : ps[i]? = some p) (h2 : ks[i]? = some k) : matchF l (ps.drop i) (ks.drop i) = (decide (p = ((fat l k).a, (fat l k).b)) && matchF l (ps.drop (i + 1)) (ks.drop (i + 1))) := by
  obtain ⟨hi1, e1⟩ := List.getElem?_eq_some_iff.1 h1
  obtain ⟨hi2, e2⟩ := List.getElem?_eq_some_iff.1 h2
  rw [List.drop_eq_getElem_cons hi1, List.drop_eq_getElem_cons hi2, e1, e2, matchF]
theorem fact_holds_calls (w0 : World) (xb : Nat) (Ag : Option Addr) (cg : Nat) (g : List GNode) (hg : Nodes w0 Ag cg g) (hok : GraphOk g) (hx0 : w0.cell? ⟨xb, 0, none⟩ = some (.slice Ag g.length cg)) (Af : Option Addr) (cf : Nat) (l : List Fact) (hl : FactsAt w0 Af cf l) (hx1 : w0.cell? ⟨xb, 1, none⟩ = some (.slice Af l.length cf)) (f : Fact) (Aw : Option Addr) (cw : Nat) (hw : Ints w0 Aw cw f.why) (hf : FactOk g f) (hin : ∀ k ∈ onF g f, 0 ≤ k ∧ k < l.length) :
    Calls Tryd.prog 34 [.pointer (some ⟨xb, 0, none⟩), .agg (factCells f Aw cw).toArray].toArray w0 fun en w' => en = .returned (.bool (holdsF g l f)) ∧ Ext0 w0 w' := by
  have hE : Ext0 w0 w0 := Ext.refl _ _
  have hL : Has w0 [] := trivial
  obtain ⟨on, hon⟩ : ∃ on, on = (byF g f).1 := ⟨_, rfl⟩
  obtain ⟨to, hto⟩ : ∃ to, to = onF g f := ⟨_, rfl⟩
  have hh : holdsF g l f = ((byF g f).2 && decide ((on.length : Int) = to.length) && matchF l on to) := by rw [hon, hto]; rfl
  rw [← hto] at hin
  refine calls [4] Tryd.func34 rfl rfl rfl rfl ?_
  refine c_seq ?_
  -- region 0
  refine c_ops ?_
  refine l_new rfl rfl rfl (n_box rfl hL hE) ?_
  rintro _ w ⟨b3, rfl, hb3, hL, hE, hX⟩
  refine l_val rfl rfl rfl (r_assign rfl) ?_
  refine l_nil ?_
  refine c_seq ?_
  -- region 1
  refine c_ops ?_
  refine l_val rfl rfl rfl (r_move rfl) ?_
  refine l_val rfl rfl rfl (r_load_blk_agg rfl Tryd.isAgg37 Tryd.sizeOf37 rfl (hL.get 0 rfl) rfl) ?_
  refine l_by rfl rfl rfl (r_call rfl rfl Tryd.func46 rfl rfl) (by_calls _ xb Ag cg g (hg.keep RNode.kept (Ext0.cells hE)) hok (Ext0.cells hE _ _ hx0) f Aw cw (hw.keep RInt.kept (Ext0.cells hE)) hf) ?_   -- fact.go:137 slot 14 := (call {callee=(value (func 46)), args=[(tmp 12), (tmp 13)], argTypes=[73, 37]})
  rintro _ w ⟨v, rfl, hrow, hX⟩
  rw [← hon] at hrow
  replace hL := hL.addRow hX hrow
  replace hE := hE.step0 hX
  obtain ⟨A5, c5, rfl⟩ := ownsRow_slice hrow
  obtain ⟨bm, hL⟩ : ∃ bm, Has w (.row bm _ _ _ _ _ :: _) := ⟨_, hL⟩
  refine ⟨_, rfl, ?_⟩
  refine l_val rfl rfl rfl (r_move rfl) ?_
  refine l_val rfl rfl rfl (r_extract rfl rfl rfl) ?_
  refine l_val rfl rfl rfl (r_extract rfl rfl rfl) ?_
  refine l_val rfl rfl rfl (r_assign rfl) ?_
  refine l_val rfl rfl rfl (r_assign rfl) ?_
  refine l_nil ?_
  refine c_seq ?_
  -- region 2
  refine c_ops ?_
  refine l_val rfl rfl rfl (r_move rfl) ?_
  refine l_val rfl rfl rfl (r_load_blk_agg rfl Tryd.isAgg37 Tryd.sizeOf37 rfl (hL.get 1 rfl) rfl) ?_
  refine l_by rfl rfl rfl (r_call rfl rfl Tryd.func40 rfl rfl) (on_calls _ xb Ag cg g (hg.keep RNode.kept (Ext0.cells hE)) hok (Ext0.cells hE _ _ hx0) f Aw cw (hw.keep RInt.kept (Ext0.cells hE)) hf) ?_   -- fact.go:138 slot 19 := (call {callee=(value (func 40)), args=[(tmp 17), (tmp 18)], argTypes=[73, 37]})
  rintro _ w ⟨A7, c7, rfl, htoI, hX⟩
  replace hL := hL.ext0 hX
  replace hE := hE.step0 hX
  rw [← hto] at htoI ⊢
  have hto0 := htoI w0 hw
  refine ⟨_, rfl, ?_⟩
  refine l_val rfl rfl rfl (r_assign rfl) ?_
  refine l_nil ?_
  refine c_seq ?_
  refine c_seq ?_
  -- region 3
  refine c_ops ?_
  refine l_val rfl rfl rfl (r_move rfl) ?_
  refine l_val rfl rfl rfl (r_not rfl rfl) ?_
  refine l_val rfl rfl rfl (r_move rfl) ?_
  refine l_case 22 rfl (fun hb => ?_) (fun hb => ?_)
  · -- slot 22 is True
    have hr22 := hb
    have h22 : (byF g f).2 = false := by have h := hb; rw [Bool.not_eq_true'] at h; exact h
    have hres : holdsF g l f = false := by rw [hh, h22]; rfl
    refine l_not rfl rfl rfl ?_
    refine l_not rfl rfl rfl ?_
    refine l_not rfl rfl rfl ?_
    refine l_not rfl rfl rfl ?_
    refine l_not rfl rfl rfl ?_
    refine l_val rfl rfl rfl (r_pick rfl rfl) ?_
    refine l_nil ?_
    refine c_yes rfl ?_
    refine c_seq ?_
    -- region 4
    refine c_ops ?_
    refine l_val rfl rfl rfl (r_assign rfl) ?_
    refine l_nil ?_
    refine c_ret ?_
    exact ⟨ret_bool rfl hres.symm, hE⟩
  · -- slot 22 is False
    have hr22 := hb
    have h22 : (byF g f).2 = true := by have h := hb; rw [Bool.not_eq_false'] at h; exact h
    refine l_val rfl rfl rfl (r_move rfl) ?_
    refine l_val rfl rfl rfl (r_len rfl Tryd.underlying93 rfl) ?_
    refine l_val rfl rfl rfl (r_move rfl) ?_
    refine l_val rfl rfl rfl (r_len rfl Tryd.underlying30 rfl) ?_
    refine l_val rfl rfl rfl (r_neq rfl rfl rfl) ?_
    refine l_val rfl rfl rfl (r_pick rfl rfl) ?_
    refine l_nil ?_
    refine c_cond rfl (fun hb => ?_) (fun hb => ?_)
    · -- True
      have hr28 := hb
      replace hb := of_decide_eq_false (by simpa using hb)
      have h28 : decide ((on.length : Int) = to.length) = false := by have h := hr28; rw [Bool.not_eq_true'] at h; exact h
      have hres : holdsF g l f = false := by rw [hh, h22, h28]; rfl
      refine c_seq ?_
      -- region 4
      refine c_ops ?_
      refine l_val rfl rfl rfl (r_assign rfl) ?_
      refine l_nil ?_
      refine c_ret ?_
      exact ⟨ret_bool rfl hres.symm, hE⟩
    · -- False
      have hr28 := hb
      replace hb := of_decide_eq_true (by simpa using hb)
      have h28 : decide ((on.length : Int) = to.length) = true := by have h := hr28; rw [Bool.not_eq_false'] at h; exact h
      rw [h22, h28, Bool.true_and, Bool.true_and] at hh
      have hlen : on.length = to.length := by have := of_decide_eq_true h28; omega
      refine c_skip ?_
      refine c_seq ?_
      refine c_seq ?_
      -- region 5
      refine c_ops ?_
      refine l_val rfl rfl rfl (r_move rfl) ?_
      refine l_val rfl rfl rfl (r_len rfl Tryd.underlying93 rfl) ?_
      refine l_val rfl rfl rfl (r_move rfl) ?_
      refine l_nil ?_
      refine c_block ?_
      -- loop 0: slots that it writes and that are read in it ahead of that: [31]
      refine c_loop [4, 8, 9, 10, 31, 32, 33, 34, 35, 36, 37, 38, 39, 40, 41, 42, 43, 44, 45, 46, 47, 48, 49, 50, 51, 52, 53] (fun m1 e w => ∃ k : Nat, k ≤ on.length ∧ m1 = on.length - k ∧ e 31 = .int .i64 k ∧ matchF l on to = matchF l (on.drop k) (to.drop k) ∧ Has w [.row bm 72 2 (.slice A5 on.length c5) on.length (on.map cells2).flatten, .blk b3 (.cells (factCells f Aw cw).toArray 37 (0, 0))] ∧ Ext0 w0 w) on.length ?_ ?_
      · exact ⟨0, Nat.zero_le _, rfl, rfl, rfl, hL, hE⟩
      intro m1 e w hI
      obtain ⟨k, hk, hm, h31, hmf, hL, hE⟩ := hI
      refine c_know h31 ?_
      refine c_seq ?_
      -- region 6
      refine c_ops ?_
      refine l_val rfl rfl rfl (r_lss rfl rfl rfl) ?_
      refine l_nil ?_
      refine c_seq ?_
      refine c_cond rfl (fun hb => ?_) (fun hb => ?_)
      · -- True
        have hr32 := hb
        replace hb := of_decide_eq_true hb
        have hkn : k < on.length := by omega
        have hpk := pat_nat hkn
        have hik := iat_nat (show k < to.length by omega)
        have hkk := hin _ (List.mem_of_getElem? hik)
        have hstep := matchF_step l hpk hik
        obtain ⟨A1, c1, hfc, _⟩ := hl.fact (iat to k) hkk.1 hkk.2
        refine c_skip ?_
        refine c_seq ?_
        refine c_block ?_
        refine c_seq ?_
        -- region 7
        refine c_ops ?_
        refine l_val rfl rfl rfl (r_move rfl) ?_
        refine l_val rfl rfl rfl (r_indexAddr_sl rfl Tryd.underlying93 Tryd.sizeOf72 rfl (fpairs_at (hL.row 0 rfl)).is rfl (by omega) (by omega)) ?_
        refine l_val rfl rfl rfl (r_load_agg (vs := cells2 (on.getD (k : Int).toNat (0, 0))) rfl Tryd.isAgg72 Tryd.sizeOf72 rfl ((fpairs_at (hL.row 0 rfl)).pair k (by omega) (by omega))) ?_
        refine l_new rfl rfl rfl (n_alloc rfl Tryd.zeroValue72 hL hE) ?_
        rintro _ w ⟨b9, rfl, hb9, hL, hE, hX⟩
        refine l_val rfl rfl rfl (r_assign rfl) ?_
        refine l_new_do rfl rfl (r_store 0 rfl Tryd.sizeOf72 rfl hL hE rfl rfl rfl rfl (fun h => absurd h (Nat.not_lt.2 hb9))) ?_
        rintro w ⟨hL, hE, hz, hk⟩
        refine l_nil ?_
        refine c_seq ?_
        -- region 8
        refine c_draw mixed (hL) hE ?_
        replace hL := hL.drew
        replace hE := hE.drew
        have hK := hL
        refine h_t 0 rfl rfl (by kernel_rfl) (fun _ _ _ h => h) ⟨hK, hE⟩ rfl (fun W hW => r_move rfl) ?_
        refine h_t 1 rfl rfl (by kernel_rfl) (fun _ _ _ h => h) ⟨hK, hE⟩ rfl (fun W hW => r_nilCheck rfl rfl) ?_
        refine h_t 2 rfl rfl (by kernel_rfl) (fun _ _ _ h => h) ⟨hK, hE⟩ rfl (fun W hW => r_fieldAddr (n := 0) rfl Tryd.underlying65 rfl Tryd.sizeOf29 rfl) ?_
        refine h_t 3 rfl rfl (by kernel_rfl) (fun _ _ _ h => h) ⟨hK, hE⟩ rfl (fun W hW => r_load rfl Tryd.isAgg29 rfl (Ext0.cells hW.2 _ _ hx1)) ?_
        refine h_t 4 rfl rfl (by kernel_rfl) (fun _ _ _ h => h) ⟨hK, hE⟩ rfl (fun W hW => r_move rfl) ?_
        refine h_t 5 rfl rfl (by kernel_rfl) (fun _ _ _ h => h) ⟨hK, hE⟩ rfl (fun W hW => r_move rfl) ?_
        refine h_t 6 rfl rfl (by kernel_rfl) (fun _ _ _ h => h) ⟨hK, hE⟩ rfl (fun W hW => r_indexAddr_sl rfl Tryd.underlying30 Tryd.sizeOf3 rfl hto0.is rfl (by omega) (by omega)) ?_
        refine h_t 7 rfl rfl (by kernel_rfl) (fun _ _ _ h => h) ⟨hK, hE⟩ rfl (fun W hW => r_load (v := .int .i64 (iat to k)) rfl Tryd.isAgg3 rfl ((hto0.keep RInt.kept (Ext0.cells hW.2)).int k (by omega) (by omega))) ?_
        refine h_t 8 rfl rfl (by kernel_rfl) (fun _ _ _ h => h) ⟨hK, hE⟩ rfl (fun W hW => r_indexAddr_sl rfl Tryd.underlying29 Tryd.sizeOf37 rfl hl.is rfl hkk.1 hkk.2) ?_
        refine h_t 9 rfl rfl (by kernel_rfl) (fun _ _ _ h => h) ⟨hK, hE⟩ rfl (fun W hW => r_load_agg (vs := [.int .i64 (fat l (iat to k)).a, .int .i64 (fat l (iat to k)).b, .slice A1 (fat l (iat to k)).why.length c1]) rfl Tryd.isAgg37 Tryd.sizeOf37 rfl (fun j v hj => Ext0.cells hW.2 _ _ (hfc j v hj))) ?_
        refine h_new 10 rfl rfl (by kernel_rfl) rfl (n_alloc rfl Tryd.zeroValue37 hL hE) ?_
        rintro _ w ⟨b10, rfl, hb10, hL, hE, hX⟩
        have hK := hL.sub (.cons _ (.cons_cons _ (.cons_cons _ (.cons_cons _ .slnil))))
        refine ⟨⟨hK, hE⟩, ?_⟩
        refine h_new_do 11 rfl rfl (by kernel_rfl) rfl (r_store 0 rfl Tryd.sizeOf37 rfl hL hE rfl rfl rfl rfl (fun h => absurd h (Nat.not_lt.2 hb10))) ?_
        rintro w ⟨hL, hE, hz, hk⟩
        have hK := hL.sub (.cons _ (.cons_cons _ (.cons_cons _ (.cons_cons _ .slnil))))
        refine ⟨⟨hK, hE⟩, ?_⟩
        refine h_done (by kernel_rfl) ?_
        refine c_seq ?_
        -- region 9
        refine c_ops ?_
        refine l_val rfl rfl rfl (r_load_agg (vs := cells2 (on.getD (k : Int).toNat (0, 0))) rfl Tryd.isAgg72 Tryd.sizeOf72 rfl (blk_raw (cs := (cells2 (on.getD (k : Int).toNat (0, 0))).toArray) (hL.get 1 rfl) rfl)) ?_
        refine l_val rfl rfl rfl (r_fieldAddr (n := 0) rfl Tryd.underlying37 rfl Tryd.sizeOf3 rfl) ?_
        refine l_val rfl rfl rfl (r_load_blk rfl Tryd.isAgg3 rfl (hL.get 0 rfl) rfl) ?_
        refine l_val rfl rfl rfl (r_fieldAddr (n := 0) rfl Tryd.underlying37 rfl Tryd.sizeOf3 rfl) ?_
        refine l_val rfl rfl rfl (r_load_blk rfl Tryd.isAgg3 rfl (hL.get 0 rfl) rfl) ?_
        refine l_val rfl rfl rfl (r_build rfl rfl (built_fpair _ _)) ?_   -- fact.go:143 slot 51 := (build 72 [(0, (tmp 48)), (1, (tmp 50))])
        refine l_val rfl rfl rfl (r_neq_fpair (p := (on.getD (k : Int).toNat (0, 0))) (q := ((fat l (iat to k)).a, (fat l (iat to k)).b)) rfl rfl rfl) ?_
        refine l_nil ?_
        refine c_cond rfl (fun hb => ?_) (fun hb => ?_)
        · -- True
          have hr52 := hb
          have h52 : decide ((on.getD (k : Int).toNat (0, 0)) = ((fat l (iat to k)).a, (fat l (iat to k)).b)) = false := by have h := hr52; rw [Bool.not_eq_true'] at h; exact h
          have hres : holdsF g l f = false := by rw [hh, hmf, hstep, h52]; rfl
          refine c_seq ?_
          -- region 10
          refine c_ops ?_
          refine l_val rfl rfl rfl (r_assign rfl) ?_
          refine l_nil ?_
          refine c_ret ?_
          exact ⟨ret_bool rfl hres.symm, hE⟩
        · -- False
          have hr52 := hb
          have h52 : decide ((on.getD (k : Int).toNat (0, 0)) = ((fat l (iat to k)).a, (fat l (iat to k)).b)) = true := by have h := hr52; rw [Bool.not_eq_false'] at h; exact h
          have hmf2 : matchF l on to = matchF l (on.drop (k + 1)) (to.drop (k + 1)) := by rw [hmf, hstep, h52]; rfl
          refine c_skip ?_
          -- region 11
          refine c_ops ?_
          refine l_val rfl rfl rfl (r_add rfl rfl rfl) ?_
          refine l_val rfl rfl rfl (r_move rfl) ?_
          refine l_nil ?_
          refine ⟨by repeat (first | exact Agree.over _ _ _ | exact Agree.refl _ _ | (refine Agree.puto ?_ _ _ rfl) | (refine Agree.put ?_ _ _ rfl) | (refine Agree.sub ?_ rfl)), ?_⟩
          exact ⟨on.length - (k + 1), by omega, k + 1, by omega, rfl, by show Value.int .i64 (IntKind.i64.wrap ((k : Int) + 1)) = _; rw [wrap_succ hkn (fpairs_at (hL.row 2 rfl)).max], hmf2, hL.tail.tail, hE⟩
      · -- False
        have hr32 := hb
        replace hb := of_decide_eq_false hb
        have hres : holdsF g l f = true := by rw [hh, hmf, List.drop_eq_nil_of_le (by omega)]; rfl
        refine c_exit ?_
        refine c_seq ?_
        -- region 12
        refine c_ops ?_
        refine l_val rfl rfl rfl (r_assign rfl) ?_
        refine l_nil ?_
        refine c_ret ?_
        exact ⟨ret_bool rfl hres.symm, hE⟩
end Go.Proofs.YtndophlnapjkhaaDoor.Vc
