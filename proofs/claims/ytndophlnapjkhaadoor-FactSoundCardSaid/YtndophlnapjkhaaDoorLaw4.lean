/- FactWhole gives true. Conditions: those of each statement. -/
import Derived.Test.YtndophlnapjkhaaDoorLaw3
namespace Go.Proofs.YtndophlnapjkhaaDoor.Vc
open Go Go.RowKit
set_option linter.unusedVariables false
set_option linter.unusedSimpArgs false

theorem h_listed {P : Program} {n : Nat} {ops : Array Oper} {Q : Post} {S : World → Prop} {fuel : Nat} {listed listed' : Array Bool} {e : Env} {w : World} (h : listed = listed') (k : hwp P n ops Q S fuel listed' e w) : hwp P n ops Q S fuel listed e w := h ▸ k
theorem c_fresh {P : Program} {n : Nat} {Q : Post} {e : Env} {w : World} {c : Code} (I : Env → Prop) (h : I e) (k : ∀ e, I e → cwp P n c Q e w) : cwp P n c Q e w := k e h
theorem found_check {g : List GNode} {qs : FP} {a : List Int} {l : List Fact} (h : Found g qs a l) (hok : GraphOk g) (hck : checkG g = 0) (hn : g.length ≤ 16) : l.length ≤ 256 ∧ checkF g l = 0 := by
  have hl : l.length ≤ 256 := Nat.le_trans h.good.le (Nat.le_trans (Nat.mul_le_mul hn hn) (by decide))
  refine ⟨hl, ?_⟩
  unfold checkF
  rw [if_pos hck, if_neg (by omega), if_neg]
  rw [Bool.not_eq_true, List.any_eq_false]
  intro f hf
  rw [(h.holds hok hf).1]
  decide
theorem found_first {g : List GNode} {qs : FP} {a : List Int} {l : List Fact} (h : Found g qs a l) (hok : GraphOk g) : firstF g l = -1 := by
  have : (findS (fun (_ : Unit) f => (!holdsF g l f, ())) 0 () l).1.isSome = false := by
    rw [findS_pure, List.any_eq_false]
    intro f hf
    rw [(h.holds hok hf).2]
    decide
  unfold firstF
  cases hf : (findS (fun (_ : Unit) f => (!holdsF g l f, ())) 0 () l).1 with
  | none => rfl
  | some i => rw [hf] at this; cases this
theorem prs_at {l : List Fact} {i : Nat} (h : i < l.length) : (prs l)[i]? = some ((fat l i).a, (fat l i).b) := by
  unfold prs
  rw [List.getElem?_map, fat_nat h]
  rfl
theorem good_ne {g : List GNode} {l : List Fact} (h : GoodL g l) {i j : Nat} (hi : i < l.length) (hj : j < i) (ha : (fat l i).a = (fat l j).a) (hb : (fat l i).b = (fat l j).b) : False := by
  have h1 := prs_at hi
  have h2 := prs_at (l := l) (i := j) (by omega)
  rw [ha, hb] at h1
  have hn := h.nodup
  have hjl : j < (prs l).length := by rw [prs_length]; omega
  have hil : i < (prs l).length := by rw [prs_length]; exact hi
  have := (List.pairwise_iff_getElem.1 hn) j i hjl hil hj
  rw [List.getElem?_eq_getElem hil] at h1
  rw [List.getElem?_eq_getElem hjl] at h2
  injection h1 with h1
  injection h2 with h2
  exact this (by rw [h1, h2])
theorem all_in {g : List GNode} {ps : FP} (h : ∀ q ∈ ps, InG g.length q) : ps.all (inB g) = true := by
  rw [List.all_eq_true]
  intro q hq
  have := h q hq
  simp [inB, placeB, this.1, this.2.1, this.2.2.1, this.2.2.2]
theorem Found.pair_at {g : List GNode} {qs : FP} {a : List Int} {l : List Fact} (h : Found g qs a l) {k : Nat} (hk : k < qs.length) : 0 ≤ iat a k ∧ iat a k < l.length ∧ (fat l (iat a k)).a = (qs.getD (k : Int).toNat (0, 0)).1 ∧ (fat l (iat a k)).b = (qs.getD (k : Int).toNat (0, 0)).2 := by
  obtain ⟨i, h1, h2, h3⟩ := h.at_ k _ (pat_nat hk)
  have h4 := iat_nat (l := a) (k := k) (by rw [h.many]; exact hk)
  rw [h1] at h4
  injection h4 with h4
  subst h4
  have hlt := (List.getElem?_eq_some_iff.1 h3).1
  rw [prs_length] at hlt
  have h5 := prs_at hlt
  rw [h3, Int.toNat_of_nonneg h2] at h5
  injection h5 with h5
  exact ⟨h2, by omega, by rw [h5], by rw [h5]⟩
set_option maxHeartbeats 20000000 in
theorem Whole_calls (w0 : World) (hk0 : KeysLaid w0) (A : Option Addr) (c : Nat) (g : List GNode) (hg : Nodes w0 A c g) (Ap : Option Addr) (cp : Nat) (ps0 : FP) (hp0 : PairsAt w0 Ap cp ps0) :
    Calls Tryd.prog 3 [.slice A g.length c, .slice Ap ps0.length cp].toArray w0 fun en w' => en = .returned (.bool true) ∧ Ext0 w0 w' := by
  have hE : Ext0 w0 w0 := Ext.refl _ _
  have hL : Has w0 [] := trivial
  refine calls [4] Tryd.func3 rfl rfl rfl rfl ?_
  refine c_seq ?_
  -- region 0
  refine c_ops ?_
  refine l_val rfl rfl rfl (r_assign rfl) ?_
  refine l_nil ?_
  refine c_seq ?_
  -- region 1
  refine c_ops ?_
  refine l_val rfl rfl rfl (r_move rfl) ?_
  refine l_by rfl rfl rfl (r_call rfl rfl Tryd.func8 rfl rfl) (fine_calls _ hk0 A c g hg) ?_   -- outright.go:78 slot 16 := (call {callee=(value (func 8)), args=[(tmp 15)], argTypes=[22]})
  rintro _ w ⟨A1, c1, hen, hn, hX⟩
  obtain ⟨gg, hgg⟩ : ∃ x, x = fineF g := ⟨_, rfl⟩
  have hlen := fineF_len g
  have hfit := fineF_fits g
  have hchk := @fineF_check g
  rw [← hgg] at hen hn hlen hfit hchk
  subst hen
  replace hE := hE.trans hX
  obtain ⟨wa, hwa⟩ : ∃ x, x = w := ⟨_, rfl⟩
  rw [← hwa] at hn hE
  have hE0 := hE
  replace hE : Ext0 wa w := hwa ▸ Ext.refl _ _
  refine ⟨_, rfl, ?_⟩
  refine l_val rfl rfl rfl (r_assign rfl) ?_
  refine l_nil ?_
  refine c_seq ?_
  refine c_seq ?_
  -- region 2
  refine c_ops ?_
  refine l_val rfl rfl rfl (r_move rfl) ?_
  refine l_val rfl rfl rfl (r_len rfl Tryd.underlying22 rfl) ?_
  refine l_val rfl rfl rfl (r_eql rfl rfl rfl) ?_
  refine l_nil ?_
  refine c_cond rfl (fun hb => ?_) (fun hb => ?_)
  · -- True
    have hr19 := hb
    replace hb := of_decide_eq_true hb
    refine c_seq ?_
    -- region 3
    refine c_ops ?_
    refine l_by rfl rfl rfl (r_call rfl rfl Tryd.func9 rfl rfl) (works_calls _ (hk0.keep (Ext0.cells (hE0.trans hE)))) ?_   -- outright.go:80 slot 20 := (call {callee=(value (func 9)), args=[], argTypes=[]})
    rintro _ w ⟨rfl, hX⟩
    replace hE := hE.trans hX
    refine ⟨_, rfl, ?_⟩
    refine l_val rfl rfl rfl (r_assign rfl) ?_
    refine l_nil ?_
    refine c_ret ?_
    exact ⟨rfl, hE0.trans hE⟩
  · -- False
    have hr19 := hb
    replace hb := of_decide_eq_false hb
    have hne : gg ≠ [] := fun h => hb (by rw [h]; rfl)
    have hck := hchk hne
    obtain ⟨hok, _⟩ := ok_of hfit hck
    have hgpos : 0 < gg.length := List.length_pos_iff.2 hne
    refine c_skip ?_
    refine c_seq ?_
    -- region 4
    refine c_ops ?_
    refine l_val rfl rfl rfl (r_move rfl) ?_
    refine l_val rfl rfl rfl (r_move rfl) ?_
    refine l_by rfl rfl rfl (r_call rfl rfl Tryd.func10 rfl rfl) (pairsOf_calls _ A1 gg.length c1 (by omega) hlen Ap cp ps0 (hp0.keep RPair.kept (Ext0.cells (hE0.trans hE)))) ?_   -- outright.go:82 slot 23 := (call {callee=(value (func 10)), args=[(tmp 21), (tmp 22)], argTypes=[22, 23]})
    rintro _ w ⟨ps, A2, c2, rfl, hps, hps8, hpin, hX⟩
    replace hE := hE.trans hX
    replace hn := hn.keep RNode.kept (Ext0.cells hE)
    obtain ⟨wb, hwb⟩ : ∃ x, x = w := ⟨_, rfl⟩
    rw [← hwb] at hn hps hE
    replace hE0 := hE0.trans hE
    replace hE : Ext0 wb w := hwb ▸ Ext.refl _ _
    refine ⟨_, rfl, ?_⟩
    refine l_val rfl rfl rfl (r_assign rfl) ?_
    refine l_nil ?_
    refine c_fresh (fun e => e 0 = .slice A1 gg.length c1 ∧ e 1 = .slice A2 ps.length c2) ⟨rfl, rfl⟩ ?_
    rintro e ⟨hq0, hq1⟩
    refine c_know (t := 0) (by exact hq0) ?_
    refine c_know (t := 1) (by exact hq1) ?_
    clear hq0 hq1
    refine c_seq ?_
    -- region 5
    refine c_ops ?_
    refine l_val rfl rfl rfl (r_assign rfl) ?_
    refine l_nil ?_
    refine c_seq ?_
    refine c_seq ?_
    -- region 6
    refine c_ops ?_
    refine l_val rfl rfl rfl (r_assign rfl) ?_
    refine l_nil ?_
    refine c_block ?_
    -- loop 0: slots that it writes and that are read in it ahead of that: [6, 5]
    refine c_loop [5, 6, 24, 25, 26, 27, 28, 29, 30, 31, 32, 33, 34, 35, 36, 37, 38, 39, 40, 41, 42, 43, 44] (fun m1 e w => ∃ k : Nat, k ≤ ps.length ∧ m1 = ps.length - k ∧ e 6 = .int .i64 k ∧ e 5 = .bool ((ps.take k).all (mayX gg false)) ∧ Ext0 wb w) ps.length ?_ ?_
    · exact ⟨0, Nat.zero_le _, rfl, rfl, rfl, hE⟩
    intro m1 e w hI
    obtain ⟨k, hkl, hmk, h6, h5, hE⟩ := hI
    have hL : Has w [] := trivial
    refine c_know (t := 6) (by exact h6) ?_
    refine c_know (t := 5) (by exact h5) ?_
    have hpm := hps.max
    refine c_seq ?_
    refine c_seq ?_
    -- region 7
    refine c_ops ?_
    refine l_val rfl rfl rfl (r_move rfl) ?_
    refine l_val rfl rfl rfl (r_move rfl) ?_
    refine l_val rfl rfl rfl (r_len rfl Tryd.underlying23 rfl) ?_
    refine l_val rfl rfl rfl (r_lss rfl rfl rfl) ?_
    refine l_nil ?_
    refine c_cond rfl (fun hb => ?_) (fun hb => ?_)
    · -- True
      have hr27 := hb
      replace hb := of_decide_eq_true hb
      have hklt : k < ps.length := by omega
      have hqk := pat_nat hklt
      have hpc := hps.pair k (by omega) (by omega)
      refine c_skip ?_
      refine c_seq ?_
      refine c_block ?_
      -- region 9
      refine c_draw mixed (hL) hE ?_
      replace hL := hL.drew
      replace hE := hE.drew
      have hK := hL
      refine h_t 0 rfl rfl (by kernel_rfl) (fun _ _ _ h => h) ⟨hK, hE⟩ rfl (fun W hW => r_move rfl) ?_
      refine h_listed (listed' := #[true, false, false, false, false, false, false, false, false, false, false, false, false, false, false, false]) (by kernel_rfl) ?_
      refine h_t 1 rfl rfl (by kernel_rfl) (fun _ _ _ h => h) ⟨hK, hE⟩ rfl (fun W hW => r_move rfl) ?_
      refine h_listed (listed' := #[true, true, false, false, false, false, false, false, false, false, false, false, false, false, false, false]) (by kernel_rfl) ?_
      refine h_case 31 rfl (fun hb => ?_) (fun hb => ?_)
      · -- slot 31 is True
        have hr31 := hb
        refine h_listed (listed' := #[true, true, false, false, false, false, false, false, false, false, false, false, false, false, false, false]) (by kernel_rfl) ?_
        refine h_t 2 rfl rfl (by kernel_rfl) (fun _ _ _ h => h) ⟨hK, hE⟩ rfl (fun W hW => r_move rfl) ?_
        refine h_listed (listed' := #[true, true, true, false, false, false, false, false, false, false, false, false, false, false, false, false]) (by kernel_rfl) ?_
        refine h_t 3 rfl rfl (by kernel_rfl) (fun _ _ _ h => h) ⟨hK, hE⟩ rfl (fun W hW => r_move rfl) ?_
        refine h_listed (listed' := #[true, true, true, true, false, false, false, false, false, false, false, false, false, false, false, false]) (by kernel_rfl) ?_
        refine h_t 4 rfl rfl (by kernel_rfl) (fun _ _ _ h => h) ⟨hK, hE⟩ rfl (fun W hW => r_move rfl) ?_
        refine h_listed (listed' := #[true, true, true, true, true, false, false, false, false, false, false, false, false, false, false, false]) (by kernel_rfl) ?_
        refine h_t 5 rfl rfl (by kernel_rfl) (fun _ _ _ h => h) ⟨hK, hE⟩ rfl (fun W hW => r_indexAddr_sl rfl Tryd.underlying23 Tryd.sizeOf28 rfl hps.is rfl (by omega) (by omega)) ?_
        refine h_listed (listed' := #[true, true, true, true, true, true, false, false, false, false, false, false, false, false, false, false]) (by kernel_rfl) ?_
        refine h_t 6 rfl rfl (by kernel_rfl) (fun _ _ _ h => h) ⟨hK, hE⟩ rfl (fun W hW => r_indexAddr_arr rfl Tryd.underlying28 Tryd.sizeOf3 rfl rfl (by decide) (by decide)) ?_
        refine h_listed (listed' := #[true, true, true, true, true, true, true, false, false, false, false, false, false, false, false, false]) (by kernel_rfl) ?_
        refine h_t 7 rfl rfl (by kernel_rfl) (fun _ _ _ h => h) ⟨hK, hE⟩ rfl (fun W hW => r_load rfl Tryd.isAgg3 rfl (Ext0.cells hW.2 _ _ (hpc 0 _ rfl))) ?_
        refine h_listed (listed' := #[true, true, true, true, true, true, true, true, false, false, false, false, false, false, false, false]) (by kernel_rfl) ?_
        refine h_t 8 rfl rfl (by kernel_rfl) (fun _ _ _ h => h) ⟨hK, hE⟩ rfl (fun W hW => r_move rfl) ?_
        refine h_listed (listed' := #[true, true, true, true, true, true, true, true, true, false, false, false, false, false, false, false]) (by kernel_rfl) ?_
        refine h_t 9 rfl rfl (by kernel_rfl) (fun _ _ _ h => h) ⟨hK, hE⟩ rfl (fun W hW => r_move rfl) ?_
        refine h_listed (listed' := #[true, true, true, true, true, true, true, true, true, true, false, false, false, false, false, false]) (by kernel_rfl) ?_
        refine h_t 10 rfl rfl (by kernel_rfl) (fun _ _ _ h => h) ⟨hK, hE⟩ rfl (fun W hW => r_indexAddr_sl rfl Tryd.underlying23 Tryd.sizeOf28 rfl hps.is rfl (by omega) (by omega)) ?_
        refine h_listed (listed' := #[true, true, true, true, true, true, true, true, true, true, true, false, false, false, false, false]) (by kernel_rfl) ?_
        refine h_t 11 rfl rfl (by kernel_rfl) (fun _ _ _ h => h) ⟨hK, hE⟩ rfl (fun W hW => r_indexAddr_arr rfl Tryd.underlying28 Tryd.sizeOf3 rfl rfl (by decide) (by decide)) ?_
        refine h_listed (listed' := #[true, true, true, true, true, true, true, true, true, true, true, true, false, false, false, false]) (by kernel_rfl) ?_
        refine h_t 12 rfl rfl (by kernel_rfl) (fun _ _ _ h => h) ⟨hK, hE⟩ rfl (fun W hW => r_load rfl Tryd.isAgg3 rfl (Ext0.cells hW.2 _ _ (hpc 1 _ rfl))) ?_
        refine h_listed (listed' := #[true, true, true, true, true, true, true, true, true, true, true, true, true, false, false, false]) (by kernel_rfl) ?_
        refine h_by 13 rfl rfl (by kernel_rfl) rfl (r_call rfl rfl Tryd.func11 rfl rfl) (May_calls _ A1 c1 gg (hn.keep RNode.kept (Ext0.cells hE)) hok (by omega) (hk0.keep (Ext0.cells (hE0.trans hE))) (ps.getD (k : Int).toNat (0, 0)).1 (ps.getD (k : Int).toNat (0, 0)).2 (hpin _ (List.mem_of_getElem? hqk))) ?_   -- outright.go:85 slot 43 := (call {callee=(value (func 11)), args=[(tmp 32), (tmp 37), (tmp 42)], argTypes=[22, 3, 3]})
        rintro _ w ⟨rfl, hX⟩
        replace hE := hE.trans hX
        have hK := hL
        refine ⟨_, rfl, ⟨hK, hE⟩, ?_⟩
        refine h_listed (listed' := #[true, true, true, true, true, true, true, true, true, true, true, true, true, true, false, false]) (by kernel_rfl) ?_
        refine h_t 14 rfl rfl (by kernel_rfl) (fun _ _ _ h => h) ⟨hK, hE⟩ rfl (fun W hW => r_pick rfl rfl) ?_
        refine h_listed (listed' := #[true, true, true, true, true, true, true, true, true, true, true, true, true, true, true, false]) (by kernel_rfl) ?_
        refine h_t 15 rfl rfl (by kernel_rfl) (fun _ _ _ h => h) ⟨hK, hE⟩ rfl (fun W hW => r_assign rfl) ?_
        refine h_listed (listed' := #[true, true, true, true, true, true, true, true, true, true, true, true, true, true, true, true]) (by kernel_rfl) ?_
        refine h_done (by kernel_rfl) ?_
        -- region 8
        refine c_ops ?_
        refine l_val rfl rfl rfl (r_move rfl) ?_
        refine l_val rfl rfl rfl (r_add rfl rfl rfl) ?_
        refine l_val rfl rfl rfl (r_assign rfl) ?_
        refine l_nil ?_
        refine ⟨by repeat (first | exact Agree.over _ _ _ | exact Agree.refl _ _ | (refine Agree.puto ?_ _ _ rfl) | (refine Agree.put ?_ _ _ rfl) | (refine Agree.sub ?_ rfl)), ?_⟩
        exact ⟨ps.length - (k + 1), by omega, k + 1, by omega, rfl, by show Value.int .i64 (IntKind.i64.wrap ((k : Int) + 1)) = _; rw [wrap_succ hklt hpm], congrArg Value.bool (by rw [take_snoc hqk, List.all_append, hr31]; simp), hE⟩
      · -- slot 31 is False
        have hr31 := hb
        refine h_listed (listed' := #[true, true, false, false, false, false, false, false, false, false, false, false, false, false, false, false]) (by kernel_rfl) ?_
        refine h_n 2 rfl rfl (by kernel_rfl) (fun _ _ _ h => h) ⟨hK, hE⟩ rfl ?_
        refine h_listed (listed' := #[true, true, true, false, false, false, false, false, false, false, false, false, false, false, false, false]) (by kernel_rfl) ?_
        refine h_n 3 rfl rfl (by kernel_rfl) (fun _ _ _ h => h) ⟨hK, hE⟩ rfl ?_
        refine h_listed (listed' := #[true, true, true, true, false, false, false, false, false, false, false, false, false, false, false, false]) (by kernel_rfl) ?_
        refine h_n 4 rfl rfl (by kernel_rfl) (fun _ _ _ h => h) ⟨hK, hE⟩ rfl ?_
        refine h_listed (listed' := #[true, true, true, true, true, false, false, false, false, false, false, false, false, false, false, false]) (by kernel_rfl) ?_
        refine h_n 5 rfl rfl (by kernel_rfl) (fun _ _ _ h => h) ⟨hK, hE⟩ rfl ?_
        refine h_listed (listed' := #[true, true, true, true, true, true, false, false, false, false, false, false, false, false, false, false]) (by kernel_rfl) ?_
        refine h_n 6 rfl rfl (by kernel_rfl) (fun _ _ _ h => h) ⟨hK, hE⟩ rfl ?_
        refine h_listed (listed' := #[true, true, true, true, true, true, true, false, false, false, false, false, false, false, false, false]) (by kernel_rfl) ?_
        refine h_n 7 rfl rfl (by kernel_rfl) (fun _ _ _ h => h) ⟨hK, hE⟩ rfl ?_
        refine h_listed (listed' := #[true, true, true, true, true, true, true, true, false, false, false, false, false, false, false, false]) (by kernel_rfl) ?_
        refine h_n 8 rfl rfl (by kernel_rfl) (fun _ _ _ h => h) ⟨hK, hE⟩ rfl ?_
        refine h_listed (listed' := #[true, true, true, true, true, true, true, true, true, false, false, false, false, false, false, false]) (by kernel_rfl) ?_
        refine h_n 9 rfl rfl (by kernel_rfl) (fun _ _ _ h => h) ⟨hK, hE⟩ rfl ?_
        refine h_listed (listed' := #[true, true, true, true, true, true, true, true, true, true, false, false, false, false, false, false]) (by kernel_rfl) ?_
        refine h_n 10 rfl rfl (by kernel_rfl) (fun _ _ _ h => h) ⟨hK, hE⟩ rfl ?_
        refine h_listed (listed' := #[true, true, true, true, true, true, true, true, true, true, true, false, false, false, false, false]) (by kernel_rfl) ?_
        refine h_n 11 rfl rfl (by kernel_rfl) (fun _ _ _ h => h) ⟨hK, hE⟩ rfl ?_
        refine h_listed (listed' := #[true, true, true, true, true, true, true, true, true, true, true, true, false, false, false, false]) (by kernel_rfl) ?_
        refine h_n 12 rfl rfl (by kernel_rfl) (fun _ _ _ h => h) ⟨hK, hE⟩ rfl ?_
        refine h_listed (listed' := #[true, true, true, true, true, true, true, true, true, true, true, true, true, false, false, false]) (by kernel_rfl) ?_
        refine h_n 13 rfl rfl (by kernel_rfl) (fun _ _ _ h => h) ⟨hK, hE⟩ rfl ?_
        refine h_listed (listed' := #[true, true, true, true, true, true, true, true, true, true, true, true, true, true, false, false]) (by kernel_rfl) ?_
        refine h_t 14 rfl rfl (by kernel_rfl) (fun _ _ _ h => h) ⟨hK, hE⟩ rfl (fun W hW => r_pick rfl rfl) ?_
        refine h_listed (listed' := #[true, true, true, true, true, true, true, true, true, true, true, true, true, true, true, false]) (by kernel_rfl) ?_
        refine h_t 15 rfl rfl (by kernel_rfl) (fun _ _ _ h => h) ⟨hK, hE⟩ rfl (fun W hW => r_assign rfl) ?_
        refine h_listed (listed' := #[true, true, true, true, true, true, true, true, true, true, true, true, true, true, true, true]) (by kernel_rfl) ?_
        refine h_done (by kernel_rfl) ?_
        -- region 8
        refine c_ops ?_
        refine l_val rfl rfl rfl (r_move rfl) ?_
        refine l_val rfl rfl rfl (r_add rfl rfl rfl) ?_
        refine l_val rfl rfl rfl (r_assign rfl) ?_
        refine l_nil ?_
        refine ⟨by repeat (first | exact Agree.over _ _ _ | exact Agree.refl _ _ | (refine Agree.puto ?_ _ _ rfl) | (refine Agree.put ?_ _ _ rfl) | (refine Agree.sub ?_ rfl)), ?_⟩
        exact ⟨ps.length - (k + 1), by omega, k + 1, by omega, rfl, by show Value.int .i64 (IntKind.i64.wrap ((k : Int) + 1)) = _; rw [wrap_succ hklt hpm], congrArg Value.bool (by rw [take_snoc hqk, List.all_append, hr31]; simp), hE⟩
    · -- False
      have hr27 := hb
      replace hb := of_decide_eq_false hb
      obtain rfl : k = ps.length := by omega
      have hallin := all_in hpin
      refine c_exit ?_
      refine c_fresh (fun e => e 0 = .slice A1 gg.length c1 ∧ e 1 = .slice A2 ps.length c2 ∧ e 5 = .bool ((ps.take ps.length).all (mayX gg false))) ⟨rfl, rfl, rfl⟩ ?_
      rintro e ⟨hq0, hq1, hq5⟩
      refine c_know (t := 0) (by exact hq0) ?_
      refine c_know (t := 1) (by exact hq1) ?_
      refine c_know (t := 5) (by exact hq5) ?_
      clear hq0 hq1 hq5
      refine c_seq ?_
      -- region 10
      refine c_ops ?_
      refine l_val rfl rfl rfl (r_move rfl) ?_
      refine l_val rfl rfl rfl (r_move rfl) ?_
      refine l_by rfl rfl rfl (r_call rfl rfl Tryd.func12 rfl rfl) (Find_calls _ A1 c1 gg (hn.keep RNode.kept (Ext0.cells hE)) hfit hlen (hk0.keep (Ext0.cells (hE0.trans hE))) A2 c2 ps (hps.keep RPair.kept (Ext0.cells hE)) (by omega)) ?_   -- outright.go:87 slot 48 := (call {callee=(value (func 12)), args=[(tmp 46), (tmp 47)], argTypes=[22, 23]})
      rintro _ w ⟨A3, c3, A4, c4, rfl, hf3, hi4, hX⟩
      replace hE := hE.trans hX
      replace hn := hn.keep RNode.kept (Ext0.cells hE)
      replace hps := hps.keep RPair.kept (Ext0.cells hE)
      obtain ⟨wc, hwc⟩ : ∃ x, x = w := ⟨_, rfl⟩
      rw [← hwc] at hn hps hf3 hi4 hE
      replace hE0 := hE0.trans hE
      replace hE : Ext0 wc w := hwc ▸ Ext.refl _ _
      refine ⟨_, rfl, ?_⟩
      refine l_val rfl rfl rfl (r_move rfl) ?_
      refine l_val rfl rfl rfl (r_extract rfl rfl rfl) ?_
      refine l_val rfl rfl rfl (r_extract rfl rfl rfl) ?_
      refine l_val rfl rfl rfl (r_extract rfl rfl rfl) ?_
      refine l_val rfl rfl rfl (r_assign rfl) ?_
      refine l_val rfl rfl rfl (r_assign rfl) ?_
      refine l_val rfl rfl rfl (r_assign rfl) ?_
      refine l_nil ?_
      refine c_seq ?_
      refine c_seq ?_
      -- region 11
      refine c_ops ?_
      refine l_val rfl rfl rfl (r_move rfl) ?_
      refine l_val rfl rfl rfl (r_not rfl rfl) ?_
      refine l_nil ?_
      refine c_cond rfl (fun hb => ?_) (fun hb => ?_)
      · -- True
        have hr53 := hb
        have hall : ps.all (mayX gg false) = false := by simpa using hb
        have herr := err_may hck hallin hall
        have hfo : foundF gg ps = ([], []) := by unfold foundF; rw [if_neg (by rw [herr]; decide)]
        refine c_know (t := 9) (v := .int .i64 160) (congrArg (Value.int .i64) herr) ?_
        refine c_know (t := 7) (v := .slice A3 0 c3) (congrArg (fun (x : List Int × List Fact) => Value.slice A3 x.2.length c3) hfo) ?_
        refine c_know (t := 8) (v := .slice A4 0 c4) (congrArg (fun (x : List Int × List Fact) => Value.slice A4 x.1.length c4) hfo) ?_
        refine c_seq ?_
        -- region 12
        refine c_ops ?_
        refine l_val rfl rfl rfl (r_move rfl) ?_
        refine l_val rfl rfl rfl (r_eql rfl rfl rfl) ?_
        refine l_know (t := 55) (v := .bool true) rfl ?_
        refine l_val rfl rfl rfl (r_move rfl) ?_
        refine l_val rfl rfl rfl (r_move rfl) ?_
        refine l_val rfl rfl rfl (r_len rfl Tryd.underlying29 rfl) ?_
        refine l_val rfl rfl rfl (r_move rfl) ?_
        refine l_val rfl rfl rfl (r_len rfl Tryd.underlying30 rfl) ?_
        refine l_val rfl rfl rfl (r_add rfl rfl rfl) ?_
        refine l_val rfl rfl rfl (r_eql rfl rfl rfl) ?_
        refine l_know (t := 62) (v := .bool true) rfl ?_
        refine l_val rfl rfl rfl (r_pick rfl rfl) ?_
        refine l_know (t := 63) (v := .bool true) rfl ?_
        refine l_val rfl rfl rfl (r_move rfl) ?_
        refine l_by rfl rfl rfl (r_call rfl rfl Tryd.func9 rfl rfl) (works_calls _ (hk0.keep (Ext0.cells (hE0.trans hE)))) ?_   -- outright.go:89 slot 65 := (call {callee=(value (func 9)), args=[], argTypes=[]})
        rintro _ w ⟨rfl, hX⟩
        replace hE := hE.trans hX
        refine ⟨_, rfl, ?_⟩
        refine l_val rfl rfl rfl (r_pick rfl rfl) ?_
        refine l_know (t := 66) (v := .bool true) rfl ?_
        refine l_val rfl rfl rfl (r_assign rfl) ?_
        refine l_nil ?_
        refine c_ret ?_
        exact ⟨rfl, hE0.trans hE⟩
      · -- False
        have hr53 := hb
        have hall : ps.all (mayX gg false) = true := by simpa using hb
        obtain ⟨herr, hfo⟩ := err_ok hck hallin hall
        have hqall : ∀ q ∈ ps, InG gg.length q ∧ mayX gg false q = true := fun q hq => ⟨hpin q hq, all_at hall hq⟩
        have hfd := allF_found hok hqall
        obtain ⟨at_, l, hal⟩ : ∃ a l, allF gg ps = (a, l) := ⟨_, _, rfl⟩
        rw [hal] at hfd hfo
        rw [hfo] at hf3 hi4
        replace hf3 : FactsAt wc A3 c3 l := hf3
        replace hi4 : Ints wc A4 c4 at_ := hi4
        replace hfd : Found gg ps at_ l := hfd
        refine c_know (t := 9) (v := .int .i64 0) (congrArg (Value.int .i64) herr) ?_
        refine c_know (t := 7) (v := .slice A3 l.length c3) (congrArg (fun (x : List Int × List Fact) => Value.slice A3 x.2.length c3) hfo) ?_
        refine c_know (t := 8) (v := .slice A4 at_.length c4) (congrArg (fun (x : List Int × List Fact) => Value.slice A4 x.1.length c4) hfo) ?_
        obtain ⟨hl256, hcl⟩ := found_check hfd hok hck hlen
        have hfst := found_first hfd hok
        refine c_skip ?_
        refine c_fresh (fun e => e 0 = .slice A1 gg.length c1 ∧ e 1 = .slice A2 ps.length c2 ∧ e 7 = .slice A3 l.length c3 ∧ e 8 = .slice A4 at_.length c4 ∧ e 9 = .int .i64 0) ⟨rfl, rfl, rfl, rfl, rfl⟩ ?_
        rintro e ⟨hq0, hq1, hq7, hq8, hq9⟩
        refine c_know (t := 0) (by exact hq0) ?_
        refine c_know (t := 1) (by exact hq1) ?_
        refine c_know (t := 7) (by exact hq7) ?_
        refine c_know (t := 8) (by exact hq8) ?_
        refine c_know (t := 9) (by exact hq9) ?_
        clear hq0 hq1 hq7 hq8 hq9
        refine c_seq ?_
        -- region 13
        refine c_ops ?_
        refine l_val rfl rfl rfl (r_move rfl) ?_
        refine l_val rfl rfl rfl (r_move rfl) ?_
        refine l_by rfl rfl rfl (r_call rfl rfl Tryd.func13 rfl rfl) (First_calls _ A1 c1 gg (hn.keep RNode.kept (Ext0.cells hE)) hfit (hk0.keep (Ext0.cells (hE0.trans hE))) A3 c3 l (hf3.keep RFact.kept (Ext0.cells hE))) ?_   -- outright.go:91 slot 70 := (call {callee=(value (func 13)), args=[(tmp 68), (tmp 69)], argTypes=[22, 29]})
        rintro _ w ⟨hen, hX⟩
        rw [if_pos hcl, hcl, hfst] at hen
        subst hen
        replace hE := hE.trans hX
        refine ⟨_, rfl, ?_⟩
        refine l_val rfl rfl rfl (r_move rfl) ?_
        refine l_val rfl rfl rfl (r_extract rfl rfl rfl) ?_
        refine l_val rfl rfl rfl (r_extract rfl rfl rfl) ?_
        refine l_val rfl rfl rfl (r_assign rfl) ?_
        refine l_val rfl rfl rfl (r_assign rfl) ?_
        refine l_nil ?_
        refine c_seq ?_
        refine c_seq ?_
        -- region 14
        refine c_ops ?_
        refine l_val rfl rfl rfl (r_move rfl) ?_
        refine l_val rfl rfl rfl (r_neq rfl rfl rfl) ?_
        refine l_know (t := 74) (v := .bool false) rfl ?_
        refine l_val rfl rfl rfl (r_move rfl) ?_
        refine l_val rfl rfl rfl (r_move rfl) ?_
        refine l_val rfl rfl rfl (r_neq rfl rfl rfl) ?_
        refine l_know (t := 77) (v := .bool false) rfl ?_
        refine l_val rfl rfl rfl (r_pick rfl rfl) ?_
        refine l_know (t := 78) (v := .bool false) rfl ?_
        refine l_val rfl rfl rfl (r_move rfl) ?_
        refine l_val rfl rfl rfl (r_move rfl) ?_
        refine l_val rfl rfl rfl (r_neq rfl rfl rfl) ?_
        refine l_know (t := 81) (v := .bool false) rfl ?_
        refine l_val rfl rfl rfl (r_pick rfl rfl) ?_
        refine l_know (t := 82) (v := .bool false) rfl ?_
        refine l_val rfl rfl rfl (r_move rfl) ?_
        refine l_val rfl rfl rfl (r_move rfl) ?_
        refine l_val rfl rfl rfl (r_len rfl Tryd.underlying30 rfl) ?_
        refine l_val rfl rfl rfl (r_move rfl) ?_
        refine l_val rfl rfl rfl (r_len rfl Tryd.underlying23 rfl) ?_
        refine l_val rfl rfl rfl (r_neq rfl rfl rfl) ?_
        refine l_know (t := 88) (v := .bool false) (congrArg Value.bool (by rw [hfd.many]; simp)) ?_
        refine l_val rfl rfl rfl (r_pick rfl rfl) ?_
        refine l_know (t := 89) (v := .bool false) rfl ?_
        refine l_nil ?_
        refine c_no rfl ?_
        refine c_skip ?_
        refine c_fresh (fun e => e 0 = .slice A1 gg.length c1 ∧ e 1 = .slice A2 ps.length c2 ∧ e 7 = .slice A3 l.length c3 ∧ e 8 = .slice A4 at_.length c4) ⟨rfl, rfl, rfl, rfl⟩ ?_
        rintro e ⟨hq0, hq1, hq7, hq8⟩
        refine c_know (t := 0) (by exact hq0) ?_
        refine c_know (t := 1) (by exact hq1) ?_
        refine c_know (t := 7) (by exact hq7) ?_
        refine c_know (t := 8) (by exact hq8) ?_
        clear hq0 hq1 hq7 hq8
        refine c_seq ?_
        refine c_seq ?_
        -- region 16
        refine c_ops ?_
        refine l_val rfl rfl rfl (r_assign rfl) ?_
        refine l_nil ?_
        refine c_block ?_
        -- loop 1: slots that it writes and that are read in it ahead of that: [12]
        refine c_loop [4, 12, 90, 91, 92, 93, 94, 95, 96, 97, 98, 99, 100, 101, 102, 103, 104, 105, 106, 107, 108, 109, 110, 111, 112, 113, 114, 115, 116, 117, 118, 119, 120, 121, 122, 123, 124, 125, 126, 127, 128, 129, 130, 131, 132, 133, 134, 135, 136, 137, 138, 139, 140, 141] (fun m1 e w => ∃ k : Nat, k ≤ at_.length ∧ m1 = at_.length - k ∧ e 12 = .int .i64 k ∧ Ext0 wc w) at_.length ?_ ?_
        · exact ⟨0, Nat.zero_le _, rfl, rfl, hE⟩
        intro m1 e w hI
        obtain ⟨k, hkl, hmk, h12, hE⟩ := hI
        have hL : Has w [] := trivial
        refine c_know (t := 12) (by exact h12) ?_
        clear hcl hfst herr hck hchk
        have him := hi4.max
        have hmany := hfd.many
        refine c_seq ?_
        refine c_seq ?_
        -- region 17
        refine c_ops ?_
        refine l_val rfl rfl rfl (r_move rfl) ?_
        refine l_val rfl rfl rfl (r_move rfl) ?_
        refine l_val rfl rfl rfl (r_len rfl Tryd.underlying30 rfl) ?_
        refine l_val rfl rfl rfl (r_lss rfl rfl rfl) ?_
        refine l_nil ?_
        refine c_cond rfl (fun hb => ?_) (fun hb => ?_)
        · -- True
          have hr93 := hb
          replace hb := of_decide_eq_true hb
          have hklt : k < at_.length := Int.ofNat_lt.1 hb
          obtain ⟨a, haE⟩ : ∃ a, a = iat at_ k := ⟨_, rfl⟩
          obtain ⟨ha0, ha1, haa, hab⟩ := hfd.pair_at (k := k) (hmany ▸ hklt)
          rw [← haE] at ha0 ha1 haa hab
          have hkp : k < ps.length := hmany ▸ hklt
          have hpc := hps.pair k (Int.natCast_nonneg _) (Int.ofNat_lt.2 hkp)
          obtain ⟨Aw, cw, hfc, _⟩ := hf3.fact a ha0 ha1
          refine c_skip ?_
          refine c_seq ?_
          refine c_block ?_
          refine c_seq ?_
          -- region 19
          refine c_draw mixed (hL) hE ?_
          replace hL := hL.drew
          replace hE := hE.drew
          have hK := hL
          refine h_t 0 rfl rfl (by kernel_rfl) (fun _ _ _ h => h) ⟨hK, hE⟩ rfl (fun W hW => r_move rfl) ?_
          refine h_listed (listed' := #[true, false, false, false, false, false, false, false, false, false, false, false, false, false, false, false, false, false, false, false, false, false, false, false, false, false, false, false, false, false, false, false, false, false, false, false, false, false, false, false, false, false, false, false, false, false]) (by kernel_rfl) ?_
          refine h_t 1 rfl rfl (by kernel_rfl) (fun _ _ _ h => h) ⟨hK, hE⟩ rfl (fun W hW => r_move rfl) ?_
          refine h_listed (listed' := #[true, true, false, false, false, false, false, false, false, false, false, false, false, false, false, false, false, false, false, false, false, false, false, false, false, false, false, false, false, false, false, false, false, false, false, false, false, false, false, false, false, false, false, false, false, false]) (by kernel_rfl) ?_
          refine h_t 2 rfl rfl (by kernel_rfl) (fun _ _ _ h => h) ⟨hK, hE⟩ rfl (fun W hW => r_indexAddr_sl rfl Tryd.underlying30 Tryd.sizeOf3 rfl hi4.is rfl (by omega) (by omega)) ?_
          refine h_listed (listed' := #[true, true, true, false, false, false, false, false, false, false, false, false, false, false, false, false, false, false, false, false, false, false, false, false, false, false, false, false, false, false, false, false, false, false, false, false, false, false, false, false, false, false, false, false, false, false]) (by kernel_rfl) ?_
          refine h_t 3 rfl rfl (by kernel_rfl) (fun _ _ _ h => h) ⟨hK, hE⟩ rfl (fun W hW => r_load (v := .int .i64 a) rfl Tryd.isAgg3 rfl (by rw [haE]; exact (hi4.keep RInt.kept (Ext0.cells hW.2)).int k (by omega) (by omega))) ?_
          refine h_listed (listed' := #[true, true, true, true, false, false, false, false, false, false, false, false, false, false, false, false, false, false, false, false, false, false, false, false, false, false, false, false, false, false, false, false, false, false, false, false, false, false, false, false, false, false, false, false, false, false]) (by kernel_rfl) ?_
          refine h_t 4 rfl rfl (by kernel_rfl) (fun _ _ _ h => h) ⟨hK, hE⟩ rfl (fun W hW => r_lss rfl rfl rfl) ?_
          refine h_listed (listed' := #[true, true, true, true, true, false, false, false, false, false, false, false, false, false, false, false, false, false, false, false, false, false, false, false, false, false, false, false, false, false, false, false, false, false, false, false, false, false, false, false, false, false, false, false, false, false]) (by kernel_rfl) ?_
          refine h_t 5 rfl rfl (by kernel_rfl) (fun _ _ _ h => h) ⟨hK, hE⟩ rfl (fun W hW => r_move rfl) ?_
          refine h_listed (listed' := #[true, true, true, true, true, true, false, false, false, false, false, false, false, false, false, false, false, false, false, false, false, false, false, false, false, false, false, false, false, false, false, false, false, false, false, false, false, false, false, false, false, false, false, false, false, false]) (by kernel_rfl) ?_
          refine h_case 101 rfl (fun hb => ?_) (fun hb => ?_)
          · -- slot 101 is True
            have hr101 := hb
            replace hb := of_decide_eq_true hb
            omega
          · -- slot 101 is False
            have hr101 := hb
            replace hb := of_decide_eq_false hb
            refine h_listed (listed' := #[true, true, true, true, true, true, false, false, false, false, false, false, false, false, false, false, false, false, false, false, false, false, false, false, false, false, false, false, false, false, false, false, false, false, false, false, false, false, false, false, false, false, false, false, false, false]) (by kernel_rfl) ?_
            refine h_t 6 rfl rfl (by kernel_rfl) (fun _ _ _ h => h) ⟨hK, hE⟩ rfl (fun W hW => r_move rfl) ?_
            refine h_listed (listed' := #[true, true, true, true, true, true, true, false, false, false, false, false, false, false, false, false, false, false, false, false, false, false, false, false, false, false, false, false, false, false, false, false, false, false, false, false, false, false, false, false, false, false, false, false, false, false]) (by kernel_rfl) ?_
            refine h_t 7 rfl rfl (by kernel_rfl) (fun _ _ _ h => h) ⟨hK, hE⟩ rfl (fun W hW => r_move rfl) ?_
            refine h_listed (listed' := #[true, true, true, true, true, true, true, true, false, false, false, false, false, false, false, false, false, false, false, false, false, false, false, false, false, false, false, false, false, false, false, false, false, false, false, false, false, false, false, false, false, false, false, false, false, false]) (by kernel_rfl) ?_
            refine h_t 8 rfl rfl (by kernel_rfl) (fun _ _ _ h => h) ⟨hK, hE⟩ rfl (fun W hW => r_indexAddr_sl rfl Tryd.underlying30 Tryd.sizeOf3 rfl hi4.is rfl (by omega) (by omega)) ?_
            refine h_listed (listed' := #[true, true, true, true, true, true, true, true, true, false, false, false, false, false, false, false, false, false, false, false, false, false, false, false, false, false, false, false, false, false, false, false, false, false, false, false, false, false, false, false, false, false, false, false, false, false]) (by kernel_rfl) ?_
            refine h_t 9 rfl rfl (by kernel_rfl) (fun _ _ _ h => h) ⟨hK, hE⟩ rfl (fun W hW => r_load (v := .int .i64 a) rfl Tryd.isAgg3 rfl (by rw [haE]; exact (hi4.keep RInt.kept (Ext0.cells hW.2)).int k (by omega) (by omega))) ?_
            refine h_listed (listed' := #[true, true, true, true, true, true, true, true, true, true, false, false, false, false, false, false, false, false, false, false, false, false, false, false, false, false, false, false, false, false, false, false, false, false, false, false, false, false, false, false, false, false, false, false, false, false]) (by kernel_rfl) ?_
            refine h_t 10 rfl rfl (by kernel_rfl) (fun _ _ _ h => h) ⟨hK, hE⟩ rfl (fun W hW => r_move rfl) ?_
            refine h_listed (listed' := #[true, true, true, true, true, true, true, true, true, true, true, false, false, false, false, false, false, false, false, false, false, false, false, false, false, false, false, false, false, false, false, false, false, false, false, false, false, false, false, false, false, false, false, false, false, false]) (by kernel_rfl) ?_
            refine h_t 11 rfl rfl (by kernel_rfl) (fun _ _ _ h => h) ⟨hK, hE⟩ rfl (fun W hW => r_len rfl Tryd.underlying29 rfl) ?_
            refine h_listed (listed' := #[true, true, true, true, true, true, true, true, true, true, true, true, false, false, false, false, false, false, false, false, false, false, false, false, false, false, false, false, false, false, false, false, false, false, false, false, false, false, false, false, false, false, false, false, false, false]) (by kernel_rfl) ?_
            refine h_t 12 rfl rfl (by kernel_rfl) (fun _ _ _ h => h) ⟨hK, hE⟩ rfl (fun W hW => r_geq rfl rfl rfl) ?_
            refine h_listed (listed' := #[true, true, true, true, true, true, true, true, true, true, true, true, true, false, false, false, false, false, false, false, false, false, false, false, false, false, false, false, false, false, false, false, false, false, false, false, false, false, false, false, false, false, false, false, false, false]) (by kernel_rfl) ?_
            refine h_t 13 rfl rfl (by kernel_rfl) (fun _ _ _ h => h) ⟨hK, hE⟩ rfl (fun W hW => r_pick rfl rfl) ?_
            refine h_listed (listed' := #[true, true, true, true, true, true, true, true, true, true, true, true, true, true, false, false, false, false, false, false, false, false, false, false, false, false, false, false, false, false, false, false, false, false, false, false, false, false, false, false, false, false, false, false, false, false]) (by kernel_rfl) ?_
            refine h_t 14 rfl rfl (by kernel_rfl) (fun _ _ _ h => h) ⟨hK, hE⟩ rfl (fun W hW => r_move rfl) ?_
            refine h_listed (listed' := #[true, true, true, true, true, true, true, true, true, true, true, true, true, true, true, false, false, false, false, false, false, false, false, false, false, false, false, false, false, false, false, false, false, false, false, false, false, false, false, false, false, false, false, false, false, false]) (by kernel_rfl) ?_
            refine h_case 110 rfl (fun hb => ?_) (fun hb => ?_)
            · -- slot 110 is True
              have hr110 := hb
              replace hb := of_decide_eq_true hb
              omega
            · -- slot 110 is False
              have hr110 := hb
              replace hb := of_decide_eq_false hb
              refine h_listed (listed' := #[true, true, true, true, true, true, true, true, true, true, true, true, true, true, true, false, false, false, false, false, false, false, false, false, false, false, false, false, false, false, false, false, false, false, false, false, false, false, false, false, false, false, false, false, false, false]) (by kernel_rfl) ?_
              refine h_t 15 rfl rfl (by kernel_rfl) (fun _ _ _ h => h) ⟨hK, hE⟩ rfl (fun W hW => r_move rfl) ?_
              refine h_listed (listed' := #[true, true, true, true, true, true, true, true, true, true, true, true, true, true, true, true, false, false, false, false, false, false, false, false, false, false, false, false, false, false, false, false, false, false, false, false, false, false, false, false, false, false, false, false, false, false]) (by kernel_rfl) ?_
              refine h_t 16 rfl rfl (by kernel_rfl) (fun _ _ _ h => h) ⟨hK, hE⟩ rfl (fun W hW => r_move rfl) ?_
              refine h_listed (listed' := #[true, true, true, true, true, true, true, true, true, true, true, true, true, true, true, true, true, false, false, false, false, false, false, false, false, false, false, false, false, false, false, false, false, false, false, false, false, false, false, false, false, false, false, false, false, false]) (by kernel_rfl) ?_
              refine h_t 17 rfl rfl (by kernel_rfl) (fun _ _ _ h => h) ⟨hK, hE⟩ rfl (fun W hW => r_move rfl) ?_
              refine h_listed (listed' := #[true, true, true, true, true, true, true, true, true, true, true, true, true, true, true, true, true, true, false, false, false, false, false, false, false, false, false, false, false, false, false, false, false, false, false, false, false, false, false, false, false, false, false, false, false, false]) (by kernel_rfl) ?_
              refine h_t 18 rfl rfl (by kernel_rfl) (fun _ _ _ h => h) ⟨hK, hE⟩ rfl (fun W hW => r_indexAddr_sl rfl Tryd.underlying30 Tryd.sizeOf3 rfl hi4.is rfl (by omega) (by omega)) ?_
              refine h_listed (listed' := #[true, true, true, true, true, true, true, true, true, true, true, true, true, true, true, true, true, true, true, false, false, false, false, false, false, false, false, false, false, false, false, false, false, false, false, false, false, false, false, false, false, false, false, false, false, false]) (by kernel_rfl) ?_
              refine h_t 19 rfl rfl (by kernel_rfl) (fun _ _ _ h => h) ⟨hK, hE⟩ rfl (fun W hW => r_load (v := .int .i64 a) rfl Tryd.isAgg3 rfl (by rw [haE]; exact (hi4.keep RInt.kept (Ext0.cells hW.2)).int k (by omega) (by omega))) ?_
              refine h_listed (listed' := #[true, true, true, true, true, true, true, true, true, true, true, true, true, true, true, true, true, true, true, true, false, false, false, false, false, false, false, false, false, false, false, false, false, false, false, false, false, false, false, false, false, false, false, false, false, false]) (by kernel_rfl) ?_
              refine h_t 20 rfl rfl (by kernel_rfl) (fun _ _ _ h => h) ⟨hK, hE⟩ rfl (fun W hW => r_indexAddr_sl rfl Tryd.underlying29 Tryd.sizeOf37 rfl hf3.is rfl (by omega) (by omega)) ?_
              refine h_listed (listed' := #[true, true, true, true, true, true, true, true, true, true, true, true, true, true, true, true, true, true, true, true, true, false, false, false, false, false, false, false, false, false, false, false, false, false, false, false, false, false, false, false, false, false, false, false, false, false]) (by kernel_rfl) ?_
              refine h_t 21 rfl rfl (by kernel_rfl) (fun _ _ _ h => h) ⟨hK, hE⟩ rfl (fun W hW => r_fieldAddr (n := 0) rfl Tryd.underlying37 rfl Tryd.sizeOf3 rfl) ?_
              refine h_listed (listed' := #[true, true, true, true, true, true, true, true, true, true, true, true, true, true, true, true, true, true, true, true, true, true, false, false, false, false, false, false, false, false, false, false, false, false, false, false, false, false, false, false, false, false, false, false, false, false]) (by kernel_rfl) ?_
              refine h_t 22 rfl rfl (by kernel_rfl) (fun _ _ _ h => h) ⟨hK, hE⟩ rfl (fun W hW => r_load rfl Tryd.isAgg3 rfl (Ext0.cells hW.2 _ _ (hfc 0 _ rfl))) ?_
              refine h_listed (listed' := #[true, true, true, true, true, true, true, true, true, true, true, true, true, true, true, true, true, true, true, true, true, true, true, false, false, false, false, false, false, false, false, false, false, false, false, false, false, false, false, false, false, false, false, false, false, false]) (by kernel_rfl) ?_
              refine h_t 23 rfl rfl (by kernel_rfl) (fun _ _ _ h => h) ⟨hK, hE⟩ rfl (fun W hW => r_move rfl) ?_
              refine h_listed (listed' := #[true, true, true, true, true, true, true, true, true, true, true, true, true, true, true, true, true, true, true, true, true, true, true, true, false, false, false, false, false, false, false, false, false, false, false, false, false, false, false, false, false, false, false, false, false, false]) (by kernel_rfl) ?_
              refine h_t 24 rfl rfl (by kernel_rfl) (fun _ _ _ h => h) ⟨hK, hE⟩ rfl (fun W hW => r_move rfl) ?_
              refine h_listed (listed' := #[true, true, true, true, true, true, true, true, true, true, true, true, true, true, true, true, true, true, true, true, true, true, true, true, true, false, false, false, false, false, false, false, false, false, false, false, false, false, false, false, false, false, false, false, false, false]) (by kernel_rfl) ?_
              refine h_t 25 rfl rfl (by kernel_rfl) (fun _ _ _ h => h) ⟨hK, hE⟩ rfl (fun W hW => r_indexAddr_sl rfl Tryd.underlying23 Tryd.sizeOf28 rfl hps.is rfl (by omega) (by omega)) ?_
              refine h_listed (listed' := #[true, true, true, true, true, true, true, true, true, true, true, true, true, true, true, true, true, true, true, true, true, true, true, true, true, true, false, false, false, false, false, false, false, false, false, false, false, false, false, false, false, false, false, false, false, false]) (by kernel_rfl) ?_
              refine h_t 26 rfl rfl (by kernel_rfl) (fun _ _ _ h => h) ⟨hK, hE⟩ rfl (fun W hW => r_indexAddr_arr rfl Tryd.underlying28 Tryd.sizeOf3 rfl rfl (by decide) (by decide)) ?_
              refine h_listed (listed' := #[true, true, true, true, true, true, true, true, true, true, true, true, true, true, true, true, true, true, true, true, true, true, true, true, true, true, true, false, false, false, false, false, false, false, false, false, false, false, false, false, false, false, false, false, false, false]) (by kernel_rfl) ?_
              refine h_t 27 rfl rfl (by kernel_rfl) (fun _ _ _ h => h) ⟨hK, hE⟩ rfl (fun W hW => r_load rfl Tryd.isAgg3 rfl (Ext0.cells hW.2 _ _ (hpc 0 _ rfl))) ?_
              refine h_listed (listed' := #[true, true, true, true, true, true, true, true, true, true, true, true, true, true, true, true, true, true, true, true, true, true, true, true, true, true, true, true, false, false, false, false, false, false, false, false, false, false, false, false, false, false, false, false, false, false]) (by kernel_rfl) ?_
              refine h_t 28 rfl rfl (by kernel_rfl) (fun _ _ _ h => h) ⟨hK, hE⟩ rfl (fun W hW => r_neq rfl rfl rfl) ?_
              refine h_listed (listed' := #[true, true, true, true, true, true, true, true, true, true, true, true, true, true, true, true, true, true, true, true, true, true, true, true, true, true, true, true, true, false, false, false, false, false, false, false, false, false, false, false, false, false, false, false, false, false]) (by kernel_rfl) ?_
              refine h_t 29 rfl rfl (by kernel_rfl) (fun _ _ _ h => h) ⟨hK, hE⟩ rfl (fun W hW => r_pick rfl rfl) ?_
              refine h_listed (listed' := #[true, true, true, true, true, true, true, true, true, true, true, true, true, true, true, true, true, true, true, true, true, true, true, true, true, true, true, true, true, true, false, false, false, false, false, false, false, false, false, false, false, false, false, false, false, false]) (by kernel_rfl) ?_
              refine h_t 30 rfl rfl (by kernel_rfl) (fun _ _ _ h => h) ⟨hK, hE⟩ rfl (fun W hW => r_move rfl) ?_
              refine h_listed (listed' := #[true, true, true, true, true, true, true, true, true, true, true, true, true, true, true, true, true, true, true, true, true, true, true, true, true, true, true, true, true, true, true, false, false, false, false, false, false, false, false, false, false, false, false, false, false, false]) (by kernel_rfl) ?_
              refine h_case 126 rfl (fun hb => ?_) (fun hb => ?_)
              · -- slot 126 is True
                have hr126 := hb
                replace hb := of_decide_eq_false (by simpa using hb)
                exact absurd haa hb
              · -- slot 126 is False
                have hr126 := hb
                replace hb := of_decide_eq_true (by simpa using hb)
                refine h_listed (listed' := #[true, true, true, true, true, true, true, true, true, true, true, true, true, true, true, true, true, true, true, true, true, true, true, true, true, true, true, true, true, true, true, false, false, false, false, false, false, false, false, false, false, false, false, false, false, false]) (by kernel_rfl) ?_
                refine h_t 31 rfl rfl (by kernel_rfl) (fun _ _ _ h => h) ⟨hK, hE⟩ rfl (fun W hW => r_move rfl) ?_
                refine h_listed (listed' := #[true, true, true, true, true, true, true, true, true, true, true, true, true, true, true, true, true, true, true, true, true, true, true, true, true, true, true, true, true, true, true, true, false, false, false, false, false, false, false, false, false, false, false, false, false, false]) (by kernel_rfl) ?_
                refine h_t 32 rfl rfl (by kernel_rfl) (fun _ _ _ h => h) ⟨hK, hE⟩ rfl (fun W hW => r_move rfl) ?_
                refine h_listed (listed' := #[true, true, true, true, true, true, true, true, true, true, true, true, true, true, true, true, true, true, true, true, true, true, true, true, true, true, true, true, true, true, true, true, true, false, false, false, false, false, false, false, false, false, false, false, false, false]) (by kernel_rfl) ?_
                refine h_t 33 rfl rfl (by kernel_rfl) (fun _ _ _ h => h) ⟨hK, hE⟩ rfl (fun W hW => r_move rfl) ?_
                refine h_listed (listed' := #[true, true, true, true, true, true, true, true, true, true, true, true, true, true, true, true, true, true, true, true, true, true, true, true, true, true, true, true, true, true, true, true, true, true, false, false, false, false, false, false, false, false, false, false, false, false]) (by kernel_rfl) ?_
                refine h_t 34 rfl rfl (by kernel_rfl) (fun _ _ _ h => h) ⟨hK, hE⟩ rfl (fun W hW => r_indexAddr_sl rfl Tryd.underlying30 Tryd.sizeOf3 rfl hi4.is rfl (by omega) (by omega)) ?_
                refine h_listed (listed' := #[true, true, true, true, true, true, true, true, true, true, true, true, true, true, true, true, true, true, true, true, true, true, true, true, true, true, true, true, true, true, true, true, true, true, true, false, false, false, false, false, false, false, false, false, false, false]) (by kernel_rfl) ?_
                refine h_t 35 rfl rfl (by kernel_rfl) (fun _ _ _ h => h) ⟨hK, hE⟩ rfl (fun W hW => r_load (v := .int .i64 a) rfl Tryd.isAgg3 rfl (by rw [haE]; exact (hi4.keep RInt.kept (Ext0.cells hW.2)).int k (by omega) (by omega))) ?_
                refine h_listed (listed' := #[true, true, true, true, true, true, true, true, true, true, true, true, true, true, true, true, true, true, true, true, true, true, true, true, true, true, true, true, true, true, true, true, true, true, true, true, false, false, false, false, false, false, false, false, false, false]) (by kernel_rfl) ?_
                refine h_t 36 rfl rfl (by kernel_rfl) (fun _ _ _ h => h) ⟨hK, hE⟩ rfl (fun W hW => r_indexAddr_sl rfl Tryd.underlying29 Tryd.sizeOf37 rfl hf3.is rfl (by omega) (by omega)) ?_
                refine h_listed (listed' := #[true, true, true, true, true, true, true, true, true, true, true, true, true, true, true, true, true, true, true, true, true, true, true, true, true, true, true, true, true, true, true, true, true, true, true, true, true, false, false, false, false, false, false, false, false, false]) (by kernel_rfl) ?_
                refine h_t 37 rfl rfl (by kernel_rfl) (fun _ _ _ h => h) ⟨hK, hE⟩ rfl (fun W hW => r_fieldAddr (n := 0) rfl Tryd.underlying37 rfl Tryd.sizeOf3 rfl) ?_
                refine h_listed (listed' := #[true, true, true, true, true, true, true, true, true, true, true, true, true, true, true, true, true, true, true, true, true, true, true, true, true, true, true, true, true, true, true, true, true, true, true, true, true, true, false, false, false, false, false, false, false, false]) (by kernel_rfl) ?_
                refine h_t 38 rfl rfl (by kernel_rfl) (fun _ _ _ h => h) ⟨hK, hE⟩ rfl (fun W hW => r_load rfl Tryd.isAgg3 rfl (Ext0.cells hW.2 _ _ (hfc 1 _ rfl))) ?_
                refine h_listed (listed' := #[true, true, true, true, true, true, true, true, true, true, true, true, true, true, true, true, true, true, true, true, true, true, true, true, true, true, true, true, true, true, true, true, true, true, true, true, true, true, true, false, false, false, false, false, false, false]) (by kernel_rfl) ?_
                refine h_t 39 rfl rfl (by kernel_rfl) (fun _ _ _ h => h) ⟨hK, hE⟩ rfl (fun W hW => r_move rfl) ?_
                refine h_listed (listed' := #[true, true, true, true, true, true, true, true, true, true, true, true, true, true, true, true, true, true, true, true, true, true, true, true, true, true, true, true, true, true, true, true, true, true, true, true, true, true, true, true, false, false, false, false, false, false]) (by kernel_rfl) ?_
                refine h_t 40 rfl rfl (by kernel_rfl) (fun _ _ _ h => h) ⟨hK, hE⟩ rfl (fun W hW => r_move rfl) ?_
                refine h_listed (listed' := #[true, true, true, true, true, true, true, true, true, true, true, true, true, true, true, true, true, true, true, true, true, true, true, true, true, true, true, true, true, true, true, true, true, true, true, true, true, true, true, true, true, false, false, false, false, false]) (by kernel_rfl) ?_
                refine h_t 41 rfl rfl (by kernel_rfl) (fun _ _ _ h => h) ⟨hK, hE⟩ rfl (fun W hW => r_indexAddr_sl rfl Tryd.underlying23 Tryd.sizeOf28 rfl hps.is rfl (by omega) (by omega)) ?_
                refine h_listed (listed' := #[true, true, true, true, true, true, true, true, true, true, true, true, true, true, true, true, true, true, true, true, true, true, true, true, true, true, true, true, true, true, true, true, true, true, true, true, true, true, true, true, true, true, false, false, false, false]) (by kernel_rfl) ?_
                refine h_t 42 rfl rfl (by kernel_rfl) (fun _ _ _ h => h) ⟨hK, hE⟩ rfl (fun W hW => r_indexAddr_arr rfl Tryd.underlying28 Tryd.sizeOf3 rfl rfl (by decide) (by decide)) ?_
                refine h_listed (listed' := #[true, true, true, true, true, true, true, true, true, true, true, true, true, true, true, true, true, true, true, true, true, true, true, true, true, true, true, true, true, true, true, true, true, true, true, true, true, true, true, true, true, true, true, false, false, false]) (by kernel_rfl) ?_
                refine h_t 43 rfl rfl (by kernel_rfl) (fun _ _ _ h => h) ⟨hK, hE⟩ rfl (fun W hW => r_load rfl Tryd.isAgg3 rfl (Ext0.cells hW.2 _ _ (hpc 1 _ rfl))) ?_
                refine h_listed (listed' := #[true, true, true, true, true, true, true, true, true, true, true, true, true, true, true, true, true, true, true, true, true, true, true, true, true, true, true, true, true, true, true, true, true, true, true, true, true, true, true, true, true, true, true, true, false, false]) (by kernel_rfl) ?_
                refine h_t 44 rfl rfl (by kernel_rfl) (fun _ _ _ h => h) ⟨hK, hE⟩ rfl (fun W hW => r_neq rfl rfl rfl) ?_
                refine h_listed (listed' := #[true, true, true, true, true, true, true, true, true, true, true, true, true, true, true, true, true, true, true, true, true, true, true, true, true, true, true, true, true, true, true, true, true, true, true, true, true, true, true, true, true, true, true, true, true, false]) (by kernel_rfl) ?_
                refine h_t 45 rfl rfl (by kernel_rfl) (fun _ _ _ h => h) ⟨hK, hE⟩ rfl (fun W hW => r_pick rfl rfl) ?_
                refine h_listed (listed' := #[true, true, true, true, true, true, true, true, true, true, true, true, true, true, true, true, true, true, true, true, true, true, true, true, true, true, true, true, true, true, true, true, true, true, true, true, true, true, true, true, true, true, true, true, true, true]) (by kernel_rfl) ?_
                refine h_done (by kernel_rfl) ?_
                refine c_cond rfl (fun hb => ?_) (fun hb => ?_)
                · -- True
                  have hr141 := hb
                  replace hb := of_decide_eq_false (by simpa using hb)
                  exact absurd hab hb
                · -- False
                  have hr141 := hb
                  replace hb := of_decide_eq_true (by simpa using hb)
                  refine c_skip ?_
                  -- region 18
                  refine c_ops ?_
                  refine l_val rfl rfl rfl (r_move rfl) ?_
                  refine l_val rfl rfl rfl (r_add rfl rfl rfl) ?_
                  refine l_val rfl rfl rfl (r_assign rfl) ?_
                  refine l_nil ?_
                  refine ⟨by repeat (first | exact Agree.over _ _ _ | exact Agree.refl _ _ | (refine Agree.puto ?_ _ _ rfl) | (refine Agree.put ?_ _ _ rfl) | (refine Agree.sub ?_ rfl)), ?_⟩
                  exact ⟨at_.length - (k + 1), by omega, k + 1, by omega, rfl, by show Value.int .i64 (IntKind.i64.wrap ((k : Int) + 1)) = _; rw [wrap_succ hklt him], hE⟩
        · -- False
          have hr93 := hb
          replace hb := of_decide_eq_false hb
          refine c_exit ?_
          refine c_fresh (fun e => e 0 = .slice A1 gg.length c1 ∧ e 7 = .slice A3 l.length c3) ⟨rfl, rfl⟩ ?_
          rintro e ⟨hq0, hq7⟩
          refine c_know (t := 0) (by exact hq0) ?_
          refine c_know (t := 7) (by exact hq7) ?_
          clear hq0 hq7
          refine c_seq ?_
          refine c_seq ?_
          -- region 21
          refine c_ops ?_
          refine l_val rfl rfl rfl (r_assign rfl) ?_
          refine l_nil ?_
          refine c_block ?_
          -- loop 2: slots that it writes and that are read in it ahead of that: [13]
          refine c_loop [4, 13, 14, 142, 143, 144, 145, 146, 147, 148, 149, 150, 151, 152, 153, 154, 155, 156, 157, 158, 159, 160, 161, 162, 163, 164, 165, 166, 167, 168, 169, 170, 171, 172, 173, 174, 175, 176] (fun m1 e w => ∃ i : Nat, i ≤ l.length ∧ m1 = l.length - i ∧ e 13 = .int .i64 i ∧ Ext0 wc w) l.length ?_ ?_
          · exact ⟨0, Nat.zero_le _, rfl, rfl, hE⟩
          intro m1 e w hI
          obtain ⟨i, hil, hmi, h13, hE⟩ := hI
          have hL : Has w [] := trivial
          refine c_know (t := 13) (by exact h13) ?_
          have hfm := hf3.max
          refine c_seq ?_
          refine c_seq ?_
          -- region 22
          refine c_ops ?_
          refine l_val rfl rfl rfl (r_move rfl) ?_
          refine l_val rfl rfl rfl (r_move rfl) ?_
          refine l_val rfl rfl rfl (r_len rfl Tryd.underlying29 rfl) ?_
          refine l_val rfl rfl rfl (r_lss rfl rfl rfl) ?_
          refine l_nil ?_
          refine c_cond rfl (fun hb => ?_) (fun hb => ?_)
          · -- True
            have hr145 := hb
            replace hb := of_decide_eq_true hb
            have hilt : i < l.length := by omega
            obtain ⟨Ai, ci, hfi, _⟩ := hf3.fact i (by omega) (by omega)
            refine c_skip ?_
            refine c_seq ?_
            refine c_block ?_
            refine c_seq ?_
            -- region 24
            refine c_ops ?_
            refine l_val rfl rfl rfl (r_assign rfl) ?_
            refine l_nil ?_
            refine c_block ?_
            -- loop 3: slots that it writes and that are read in it ahead of that: [14]
            refine c_loop [4, 14, 148, 149, 150, 151, 152, 153, 154, 155, 156, 157, 158, 159, 160, 161, 162, 163, 164, 165, 166, 167, 168, 169, 170, 171, 172, 173, 174, 175, 176] (fun m1 e w => ∃ j : Nat, j ≤ i ∧ m1 = i - j ∧ e 14 = .int .i64 j ∧ Ext0 wc w) i ?_ ?_
            · exact ⟨0, Nat.zero_le _, rfl, rfl, hE⟩
            intro m1 e w hI
            obtain ⟨j, hjl, hmj, h14, hE⟩ := hI
            have hL : Has w [] := trivial
            refine c_know (t := 14) (by exact h14) ?_
            refine c_seq ?_
            refine c_seq ?_
            -- region 25
            refine c_ops ?_
            refine l_val rfl rfl rfl (r_move rfl) ?_
            refine l_val rfl rfl rfl (r_move rfl) ?_
            refine l_val rfl rfl rfl (r_lss rfl rfl rfl) ?_
            refine l_nil ?_
            refine c_cond rfl (fun hb => ?_) (fun hb => ?_)
            · -- True
              have hr150 := hb
              replace hb := of_decide_eq_true hb
              have hjlt : j < i := by omega
              obtain ⟨Aj, cj, hfj, _⟩ := hf3.fact j (by omega) (by omega)
              refine c_skip ?_
              refine c_seq ?_
              refine c_block ?_
              refine c_seq ?_
              -- region 27
              refine c_draw mixed (hL) hE ?_
              replace hL := hL.drew
              replace hE := hE.drew
              have hK := hL
              refine h_t 0 rfl rfl (by kernel_rfl) (fun _ _ _ h => h) ⟨hK, hE⟩ rfl (fun W hW => r_move rfl) ?_
              refine h_listed (listed' := #[true, false, false, false, false, false, false, false, false, false, false, false, false, false, false, false, false, false, false, false, false, false, false, false]) (by kernel_rfl) ?_
              refine h_t 1 rfl rfl (by kernel_rfl) (fun _ _ _ h => h) ⟨hK, hE⟩ rfl (fun W hW => r_move rfl) ?_
              refine h_listed (listed' := #[true, true, false, false, false, false, false, false, false, false, false, false, false, false, false, false, false, false, false, false, false, false, false, false]) (by kernel_rfl) ?_
              refine h_t 2 rfl rfl (by kernel_rfl) (fun _ _ _ h => h) ⟨hK, hE⟩ rfl (fun W hW => r_indexAddr_sl rfl Tryd.underlying29 Tryd.sizeOf37 rfl hf3.is rfl (by omega) (by omega)) ?_
              refine h_listed (listed' := #[true, true, true, false, false, false, false, false, false, false, false, false, false, false, false, false, false, false, false, false, false, false, false, false]) (by kernel_rfl) ?_
              refine h_t 3 rfl rfl (by kernel_rfl) (fun _ _ _ h => h) ⟨hK, hE⟩ rfl (fun W hW => r_fieldAddr (n := 0) rfl Tryd.underlying37 rfl Tryd.sizeOf3 rfl) ?_
              refine h_listed (listed' := #[true, true, true, true, false, false, false, false, false, false, false, false, false, false, false, false, false, false, false, false, false, false, false, false]) (by kernel_rfl) ?_
              refine h_t 4 rfl rfl (by kernel_rfl) (fun _ _ _ h => h) ⟨hK, hE⟩ rfl (fun W hW => r_load rfl Tryd.isAgg3 rfl (Ext0.cells hW.2 _ _ (hfi 0 _ rfl))) ?_
              refine h_listed (listed' := #[true, true, true, true, true, false, false, false, false, false, false, false, false, false, false, false, false, false, false, false, false, false, false, false]) (by kernel_rfl) ?_
              refine h_t 5 rfl rfl (by kernel_rfl) (fun _ _ _ h => h) ⟨hK, hE⟩ rfl (fun W hW => r_move rfl) ?_
              refine h_listed (listed' := #[true, true, true, true, true, true, false, false, false, false, false, false, false, false, false, false, false, false, false, false, false, false, false, false]) (by kernel_rfl) ?_
              refine h_t 6 rfl rfl (by kernel_rfl) (fun _ _ _ h => h) ⟨hK, hE⟩ rfl (fun W hW => r_move rfl) ?_
              refine h_listed (listed' := #[true, true, true, true, true, true, true, false, false, false, false, false, false, false, false, false, false, false, false, false, false, false, false, false]) (by kernel_rfl) ?_
              refine h_t 7 rfl rfl (by kernel_rfl) (fun _ _ _ h => h) ⟨hK, hE⟩ rfl (fun W hW => r_indexAddr_sl rfl Tryd.underlying29 Tryd.sizeOf37 rfl hf3.is rfl (by omega) (by omega)) ?_
              refine h_listed (listed' := #[true, true, true, true, true, true, true, true, false, false, false, false, false, false, false, false, false, false, false, false, false, false, false, false]) (by kernel_rfl) ?_
              refine h_t 8 rfl rfl (by kernel_rfl) (fun _ _ _ h => h) ⟨hK, hE⟩ rfl (fun W hW => r_fieldAddr (n := 0) rfl Tryd.underlying37 rfl Tryd.sizeOf3 rfl) ?_
              refine h_listed (listed' := #[true, true, true, true, true, true, true, true, true, false, false, false, false, false, false, false, false, false, false, false, false, false, false, false]) (by kernel_rfl) ?_
              refine h_t 9 rfl rfl (by kernel_rfl) (fun _ _ _ h => h) ⟨hK, hE⟩ rfl (fun W hW => r_load rfl Tryd.isAgg3 rfl (Ext0.cells hW.2 _ _ (hfj 0 _ rfl))) ?_
              refine h_listed (listed' := #[true, true, true, true, true, true, true, true, true, true, false, false, false, false, false, false, false, false, false, false, false, false, false, false]) (by kernel_rfl) ?_
              refine h_t 10 rfl rfl (by kernel_rfl) (fun _ _ _ h => h) ⟨hK, hE⟩ rfl (fun W hW => r_eql rfl rfl rfl) ?_
              refine h_listed (listed' := #[true, true, true, true, true, true, true, true, true, true, true, false, false, false, false, false, false, false, false, false, false, false, false, false]) (by kernel_rfl) ?_
              refine h_t 11 rfl rfl (by kernel_rfl) (fun _ _ _ h => h) ⟨hK, hE⟩ rfl (fun W hW => r_move rfl) ?_
              refine h_listed (listed' := #[true, true, true, true, true, true, true, true, true, true, true, true, false, false, false, false, false, false, false, false, false, false, false, false]) (by kernel_rfl) ?_
              refine h_case 164 rfl (fun hb => ?_) (fun hb => ?_)
              · -- slot 164 is True
                have hr164 := hb
                replace hb := of_decide_eq_true hb
                have hb1 := hb
                refine h_listed (listed' := #[true, true, true, true, true, true, true, true, true, true, true, true, false, false, false, false, false, false, false, false, false, false, false, false]) (by kernel_rfl) ?_
                refine h_t 12 rfl rfl (by kernel_rfl) (fun _ _ _ h => h) ⟨hK, hE⟩ rfl (fun W hW => r_move rfl) ?_
                refine h_listed (listed' := #[true, true, true, true, true, true, true, true, true, true, true, true, true, false, false, false, false, false, false, false, false, false, false, false]) (by kernel_rfl) ?_
                refine h_t 13 rfl rfl (by kernel_rfl) (fun _ _ _ h => h) ⟨hK, hE⟩ rfl (fun W hW => r_move rfl) ?_
                refine h_listed (listed' := #[true, true, true, true, true, true, true, true, true, true, true, true, true, true, false, false, false, false, false, false, false, false, false, false]) (by kernel_rfl) ?_
                refine h_t 14 rfl rfl (by kernel_rfl) (fun _ _ _ h => h) ⟨hK, hE⟩ rfl (fun W hW => r_indexAddr_sl rfl Tryd.underlying29 Tryd.sizeOf37 rfl hf3.is rfl (by omega) (by omega)) ?_
                refine h_listed (listed' := #[true, true, true, true, true, true, true, true, true, true, true, true, true, true, true, false, false, false, false, false, false, false, false, false]) (by kernel_rfl) ?_
                refine h_t 15 rfl rfl (by kernel_rfl) (fun _ _ _ h => h) ⟨hK, hE⟩ rfl (fun W hW => r_fieldAddr (n := 0) rfl Tryd.underlying37 rfl Tryd.sizeOf3 rfl) ?_
                refine h_listed (listed' := #[true, true, true, true, true, true, true, true, true, true, true, true, true, true, true, true, false, false, false, false, false, false, false, false]) (by kernel_rfl) ?_
                refine h_t 16 rfl rfl (by kernel_rfl) (fun _ _ _ h => h) ⟨hK, hE⟩ rfl (fun W hW => r_load rfl Tryd.isAgg3 rfl (Ext0.cells hW.2 _ _ (hfi 1 _ rfl))) ?_
                refine h_listed (listed' := #[true, true, true, true, true, true, true, true, true, true, true, true, true, true, true, true, true, false, false, false, false, false, false, false]) (by kernel_rfl) ?_
                refine h_t 17 rfl rfl (by kernel_rfl) (fun _ _ _ h => h) ⟨hK, hE⟩ rfl (fun W hW => r_move rfl) ?_
                refine h_listed (listed' := #[true, true, true, true, true, true, true, true, true, true, true, true, true, true, true, true, true, true, false, false, false, false, false, false]) (by kernel_rfl) ?_
                refine h_t 18 rfl rfl (by kernel_rfl) (fun _ _ _ h => h) ⟨hK, hE⟩ rfl (fun W hW => r_move rfl) ?_
                refine h_listed (listed' := #[true, true, true, true, true, true, true, true, true, true, true, true, true, true, true, true, true, true, true, false, false, false, false, false]) (by kernel_rfl) ?_
                refine h_t 19 rfl rfl (by kernel_rfl) (fun _ _ _ h => h) ⟨hK, hE⟩ rfl (fun W hW => r_indexAddr_sl rfl Tryd.underlying29 Tryd.sizeOf37 rfl hf3.is rfl (by omega) (by omega)) ?_
                refine h_listed (listed' := #[true, true, true, true, true, true, true, true, true, true, true, true, true, true, true, true, true, true, true, true, false, false, false, false]) (by kernel_rfl) ?_
                refine h_t 20 rfl rfl (by kernel_rfl) (fun _ _ _ h => h) ⟨hK, hE⟩ rfl (fun W hW => r_fieldAddr (n := 0) rfl Tryd.underlying37 rfl Tryd.sizeOf3 rfl) ?_
                refine h_listed (listed' := #[true, true, true, true, true, true, true, true, true, true, true, true, true, true, true, true, true, true, true, true, true, false, false, false]) (by kernel_rfl) ?_
                refine h_t 21 rfl rfl (by kernel_rfl) (fun _ _ _ h => h) ⟨hK, hE⟩ rfl (fun W hW => r_load rfl Tryd.isAgg3 rfl (Ext0.cells hW.2 _ _ (hfj 1 _ rfl))) ?_
                refine h_listed (listed' := #[true, true, true, true, true, true, true, true, true, true, true, true, true, true, true, true, true, true, true, true, true, true, false, false]) (by kernel_rfl) ?_
                refine h_t 22 rfl rfl (by kernel_rfl) (fun _ _ _ h => h) ⟨hK, hE⟩ rfl (fun W hW => r_eql rfl rfl rfl) ?_
                refine h_listed (listed' := #[true, true, true, true, true, true, true, true, true, true, true, true, true, true, true, true, true, true, true, true, true, true, true, false]) (by kernel_rfl) ?_
                refine h_t 23 rfl rfl (by kernel_rfl) (fun _ _ _ h => h) ⟨hK, hE⟩ rfl (fun W hW => r_pick rfl rfl) ?_
                refine h_listed (listed' := #[true, true, true, true, true, true, true, true, true, true, true, true, true, true, true, true, true, true, true, true, true, true, true, true]) (by kernel_rfl) ?_
                refine h_done (by kernel_rfl) ?_
                refine c_cond rfl (fun hb => ?_) (fun hb => ?_)
                · -- True
                  have hr176 := hb
                  replace hb := of_decide_eq_true hb
                  exact (good_ne hfd.good hilt hjlt hb1 hb).elim
                · -- False
                  have hr176 := hb
                  replace hb := of_decide_eq_false hb
                  refine c_skip ?_
                  -- region 26
                  refine c_ops ?_
                  refine l_val rfl rfl rfl (r_move rfl) ?_
                  refine l_val rfl rfl rfl (r_add rfl rfl rfl) ?_
                  refine l_val rfl rfl rfl (r_assign rfl) ?_
                  refine l_nil ?_
                  refine ⟨by repeat (first | exact Agree.over _ _ _ | exact Agree.refl _ _ | (refine Agree.puto ?_ _ _ rfl) | (refine Agree.put ?_ _ _ rfl) | (refine Agree.sub ?_ rfl)), ?_⟩
                  exact ⟨i - (j + 1), by omega, j + 1, by omega, rfl, by show Value.int .i64 (IntKind.i64.wrap ((j : Int) + 1)) = _; rw [wrap_succ hjlt (by omega)], hE⟩
              · -- slot 164 is False
                have hr164 := hb
                replace hb := of_decide_eq_false hb
                refine h_listed (listed' := #[true, true, true, true, true, true, true, true, true, true, true, true, false, false, false, false, false, false, false, false, false, false, false, false]) (by kernel_rfl) ?_
                refine h_n 12 rfl rfl (by kernel_rfl) (fun _ _ _ h => h) ⟨hK, hE⟩ rfl ?_
                refine h_listed (listed' := #[true, true, true, true, true, true, true, true, true, true, true, true, true, false, false, false, false, false, false, false, false, false, false, false]) (by kernel_rfl) ?_
                refine h_n 13 rfl rfl (by kernel_rfl) (fun _ _ _ h => h) ⟨hK, hE⟩ rfl ?_
                refine h_listed (listed' := #[true, true, true, true, true, true, true, true, true, true, true, true, true, true, false, false, false, false, false, false, false, false, false, false]) (by kernel_rfl) ?_
                refine h_n 14 rfl rfl (by kernel_rfl) (fun _ _ _ h => h) ⟨hK, hE⟩ rfl ?_
                refine h_listed (listed' := #[true, true, true, true, true, true, true, true, true, true, true, true, true, true, true, false, false, false, false, false, false, false, false, false]) (by kernel_rfl) ?_
                refine h_n 15 rfl rfl (by kernel_rfl) (fun _ _ _ h => h) ⟨hK, hE⟩ rfl ?_
                refine h_listed (listed' := #[true, true, true, true, true, true, true, true, true, true, true, true, true, true, true, true, false, false, false, false, false, false, false, false]) (by kernel_rfl) ?_
                refine h_n 16 rfl rfl (by kernel_rfl) (fun _ _ _ h => h) ⟨hK, hE⟩ rfl ?_
                refine h_listed (listed' := #[true, true, true, true, true, true, true, true, true, true, true, true, true, true, true, true, true, false, false, false, false, false, false, false]) (by kernel_rfl) ?_
                refine h_n 17 rfl rfl (by kernel_rfl) (fun _ _ _ h => h) ⟨hK, hE⟩ rfl ?_
                refine h_listed (listed' := #[true, true, true, true, true, true, true, true, true, true, true, true, true, true, true, true, true, true, false, false, false, false, false, false]) (by kernel_rfl) ?_
                refine h_n 18 rfl rfl (by kernel_rfl) (fun _ _ _ h => h) ⟨hK, hE⟩ rfl ?_
                refine h_listed (listed' := #[true, true, true, true, true, true, true, true, true, true, true, true, true, true, true, true, true, true, true, false, false, false, false, false]) (by kernel_rfl) ?_
                refine h_n 19 rfl rfl (by kernel_rfl) (fun _ _ _ h => h) ⟨hK, hE⟩ rfl ?_
                refine h_listed (listed' := #[true, true, true, true, true, true, true, true, true, true, true, true, true, true, true, true, true, true, true, true, false, false, false, false]) (by kernel_rfl) ?_
                refine h_n 20 rfl rfl (by kernel_rfl) (fun _ _ _ h => h) ⟨hK, hE⟩ rfl ?_
                refine h_listed (listed' := #[true, true, true, true, true, true, true, true, true, true, true, true, true, true, true, true, true, true, true, true, true, false, false, false]) (by kernel_rfl) ?_
                refine h_n 21 rfl rfl (by kernel_rfl) (fun _ _ _ h => h) ⟨hK, hE⟩ rfl ?_
                refine h_listed (listed' := #[true, true, true, true, true, true, true, true, true, true, true, true, true, true, true, true, true, true, true, true, true, true, false, false]) (by kernel_rfl) ?_
                refine h_n 22 rfl rfl (by kernel_rfl) (fun _ _ _ h => h) ⟨hK, hE⟩ rfl ?_
                refine h_listed (listed' := #[true, true, true, true, true, true, true, true, true, true, true, true, true, true, true, true, true, true, true, true, true, true, true, false]) (by kernel_rfl) ?_
                refine h_t 23 rfl rfl (by kernel_rfl) (fun _ _ _ h => h) ⟨hK, hE⟩ rfl (fun W hW => r_pick rfl rfl) ?_
                refine h_listed (listed' := #[true, true, true, true, true, true, true, true, true, true, true, true, true, true, true, true, true, true, true, true, true, true, true, true]) (by kernel_rfl) ?_
                refine h_done (by kernel_rfl) ?_
                refine c_no rfl ?_
                refine c_skip ?_
                -- region 26
                refine c_ops ?_
                refine l_val rfl rfl rfl (r_move rfl) ?_
                refine l_val rfl rfl rfl (r_add rfl rfl rfl) ?_
                refine l_val rfl rfl rfl (r_assign rfl) ?_
                refine l_nil ?_
                refine ⟨by repeat (first | exact Agree.over _ _ _ | exact Agree.refl _ _ | (refine Agree.puto ?_ _ _ rfl) | (refine Agree.put ?_ _ _ rfl) | (refine Agree.sub ?_ rfl)), ?_⟩
                exact ⟨i - (j + 1), by omega, j + 1, by omega, rfl, by show Value.int .i64 (IntKind.i64.wrap ((j : Int) + 1)) = _; rw [wrap_succ hjlt (by omega)], hE⟩
            · -- False
              have hr150 := hb
              replace hb := of_decide_eq_false hb
              refine c_exit ?_
              -- region 23
              refine c_ops ?_
              refine l_val rfl rfl rfl (r_move rfl) ?_
              refine l_val rfl rfl rfl (r_add rfl rfl rfl) ?_
              refine l_val rfl rfl rfl (r_assign rfl) ?_
              refine l_nil ?_
              refine ⟨by repeat (first | exact Agree.over _ _ _ | exact Agree.refl _ _ | (refine Agree.puto ?_ _ _ rfl) | (refine Agree.put ?_ _ _ rfl) | (refine Agree.sub ?_ rfl)), ?_⟩
              exact ⟨l.length - (i + 1), by omega, i + 1, by omega, rfl, by show Value.int .i64 (IntKind.i64.wrap ((i : Int) + 1)) = _; rw [wrap_succ hilt hfm], hE⟩
          · -- False
            have hr145 := hb
            replace hb := of_decide_eq_false hb
            refine c_exit ?_
            refine c_seq ?_
            -- region 29
            refine c_ops ?_
            refine l_by rfl rfl rfl (r_call rfl rfl Tryd.func9 rfl rfl) (works_calls _ (hk0.keep (Ext0.cells (hE0.trans hE)))) ?_   -- outright.go:107 slot 177 := (call {callee=(value (func 9)), args=[], argTypes=[]})
            rintro _ w ⟨rfl, hX⟩
            replace hE := hE.trans hX
            refine ⟨_, rfl, ?_⟩
            refine l_val rfl rfl rfl (r_assign rfl) ?_
            refine l_nil ?_
            refine c_ret ?_
            exact ⟨rfl, hE0.trans hE⟩
end Go.Proofs.YtndophlnapjkhaaDoor.Vc
