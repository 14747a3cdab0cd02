/- Find of package fact. Conditions: those of each statement. -/
import Derived.Test.YtndophlnapjkhaaDoorFind3
namespace Go.Proofs.YtndophlnapjkhaaDoor.Vc
open Go Go.RowKit
set_option linter.unusedVariables false
set_option linter.unusedSimpArgs false

def inB (g : List GNode) (q : Int × Int) : Bool := placeB g.length q.1 && placeB g.length q.2
def findErr (g : List GNode) (ps : FP) : Int := if checkG g = 0 then (if ps.all (inB g) then (if ps.all (mayX g false) then 0 else 160) else 9) else checkG g
def foundF (g : List GNode) (ps : FP) : List Int × List Fact := if findErr g ps = 0 then allF g ps else ([], [])
/-- What Find gives. -/
def FindOut (w0 : World) (g : List GNode) (ps : FP) (en : Ending) (w' : World) : Prop :=
  ∃ A c Ai ci, en = .returned (.tuple #[.slice A (foundF g ps).2.length c, .slice Ai (foundF g ps).1.length ci, .int .i64 (findErr g ps)]) ∧ FactsAt w' A c (foundF g ps).2 ∧ Ints w' Ai ci (foundF g ps).1 ∧ Ext0 w0 w'
theorem FindOut.no {w0 w' : World} {g : List GNode} {ps : FP} {en : Ending} {k : Int} (hk : k ≠ 0) (he : findErr g ps = k) (hen : en = .returned (.tuple #[.slice none 0 0, .slice none 0 0, .int .i64 k])) (hE : Ext0 w0 w') : FindOut w0 g ps en w' := by
  subst he
  have hf : foundF g ps = ([], []) := by unfold foundF; rw [if_neg hk]
  unfold FindOut
  rw [hf]
  exact ⟨none, 0, none, 0, hen, Sl.nil _ _ _ _ _, Sl.nil _ _ _ _ _, hE⟩
theorem FindOut.found {w0 w' : World} {g : List GNode} {ps : FP} {en : Ending} {ws : List Int} {fv : List FV} {Al Ai : Option Addr} {cl ci : Nat} (h : findErr g ps = 0 ∧ foundF g ps = allF g ps) (ha : allF g ps = (ws, fv.map (·.1))) (hen : en = .returned (.tuple #[.slice Al fv.length cl, .slice Ai ws.length ci, .int .i64 0])) (hf : FactsAt w' Al cl (fv.map (·.1))) (hi : Ints w' Ai ci ws) (hE : Ext0 w0 w') : FindOut w0 g ps en w' := by
  unfold FindOut
  rw [h.1, h.2, ha]
  exact ⟨Al, cl, Ai, ci, by rw [hen, List.length_map], hf, hi, hE⟩
theorem inB_in {g : List GNode} {q : Int × Int} (h : inB g q = true) : InG g.length q := by
  unfold inB placeB at h
  simp at h
  exact ⟨h.1.1, h.1.2, h.2.1, h.2.2⟩
theorem all_bad {α : Type} {p : α → Bool} {l : List α} {n : Nat} {q : α} (h : l[n]? = some q) (hq : p q = false) : l.all p = false := by
  rw [List.all_eq_false]
  exact ⟨q, List.mem_of_getElem? h, by rw [hq]; decide⟩
theorem all_more {α : Type} {p : α → Bool} {l : List α} {n : Nat} {q : α} (h : l[n]? = some q) (hq : p q = true) (ha : (l.take n).all p = true) : (l.take (n + 1)).all p = true := by
  rw [take_snoc h, List.all_append, ha]
  simp [hq]
theorem all_at {α : Type} {p : α → Bool} {l : List α} (ha : l.all p = true) {q : α} (h : q ∈ l) : p q = true := List.all_eq_true.1 ha q h
theorem err_check {g : List GNode} {ps : FP} (h : ¬ checkG g = 0) : findErr g ps = checkG g := by unfold findErr; rw [if_neg h]
theorem err_in {g : List GNode} {ps : FP} (h0 : checkG g = 0) (h : ps.all (inB g) = false) : findErr g ps = 9 := by unfold findErr; rw [if_pos h0, h]; rfl
theorem err_may {g : List GNode} {ps : FP} (h0 : checkG g = 0) (h : ps.all (inB g) = true) (hm : ps.all (mayX g false) = false) : findErr g ps = 160 := by unfold findErr; rw [if_pos h0, h, hm]; rfl
theorem err_ok {g : List GNode} {ps : FP} (h0 : checkG g = 0) (h : ps.all (inB g) = true) (hm : ps.all (mayX g false) = true) : findErr g ps = 0 ∧ foundF g ps = allF g ps := by
  have : findErr g ps = 0 := by unfold findErr; rw [if_pos h0, h, hm]; rfl
  exact ⟨this, by unfold foundF; rw [if_pos this]⟩
theorem built_fx0 (A : Option Addr) (n c : Nat) : Tryd.prog.built 65 [(0, .slice A n c)] = some #[.slice A n c, .slice none 0 0] := by kernel_rfl
theorem built_fx (A : Option Addr) (n c m : Nat) : Tryd.prog.built 68 [(0, .agg #[.slice A n c, .slice none 0 0]), (1, .map (some m))] = some #[.slice A n c, .slice none 0 0, .map (some m)] := by kernel_rfl
theorem map_keep {w : World} {L : List Res} {fv : List FV} {ie base : Nat} (h : Has w L) (hs : (fv.map (fres ie base)).Sublist L) : Has w (fv.map (fres ie base)) := Has.sub hs h
set_option maxHeartbeats 4000000 in
theorem Find_calls (w0 : World) (Ag : Option Addr) (cg : Nat) (g : List GNode) (hg : Nodes w0 Ag cg g) (hfit : Fits g) (hn : g.length ≤ 16) (hk0 : KeysLaid w0) (Ap : Option Addr) (cp : Nat) (ps : FP) (hp : PairsAt w0 Ap cp ps) (hps : ps.length ≤ 1000000) :
    Calls Tryd.prog 12 [.slice Ag g.length cg, .slice Ap ps.length cp].toArray w0 (FindOut w0 g ps) := by
  have hE : Ext0 w0 w0 := Ext.refl _ _
  have hL : Has w0 [] := trivial
  have hnn : g.length * g.length ≤ 256 := Nat.le_trans (Nat.mul_le_mul hn hn) (by decide)
  refine calls [4, 5, 6] Tryd.func12 rfl rfl rfl rfl ?_
  refine c_seq ?_
  -- region 0
  refine c_ops ?_
  refine l_val rfl rfl rfl (r_assign rfl) ?_
  refine l_val rfl rfl rfl (r_assign rfl) ?_
  refine l_val rfl rfl rfl (r_assign rfl) ?_
  refine l_nil ?_
  refine c_seq ?_
  refine c_seq ?_
  -- region 1
  refine c_ops ?_
  refine l_val rfl rfl rfl (r_move rfl) ?_
  refine l_by rfl rfl rfl (r_call rfl rfl Tryd.func25 rfl rfl) (Check_calls _ Ag cg g (hg.keep RNode.kept (Ext0.cells hE)) hfit (hk0.keep (Ext0.cells hE))) ?_   -- fact.go:229 slot 16 := (call {callee=(value (func 25)), args=[(tmp 15)], argTypes=[22]})
  rintro _ w ⟨rfl, hX⟩
  replace hL := hL.ext0 hX
  replace hE := hE.step0 hX
  refine ⟨_, rfl, ?_⟩
  refine l_val rfl rfl rfl (r_assign rfl) ?_
  refine l_nil ?_
  refine c_seq ?_
  -- region 2
  refine c_ops ?_
  refine l_val rfl rfl rfl (r_move rfl) ?_
  refine l_val rfl rfl rfl (r_neq rfl rfl rfl) ?_
  refine l_nil ?_
  refine c_cond rfl (fun hb => ?_) (fun hb => ?_)
  · -- True
    have hr18 := hb
    replace hb := of_decide_eq_false (by simpa using hb)
    have hck : ¬ checkG g = 0 := hb
    refine c_seq ?_
    -- region 3
    refine c_ops ?_
    refine l_val rfl rfl rfl (r_move rfl) ?_
    refine l_val rfl rfl rfl (r_assign rfl) ?_
    refine l_val rfl rfl rfl (r_assign rfl) ?_
    refine l_val rfl rfl rfl (r_assign rfl) ?_
    refine l_nil ?_
    refine c_ret ?_
    exact FindOut.no hck (err_check hck) rfl hE
  · -- False
    have hr18 := hb
    replace hb := of_decide_eq_true (by simpa using hb)
    have hck : checkG g = 0 := hb
    obtain ⟨hok, _⟩ := ok_of hfit hck
    refine c_skip ?_
    refine c_seq ?_
    -- region 4
    refine c_ops ?_
    refine l_val rfl rfl rfl (r_move rfl) ?_
    refine l_val rfl rfl rfl (r_build rfl rfl (built_fx0 _ _ _)) ?_   -- fact.go:232 slot 21 := (build 65 [(0, (tmp 20))])
    refine l_new rfl rfl rfl (n_makeMap rfl hL hE) ?_
    rintro _ w ⟨m22, rfl, hm22, hL, hE, hX⟩
    refine l_val rfl rfl rfl (r_build rfl rfl (built_fx _ _ _ _)) ?_   -- fact.go:232 slot 23 := (build 68 [(0, (tmp 21)), (1, (tmp 22))])
    refine l_new rfl rfl rfl (n_box rfl hL hE) ?_
    rintro _ w ⟨b24, rfl, hb24, hL, hE, hX⟩
    refine l_val rfl rfl rfl (r_assign rfl) ?_
    refine l_nil ?_
    refine c_seq ?_
    refine c_seq ?_
    -- region 5
    refine c_ops ?_
    refine l_val rfl rfl rfl (r_move rfl) ?_
    refine l_val rfl rfl rfl (r_len rfl Tryd.underlying23 rfl) ?_
    refine l_val rfl rfl rfl (r_move rfl) ?_
    refine l_nil ?_
    refine c_block ?_
    -- loop 0: slots that it writes and that are read in it ahead of that: [27]
    refine c_loop [4, 5, 6, 10, 27, 28, 29, 30, 31, 32, 33, 34, 35, 36, 37, 38, 39, 40, 41, 42, 43, 44, 45, 46, 47] (fun m1 e w => ∃ (n : Nat), n ≤ ps.length ∧ m1 = ps.length - n ∧ e 27 = .int .i64 n ∧ e 5 = .slice none 0 0 ∧ (ps.take n).all (inB g) = true ∧ Has w [.blk b24 (fxB Ag g.length cg (.slice none 0 0) m22), .blk m22 (mapObj enc2 (Value.int .i64) [])] ∧ Ext0 w0 w) ps.length ?_ ?_
    · exact ⟨0, Nat.zero_le _, rfl, rfl, rfl, by simp, hL, hE⟩
    intro m1 e w hI
    obtain ⟨n, hnl, hmn, h27, h5, hin, hL, hE⟩ := hI
    refine c_know h27 ?_
    refine c_know (t := 5) (by exact h5) ?_
    have hpm := hp.max
    refine c_seq ?_
    -- region 6
    refine c_ops ?_
    refine l_val rfl rfl rfl (r_lss rfl rfl rfl) ?_
    refine l_nil ?_
    refine c_seq ?_
    refine c_cond rfl (fun hb => ?_) (fun hb => ?_)
    · -- True
      have hr28 := hb
      replace hb := of_decide_eq_true hb
      have hnn2 : n < ps.length := by omega
      obtain ⟨q, hqd⟩ : ∃ q, q = ps.getD (n : Int).toNat (0, 0) := ⟨_, rfl⟩
      have hqn : ps[n]? = some q := by rw [hqd]; exact pat_nat hnn2
      refine c_skip ?_
      refine c_seq ?_
      refine c_block ?_
      refine c_seq ?_
      -- region 7
      refine c_ops ?_
      refine l_val rfl rfl rfl (r_indexAddr_sl rfl Tryd.underlying23 Tryd.sizeOf28 rfl hp.is rfl (by omega) (by omega)) ?_
      refine l_val rfl rfl rfl (r_load_agg (vs := cells2 q) rfl Tryd.isAgg28 Tryd.sizeOf28 rfl (by rw [hqd]; exact (hp.keep RPair.kept (Ext0.cells hE)).pair n (by omega) (by omega))) ?_
      refine l_new rfl rfl rfl (n_alloc rfl Tryd.zeroValue28 hL hE) ?_
      rintro _ w ⟨b10, rfl, hb10, hL, hE, hX⟩
      refine l_new_do rfl rfl (r_store 0 rfl Tryd.sizeOf28 rfl hL hE rfl rfl rfl rfl (fun h => absurd h (Nat.not_lt.2 hb10))) ?_
      rintro w ⟨hL, hE, hz, hk⟩
      refine l_nil ?_
      refine c_seq ?_
      -- region 8
      refine c_draw mixed (hL) hE ?_
      replace hL := hL.drew
      replace hE := hE.drew
      have hK := hL
      replace hL : Has _ [.blk b10 (.cells #[.int .i64 q.1, .int .i64 q.2] 28 (0, 0)), .blk b24 (fxB Ag g.length cg (.slice none 0 0) m22), .blk m22 (mapObj enc2 (Value.int .i64) [])] := hL
      refine h_t 0 rfl rfl (by kernel_rfl) (fun _ _ _ h => h) ⟨hK, hE⟩ rfl (fun W hW => r_move rfl) ?_
      refine h_t 1 rfl rfl (by kernel_rfl) (fun _ _ _ h => h) ⟨hK, hE⟩ rfl (fun W hW => r_nilCheck rfl rfl) ?_
      refine h_t 2 rfl rfl (by kernel_rfl) (fun _ _ _ h => h) ⟨hK, hE⟩ rfl (fun W hW => r_fieldAddr (n := 1) rfl Tryd.underlying68 rfl Tryd.sizeOf65 rfl) ?_
      refine h_t 3 rfl rfl (by kernel_rfl) (fun _ _ _ h => h) ⟨hK, hE⟩ rfl (fun W hW => r_indexAddr_arr rfl Tryd.underlying28 Tryd.sizeOf3 rfl rfl (by decide) (by decide)) ?_
      refine h_t 4 rfl rfl (by kernel_rfl) (fun _ _ _ h => h) ⟨hK, hE⟩ rfl (fun W hW => r_load_blk rfl Tryd.isAgg3 rfl (hW.1.get 0 rfl) rfl) ?_
      refine h_by 5 rfl rfl (by kernel_rfl) rfl (r_call rfl rfl Tryd.func29 rfl rfl) (place_calls _ b24 Ag cg g.length (by rw [blk_cell (hL.get 1 rfl)]; rfl) q.1) ?_   -- fact.go:234 slot 36 := (call {callee=(value (func 29)), args=[(tmp 33), (tmp 35)], argTypes=[65, 3]})
      rintro _ w ⟨rfl, hX⟩
      replace hL := hL.ext0 hX
      replace hE := hE.step0 hX
      have hK := hL
      refine ⟨_, rfl, ⟨hK, hE⟩, ?_⟩
      refine h_t 6 rfl rfl (by kernel_rfl) (fun _ _ _ h => h) ⟨hK, hE⟩ rfl (fun W hW => r_not rfl rfl) ?_
      refine h_t 7 rfl rfl (by kernel_rfl) (fun _ _ _ h => h) ⟨hK, hE⟩ rfl (fun W hW => r_move rfl) ?_
      refine h_case 38 rfl (fun hb => ?_) (fun hb => ?_)
      · -- slot 38 is True
        have hr38 := hb
        have hbad : inB g q = false := by have h : placeB g.length q.1 = false := (by simpa using hb); simp [inB, h]
        refine h_n 8 rfl rfl (by kernel_rfl) (fun _ _ _ h => h) ⟨hK, hE⟩ rfl ?_
        refine h_n 9 rfl rfl (by kernel_rfl) (fun _ _ _ h => h) ⟨hK, hE⟩ rfl ?_
        refine h_n 10 rfl rfl (by kernel_rfl) (fun _ _ _ h => h) ⟨hK, hE⟩ rfl ?_
        refine h_n 11 rfl rfl (by kernel_rfl) (fun _ _ _ h => h) ⟨hK, hE⟩ rfl ?_
        refine h_n 12 rfl rfl (by kernel_rfl) (fun _ _ _ h => h) ⟨hK, hE⟩ rfl ?_
        refine h_n 13 rfl rfl (by kernel_rfl) (fun _ _ _ h => h) ⟨hK, hE⟩ rfl ?_
        refine h_n 14 rfl rfl (by kernel_rfl) (fun _ _ _ h => h) ⟨hK, hE⟩ rfl ?_
        refine h_t 15 rfl rfl (by kernel_rfl) (fun _ _ _ h => h) ⟨hK, hE⟩ rfl (fun W hW => r_pick rfl rfl) ?_
        refine h_done (by kernel_rfl) ?_
        refine c_yes rfl ?_
        refine c_seq ?_
        -- region 9
        refine c_ops ?_
        refine l_val rfl rfl rfl (r_assign rfl) ?_
        refine l_val rfl rfl rfl (r_assign rfl) ?_
        refine l_val rfl rfl rfl (r_assign rfl) ?_
        refine l_nil ?_
        refine c_ret ?_
        exact FindOut.no (by decide) (err_in hck (all_bad hqn hbad)) rfl hE
      · -- slot 38 is False
        have hr38 := hb
        have hin1 : placeB g.length q.1 = true := by simpa using hb
        refine h_t 8 rfl rfl (by kernel_rfl) (fun _ _ _ h => h) ⟨hK, hE⟩ rfl (fun W hW => r_move rfl) ?_
        refine h_t 9 rfl rfl (by kernel_rfl) (fun _ _ _ h => h) ⟨hK, hE⟩ rfl (fun W hW => r_nilCheck rfl rfl) ?_
        refine h_t 10 rfl rfl (by kernel_rfl) (fun _ _ _ h => h) ⟨hK, hE⟩ rfl (fun W hW => r_fieldAddr (n := 1) rfl Tryd.underlying68 rfl Tryd.sizeOf65 rfl) ?_
        refine h_t 11 rfl rfl (by kernel_rfl) (fun _ _ _ h => h) ⟨hK, hE⟩ rfl (fun W hW => r_indexAddr_arr rfl Tryd.underlying28 Tryd.sizeOf3 rfl rfl (by decide) (by decide)) ?_
        refine h_t 12 rfl rfl (by kernel_rfl) (fun _ _ _ h => h) ⟨hK, hE⟩ rfl (fun W hW => r_load_blk rfl Tryd.isAgg3 rfl (hW.1.get 0 rfl) rfl) ?_
        refine h_by 13 rfl rfl (by kernel_rfl) rfl (r_call rfl rfl Tryd.func29 rfl rfl) (place_calls _ b24 Ag cg g.length (by rw [blk_cell (hL.get 1 rfl)]; rfl) q.2) ?_   -- fact.go:234 slot 44 := (call {callee=(value (func 29)), args=[(tmp 41), (tmp 43)], argTypes=[65, 3]})
        rintro _ w ⟨rfl, hX⟩
        replace hL := hL.ext0 hX
        replace hE := hE.step0 hX
        have hK := hL
        refine ⟨_, rfl, ⟨hK, hE⟩, ?_⟩
        refine h_t 14 rfl rfl (by kernel_rfl) (fun _ _ _ h => h) ⟨hK, hE⟩ rfl (fun W hW => r_not rfl rfl) ?_
        refine h_t 15 rfl rfl (by kernel_rfl) (fun _ _ _ h => h) ⟨hK, hE⟩ rfl (fun W hW => r_pick rfl rfl) ?_
        refine h_done (by kernel_rfl) ?_
        refine c_cond rfl (fun hb => ?_) (fun hb => ?_)
        · -- True
          have hr46 := hb
          have hbad : inB g q = false := by have h : placeB g.length q.2 = false := (by simpa using hb); simp [inB, h]
          refine c_seq ?_
          -- region 9
          refine c_ops ?_
          refine l_val rfl rfl rfl (r_assign rfl) ?_
          refine l_val rfl rfl rfl (r_assign rfl) ?_
          refine l_val rfl rfl rfl (r_assign rfl) ?_
          refine l_nil ?_
          refine c_ret ?_
          exact FindOut.no (by decide) (err_in hck (all_bad hqn hbad)) rfl hE
        · -- False
          have hr46 := hb
          have hgoodq : inB g q = true := by have h : placeB g.length q.2 = true := (by simpa using hb); simp [inB, h, hin1]
          have hin2 := all_more hqn hgoodq hin
          refine c_skip ?_
          -- region 10
          refine c_ops ?_
          refine l_val rfl rfl rfl (r_add rfl rfl rfl) ?_
          refine l_val rfl rfl rfl (r_move rfl) ?_
          refine l_nil ?_
          refine ⟨by repeat (first | exact Agree.over _ _ _ | exact Agree.refl _ _ | (refine Agree.puto ?_ _ _ rfl) | (refine Agree.put ?_ _ _ rfl) | (refine Agree.sub ?_ rfl)), ?_⟩
          exact ⟨ps.length - (n + 1), by omega, n + 1, by omega, rfl, by show Value.int .i64 (IntKind.i64.wrap ((n : Int) + 1)) = _; rw [wrap_succ hnn2 hpm], rfl, hin2, hL.tail, hE⟩
    · -- False
      have hr28 := hb
      replace hb := of_decide_eq_false hb
      obtain rfl : n = ps.length := by omega
      rw [List.take_length] at hin
      refine c_exit ?_
      refine c_seq ?_
      refine c_seq ?_
      -- region 11
      refine c_ops ?_
      refine l_val rfl rfl rfl (r_move rfl) ?_
      refine l_val rfl rfl rfl (r_len rfl Tryd.underlying23 rfl) ?_
      refine l_val rfl rfl rfl (r_move rfl) ?_
      refine l_nil ?_
      refine c_block ?_
      -- loop 1: slots that it writes and that are read in it ahead of that: [50]
      refine c_loop [4, 5, 6, 12, 50, 51, 52, 53, 54, 55, 56, 57, 58, 59, 60, 61] (fun m1 e w => ∃ (n : Nat), n ≤ ps.length ∧ m1 = ps.length - n ∧ e 50 = .int .i64 n ∧ e 5 = .slice none 0 0 ∧ (ps.take n).all (mayX g false) = true ∧ Has w [.blk b24 (fxB Ag g.length cg (.slice none 0 0) m22), .blk m22 (mapObj enc2 (Value.int .i64) [])] ∧ Ext0 w0 w) ps.length ?_ ?_
      · exact ⟨0, Nat.zero_le _, rfl, rfl, rfl, by simp, hL, hE⟩
      intro m1 e w hI
      obtain ⟨n, hnl, hmn, h50, h5, hma, hL, hE⟩ := hI
      refine c_know h50 ?_
      refine c_know (t := 5) (by exact h5) ?_
      refine c_seq ?_
      -- region 12
      refine c_ops ?_
      refine l_val rfl rfl rfl (r_lss rfl rfl rfl) ?_
      refine l_nil ?_
      refine c_seq ?_
      refine c_cond rfl (fun hb => ?_) (fun hb => ?_)
      · -- True
        have hr51 := hb
        replace hb := of_decide_eq_true hb
        have hnn2 : n < ps.length := by omega
        obtain ⟨q, hqd⟩ : ∃ q, q = ps.getD (n : Int).toNat (0, 0) := ⟨_, rfl⟩
        have hqn : ps[n]? = some q := by rw [hqd]; exact pat_nat hnn2
        have hqi : InG g.length (q.1, q.2) := inB_in (all_at hin (List.mem_of_getElem? hqn))
        refine c_skip ?_
        refine c_seq ?_
        refine c_block ?_
        refine c_seq ?_
        -- region 13
        refine c_ops ?_
        refine l_val rfl rfl rfl (r_indexAddr_sl rfl Tryd.underlying23 Tryd.sizeOf28 rfl hp.is rfl (by omega) (by omega)) ?_
        refine l_val rfl rfl rfl (r_load_agg (vs := cells2 q) rfl Tryd.isAgg28 Tryd.sizeOf28 rfl (by rw [hqd]; exact (hp.keep RPair.kept (Ext0.cells hE)).pair n (by omega) (by omega))) ?_
        refine l_new rfl rfl rfl (n_alloc rfl Tryd.zeroValue28 hL hE) ?_
        rintro _ w ⟨b12, rfl, hb12, hL, hE, hX⟩
        refine l_new_do rfl rfl (r_store 0 rfl Tryd.sizeOf28 rfl hL hE rfl rfl rfl rfl (fun h => absurd h (Nat.not_lt.2 hb12))) ?_
        rintro w ⟨hL, hE, hz, hk⟩
        refine l_nil ?_
        refine c_seq ?_
        -- region 14
        refine c_ops ?_
        replace hL : Has _ [.blk b12 (.cells #[.int .i64 q.1, .int .i64 q.2] 28 (0, 0)), .blk b24 (fxB Ag g.length cg (.slice none 0 0) m22), .blk m22 (mapObj enc2 (Value.int .i64) [])] := hL
        refine l_val rfl rfl rfl (r_move rfl) ?_
        refine l_val rfl rfl rfl (r_indexAddr_arr rfl Tryd.underlying28 Tryd.sizeOf3 rfl rfl (by decide) (by decide)) ?_
        refine l_val rfl rfl rfl (r_load_blk rfl Tryd.isAgg3 rfl (hL.get 0 rfl) rfl) ?_
        refine l_val rfl rfl rfl (r_indexAddr_arr rfl Tryd.underlying28 Tryd.sizeOf3 rfl rfl (by decide) (by decide)) ?_
        refine l_val rfl rfl rfl (r_load_blk rfl Tryd.isAgg3 rfl (hL.get 0 rfl) rfl) ?_
        refine l_by rfl rfl rfl (r_call rfl rfl Tryd.func11 rfl rfl) (May_calls _ Ag cg g (hg.keep RNode.kept (Ext0.cells hE)) hok (by omega) (hk0.keep (Ext0.cells hE)) q.1 q.2 hqi) ?_   -- fact.go:239 slot 59 := (call {callee=(value (func 11)), args=[(tmp 54), (tmp 56), (tmp 58)], argTypes=[22, 3, 3]})
        rintro _ w ⟨rfl, hX⟩
        replace hL := hL.ext0 hX
        replace hE := hE.step0 hX
        refine ⟨_, rfl, ?_⟩
        refine l_val rfl rfl rfl (r_not rfl rfl) ?_
        refine l_nil ?_
        refine c_cond rfl (fun hb => ?_) (fun hb => ?_)
        · -- True
          have hr60 := hb
          have hbad : mayX g false q = false := by simpa using hb
          refine c_seq ?_
          -- region 15
          refine c_ops ?_
          refine l_val rfl rfl rfl (r_assign rfl) ?_
          refine l_val rfl rfl rfl (r_assign rfl) ?_
          refine l_val rfl rfl rfl (r_assign rfl) ?_
          refine l_nil ?_
          refine c_ret ?_
          exact FindOut.no (by decide) (err_may hck hin (all_bad hqn hbad)) rfl hE
        · -- False
          have hr60 := hb
          have hgoodq : mayX g false q = true := by simpa using hb
          have hma2 := all_more hqn hgoodq hma
          refine c_skip ?_
          -- region 16
          refine c_ops ?_
          refine l_val rfl rfl rfl (r_add rfl rfl rfl) ?_
          refine l_val rfl rfl rfl (r_move rfl) ?_
          refine l_nil ?_
          refine ⟨by repeat (first | exact Agree.over _ _ _ | exact Agree.refl _ _ | (refine Agree.puto ?_ _ _ rfl) | (refine Agree.put ?_ _ _ rfl) | (refine Agree.sub ?_ rfl)), ?_⟩
          exact ⟨ps.length - (n + 1), by omega, n + 1, by omega, rfl, by show Value.int .i64 (IntKind.i64.wrap ((n : Int) + 1)) = _; rw [wrap_succ hnn2 hpm], rfl, hma2, hL.tail, hE⟩
      · -- False
        have hr51 := hb
        replace hb := of_decide_eq_false hb
        obtain rfl : n = ps.length := by omega
        rw [List.take_length] at hma
        refine c_exit ?_
        refine c_seq ?_
        refine c_seq ?_
        -- region 17
        refine c_ops ?_
        refine l_val rfl rfl rfl (r_move rfl) ?_
        refine l_val rfl rfl rfl (r_len rfl Tryd.underlying23 rfl) ?_
        refine l_val rfl rfl rfl (r_move rfl) ?_
        refine l_nil ?_
        refine c_block ?_
        -- loop 2: slots that it writes and that are read in it ahead of that: [64, 5]
        refine c_loop [5, 14, 64, 65, 66, 67, 68, 69, 70, 71, 72, 73, 74, 75, 76, 77, 78] (fun m1 e w => ∃ (n : Nat) (ws : List Int) (av lv : Value) (mp : PM) (fv : List FV), n ≤ ps.length ∧ m1 = ps.length - n ∧ e 64 = .int .i64 n ∧ e 5 = av ∧ findsF (findF g (g.length * g.length + 1)) (ps.take n) [] = (ws, fv.map (·.1)) ∧ MapIs mp (fv.map (·.1)) ∧ Has w (.row w0.heap.size 3 1 av ws.length (ws.map (Value.int .i64)) :: .blk b24 (fxB Ag g.length cg lv m22) :: .blk m22 (mapObj enc2 (Value.int .i64) mp) :: .row w0.heap.size 37 3 lv fv.length (fv.map fcell).flatten :: fv.map (fres 3 w0.heap.size)) ∧ Ext0 w0 w) ps.length ?_ ?_
        · exact ⟨0, [], _, (.slice none 0 0), [], [], Nat.zero_le _, rfl, rfl, rfl, rfl, MapIs.nil, Has.nilRow (Has.perm (List.perm_append_comm (l₁ := [_]) (l₂ := [_, _])) (hL.nilRow w0.heap.size 37 3)) _ _ _, hE⟩
        intro m1 e w hI
        obtain ⟨n, ws, av, lv, mp, fv, hnl, hmn, h64, h5, hfn, hmap, hL, hE⟩ := hI
        refine c_know h64 ?_
        refine c_know (t := 5) (by exact h5) ?_
        obtain ⟨news0, e0, hgo, hlen0, _⟩ := (all_is (F := findF g (g.length * g.length + 1)) (N := 0) (ps.take n) [] (fun q hq l' hl' hgl => one_is hok _ q l' hgl (inB_in (all_at hin (List.mem_of_mem_take hq))) (all_at hma (List.mem_of_mem_take hq)) (by omega)) (Nat.zero_le _) .nil).out
        refine c_seq ?_
        -- region 18
        refine c_ops ?_
        refine l_val rfl rfl rfl (r_lss rfl rfl rfl) ?_
        refine l_nil ?_
        refine c_seq ?_
        refine c_cond rfl (fun hb => ?_) (fun hb => ?_)
        · -- True
          have hr65 := hb
          replace hb := of_decide_eq_true hb
          have hnn2 : n < ps.length := by omega
          obtain ⟨q, hqd⟩ : ∃ q, q = ps.getD (n : Int).toNat (0, 0) := ⟨_, rfl⟩
          have hqn : ps[n]? = some q := by rw [hqd]; exact pat_nat hnn2
          have hqm := all_at hma (List.mem_of_getElem? hqn)
          have hqi := inB_in (all_at hin (List.mem_of_getElem? hqn))
          rw [hfn] at hgo hlen0
          have hwl : ws.length = n := by rw [hlen0, List.length_take]; omega
          refine c_skip ?_
          refine c_seq ?_
          refine c_block ?_
          refine c_seq ?_
          -- region 19
          refine c_ops ?_
          refine l_val rfl rfl rfl (r_indexAddr_sl rfl Tryd.underlying23 Tryd.sizeOf28 rfl hp.is rfl (by omega) (by omega)) ?_
          refine l_val rfl rfl rfl (r_load_agg (vs := cells2 q) rfl Tryd.isAgg28 Tryd.sizeOf28 rfl (by rw [hqd]; exact (hp.keep RPair.kept (Ext0.cells hE)).pair n (by omega) (by omega))) ?_
          refine l_new rfl rfl rfl (n_alloc rfl Tryd.zeroValue28 hL hE) ?_
          rintro _ w ⟨b14, rfl, hb14, hL, hE, hX⟩
          refine l_new_do rfl rfl (r_store 0 rfl Tryd.sizeOf28 rfl hL hE rfl rfl rfl rfl (fun h => absurd h (Nat.not_lt.2 hb14))) ?_
          rintro w ⟨hL, hE, hz, hk⟩
          refine l_nil ?_
          -- region 20
          refine c_ops ?_
          replace hL : Has _ (.blk b14 (.cells #[.int .i64 q.1, .int .i64 q.2] 28 (0, 0)) :: .row w0.heap.size 3 1 av ws.length (ws.map (Value.int .i64)) :: .blk b24 (fxB Ag g.length cg lv m22) :: .blk m22 (mapObj enc2 (Value.int .i64) mp) :: .row w0.heap.size 37 3 lv fv.length (fv.map fcell).flatten :: fv.map (fres 3 w0.heap.size)) := hL
          refine l_val rfl rfl rfl (r_move rfl) ?_
          refine l_val rfl rfl rfl (r_move rfl) ?_
          refine l_val rfl rfl rfl (r_indexAddr_arr rfl Tryd.underlying28 Tryd.sizeOf3 rfl rfl (by decide) (by decide)) ?_
          refine l_val rfl rfl rfl (r_load_blk rfl Tryd.isAgg3 rfl (hL.get 0 rfl) rfl) ?_
          refine l_val rfl rfl rfl (r_indexAddr_arr rfl Tryd.underlying28 Tryd.sizeOf3 rfl rfl (by decide) (by decide)) ?_
          refine l_val rfl rfl rfl (r_load_blk rfl Tryd.isAgg3 rfl (hL.get 0 rfl) rfl) ?_
          refine l_val rfl rfl rfl (r_build rfl rfl (built_fpair _ _)) ?_   -- fact.go:244 slot 74 := (build 72 [(0, (tmp 71)), (1, (tmp 73))])
          refine l_by rfl rfl rfl (r_call rfl rfl Tryd.func30 rfl rfl) (find_calls w0 b24 m22 hb24 hm22 Ag cg g hg hok hn hk0 (g.length * g.length + 1) _ q fv mp lv hE (hL.sub (.cons _ (.cons _ (.cons_cons _ (.cons_cons _ (.cons_cons _ (List.nil_sublist _))))))) hgo hmap hqi hqm (by omega)) ?_   -- fact.go:244 slot 75 := (call {callee=(value (func 30)), args=[(tmp 69), (tmp 74)], argTypes=[63, 72]})
          rintro _ w ⟨hen, lv2, mp2, news, hr2, hmp2, hL2, hX, hnw2, hlv2⟩
          have hlvb : ∀ b, lv.ownBlock = some b → w0.heap.size ≤ b := fun b hb => (ownsRow_lt (hL.row 4 rfl) hb).2
          obtain ⟨r1, hr1⟩ : ∃ r1, r1 = (findF g (g.length * g.length + 1) q (fv.map (·.1))).1 := ⟨_, rfl⟩
          rw [← hr1] at hen
          subst hen
          replace hL : Has w (.blk b14 (.cells #[.int .i64 q.1, .int .i64 q.2] 28 (0, 0)) :: .row w0.heap.size 3 1 av ws.length (ws.map (Value.int .i64)) :: .blk b24 (fxB Ag g.length cg lv2 m22) :: .blk m22 (mapObj enc2 (Value.int .i64) mp2) :: .row w0.heap.size 37 3 lv2 (fv ++ news).length ((fv ++ news).map fcell).flatten :: (fv.map (fres 3 w0.heap.size) ++ news.map (fres 3 w0.heap.size))) := Has.callX (A := [_, _]) (X := FX b24 m22 w0.heap.size Ag g.length cg lv mp fv) hL hX hL2 (fun b hb => FS.res hb) (fx_foot hnw2 hlv2)
          replace hE := hE.step hX (fun b hlt hs => hs.elim (fun h => absurd hlt (Nat.not_lt.2 (h ▸ hb24))) fun h => h.elim (fun h => absurd hlt (Nat.not_lt.2 (h ▸ hm22))) fun h => absurd hlt (Nat.not_lt.2 (hlvb b h)))
          refine ⟨_, rfl, ?_⟩
          refine l_new rfl rfl rfl (n_slice (cells := #[.int .i64 r1]) rfl Tryd.underlying30 Tryd.sizeOf3 Tryd.zeroValue3 rfl rfl (fill_int1 _) hL hE) ?_
          rintro _ w ⟨s76, rfl, hs76, hL, hE, hX⟩
          refine l_new rfl rfl rfl (r_append (ys := [.int .i64 r1]) 2 rfl Tryd.underlying30 info_int rfl (by decide) rfl rfl hL hE rfl rfl (blk_raw (cs := #[.int .i64 r1]) (hL.get 0 rfl) rfl) (fun u hu => by rw [List.mem_singleton] at hu; rw [hu]; rfl) (by omega) (by omega) (Nat.le_refl _) hE.size) ?_
          rintro _ w ⟨hL, hE, hk⟩
          obtain ⟨A4, c4, rfl⟩ := ownsRow_slice (hL.row 2 rfl)
          replace hL : Has w (.blk s76 (.cells #[.int .i64 r1] 3 (0, 0)) :: .blk b14 (.cells #[.int .i64 q.1, .int .i64 q.2] 28 (0, 0)) :: .row w0.heap.size 3 1 (.slice A4 (ws.length + 1) c4) (ws ++ [r1]).length ((ws ++ [r1]).map (Value.int .i64)) :: .blk b24 (fxB Ag g.length cg lv2 m22) :: .blk m22 (mapObj enc2 (Value.int .i64) mp2) :: .row w0.heap.size 37 3 lv2 (fv ++ news).length ((fv ++ news).map fcell).flatten :: (fv ++ news).map (fres 3 w0.heap.size)) := by rw [← res_snoc, List.map_append (f := fres 3 w0.heap.size)]; exact hL
          refine l_val rfl rfl rfl (r_assign rfl) ?_
          refine l_nil ?_
          -- region 21
          refine c_ops ?_
          refine l_val rfl rfl rfl (r_add rfl rfl rfl) ?_
          refine l_val rfl rfl rfl (r_move rfl) ?_
          refine l_nil ?_
          refine ⟨by repeat (first | exact Agree.over _ _ _ | exact Agree.refl _ _ | (refine Agree.puto ?_ _ _ rfl) | (refine Agree.put ?_ _ _ rfl) | (refine Agree.sub ?_ rfl)), ?_⟩
          refine ⟨ps.length - (n + 1), by omega, n + 1, ws ++ [r1], _, lv2, mp2, fv ++ news, by omega, rfl, by show Value.int .i64 (IntKind.i64.wrap ((n : Int) + 1)) = _; rw [wrap_succ hnn2 hpm], rfl, ?_, by rw [← hr2]; exact hmp2, hL.tail.tail, hE⟩
          rw [take_snoc hqn, findsF_snoc, hfn, hr1]
          exact Prod.ext rfl hr2
        · -- False
          have hr65 := hb
          replace hb := of_decide_eq_false hb
          obtain rfl : n = ps.length := by omega
          rw [List.take_length] at hfn hgo
          rw [hfn] at hgo
          have hfl := hgo.le
          rw [List.length_map] at hfl
          obtain ⟨Al, cl, rfl⟩ := ownsRow_slice (hL.row 3 rfl)
          obtain ⟨Ai, ci, rfl⟩ := ownsRow_slice (hL.row 0 rfl)
          refine c_exit ?_
          refine c_seq ?_
          refine c_seq ?_
          -- region 22
          refine c_ops ?_
          refine l_val rfl rfl rfl (r_move rfl) ?_
          refine l_val rfl rfl rfl (r_nilCheck rfl rfl) ?_
          refine l_val rfl rfl rfl (r_fieldAddr (n := 1) rfl Tryd.underlying68 rfl Tryd.sizeOf65 rfl) ?_
          refine l_val rfl rfl rfl (r_fieldAddr (n := 0) rfl Tryd.underlying65 rfl Tryd.sizeOf29 rfl) ?_
          refine l_val rfl rfl rfl (r_load_blk rfl Tryd.isAgg29 rfl (hL.get 1 rfl) rfl) ?_
          refine l_val rfl rfl rfl (r_len rfl Tryd.underlying29 rfl) ?_
          refine l_val rfl rfl rfl (r_gtr rfl rfl rfl) ?_
          refine l_nil ?_
          refine c_cond rfl (fun hb => ?_) (fun hb => ?_)
          · -- True
            have hr85 := hb
            replace hb := of_decide_eq_true hb
            omega
          · -- False
            have hr85 := hb
            replace hb := of_decide_eq_false hb
            refine c_skip ?_
            refine c_seq ?_
            -- region 24
            refine c_ops ?_
            refine l_val rfl rfl rfl (r_move rfl) ?_
            refine l_val rfl rfl rfl (r_nilCheck rfl rfl) ?_
            refine l_val rfl rfl rfl (r_fieldAddr (n := 1) rfl Tryd.underlying68 rfl Tryd.sizeOf65 rfl) ?_
            refine l_val rfl rfl rfl (r_fieldAddr (n := 0) rfl Tryd.underlying65 rfl Tryd.sizeOf29 rfl) ?_
            refine l_val rfl rfl rfl (r_load_blk rfl Tryd.isAgg29 rfl (hL.get 1 rfl) rfl) ?_
            refine l_val rfl rfl rfl (r_move rfl) ?_
            refine l_val rfl rfl rfl (r_assign rfl) ?_
            refine l_val rfl rfl rfl (r_assign rfl) ?_
            refine l_val rfl rfl rfl (r_assign rfl) ?_
            refine l_nil ?_
            refine c_ret ?_
            exact FindOut.found (err_ok hck hin hma) hfn rfl (facts_at (hL.sub (.cons _ (.cons _ (.cons _ (.cons _ (.refl _)))))) (fun x hx => List.mem_map.2 ⟨x, hx, rfl⟩) (hL.row 3 rfl) rfl).1 (Sl.ints_at (hL.row 0 rfl)) hE
end Go.Proofs.YtndophlnapjkhaaDoor.Vc
