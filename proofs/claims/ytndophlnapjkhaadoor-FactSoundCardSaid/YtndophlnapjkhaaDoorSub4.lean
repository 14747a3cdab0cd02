/- What may stand for what: the solver's rounds. Conditions: those of each statement. -/
import Derived.Test.YtndophlnapjkhaaDoorSub3
import Derived.Test.YtndophlnapjkhaaDoorMore
import Derived.Test.YtndophlnapjkhaaDoorSubRound
namespace Go.Proofs.YtndophlnapjkhaaDoor.Vc
open Go Go.RowKit
set_option linter.unusedVariables false
set_option linter.unusedSimpArgs false

theorem info_pair : (Tryd.prog.info? 62).map (fun i => (i.zero, i.size, i.bytes)) = some (some (.agg #[.int .i64 0, .int .i64 0]), 2, 16) := by kernel_rfl
theorem solve_calls (w0 : World) (xb mb : Nat) (Ag : Option Addr) (cg : Nat) (g : List GNode) (hg : Nodes w0 Ag cg g) (hok : GraphOk g) (hn : g.length ≤ 2000) (st : Bool) (m : PM) (hinv : Inv g st m) (Af : Option Addr) (cf : Nat) (first : List (Int × Int)) (hf : PairsAt w0 Af cf first) (hfin : ∀ p ∈ first, InG g.length p) (hL : Has w0 (Sol xb mb (.slice Ag g.length cg) st  m)) :
    Calls Tryd.prog 43 [.pointer (some ⟨xb, 0, none⟩), .slice Af first.length cf].toArray w0 fun en w' => ∃ m', en = .returned (.tuple #[]) ∧ Solved g st m' ∧ (∀ q ∈ first, getM m' q ≠ none) ∧ Ext (fun k => k = mb) w0 w' ∧ Has w' (Sol xb mb (.slice Ag g.length cg) st  m') := by
  have hE : Ext (fun k => k = mb) w0 w0 := Ext.refl _ _
  have hNC := noCells_map (hL.get 1 rfl)
  have hnn : g.length * g.length ≤ 2000 * 2000 := Nat.mul_le_mul hn hn
  refine calls [] Tryd.func43 rfl rfl rfl rfl ?_
  refine c_scope ?_
  refine c_seq ?_
  refine c_seq ?_
  -- region 0
  refine c_ops ?_
  refine l_val rfl rfl rfl (r_move rfl) ?_
  refine l_val rfl rfl rfl (r_len rfl Tryd.underlying85 rfl) ?_
  refine l_val rfl rfl rfl (r_move rfl) ?_
  refine l_nil ?_
  refine c_block ?_
  -- loop 0: slots that it writes and that are read in it ahead of that: [13]
  refine c_loop [5, 13, 14, 15, 16, 17, 18, 19, 20] (fun m1 e w => ∃ (k : Nat) (m' : PM), k ≤ first.length ∧ m1 = first.length - k ∧ e 13 = .int .i64 k ∧ Inv g st m' ∧ (∀ (j : Nat) q, j < k → first[j]? = some q → getM m' q ≠ none) ∧ Has w (Sol xb mb (.slice Ag g.length cg) st m') ∧ Ext (fun k => k = mb) w0 w) first.length ?_ ?_
  · exact ⟨0, m, Nat.zero_le _, rfl, rfl, hinv, fun j q h => absurd h (Nat.not_lt_zero _), hL, hE⟩
  intro m1 e w hI
  obtain ⟨k, m', hk, hm, h13, hinv', hkn', hL, hE⟩ := hI
  refine c_know h13 ?_
  refine c_seq ?_
  -- region 1
  refine c_ops ?_
  refine l_val rfl rfl rfl (r_lss rfl rfl rfl) ?_
  refine l_nil ?_
  refine c_seq ?_
  refine c_cond rfl (fun hb => ?_) (fun hb => ?_)
  · -- True
    have hr14 := hb
    replace hb := of_decide_eq_true hb
    have hkn : k < first.length := by omega
    have hpk := pat_nat hkn
    have hpin := hfin _ (List.mem_of_getElem? hpk)
    refine c_skip ?_
    refine c_seq ?_
    refine c_block ?_
    refine c_seq ?_
    -- region 2
    refine c_ops ?_
    refine l_val rfl rfl rfl (r_indexAddr_sl rfl Tryd.underlying85 Tryd.sizeOf62 rfl hf.is rfl (by omega) (by omega)) ?_
    refine l_val rfl rfl rfl (r_load_agg (vs := cells2 (first.getD (k : Int).toNat (0, 0))) rfl Tryd.isAgg62 Tryd.sizeOf62 rfl ((hf.keep RPair.kept (hE.cells hNC)).pair k (by omega) (by omega))) ?_
    refine l_new rfl rfl rfl (n_alloc rfl Tryd.zeroValue62 hL hE) ?_
    rintro _ w ⟨b5, rfl, hb5, hL, hE, hX⟩
    refine l_new_do rfl rfl (r_store 0 rfl Tryd.sizeOf62 rfl hL hE rfl rfl rfl rfl (fun h => absurd h (Nat.not_lt.2 hb5))) ?_
    rintro w ⟨hL, hE, hz, hk⟩
    refine l_nil ?_
    -- region 3
    refine c_ops ?_
    refine l_val rfl rfl rfl (r_move rfl) ?_
    refine l_val rfl rfl rfl (r_load_blk_agg rfl Tryd.isAgg62 Tryd.sizeOf62 rfl (hL.get 0 rfl) rfl) ?_
    refine l_by rfl rfl rfl (r_call rfl rfl Tryd.func53 rfl rfl) (granted_calls _ xb mb (.slice Ag g.length cg) st m' (first.getD (k : Int).toNat (0, 0)) (Has.right (L1 := [_]) hL)) ?_   -- sub.go:82 slot 19 := (call {callee=(value (func 53)), args=[(tmp 17), (tmp 18)], argTypes=[82, 62]})
    rintro _ w ⟨rfl, hX, hY⟩
    replace hL := Has.sol [_] hL hX hY
    replace hE := hE.trans hX
    have hgr := grant_is m' (first.getD (k : Int).toNat (0, 0)) hpin
    have hkn2 : ∀ (j : Nat) q, j < k + 1 → first[j]? = some q → getM (grant m' (first.getD (k : Int).toNat (0, 0))).2 q ≠ none := fun j q hj hq => by
      rcases Nat.lt_or_eq_of_le (Nat.le_of_lt_succ hj) with h | rfl
      · exact known_grows hgr.1 (hkn' j q h hq)
      · rw [hpk] at hq
        cases hq
        exact grant_known _ _
    refine ⟨_, rfl, ?_⟩
    refine l_nil ?_
    -- region 4
    refine c_ops ?_
    refine l_val rfl rfl rfl (r_add rfl rfl rfl) ?_
    refine l_val rfl rfl rfl (r_move rfl) ?_
    refine l_nil ?_
    refine ⟨by repeat (first | exact Agree.over _ _ _ | exact Agree.refl _ _ | (refine Agree.puto ?_ _ _ rfl) | (refine Agree.put ?_ _ _ rfl) | (refine Agree.sub ?_ rfl)), ?_⟩
    exact ⟨first.length - (k + 1), by omega, k + 1, _, by omega, rfl, by show Value.int .i64 (IntKind.i64.wrap ((k : Int) + 1)) = _; rw [wrap_succ hkn hf.max], hinv'.grows hgr.1, hkn2, hL.tail, hE⟩
  · -- False
    have hr14 := hb
    replace hb := of_decide_eq_false hb
    have hkn : first.length ≤ k := by omega
    have hfirst : ∀ q ∈ first, getM m' q ≠ none := fun q hq => by
      obtain ⟨j, hj⟩ := List.mem_iff_getElem?.1 hq
      exact hkn' j q (by have := (List.getElem?_eq_some_iff.1 hj).1; omega) hj
    refine c_exit ?_
    refine c_seq ?_
    refine c_label ?_
    refine c_block ?_
    -- loop 1: slots that it writes and that are read in it ahead of that: []
    refine c_loop [6, 7, 8, 10, 21, 22, 23, 24, 25, 26, 27, 28, 29, 30, 31, 32, 33, 34, 35, 36, 37, 38, 39, 40, 41, 42, 43, 44, 45, 46, 47, 48, 49, 50, 51, 52, 53, 54, 55, 56, 57, 58, 59, 60, 61, 62, 63, 64, 65, 66, 67, 68, 69, 70, 71, 72] (fun m1 e w => ∃ mr : PM, m1 = leftM g.length mr ∧ Inv g st mr ∧ (∀ q ∈ first, getM mr q ≠ none) ∧ Has w (Sol xb mb (.slice Ag g.length cg) st mr) ∧ Ext (fun k => k = mb) w0 w) (leftM g.length m') ?_ ?_
    · exact ⟨m', rfl, hinv', hfirst, hL, hE⟩
    intro m1 e w hI
    obtain ⟨mr, hm, hinvr, hfr, hL, hE⟩ := hI
    have hlen := hinvr.length
    refine c_block ?_
    refine c_seq ?_
    -- region 5
    refine c_ops ?_
    refine l_val rfl rfl rfl (r_move rfl) ?_
    refine l_val rfl rfl rfl (r_nilCheck rfl rfl) ?_
    refine l_val rfl rfl rfl (r_fieldAddr (n := 0) rfl Tryd.underlying89 rfl Tryd.sizeOf87 rfl) ?_
    refine l_val rfl rfl rfl (r_load_blk rfl Tryd.isAgg87 rfl (hL.get 0 rfl) rfl) ?_
    refine l_val rfl rfl rfl (r_len_map rfl Tryd.underlying87 rfl (hL.get 1 rfl)) ?_
    refine l_val rfl rfl rfl (r_assign rfl) ?_
    refine l_nil ?_
    refine c_seq ?_
    -- region 6
    refine c_ops ?_
    refine l_val rfl rfl rfl (r_move rfl) ?_
    refine l_new rfl rfl rfl (n_make0 rfl Tryd.underlying85 info_pair rfl rfl hL hE (by omega) (by omega)) ?_
    rintro _ w ⟨s27, rfl, hs27, hL, hE, hX⟩
    refine l_val rfl rfl rfl (r_assign rfl) ?_
    refine l_nil ?_
    refine c_seq ?_
    refine c_seq ?_
    -- region 7
    refine c_ops ?_
    refine l_val rfl rfl rfl (r_move rfl) ?_
    refine l_val rfl rfl rfl (r_nilCheck rfl rfl) ?_
    refine l_val rfl rfl rfl (r_fieldAddr (n := 0) rfl Tryd.underlying89 rfl Tryd.sizeOf87 rfl) ?_
    refine l_val rfl rfl rfl (r_load_blk rfl Tryd.isAgg87 rfl (hL.get 1 rfl) rfl) ?_
    refine l_new rfl rfl rfl (n_range rfl Tryd.underlying87 rfl (hL.get 2 rfl) hL hE) ?_
    rintro _ w ⟨it32, rfl, hit32, hL, hE, hX⟩
    refine l_nil ?_
    refine c_block ?_
    -- loop 2: slots that it writes and that are read in it ahead of that: [7]
    refine c_loop [7, 8, 33, 34, 35, 36, 37, 38, 39, 40] (fun m1 e w => ∃ (seen : Array Nat) (all : List (Int × Int)) (A7 : Option Addr) (c7 : Nat), all.length = seen.size ∧ seen.toList.Nodup ∧ (∀ j ∈ seen, j < mr.length) ∧ (∀ (j : Nat) (q : (Int × Int) × Int), mr[j]? = some q → j ∈ seen → q.1 ∈ all) ∧ (∀ q ∈ all, getM mr q ≠ none) ∧ m1 = mr.length - seen.size ∧ e 7 = .slice A7 all.length c7 ∧ Has w ([.blk it32 (.mapIter (some mb) mr.length seen mr.length), .row w0.heap.size 62 2 (.slice A7 all.length c7) all.length (all.map cells2).flatten] ++ Sol xb mb (.slice Ag g.length cg) st mr) ∧ Ext (fun k => k = mb) w0 w) mr.length ?_ ?_
    · exact ⟨#[], [], _, _, rfl, by simp, by simp, by simp, by simp, rfl, rfl, hL, hE⟩
    intro m1 e w hI
    obtain ⟨seen, all, A7, c7, hal, hnd, hlt, hin, hkna, hm, h7, hL, hE⟩ := hI
    refine c_know h7 ?_
    refine c_seq ?_
    -- region 8
    refine c_ops ?_
    refine l_new rfl rfl rfl (n_next 0 rfl rfl (hL.get 3 rfl) hL hE rfl (fun h => absurd h (Nat.not_lt.2 hit32))) ?_
    rintro _ w (⟨rfl, hall, hL, hE⟩ | ⟨j, q, rfl, hjq, hjs, hL, hE⟩)
    · -- next: False
      have hallj : ∀ (j : Nat) (q : (Int × Int) × Int), mr[j]? = some q → q.1 ∈ all := fun j q hq => hin j q hq (hall j (List.getElem?_eq_some_iff.1 hq).1)
      refine l_val rfl rfl rfl (r_extract rfl rfl rfl) ?_
      refine l_nil ?_
      refine c_seq ?_
      refine c_no rfl ?_
      refine c_exit ?_
      refine c_seq ?_
      refine c_seq ?_
      -- region 11
      refine c_ops ?_
      refine l_val rfl rfl rfl (r_move rfl) ?_
      refine l_val rfl rfl rfl (r_len rfl Tryd.underlying85 rfl) ?_
      refine l_val rfl rfl rfl (r_move rfl) ?_
      refine l_nil ?_
      refine c_block ?_
      -- loop 3: slots that it writes and that are read in it ahead of that: [43]
      refine c_loop [6, 10, 43, 44, 45, 46, 47, 48, 49, 50, 51, 52, 53, 54, 55, 56, 57, 58, 59, 60, 61, 62, 63, 64, 65] (fun m1 e w => ∃ (k : Nat) (mk : PM) (f : Int), k ≤ all.length ∧ m1 = all.length - k ∧ e 43 = .int .i64 k ∧ e 6 = .int .i64 f ∧ RoundAt g st first mr all k mk f ∧ Has w ([.blk it32 (.mapIter (some mb) mr.length seen mr.length), .row w0.heap.size 62 2 (.slice A7 all.length c7) all.length (all.map cells2).flatten] ++ Sol xb mb (.slice Ag g.length cg) st mk) ∧ Ext (fun k => k = mb) w0 w) all.length ?_ ?_
      · exact ⟨0, mr, mr.length, Nat.zero_le _, rfl, rfl, rfl, RoundAt.start hinvr hfr hkna, hL, hE⟩
      intro m1 e w hI
      obtain ⟨k, mk, f, hk, hm3, h43, h6, hR, hL, hE⟩ := hI
      refine c_know h43 ?_
      refine c_know (t := 6) (by exact h6) ?_
      refine c_seq ?_
      -- region 12
      refine c_ops ?_
      refine l_val rfl rfl rfl (r_lss rfl rfl rfl) ?_
      refine l_nil ?_
      refine c_seq ?_
      refine c_cond rfl (fun hb => ?_) (fun hb => ?_)
      · -- True
        have hr44 := hb
        replace hb := of_decide_eq_true hb
        have hkn : k < all.length := by omega
        have hallmax := (Sl.pairs_at (hL.row 1 rfl)).max
        have hpk := pat_nat hkn
        have hpin : InG g.length (all.getD (k : Int).toNat (0, 0)) := by
          have h1 := hR.known _ (List.mem_of_getElem? hpk)
          cases hv : getM mk (all.getD (k : Int).toNat (0, 0)) with
          | none => exact absurd hv h1
          | some v => exact (hR.inv.inn _ v hv).1
        refine c_skip ?_
        refine c_seq ?_
        refine c_block ?_
        refine c_seq ?_
        -- region 13
        refine c_ops ?_
        refine l_val rfl rfl rfl (r_indexAddr_sl rfl Tryd.underlying85 Tryd.sizeOf62 rfl (Sl.pairs_at (hL.row 1 rfl)).is rfl (by omega) (by omega)) ?_
        refine l_val rfl rfl rfl (r_load_agg (vs := cells2 (all.getD (k : Int).toNat (0, 0))) rfl Tryd.isAgg62 Tryd.sizeOf62 rfl ((Sl.pairs_at (hL.row 1 rfl)).pair k (by omega) (by omega))) ?_
        refine l_new rfl rfl rfl (n_alloc rfl Tryd.zeroValue62 hL hE) ?_
        rintro _ w ⟨b10, rfl, hb10, hL, hE, hX⟩
        refine l_new_do rfl rfl (r_store 0 rfl Tryd.sizeOf62 rfl hL hE rfl rfl rfl rfl (fun h => absurd h (Nat.not_lt.2 hb10))) ?_
        rintro w ⟨hL, hE, hz, hk⟩
        refine l_nil ?_
        refine c_seq ?_
        -- region 14
        refine c_draw mixed (hL.sub (.cons_cons _ (.cons_cons _ (.cons_cons _ (.cons_cons _ (.cons _ .slnil)))))) hE ?_
        replace hL := hL.drew
        replace hE := hE.drew
        have hK := hL.sub (.cons_cons _ (.cons_cons _ (.cons_cons _ (.cons_cons _ (.cons _ .slnil)))))
        refine h_t 0 rfl rfl (by kernel_rfl) (fun _ _ _ h => h) ⟨hK, hE⟩ rfl (fun W hW => r_move rfl) ?_
        refine h_t 1 rfl rfl (by kernel_rfl) (fun _ _ _ h => h) ⟨hK, hE⟩ rfl (fun W hW => r_nilCheck rfl rfl) ?_
        refine h_t 2 rfl rfl (by kernel_rfl) (fun _ _ _ h => h) ⟨hK, hE⟩ rfl (fun W hW => r_fieldAddr (n := 0) rfl Tryd.underlying89 rfl Tryd.sizeOf87 rfl) ?_
        refine h_t 3 rfl rfl (by kernel_rfl) (fun _ _ _ h => h) ⟨hK, hE⟩ rfl (fun W hW => r_load_blk rfl Tryd.isAgg87 rfl (hW.1.get 3 rfl) rfl) ?_
        refine h_t 4 rfl rfl (by kernel_rfl) (fun _ _ _ h => h) ⟨hK, hE⟩ rfl (fun W hW => r_load_blk_agg rfl Tryd.isAgg62 Tryd.sizeOf62 rfl (hW.1.get 0 rfl) rfl) ?_
        refine h_one 5 rfl rfl (by kernel_rfl) rfl (r_lookup_int (k := (all.getD (k : Int).toNat (0, 0))) rfl Tryd.underlying87 key_pair Tryd.zeroValue3 rfl rfl (hL.get 4 rfl)) ⟨hK, hE⟩ ?_
        refine h_t 6 rfl rfl (by kernel_rfl) (fun _ _ _ h => h) ⟨hK, hE⟩ rfl (fun W hW => r_gtr rfl rfl rfl) ?_
        refine h_t 7 rfl rfl (by kernel_rfl) (fun _ _ _ h => h) ⟨hK, hE⟩ rfl (fun W hW => r_move rfl) ?_
        refine h_case 54 rfl (fun hb => ?_) (fun hb => ?_)
        · -- slot 54 is True
          have hr54 := hb
          replace hb := of_decide_eq_true hb
          have hb53 := hb
          refine h_t 8 rfl rfl (by kernel_rfl) (fun _ _ _ h => h) ⟨hK, hE⟩ rfl (fun W hW => r_move rfl) ?_
          refine h_t 9 rfl rfl (by kernel_rfl) (fun _ _ _ h => h) ⟨hK, hE⟩ rfl (fun W hW => r_load_blk_agg rfl Tryd.isAgg62 Tryd.sizeOf62 rfl (hW.1.get 0 rfl) rfl) ?_
          refine h_by 10 rfl rfl (by kernel_rfl) rfl (r_call rfl rfl Tryd.func54 rfl rfl) (holds_calls _ xb mb Ag cg g (hg.keep RNode.kept (hE.cells hNC)) hok st mk (all.getD (k : Int).toNat (0, 0)) (Has.right (L1 := [_, _, _]) hL)) ?_   -- sub.go:92 slot 57 := (call {callee=(value (func 54)), args=[(tmp 55), (tmp 56)], argTypes=[82, 62]})
          rintro _ w ⟨rfl, hX, hY⟩
          replace hL := Has.sol [_, _, _] hL hX hY
          replace hE := hE.trans hX
          have hK := hL.sub (.cons_cons _ (.cons_cons _ (.cons_cons _ (.cons_cons _ (.cons _ .slnil)))))
          refine ⟨_, rfl, ⟨hK, hE⟩, ?_⟩
          refine h_t 11 rfl rfl (by kernel_rfl) (fun _ _ _ h => h) ⟨hK, hE⟩ rfl (fun W hW => r_not rfl rfl) ?_
          refine h_t 12 rfl rfl (by kernel_rfl) (fun _ _ _ h => h) ⟨hK, hE⟩ rfl (fun W hW => r_pick rfl rfl) ?_
          refine h_done (by kernel_rfl) ?_
          refine c_cond rfl (fun hb => ?_) (fun hb => ?_)
          · -- True
            have hr59 := hb
            have hR2 := hR.take hok hpk hpin hb53 (by simpa using hr59)
            refine c_seq ?_
            -- region 15
            refine c_draw mixed (hL.sub (.cons_cons _ (.cons_cons _ (.cons_cons _ (.cons_cons _ (.cons _ .slnil)))))) hE ?_
            replace hL := hL.drew
            replace hE := hE.drew
            have hK := hL.sub (.cons_cons _ (.cons_cons _ (.cons_cons _ (.cons_cons _ (.cons _ .slnil)))))
            refine h_t 0 rfl rfl (by kernel_rfl) (fun _ _ _ h => h) ⟨hK, hE⟩ rfl (fun W hW => r_move rfl) ?_
            refine h_t 1 rfl rfl (by kernel_rfl) (fun _ _ _ h => h) ⟨hK, hE⟩ rfl (fun W hW => r_nilCheck rfl rfl) ?_
            refine h_t 2 rfl rfl (by kernel_rfl) (fun _ _ _ h => h) ⟨hK, hE⟩ rfl (fun W hW => r_fieldAddr (n := 0) rfl Tryd.underlying89 rfl Tryd.sizeOf87 rfl) ?_
            refine h_t 3 rfl rfl (by kernel_rfl) (fun _ _ _ h => h) ⟨hK, hE⟩ rfl (fun W hW => r_load_blk rfl Tryd.isAgg87 rfl (hW.1.get 3 rfl) rfl) ?_
            refine h_t 4 rfl rfl (by kernel_rfl) (fun _ _ _ h => h) ⟨hK, hE⟩ rfl (fun W hW => r_load_blk_agg rfl Tryd.isAgg62 Tryd.sizeOf62 rfl (hW.1.get 0 rfl) rfl) ?_
            refine h_new_do 5 rfl rfl (by kernel_rfl) rfl (r_mapUpdate (k := (all.getD (k : Int).toNat (0, 0))) (v := (0 : Int)) 4 rfl Tryd.underlying87 key_pair rfl rfl rfl hL hE rfl (fun _ => rfl)) ?_   -- sub.go:93 slot None := (mapUpdate 87 (tmp 63) (tmp 64) (const (int IntKind.i64 0)))
            rintro w ⟨hL, hE, hz, hk⟩
            have hK := hL.sub (.cons_cons _ (.cons_cons _ (.cons_cons _ (.cons_cons _ (.cons _ .slnil)))))
            refine ⟨⟨hK, hE⟩, ?_⟩
            refine h_done (by kernel_rfl) ?_
            -- region 16
            refine c_ops ?_
            refine l_val rfl rfl rfl (r_assign rfl) ?_
            refine l_nil ?_
            -- region 17
            refine c_ops ?_
            refine l_val rfl rfl rfl (r_add rfl rfl rfl) ?_
            refine l_val rfl rfl rfl (r_move rfl) ?_
            refine l_nil ?_
            refine ⟨by repeat (first | exact Agree.over _ _ _ | exact Agree.refl _ _ | (refine Agree.puto ?_ _ _ rfl) | (refine Agree.put ?_ _ _ rfl) | (refine Agree.sub ?_ rfl)), ?_⟩
            exact ⟨all.length - (k + 1), by omega, k + 1, _, _, by omega, rfl, by show Value.int .i64 (IntKind.i64.wrap ((k : Int) + 1)) = _; rw [wrap_succ hkn hallmax], rfl, hR2, hL.tail, hE⟩
          · -- False
            have hr59 := hb
            have hR2 := hR.keep hok hpk hpin (by simpa using hr59)
            refine c_skip ?_
            -- region 17
            refine c_ops ?_
            refine l_val rfl rfl rfl (r_add rfl rfl rfl) ?_
            refine l_val rfl rfl rfl (r_move rfl) ?_
            refine l_nil ?_
            refine ⟨by repeat (first | exact Agree.over _ _ _ | exact Agree.refl _ _ | (refine Agree.puto ?_ _ _ rfl) | (refine Agree.put ?_ _ _ rfl) | (refine Agree.sub ?_ rfl)), ?_⟩
            exact ⟨all.length - (k + 1), by omega, k + 1, _, _, by omega, rfl, by show Value.int .i64 (IntKind.i64.wrap ((k : Int) + 1)) = _; rw [wrap_succ hkn hallmax], rfl, hR2, hL.tail, hE⟩
        · -- slot 54 is False
          have hr54 := hb
          replace hb := of_decide_eq_false hb
          have hR2 := hR.skip hpk hb
          refine h_n 8 rfl rfl (by kernel_rfl) (fun _ _ _ h => h) ⟨hK, hE⟩ rfl ?_
          refine h_n 9 rfl rfl (by kernel_rfl) (fun _ _ _ h => h) ⟨hK, hE⟩ rfl ?_
          refine h_n 10 rfl rfl (by kernel_rfl) (fun _ _ _ h => h) ⟨hK, hE⟩ rfl ?_
          refine h_n 11 rfl rfl (by kernel_rfl) (fun _ _ _ h => h) ⟨hK, hE⟩ rfl ?_
          refine h_t 12 rfl rfl (by kernel_rfl) (fun _ _ _ h => h) ⟨hK, hE⟩ rfl (fun W hW => r_pick rfl rfl) ?_
          refine h_done (by kernel_rfl) ?_
          refine c_no rfl ?_
          refine c_skip ?_
          -- region 17
          refine c_ops ?_
          refine l_val rfl rfl rfl (r_add rfl rfl rfl) ?_
          refine l_val rfl rfl rfl (r_move rfl) ?_
          refine l_nil ?_
          refine ⟨by repeat (first | exact Agree.over _ _ _ | exact Agree.refl _ _ | (refine Agree.puto ?_ _ _ rfl) | (refine Agree.put ?_ _ _ rfl) | (refine Agree.sub ?_ rfl)), ?_⟩
          exact ⟨all.length - (k + 1), by omega, k + 1, _, _, by omega, rfl, by show Value.int .i64 (IntKind.i64.wrap ((k : Int) + 1)) = _; rw [wrap_succ hkn hallmax], rfl, hR2, hL.tail, hE⟩
      · -- False
        have hr44 := hb
        replace hb := of_decide_eq_false hb
        obtain rfl : k = all.length := by omega
        refine c_exit ?_
        refine c_seq ?_
        -- region 18
        refine c_ops ?_
        refine l_val rfl rfl rfl (r_move rfl) ?_
        refine l_val rfl rfl rfl (r_move rfl) ?_
        refine l_val rfl rfl rfl (r_nilCheck rfl rfl) ?_
        refine l_val rfl rfl rfl (r_fieldAddr (n := 0) rfl Tryd.underlying89 rfl Tryd.sizeOf87 rfl) ?_
        refine l_val rfl rfl rfl (r_load_blk rfl Tryd.isAgg87 rfl (hL.get 2 rfl) rfl) ?_
        refine l_val rfl rfl rfl (r_len_map rfl Tryd.underlying87 rfl (hL.get 3 rfl)) ?_
        refine l_val rfl rfl rfl (r_eql rfl rfl rfl) ?_
        refine l_nil ?_
        refine c_cond rfl (fun hb => ?_) (fun hb => ?_)
        · -- True
          have hr72 := hb
          replace hb := of_decide_eq_true hb
          refine c_exit ?_
          exact ⟨mk, rfl, hR.done hallj hb, hR.firsts, hE, hL.tail.tail⟩
        · -- False
          have hr72 := hb
          replace hb := of_decide_eq_false hb
          refine c_skip ?_
          refine ⟨by repeat (first | exact Agree.over _ _ _ | exact Agree.refl _ _ | (refine Agree.puto ?_ _ _ rfl) | (refine Agree.put ?_ _ _ rfl) | (refine Agree.sub ?_ rfl)), ?_⟩
          exact ⟨leftM g.length mk, by have := hR.again hb; omega, mk, rfl, hR.inv, hR.firsts, hL.tail.tail, hE⟩
    · -- next: True
      have hjl : j < mr.length := (List.getElem?_eq_some_iff.1 hjq).1
      have hnd2 : (seen.push j).toList.Nodup := by
        rw [Array.toList_push, List.nodup_append]
        refine ⟨hnd, by simp, ?_⟩
        rintro a ha b hb rfl
        rw [List.mem_singleton] at hb
        subst hb
        exact hjs (by simpa using ha)
      have hlt2 : ∀ i ∈ seen.push j, i < mr.length := fun i hi => by
        rcases Array.mem_push.1 hi with h | rfl
        · exact hlt i h
        · exact hjl
      have hsz : (seen.push j).size ≤ mr.length := by
        have := nodup_sub (List.range mr.length) (seen.push j).toList hnd2 (fun i hi => List.mem_range.2 (hlt2 i (by simpa using hi)))
        simpa using this
      rw [Array.size_push] at hsz
      have hin2 : ∀ (i : Nat) (p : (Int × Int) × Int), mr[i]? = some p → i ∈ seen.push j → p.1 ∈ all ++ [q.1] := fun i p hp hi => by
        rw [List.mem_append]
        rcases Array.mem_push.1 hi with h | rfl
        · exact .inl (hin i p hp h)
        · rw [hjq] at hp
          cases hp
          exact .inr (List.mem_singleton.2 rfl)
      have hkna2 : ∀ p ∈ all ++ [q.1], getM mr p ≠ none := fun p hp => by
        rcases List.mem_append.1 hp with h | h
        · exact hkna p h
        · rw [List.mem_singleton] at h
          subst h
          obtain ⟨v, hv⟩ := getM_of_mem (List.mem_map_of_mem (f := (·.1)) (List.mem_of_getElem? hjq))
          rw [hv]
          simp
      refine l_val rfl rfl rfl (r_extract rfl rfl rfl) ?_
      refine l_nil ?_
      refine c_seq ?_
      refine c_yes rfl ?_
      refine c_skip ?_
      refine c_block ?_
      refine c_seq ?_
      -- region 9
      refine c_ops ?_
      refine l_val rfl rfl rfl (r_entry rfl rfl (hL.get 3 rfl) (hL.get 0 rfl) hjq) ?_
      refine l_val rfl rfl rfl (r_extract rfl rfl rfl) ?_
      refine l_new rfl rfl rfl (n_alloc rfl Tryd.zeroValue62 hL hE) ?_
      rintro _ w ⟨b8, rfl, hb8, hL, hE, hX⟩
      refine l_new_do rfl rfl (r_store 0 rfl Tryd.sizeOf62 rfl hL hE rfl rfl rfl rfl (fun h => absurd h (Nat.not_lt.2 hb8))) ?_
      rintro w ⟨hL, hE, hz, hk⟩
      refine l_nil ?_
      -- region 10
      refine c_ops ?_
      replace hL : Has w ([.blk b8 (.cells #[.int .i64 q.1.1, .int .i64 q.1.2] 62 (0, 0)), .blk it32 (.mapIter (some mb) mr.length (seen.push j) mr.length), .row w0.heap.size 62 2 (.slice A7 all.length c7) all.length (all.map cells2).flatten] ++ Sol xb mb (.slice Ag g.length cg) st mr) := hL
      refine l_val rfl rfl rfl (r_move rfl) ?_
      refine l_val rfl rfl rfl (r_load_agg (vs := cells2 q.1) rfl Tryd.isAgg62 Tryd.sizeOf62 rfl (blk_raw (cs := #[.int .i64 q.1.1, .int .i64 q.1.2]) (hL.get 0 rfl) rfl)) ?_
      refine l_new rfl rfl rfl (n_slice (cells := #[.int .i64 q.1.1, .int .i64 q.1.2]) rfl Tryd.underlying85 Tryd.sizeOf62 Tryd.zeroValue62 rfl rfl (fill_pair q.1.1 q.1.2) hL hE) ?_
      rintro _ w ⟨s39, rfl, hs39, hL, hE, hX⟩
      refine l_new rfl rfl rfl (r_append (ys := cells2 q.1) 3 rfl Tryd.underlying85 info_pair rfl (by decide) rfl rfl hL hE rfl rfl (blk_raw (cs := #[.int .i64 q.1.1, .int .i64 q.1.2]) (hL.get 0 rfl) rfl) (fun u hu => by simp [cells2] at hu; rcases hu with rfl | rfl <;> rfl) (by omega) (by omega) (Nat.le_refl _) hE.size) ?_
      rintro _ w ⟨hL, hE, hk⟩
      obtain ⟨A8, c8, rfl⟩ := ownsRow_slice (hL.row 3 rfl)
      replace hL : Has w ([.blk s39 (.cells #[.int .i64 q.1.1, .int .i64 q.1.2] 62 (0, 0)), .blk b8 (.cells #[.int .i64 q.1.1, .int .i64 q.1.2] 62 (0, 0)), .blk it32 (.mapIter (some mb) mr.length (seen.push j) mr.length), .row w0.heap.size 62 2 (.slice A8 (all ++ [q.1]).length c8) (all ++ [q.1]).length ((all ++ [q.1]).map cells2).flatten] ++ Sol xb mb (.slice Ag g.length cg) st mr) := by rw [← pairs_snoc, List.length_append]; exact hL
      refine l_val rfl rfl rfl (r_assign rfl) ?_
      refine l_nil ?_
      refine ⟨by repeat (first | exact Agree.over _ _ _ | exact Agree.refl _ _ | (refine Agree.puto ?_ _ _ rfl) | (refine Agree.put ?_ _ _ rfl) | (refine Agree.sub ?_ rfl)), ?_⟩
      exact ⟨mr.length - (seen.push j).size, by rw [Array.size_push]; omega, seen.push j, all ++ [q.1], A8, c8, by simp [hal], hnd2, hlt2, hin2, hkna2, rfl, by rw [List.length_append]; rfl, hL.tail.tail, hE⟩
end Go.Proofs.YtndophlnapjkhaaDoor.Vc
