/- Laws and walks for what the last text proves, part 5: FactLooks of the layer 'fact'. Conditions: those of each statement. -/
import Derived.Test.YtndophlnapjkhaaGreatDoorPl4
set_option linter.unusedVariables false
set_option linter.unusedSimpArgs false
set_option linter.unusedSectionVars false
namespace Go.Proofs.YtndophlnapjkhaaGreatDoor.Vc
open Go Go.RowKit
set_option linter.unusedVariables false
set_option linter.unusedSimpArgs false
theorem info_bool : (Tryz.prog.info? 4).map (fun i => (i.zero, i.size, i.bytes)) = some (some (.bool false), 1, 1) := by kernel_rfl
theorem r_store1 {P : Program} {w : World} {ρ : Operand → Value} {o : Oper} {t : TypeId} {x y : Operand} {b j : Nat} {cs : List Value} {v : Value} {u : TypeId} {S : Nat → Prop} {w0 : World} {L : List Res} (i : Nat) (h : o.op = .store t x y) (hn : Sized P t 1) (hx : ρ x = .pointer (some ((⟨b, 0, none⟩ : Addr).add j))) (hy : ρ y = v) (h1 : v.oneCell' = true) (hc : v.cells = #[v])
    (hL : Has w L) (hE : Ext S w0 w) (hi : L[i]? = some (.blk b (.cells cs.toArray u (0, 0)))) (hl : j < cs.length) (hS : b < w0.heap.size → S b) :
    ∃ w', (execOp ρ o).run P w = .ok .skip w' ∧ Has w' (L.set i (.blk b (.cells (cs.set j v).toArray u (0, 0)))) ∧ Ext S w0 w' ∧ w'.heap.size = w.heap.size ∧ (∀ k, k ≠ b → w'.heap[k]? = w.heap[k]?) := by
  rw [blk_add, Nat.zero_add] at hx
  have hcl : (ρ y).cells.toList = [v] := by rw [hy, hc]
  have := r_store (P := P) i h hn hx hL hE hi (by rw [hy, hc]; rfl) (by rw [hcl]; simp [h1]) (Nat.ble_eq_true_of_le (by simp; omega)) hS
  rw [hcl] at this
  have he : putAt cs.toArray j [v] = (cs.set j v).toArray := by simp [putAt]
  rw [he] at this
  exact this
theorem any_get {α : Type} {p : α → Bool} {l : List α} {k : Nat} {x : α} (h : l[k]? = some x) (hp : p x = true) : l.any p = true := by
  rw [List.any_eq_true]
  exact ⟨x, List.mem_of_getElem? h, hp⟩
theorem any_none {p : Int → Bool} {l : List Int} (h : ∀ j : Nat, j < l.length → p (iat l j) = false) : l.any p = false := by
  rw [List.any_eq_false]
  intro x hx
  obtain ⟨j, hj⟩ := List.mem_iff_getElem?.1 hx
  have hl := (List.getElem?_eq_some_iff.1 hj).1
  have := h j hl
  rw [iat_nat hl] at hj
  cases hj
  simp [this]
theorem inside_calls (w0 : World) (Ag : Option Addr) (cg : Nat) (g : List GNode) (hg : Nodes w0 Ag cg g) (A : Option Addr) (c : Nat) (l : List Int) (hl : Ints w0 A c l) :
    Calls Tryz.prog 82 [.slice Ag g.length cg, .slice A l.length c].toArray w0 fun en w' => en = .returned (.bool (!l.any (outB g.length))) ∧ Ext0 w0 w' := by
  have hE : Ext0 w0 w0 := Ext.refl _ _
  refine calls [4] Tryz.func82 rfl rfl rfl rfl ?_
  refine c_seq ?_
  refine c_ops ?_
  refine l_val rfl rfl rfl (r_assign rfl) ?_
  refine l_nil ?_
  refine c_seq ?_
  refine c_seq ?_
  refine c_ops ?_
  refine l_val rfl rfl rfl (r_assign rfl) ?_
  refine l_nil ?_
  refine c_block ?_
  refine c_loop [4, 5, 6, 7, 8, 9, 10, 11, 12, 13, 14, 15, 16, 17, 18, 19, 20, 21, 22, 23, 24, 25] (fun m1 e w => ∃ (k : Nat), k ≤ l.length ∧ m1 = l.length - k ∧ e 5 = .int .i64 (k : Nat) ∧ (∀ j : Nat, j < k → outB g.length (iat l j) = false) ∧ Ext0 w0 w) (l.length) ?_ ?_
  · exact ⟨0, Nat.zero_le _, rfl, rfl, fun j hj => absurd hj (Nat.not_lt_zero _), hE⟩
  intro m1 e w hI
  obtain ⟨k, hkl, hkm, h5s, hall, hE⟩ := hI
  refine c_know (t := 5) (by exact h5s) ?_
  have hL : Has w [] := trivial
  refine c_seq ?_
  refine c_seq ?_
  refine c_ops ?_
  refine l_val rfl rfl rfl (r_move rfl) ?_
  refine l_val rfl rfl rfl (r_move rfl) ?_
  refine l_val rfl rfl rfl (r_len rfl Tryz.underlying26 rfl) ?_
  refine l_val rfl rfl rfl (r_lss rfl rfl rfl) ?_
  refine l_nil ?_
  refine c_cond rfl (fun hb => ?_) (fun hb => ?_)
  · have hr9 := hb
    replace hb := of_decide_eq_true hb
    have hklt : k < l.length := by omega
    have hk := iat_nat hklt
    refine c_skip ?_
    refine c_seq ?_
    refine c_block ?_
    refine c_seq ?_
 
    refine c_ops ?_
    refine l_val rfl rfl rfl (r_move rfl) ?_
    refine l_val rfl rfl rfl (r_move rfl) ?_
    refine l_val rfl rfl rfl (r_indexAddr_sl rfl Tryz.underlying26 Tryz.sizeOf3 rfl hl.is rfl (by omega) (by omega)) ?_
    refine l_val rfl rfl rfl (r_load (v := .int .i64 (iat l k)) rfl Tryz.isAgg3 rfl ((hl.keep RInt.kept (Ext0.cells hE)).int k (by omega) (by omega))) ?_
    refine l_val rfl rfl rfl (r_lss rfl rfl rfl) ?_
    refine l_val rfl rfl rfl (r_move rfl) ?_
    refine l_case 17 rfl (fun hb => ?_) (fun hb => ?_)
    · have hr17 := hb
      replace hb := of_decide_eq_true hb
      have hno : outB g.length (iat l k) = true := by simp [outB, hb]
      refine l_not rfl rfl rfl ?_
      refine l_not rfl rfl rfl ?_
      refine l_not rfl rfl rfl ?_
      refine l_not rfl rfl rfl ?_
      refine l_not rfl rfl rfl ?_
      refine l_not rfl rfl rfl ?_
      refine l_not rfl rfl rfl ?_
      refine l_val rfl rfl rfl (r_pick rfl rfl) ?_
      refine l_nil ?_
      refine c_yes rfl ?_
      refine c_seq ?_
   
      refine c_ops ?_
      refine l_val rfl rfl rfl (r_assign rfl) ?_
      refine l_nil ?_
      refine c_ret ?_
      exact ⟨ret_bool rfl (by rw [any_get hk hno]; rfl), hE⟩
    · have hr17 := hb
      replace hb := of_decide_eq_false hb
      refine l_val rfl rfl rfl (r_move rfl) ?_
      refine l_val rfl rfl rfl (r_move rfl) ?_
      refine l_val rfl rfl rfl (r_indexAddr_sl rfl Tryz.underlying26 Tryz.sizeOf3 rfl hl.is rfl (by omega) (by omega)) ?_
      refine l_val rfl rfl rfl (r_load (v := .int .i64 (iat l k)) rfl Tryz.isAgg3 rfl ((hl.keep RInt.kept (Ext0.cells hE)).int k (by omega) (by omega))) ?_
      refine l_val rfl rfl rfl (r_move rfl) ?_
      refine l_val rfl rfl rfl (r_len rfl Tryz.underlying22 rfl) ?_
      refine l_val rfl rfl rfl (r_geq rfl rfl rfl) ?_
      refine l_val rfl rfl rfl (r_pick rfl rfl) ?_
      refine l_nil ?_
      refine c_cond rfl (fun hb => ?_) (fun hb => ?_)
      · have hr25 := hb
        replace hb := of_decide_eq_true hb
        have hno : outB g.length (iat l k) = true := by simp [outB, hb]
        refine c_seq ?_
     
        refine c_ops ?_
        refine l_val rfl rfl rfl (r_assign rfl) ?_
        refine l_nil ?_
        refine c_ret ?_
        exact ⟨ret_bool rfl (by rw [any_get hk hno]; rfl), hE⟩
      · have hr25 := hb
        replace hb := of_decide_eq_false hb
        have hyes : outB g.length (iat l k) = false := by have h1 := of_decide_eq_false hr17; simp [outB]; omega
        refine c_skip ?_
     
        refine c_ops ?_
        refine l_val rfl rfl rfl (r_move rfl) ?_
        refine l_val rfl rfl rfl (r_add rfl rfl rfl) ?_
        refine l_val rfl rfl rfl (r_assign rfl) ?_
        refine l_nil ?_
        refine ⟨by repeat (first | exact Agree.over _ _ _ | exact Agree.refl _ _ | (refine Agree.puto ?_ _ _ rfl) | (refine Agree.put ?_ _ _ rfl) | (refine Agree.sub ?_ rfl)), ?_⟩
        exact ⟨l.length - (k + 1), by omega, k + 1, by omega, rfl, by show Value.int .i64 (IntKind.i64.wrap ((k : Int) + 1)) = _; rw [wrap_succ hklt hl.max], fun j hj => by rcases Nat.lt_or_eq_of_le (Nat.le_of_lt_succ hj) with h | rfl <;> first | exact hall j h | exact hyes, hE⟩
  · have hr9 := hb
    replace hb := of_decide_eq_false hb
    refine c_exit ?_
    refine c_seq ?_
 
    refine c_ops ?_
    refine l_val rfl rfl rfl (r_assign rfl) ?_
    refine l_nil ?_
    refine c_ret ?_
    exact ⟨ret_bool rfl (by rw [any_none (fun j hj => hall j (by omega))]; rfl), hE⟩
def inCells (n : Nat) (l : List Int) : List Value := (List.range n).map fun (i : Nat) => Value.bool (decide ((i : Int) ∈ l))
theorem inCells_get {n : Nat} {l : List Int} {i : Nat} (h : i < n) : (inCells n l)[i]? = some (.bool (decide ((i : Int) ∈ l))) := by
  unfold inCells
  rw [List.getElem?_map, List.getElem?_range h]
  rfl
theorem inCells_set {n : Nat} {l : List Int} {x : Int} (h0 : 0 ≤ x) : (inCells n l).set x.toNat (.bool true) = inCells n (l ++ [x]) := by
  apply List.ext_getElem?
  intro i
  rw [List.getElem?_set]
  have hlen : (inCells n l).length = n := by simp [inCells]
  rcases Nat.lt_or_ge i n with hi | hi
  · rw [inCells_get hi, inCells_get hi]
    split
    · rename_i e
      subst e
      rw [hlen, if_pos hi, Int.toNat_of_nonneg h0]
      simp
    · rename_i e
      have : ¬ (i : Int) = x := fun e2 => e (by omega)
      simp [this]
  · rw [List.getElem?_eq_none (by rw [hlen]; exact hi), List.getElem?_eq_none (by simp [inCells]; exact hi)]
    split
    · rename_i e
      rw [hlen, if_neg (by omega)]
    · rfl
theorem made_none (n : Nat) : (madeCells #[Value.bool false] (n * 1)) = (inCells n []).toArray := by
  unfold madeCells inCells
  apply Array.ext'
  simp [Nat.mod_one]
theorem nodup_snoc {l : List Int} {x : Int} : (l ++ [x]).Nodup ↔ l.Nodup ∧ x ∉ l := by
  rw [List.nodup_append]
  constructor
  · rintro ⟨h1, _, h3⟩
    exact ⟨h1, fun hx => h3 x hx x (by simp) rfl⟩
  · rintro ⟨h1, h2⟩
    refine ⟨h1, by simp, ?_⟩
    rintro a ha b hb rfl
    rw [List.mem_singleton] at hb
    subst hb
    exact h2 ha
theorem nodup_take {l : List Int} (h : l.Nodup) (k : Nat) : (l.take k).Nodup := (List.take_sublist k l).nodup h
set_option maxHeartbeats 2000000 in
theorem places_calls (w0 : World) (Ag : Option Addr) (cg : Nat) (g : List GNode) (hg : Nodes w0 Ag cg g) (hn : g.length ≤ 1000000) (A : Option Addr) (c : Nat) (l : List Int) (hl : Ints w0 A c l) :
    Calls Tryz.prog 100 [.slice Ag g.length cg, .slice A l.length c].toArray w0 fun en w' => en = .returned (.bool (!l.any (outB g.length) && diffB l)) ∧ Ext0 w0 w' := by
  have hE : Ext0 w0 w0 := Ext.refl _ _
  have hL : Has w0 [] := trivial
  refine calls [4] Tryz.func100 rfl rfl rfl rfl ?_
  refine c_seq ?_
  refine c_ops ?_
  refine l_val rfl rfl rfl (r_assign rfl) ?_
  refine l_nil ?_
  refine c_seq ?_
  refine c_ops ?_
  refine l_val rfl rfl rfl (r_move rfl) ?_
  refine l_val rfl rfl rfl (r_len rfl Tryz.underlying22 rfl) ?_
  refine l_new rfl rfl rfl (n_make rfl Tryz.underlying62 info_bool rfl rfl hL hE (by omega) (by omega)) ?_
  rintro _ w ⟨s9, rfl, hs9, hL, hE, hX⟩
  replace hL : Has w [.blk s9 (.cells (inCells g.length []).toArray 4 (0, 0))] := by rw [← made_none]; exact hL
  refine l_val rfl rfl rfl (r_assign rfl) ?_
  refine l_nil ?_
  refine c_seq ?_
  refine c_seq ?_
  refine c_ops ?_
  refine l_val rfl rfl rfl (r_assign rfl) ?_
  refine l_nil ?_
  refine c_block ?_
  refine c_loop0 (fun m1 e w => (e 0 = .slice Ag g.length cg ∧ e 1 = .slice A l.length c ∧ e 5 = .slice (some ⟨s9, 0, none⟩) g.length g.length) ∧ ∃ (k : Nat), k ≤ l.length ∧ m1 = l.length - k ∧ e 6 = .int .i64 (k : Nat) ∧ (∀ j : Nat, j < k → outB g.length (iat l j) = false) ∧ (l.take k).Nodup ∧ Has w [.blk s9 (.cells (inCells g.length (l.take k)).toArray 4 (0, 0))] ∧ Ext0 w0 w) (l.length) ?_ ?_
  · exact ⟨⟨rfl, rfl, rfl⟩, 0, Nat.zero_le _, rfl, rfl, fun j hj => absurd hj (Nat.not_lt_zero _), by simp, by simpa using hL, hE⟩
  rintro m1 e w ⟨⟨hq0, hq1, hq5⟩, hI⟩
  refine c_know (t := 0) (by exact hq0) ?_
  refine c_know (t := 1) (by exact hq1) ?_
  refine c_know (t := 5) (by exact hq5) ?_
  clear hq0 hq1 hq5
  obtain ⟨k, hkl, hkm, h6s, hall, hnd, hL, hE⟩ := hI
  refine c_know (t := 6) (by exact h6s) ?_
  refine c_seq ?_
  refine c_seq ?_
  refine c_ops ?_
  refine l_val rfl rfl rfl (r_move rfl) ?_
  refine l_val rfl rfl rfl (r_move rfl) ?_
  refine l_val rfl rfl rfl (r_len rfl Tryz.underlying26 rfl) ?_
  refine l_val rfl rfl rfl (r_lss rfl rfl rfl) ?_
  refine l_nil ?_
  refine c_cond rfl (fun hb => ?_) (fun hb => ?_)
  · have hr13 := hb
    replace hb := of_decide_eq_true hb
    have hklt : k < l.length := by omega
    have hk := iat_nat hklt
    refine c_skip ?_
    refine c_seq ?_
    refine c_block ?_
    refine c_seq ?_
    refine c_seq ?_
 
    refine c_ops ?_
    refine l_val rfl rfl rfl (r_move rfl) ?_
    refine l_val rfl rfl rfl (r_move rfl) ?_
    refine l_val rfl rfl rfl (r_indexAddr_sl rfl Tryz.underlying26 Tryz.sizeOf3 rfl hl.is rfl (by omega) (by omega)) ?_
    refine l_val rfl rfl rfl (r_load (v := .int .i64 (iat l k)) rfl Tryz.isAgg3 rfl ((hl.keep RInt.kept (Ext0.cells hE)).int k (by omega) (by omega))) ?_
    refine l_val rfl rfl rfl (r_lss rfl rfl rfl) ?_
    refine l_val rfl rfl rfl (r_move rfl) ?_
    refine l_case 21 rfl (fun hb => ?_) (fun hb => ?_)
    · have hr21 := hb
      replace hb := of_decide_eq_true hb
      have hno : outB g.length (iat l k) = true := by simp [outB, hb]
      refine l_not rfl rfl rfl ?_
      refine l_not rfl rfl rfl ?_
      refine l_not rfl rfl rfl ?_
      refine l_not rfl rfl rfl ?_
      refine l_not rfl rfl rfl ?_
      refine l_not rfl rfl rfl ?_
      refine l_not rfl rfl rfl ?_
      refine l_val rfl rfl rfl (r_pick rfl rfl) ?_
      refine l_val rfl rfl rfl (r_move rfl) ?_
      refine l_not rfl rfl rfl ?_
      refine l_not rfl rfl rfl ?_
      refine l_not rfl rfl rfl ?_
      refine l_not rfl rfl rfl ?_
      refine l_not rfl rfl rfl ?_
      refine l_not rfl rfl rfl ?_
      refine l_not rfl rfl rfl ?_
      refine l_val rfl rfl rfl (r_pick rfl rfl) ?_
      refine l_nil ?_
      refine c_yes rfl ?_
      refine c_seq ?_
   
      refine c_ops ?_
      refine l_val rfl rfl rfl (r_assign rfl) ?_
      refine l_nil ?_
      refine c_ret ?_
      exact ⟨ret_bool rfl (by rw [any_get hk hno]; rfl), hE⟩
    · have hr21 := hb
      replace hb := of_decide_eq_false hb
      refine l_val rfl rfl rfl (r_move rfl) ?_
      refine l_val rfl rfl rfl (r_move rfl) ?_
      refine l_val rfl rfl rfl (r_indexAddr_sl rfl Tryz.underlying26 Tryz.sizeOf3 rfl hl.is rfl (by omega) (by omega)) ?_
      refine l_val rfl rfl rfl (r_load (v := .int .i64 (iat l k)) rfl Tryz.isAgg3 rfl ((hl.keep RInt.kept (Ext0.cells hE)).int k (by omega) (by omega))) ?_
      refine l_val rfl rfl rfl (r_move rfl) ?_
      refine l_val rfl rfl rfl (r_len rfl Tryz.underlying22 rfl) ?_
      refine l_val rfl rfl rfl (r_geq rfl rfl rfl) ?_
      refine l_val rfl rfl rfl (r_pick rfl rfl) ?_
      refine l_val rfl rfl rfl (r_move rfl) ?_
      refine l_case 30 rfl (fun hb => ?_) (fun hb => ?_)
      · have hr30 := hb
        replace hb := of_decide_eq_true hb
        have hno : outB g.length (iat l k) = true := by simp [outB, hb]
        refine l_not rfl rfl rfl ?_
        refine l_not rfl rfl rfl ?_
        refine l_not rfl rfl rfl ?_
        refine l_not rfl rfl rfl ?_
        refine l_not rfl rfl rfl ?_
        refine l_not rfl rfl rfl ?_
        refine l_not rfl rfl rfl ?_
        refine l_val rfl rfl rfl (r_pick rfl rfl) ?_
        refine l_nil ?_
        refine c_yes rfl ?_
        refine c_seq ?_
     
        refine c_ops ?_
        refine l_val rfl rfl rfl (r_assign rfl) ?_
        refine l_nil ?_
        refine c_ret ?_
        exact ⟨ret_bool rfl (by rw [any_get hk hno]; rfl), hE⟩
      · have hr30 := hb
        replace hb := of_decide_eq_false hb
        have hin : 0 ≤ iat l k ∧ iat l k < g.length := by have h1 := of_decide_eq_false hr21; omega
        have hin3 : outB g.length (iat l k) = false := by simp [outB]; omega
        have hsn : w.cell? ((⟨s9, 0, none⟩ : Addr).add ((iat l k).toNat * 1)) = some (.bool (decide (iat l k ∈ l.take k))) := by
          rw [blk_add, blk_cell (hL.get 0 rfl), Nat.zero_add, Nat.mul_one]
          have := inCells_get (n := g.length) (l := l.take k) (i := (iat l k).toNat) (by omega)
          rw [Int.toNat_of_nonneg hin.1] at this
          simpa using this
        refine l_val rfl rfl rfl (r_move rfl) ?_
        refine l_val rfl rfl rfl (r_move rfl) ?_
        refine l_val rfl rfl rfl (r_move rfl) ?_
        refine l_val rfl rfl rfl (r_indexAddr_sl rfl Tryz.underlying26 Tryz.sizeOf3 rfl hl.is rfl (by omega) (by omega)) ?_
        refine l_val rfl rfl rfl (r_load (v := .int .i64 (iat l k)) rfl Tryz.isAgg3 rfl ((hl.keep RInt.kept (Ext0.cells hE)).int k (by omega) (by omega))) ?_
        refine l_val rfl rfl rfl (r_indexAddr rfl Tryz.underlying62 Tryz.sizeOf4 rfl rfl hin.1 hin.2) ?_
        refine l_val rfl rfl rfl (r_load (v := .bool (decide (iat l k ∈ l.take k))) rfl Tryz.isAgg4 rfl hsn) ?_
        refine l_val rfl rfl rfl (r_pick rfl rfl) ?_
        refine l_nil ?_
        refine c_cond rfl (fun hb => ?_) (fun hb => ?_)
        · have hr38 := hb
          have hno : diffB l = false := by
            unfold diffB
            apply decide_eq_false
            intro hd
            have h1 := nodup_take hd (k + 1)
            rw [take_snoc hk, nodup_snoc] at h1
            exact h1.2 (of_decide_eq_true hb)
          refine c_seq ?_
       
          refine c_ops ?_
          refine l_val rfl rfl rfl (r_assign rfl) ?_
          refine l_nil ?_
          refine c_ret ?_
          exact ⟨ret_bool rfl (by rw [hno, Bool.and_false]), hE⟩
        · have hr38 := hb
          have hyes := hin3
          have hnd2 : (l.take (k + 1)).Nodup := by rw [take_snoc hk, nodup_snoc]; exact ⟨hnd, of_decide_eq_false hb⟩
          refine c_skip ?_
       
          refine c_ops ?_
          refine l_val rfl rfl rfl (r_move rfl) ?_
          refine l_val rfl rfl rfl (r_move rfl) ?_
          refine l_val rfl rfl rfl (r_move rfl) ?_
          refine l_val rfl rfl rfl (r_indexAddr_sl rfl Tryz.underlying26 Tryz.sizeOf3 rfl hl.is rfl (by omega) (by omega)) ?_
          refine l_val rfl rfl rfl (r_load (v := .int .i64 (iat l k)) rfl Tryz.isAgg3 rfl ((hl.keep RInt.kept (Ext0.cells hE)).int k (by omega) (by omega))) ?_
          refine l_val rfl rfl rfl (r_indexAddr rfl Tryz.underlying62 Tryz.sizeOf4 rfl rfl hin.1 hin.2) ?_
          refine l_new_do rfl rfl (r_store1 (v := .bool true) 0 rfl Tryz.sizeOf4 rfl rfl rfl rfl hL hE rfl (by rw [Nat.mul_one]; simp [inCells]; omega) (fun h => absurd h (Nat.not_lt.2 hs9))) ?_
          rintro w ⟨hL, hE, hz, hk'⟩
          rw [Nat.mul_one, inCells_set hin.1, ← take_snoc hk] at hL
          refine l_nil ?_
       
          refine c_ops ?_
          refine l_val rfl rfl rfl (r_move rfl) ?_
          refine l_val rfl rfl rfl (r_add rfl rfl rfl) ?_
          refine l_val rfl rfl rfl (r_assign rfl) ?_
          refine l_nil ?_
          exact ⟨l.length - (k + 1), by omega, ⟨rfl, rfl, rfl⟩, k + 1, by omega, rfl, by show Value.int .i64 (IntKind.i64.wrap ((k : Int) + 1)) = _; rw [wrap_succ hklt hl.max], fun j hj => by rcases Nat.lt_or_eq_of_le (Nat.le_of_lt_succ hj) with h | rfl <;> first | exact hall j h | exact hyes, hnd2, hL, hE⟩
  · have hr13 := hb
    replace hb := of_decide_eq_false hb
    refine c_exit ?_
    refine c_seq ?_
 
    refine c_ops ?_
    refine l_val rfl rfl rfl (r_assign rfl) ?_
    refine l_nil ?_
    refine c_ret ?_
    exact ⟨ret_bool rfl (by rw [List.take_of_length_le (by omega)] at hnd; rw [any_none (fun j hj => hall j (by omega))]; simp [diffB, hnd]), hE⟩
end Go.Proofs.YtndophlnapjkhaaGreatDoor.Vc
namespace Go.Proofs.YtndophlnapjkhaaGreatDoor.Vc
open Go Go.RowKit
set_option linter.unusedVariables false
set_option linter.unusedSimpArgs false
theorem rises_of {l : List ByteArray} (h : ∀ i : Nat, 0 < i → i < l.length → ltB (kat l (i - 1)) (kat l i) = true) : risesB l = true := risesB_yes fun i h0 hi hc => by
  have hlt := h i h0 hi
  unfold kat at hlt
  unfold cmp2 at hc
  split at hc
  · rename_i e
    rw [e, ltB_irrefl] at hlt
    cases hlt
  · unfold cmpB at hc
    split at hc
    · rename_i hl
      have := ltB_trans hlt hl
      rw [ltB_irrefl] at this
      cases this
    · first | omega | (split at hc <;> omega)
def rKeysB (l : List ByteArray) : Bool := l.all isNameB && risesB l
theorem rKeysB_name {l : List ByteArray} {k : Nat} (hk : k < l.length) (h : isNameB (kat l k) = false) : rKeysB l = false := by
  unfold rKeysB
  have : l.all isNameB = false := by
    rw [List.all_eq_false]
    exact ⟨_, List.mem_of_getElem? (kat_some hk), by simp [h]⟩
  rw [this]
  rfl
theorem rKeysB_rise {l : List ByteArray} {k : Nat} (h0 : 0 < k) (hk : k < l.length) (h : ltB (kat l (k - 1)) (kat l k) = false) : rKeysB l = false := by
  unfold rKeysB
  cases hr : risesB l with
  | false => rw [Bool.and_false]
  | true => rw [rises_next hr h0 hk] at h; cases h
theorem rKeysB_yes {l : List ByteArray} (h : ∀ j : Nat, j < l.length → isNameB (kat l j) = true ∧ (0 < j → ltB (kat l (j - 1)) (kat l j) = true)) : rKeysB l = true := by
  unfold rKeysB
  rw [rises_of (fun i h0 hi => (h i hi).2 h0), Bool.and_true, List.all_eq_true]
  intro s hs
  obtain ⟨j, hj⟩ := List.mem_iff_getElem?.1 hs
  have hl := (List.getElem?_eq_some_iff.1 hj).1
  rw [kat_some hl] at hj
  cases hj
  exact (h j hl).1
def recB (g : List GNode) (x : GNode) : Bool := rKeysB x.keys && (decide (x.name = ⟨#[]⟩) && decide (x.num = 0) && decide ((x.keys.length : Int) ≤ 16) && decide ((x.l.length : Int) = x.keys.length) && !x.l.any (outB g.length))
theorem record_rcalls (w0 : World) (Ag : Option Addr) (cg : Nat) (g : List GNode) (hg : Nodes w0 Ag cg g) (x : GNode) (Ak : Option Addr) (ck : Nat) (Al : Option Addr) (cl : Nat) (hks : Strs w0 Ak ck x.keys) (hls : Ints w0 Al cl x.l) (hfit : FitsN x) :
    Calls Tryz.prog 80 [.slice Ag g.length cg, .agg (nodeCells x Ak ck Al cl).toArray].toArray w0 fun en w' => en = .returned (.bool (recB g x)) ∧ Ext0 w0 w' := by
  have hE : Ext0 w0 w0 := Ext.refl _ _
  have hL : Has w0 [] := trivial
  refine calls [4] Tryz.func80 rfl rfl rfl rfl ?_
  refine c_seq ?_
  refine c_ops ?_
  refine l_new rfl rfl rfl (n_box rfl hL hE) ?_
  rintro _ w ⟨b3, rfl, hb3, hL, hE, hX⟩
  refine l_val rfl rfl rfl (r_assign rfl) ?_
  refine l_nil ?_
  refine c_seq ?_
  refine c_seq ?_
  refine c_ops ?_
  refine l_val rfl rfl rfl (r_assign rfl) ?_
  refine l_nil ?_
  refine c_block ?_
  refine c_loop0 (fun m1 e w => (e 0 = .slice Ag g.length cg ∧ e 3 = .pointer (some ⟨b3, 0, none⟩)) ∧ ∃ (k : Nat), k ≤ x.keys.length ∧ m1 = x.keys.length - k ∧ e 5 = .int .i64 (k : Nat) ∧ (∀ j : Nat, j < k → isNameB (kat x.keys j) = true ∧ (0 < j → ltB (kat x.keys (j - 1)) (kat x.keys j) = true)) ∧ Has w [.blk b3 (.cells (nodeCells x Ak ck Al cl).toArray 46 (0, 0))] ∧ Ext0 w0 w) (x.keys.length) ?_ ?_
  · exact ⟨⟨rfl, rfl⟩, 0, Nat.zero_le _, rfl, rfl, fun j hj => absurd hj (Nat.not_lt_zero _), hL, hE⟩
  rintro m1 e w ⟨⟨hq0, hq3⟩, hI⟩
  refine c_know (t := 0) (by exact hq0) ?_
  refine c_know (t := 3) (by exact hq3) ?_
  clear hq0 hq3
  obtain ⟨k, hkl, hkm, h5s, hall, hL, hE⟩ := hI
  refine c_know (t := 5) (by exact h5s) ?_
  refine c_seq ?_
  refine c_seq ?_
  refine c_ops ?_
  refine l_val rfl rfl rfl (r_move rfl) ?_
  refine l_val rfl rfl rfl (r_fieldAddr (n := 0) rfl Tryz.underlying46 rfl Tryz.sizeOf44 rfl) ?_
  refine l_val rfl rfl rfl (r_load_blk rfl Tryz.isAgg44 rfl (hL.get 0 rfl) rfl) ?_
  refine l_val rfl rfl rfl (r_len rfl Tryz.underlying44 rfl) ?_
  refine l_val rfl rfl rfl (r_lss rfl rfl rfl) ?_
  refine l_nil ?_
  refine c_cond rfl (fun hb => ?_) (fun hb => ?_)
  · have hr10 := hb
    replace hb := of_decide_eq_true hb
    have hklt : k < x.keys.length := by omega
    refine c_skip ?_
    refine c_seq ?_
    refine c_block ?_
    refine c_seq ?_
 
    refine c_draw mixed (hL) hE ?_
    replace hL := hL.drew
    replace hE := hE.drew
    have hK := hL
    refine h_t 0 rfl rfl (by kernel_rfl) (fun _ _ _ h => h) ⟨hK, hE⟩ rfl (fun W hW => r_fieldAddr (n := 0) rfl Tryz.underlying46 rfl Tryz.sizeOf44 rfl) ?_
    refine h_listed (listed' := #[T',F',F',F',F',F',F',F',F',F',F',F',F',F',F',F',F',F',F',F',F',F',F',F',F']) (by kernel_rfl) ?_
    refine h_t 1 rfl rfl (by kernel_rfl) (fun _ _ _ h => h) ⟨hK, hE⟩ rfl (fun W hW => r_load_blk rfl Tryz.isAgg44 rfl (hW.1.get 0 rfl) rfl) ?_
    refine h_listed (listed' := #[T',T',F',F',F',F',F',F',F',F',F',F',F',F',F',F',F',F',F',F',F',F',F',F',F']) (by kernel_rfl) ?_
    refine h_t 2 rfl rfl (by kernel_rfl) (fun _ _ _ h => h) ⟨hK, hE⟩ rfl (fun W hW => r_move rfl) ?_
    refine h_listed (listed' := #[T',T',T',F',F',F',F',F',F',F',F',F',F',F',F',F',F',F',F',F',F',F',F',F',F']) (by kernel_rfl) ?_
    refine h_t 3 rfl rfl (by kernel_rfl) (fun _ _ _ h => h) ⟨hK, hE⟩ rfl (fun W hW => r_indexAddr_sl rfl Tryz.underlying44 Tryz.sizeOf9 rfl hks.is rfl (by omega) (by omega)) ?_
    refine h_listed (listed' := #[T',T',T',T',F',F',F',F',F',F',F',F',F',F',F',F',F',F',F',F',F',F',F',F',F']) (by kernel_rfl) ?_
    refine h_t 4 rfl rfl (by kernel_rfl) (fun _ _ _ h => h) ⟨hK, hE⟩ rfl (fun W hW => r_load (v := .string (kat x.keys k)) rfl Tryz.isAgg9 rfl ((hks.keep RStr.kept (Ext0.cells hW.2)).str k (by omega) (by omega))) ?_
    refine h_listed (listed' := #[T',T',T',T',T',F',F',F',F',F',F',F',F',F',F',F',F',F',F',F',F',F',F',F',F']) (by kernel_rfl) ?_
    refine h_by 5 rfl rfl (by kernel_rfl) rfl (r_call rfl rfl Tryz.func78 rfl rfl) (rIsName_calls _ _ (hfit.2 _ (List.mem_of_getElem? (kat_some hklt)))) ?_
    rintro _ w ⟨rfl, hX⟩
    replace hL := hL.ext0 hX
    replace hE := hE.step0 hX
    have hK := hL
    refine ⟨_, rfl, ⟨hK, hE⟩, ?_⟩
    refine h_listed (listed' := #[T',T',T',T',T',T',F',F',F',F',F',F',F',F',F',F',F',F',F',F',F',F',F',F',F']) (by kernel_rfl) ?_
    refine h_t 6 rfl rfl (by kernel_rfl) (fun _ _ _ h => h) ⟨hK, hE⟩ rfl (fun W hW => r_not rfl rfl) ?_
    refine h_listed (listed' := #[T',T',T',T',T',T',T',F',F',F',F',F',F',F',F',F',F',F',F',F',F',F',F',F',F']) (by kernel_rfl) ?_
    refine h_t 7 rfl rfl (by kernel_rfl) (fun _ _ _ h => h) ⟨hK, hE⟩ rfl (fun W hW => r_move rfl) ?_
    refine h_listed (listed' := #[T',T',T',T',T',T',T',T',F',F',F',F',F',F',F',F',F',F',F',F',F',F',F',F',F']) (by kernel_rfl) ?_
    refine h_case 20 rfl (fun hb => ?_) (fun hb => ?_)
    · have hr20 := hb
      have hrf : rKeysB x.keys = false := rKeysB_name hklt (by simpa using hb)
      refine h_listed (listed' := #[T',T',T',T',T',T',T',T',F',F',F',F',F',F',F',F',F',F',F',F',F',F',F',F',F']) (by kernel_rfl) ?_
      refine h_n 8 rfl rfl (by kernel_rfl) (fun _ _ _ h => h) ⟨hK, hE⟩ rfl ?_
      refine h_listed (listed' := #[T',T',T',T',T',T',T',T',T',F',F',F',F',F',F',F',F',F',F',F',F',F',F',F',F']) (by kernel_rfl) ?_
      refine h_n 9 rfl rfl (by kernel_rfl) (fun _ _ _ h => h) ⟨hK, hE⟩ rfl ?_
      refine h_listed (listed' := #[T',T',T',T',T',T',T',T',T',T',F',F',F',F',F',F',F',F',F',F',F',F',F',F',F']) (by kernel_rfl) ?_
      refine h_n 10 rfl rfl (by kernel_rfl) (fun _ _ _ h => h) ⟨hK, hE⟩ rfl ?_
      refine h_listed (listed' := #[T',T',T',T',T',T',T',T',T',T',T',F',F',F',F',F',F',F',F',F',F',F',F',F',F']) (by kernel_rfl) ?_
      refine h_n 11 rfl rfl (by kernel_rfl) (fun _ _ _ h => h) ⟨hK, hE⟩ rfl ?_
      refine h_listed (listed' := #[T',T',T',T',T',T',T',T',T',T',T',T',F',F',F',F',F',F',F',F',F',F',F',F',F']) (by kernel_rfl) ?_
      refine h_n 12 rfl rfl (by kernel_rfl) (fun _ _ _ h => h) ⟨hK, hE⟩ rfl ?_
      refine h_listed (listed' := #[T',T',T',T',T',T',T',T',T',T',T',T',T',F',F',F',F',F',F',F',F',F',F',F',F']) (by kernel_rfl) ?_
      refine h_n 13 rfl rfl (by kernel_rfl) (fun _ _ _ h => h) ⟨hK, hE⟩ rfl ?_
      refine h_listed (listed' := #[T',T',T',T',T',T',T',T',T',T',T',T',T',T',F',F',F',F',F',F',F',F',F',F',F']) (by kernel_rfl) ?_
      refine h_n 14 rfl rfl (by kernel_rfl) (fun _ _ _ h => h) ⟨hK, hE⟩ rfl ?_
      refine h_listed (listed' := #[T',T',T',T',T',T',T',T',T',T',T',T',T',T',T',F',F',F',F',F',F',F',F',F',F']) (by kernel_rfl) ?_
      refine h_n 15 rfl rfl (by kernel_rfl) (fun _ _ _ h => h) ⟨hK, hE⟩ rfl ?_
      refine h_listed (listed' := #[T',T',T',T',T',T',T',T',T',T',T',T',T',T',T',T',F',F',F',F',F',F',F',F',F']) (by kernel_rfl) ?_
      refine h_n 16 rfl rfl (by kernel_rfl) (fun _ _ _ h => h) ⟨hK, hE⟩ rfl ?_
      refine h_listed (listed' := #[T',T',T',T',T',T',T',T',T',T',T',T',T',T',T',T',T',F',F',F',F',F',F',F',F']) (by kernel_rfl) ?_
      refine h_n 17 rfl rfl (by kernel_rfl) (fun _ _ _ h => h) ⟨hK, hE⟩ rfl ?_
      refine h_listed (listed' := #[T',T',T',T',T',T',T',T',T',T',T',T',T',T',T',T',T',T',F',F',F',F',F',F',F']) (by kernel_rfl) ?_
      refine h_n 18 rfl rfl (by kernel_rfl) (fun _ _ _ h => h) ⟨hK, hE⟩ rfl ?_
      refine h_listed (listed' := #[T',T',T',T',T',T',T',T',T',T',T',T',T',T',T',T',T',T',T',F',F',F',F',F',F']) (by kernel_rfl) ?_
      refine h_n 19 rfl rfl (by kernel_rfl) (fun _ _ _ h => h) ⟨hK, hE⟩ rfl ?_
      refine h_listed (listed' := #[T',T',T',T',T',T',T',T',T',T',T',T',T',T',T',T',T',T',T',T',F',F',F',F',F']) (by kernel_rfl) ?_
      refine h_n 20 rfl rfl (by kernel_rfl) (fun _ _ _ h => h) ⟨hK, hE⟩ rfl ?_
      refine h_listed (listed' := #[T',T',T',T',T',T',T',T',T',T',T',T',T',T',T',T',T',T',T',T',T',F',F',F',F']) (by kernel_rfl) ?_
      refine h_n 21 rfl rfl (by kernel_rfl) (fun _ _ _ h => h) ⟨hK, hE⟩ rfl ?_
      refine h_listed (listed' := #[T',T',T',T',T',T',T',T',T',T',T',T',T',T',T',T',T',T',T',T',T',T',F',F',F']) (by kernel_rfl) ?_
      refine h_n 22 rfl rfl (by kernel_rfl) (fun _ _ _ h => h) ⟨hK, hE⟩ rfl ?_
      refine h_listed (listed' := #[T',T',T',T',T',T',T',T',T',T',T',T',T',T',T',T',T',T',T',T',T',T',T',F',F']) (by kernel_rfl) ?_
      refine h_n 23 rfl rfl (by kernel_rfl) (fun _ _ _ h => h) ⟨hK, hE⟩ rfl ?_
      refine h_listed (listed' := #[T',T',T',T',T',T',T',T',T',T',T',T',T',T',T',T',T',T',T',T',T',T',T',T',F']) (by kernel_rfl) ?_
      refine h_t 24 rfl rfl (by kernel_rfl) (fun _ _ _ h => h) ⟨hK, hE⟩ rfl (fun W hW => r_pick rfl rfl) ?_
      refine h_listed (listed' := #[T',T',T',T',T',T',T',T',T',T',T',T',T',T',T',T',T',T',T',T',T',T',T',T',T']) (by kernel_rfl) ?_
      refine h_done (by kernel_rfl) ?_
      refine c_yes rfl ?_
      refine c_seq ?_
   
      refine c_ops ?_
      refine l_val rfl rfl rfl (r_assign rfl) ?_
      refine l_nil ?_
      refine c_ret ?_
      exact ⟨ret_bool rfl (by unfold recB; simp only [hrf, hr10, hr20, Bool.true_and, Bool.and_true, Bool.false_and, Bool.and_false, Bool.true_or, Bool.or_true, Bool.false_or, Bool.or_false, Bool.not_true, Bool.not_false, cond_true, cond_false]), hE⟩
    · have hr20 := hb
      have hyn : isNameB (kat x.keys k) = true := by simpa using hb
      refine h_listed (listed' := #[T',T',T',T',T',T',T',T',F',F',F',F',F',F',F',F',F',F',F',F',F',F',F',F',F']) (by kernel_rfl) ?_
      refine h_t 8 rfl rfl (by kernel_rfl) (fun _ _ _ h => h) ⟨hK, hE⟩ rfl (fun W hW => r_move rfl) ?_
      refine h_listed (listed' := #[T',T',T',T',T',T',T',T',T',F',F',F',F',F',F',F',F',F',F',F',F',F',F',F',F']) (by kernel_rfl) ?_
      refine h_t 9 rfl rfl (by kernel_rfl) (fun _ _ _ h => h) ⟨hK, hE⟩ rfl (fun W hW => r_gtr rfl rfl rfl) ?_
      refine h_listed (listed' := #[T',T',T',T',T',T',T',T',T',T',F',F',F',F',F',F',F',F',F',F',F',F',F',F',F']) (by kernel_rfl) ?_
      refine h_t 10 rfl rfl (by kernel_rfl) (fun _ _ _ h => h) ⟨hK, hE⟩ rfl (fun W hW => r_move rfl) ?_
      refine h_listed (listed' := #[T',T',T',T',T',T',T',T',T',T',T',F',F',F',F',F',F',F',F',F',F',F',F',F',F']) (by kernel_rfl) ?_
      refine h_case 23 rfl (fun hb => ?_) (fun hb => ?_)
      · have hr23 := hb
        replace hb := of_decide_eq_true hb
        have hsub : IntKind.i64.wrap ((k : Int) - 1) = ((k - 1 : Nat) : Int) := by rw [wrap_small (by omega) (by have := hks.max; omega)]; omega
        refine h_listed (listed' := #[T',T',T',T',T',T',T',T',T',T',T',F',F',F',F',F',F',F',F',F',F',F',F',F',F']) (by kernel_rfl) ?_
        refine h_t 11 rfl rfl (by kernel_rfl) (fun _ _ _ h => h) ⟨hK, hE⟩ rfl (fun W hW => r_fieldAddr (n := 0) rfl Tryz.underlying46 rfl Tryz.sizeOf44 rfl) ?_
        refine h_listed (listed' := #[T',T',T',T',T',T',T',T',T',T',T',T',F',F',F',F',F',F',F',F',F',F',F',F',F']) (by kernel_rfl) ?_
        refine h_t 12 rfl rfl (by kernel_rfl) (fun _ _ _ h => h) ⟨hK, hE⟩ rfl (fun W hW => r_load_blk rfl Tryz.isAgg44 rfl (hW.1.get 0 rfl) rfl) ?_
        refine h_listed (listed' := #[T',T',T',T',T',T',T',T',T',T',T',T',T',F',F',F',F',F',F',F',F',F',F',F',F']) (by kernel_rfl) ?_
        refine h_t 13 rfl rfl (by kernel_rfl) (fun _ _ _ h => h) ⟨hK, hE⟩ rfl (fun W hW => r_move rfl) ?_
        refine h_listed (listed' := #[T',T',T',T',T',T',T',T',T',T',T',T',T',T',F',F',F',F',F',F',F',F',F',F',F']) (by kernel_rfl) ?_
        refine h_t 14 rfl rfl (by kernel_rfl) (fun _ _ _ h => h) ⟨hK, hE⟩ rfl (fun W hW => (r_sub rfl rfl rfl).trans (by rw [hsub])) ?_
        refine h_listed (listed' := #[T',T',T',T',T',T',T',T',T',T',T',T',T',T',T',F',F',F',F',F',F',F',F',F',F']) (by kernel_rfl) ?_
        refine h_t 15 rfl rfl (by kernel_rfl) (fun _ _ _ h => h) ⟨hK, hE⟩ rfl (fun W hW => r_indexAddr_sl rfl Tryz.underlying44 Tryz.sizeOf9 rfl hks.is rfl (by omega) (by omega)) ?_
        refine h_listed (listed' := #[T',T',T',T',T',T',T',T',T',T',T',T',T',T',T',T',F',F',F',F',F',F',F',F',F']) (by kernel_rfl) ?_
        refine h_t 16 rfl rfl (by kernel_rfl) (fun _ _ _ h => h) ⟨hK, hE⟩ rfl (fun W hW => r_load (v := .string (kat x.keys (k - 1))) rfl Tryz.isAgg9 rfl ((hks.keep RStr.kept (Ext0.cells hW.2)).str ((k - 1 : Nat) : Int) (by omega) (by omega))) ?_
        refine h_listed (listed' := #[T',T',T',T',T',T',T',T',T',T',T',T',T',T',T',T',T',F',F',F',F',F',F',F',F']) (by kernel_rfl) ?_
        refine h_t 17 rfl rfl (by kernel_rfl) (fun _ _ _ h => h) ⟨hK, hE⟩ rfl (fun W hW => r_fieldAddr (n := 0) rfl Tryz.underlying46 rfl Tryz.sizeOf44 rfl) ?_
        refine h_listed (listed' := #[T',T',T',T',T',T',T',T',T',T',T',T',T',T',T',T',T',T',F',F',F',F',F',F',F']) (by kernel_rfl) ?_
        refine h_t 18 rfl rfl (by kernel_rfl) (fun _ _ _ h => h) ⟨hK, hE⟩ rfl (fun W hW => r_load_blk rfl Tryz.isAgg44 rfl (hW.1.get 0 rfl) rfl) ?_
        refine h_listed (listed' := #[T',T',T',T',T',T',T',T',T',T',T',T',T',T',T',T',T',T',T',F',F',F',F',F',F']) (by kernel_rfl) ?_
        refine h_t 19 rfl rfl (by kernel_rfl) (fun _ _ _ h => h) ⟨hK, hE⟩ rfl (fun W hW => r_move rfl) ?_
        refine h_listed (listed' := #[T',T',T',T',T',T',T',T',T',T',T',T',T',T',T',T',T',T',T',T',F',F',F',F',F']) (by kernel_rfl) ?_
        refine h_t 20 rfl rfl (by kernel_rfl) (fun _ _ _ h => h) ⟨hK, hE⟩ rfl (fun W hW => r_indexAddr_sl rfl Tryz.underlying44 Tryz.sizeOf9 rfl hks.is rfl (by omega) (by omega)) ?_
        refine h_listed (listed' := #[T',T',T',T',T',T',T',T',T',T',T',T',T',T',T',T',T',T',T',T',T',F',F',F',F']) (by kernel_rfl) ?_
        refine h_t 21 rfl rfl (by kernel_rfl) (fun _ _ _ h => h) ⟨hK, hE⟩ rfl (fun W hW => r_load (v := .string (kat x.keys k)) rfl Tryz.isAgg9 rfl ((hks.keep RStr.kept (Ext0.cells hW.2)).str k (by omega) (by omega))) ?_
        refine h_listed (listed' := #[T',T',T',T',T',T',T',T',T',T',T',T',T',T',T',T',T',T',T',T',T',T',F',F',F']) (by kernel_rfl) ?_
        refine h_t 22 rfl rfl (by kernel_rfl) (fun _ _ _ h => h) ⟨hK, hE⟩ rfl (fun W hW => r_sgeq rfl rfl rfl) ?_
        refine h_listed (listed' := #[T',T',T',T',T',T',T',T',T',T',T',T',T',T',T',T',T',T',T',T',T',T',T',F',F']) (by kernel_rfl) ?_
        refine h_t 23 rfl rfl (by kernel_rfl) (fun _ _ _ h => h) ⟨hK, hE⟩ rfl (fun W hW => r_pick rfl rfl) ?_
        refine h_listed (listed' := #[T',T',T',T',T',T',T',T',T',T',T',T',T',T',T',T',T',T',T',T',T',T',T',T',F']) (by kernel_rfl) ?_
        refine h_t 24 rfl rfl (by kernel_rfl) (fun _ _ _ h => h) ⟨hK, hE⟩ rfl (fun W hW => r_pick rfl rfl) ?_
        refine h_listed (listed' := #[T',T',T',T',T',T',T',T',T',T',T',T',T',T',T',T',T',T',T',T',T',T',T',T',T']) (by kernel_rfl) ?_
        refine h_done (by kernel_rfl) ?_
        refine c_cond rfl (fun hb => ?_) (fun hb => ?_)
        · have hr37 := hb
          have hrf : rKeysB x.keys = false := rKeysB_rise (by have := of_decide_eq_true hr23; omega) hklt (by simpa [ltB] using hb)
          refine c_seq ?_
       
          refine c_ops ?_
          refine l_val rfl rfl rfl (r_assign rfl) ?_
          refine l_nil ?_
          refine c_ret ?_
          exact ⟨ret_bool rfl (by unfold recB; simp only [hrf, hr10, hr20, hr23, hr37, Bool.true_and, Bool.and_true, Bool.false_and, Bool.and_false, Bool.true_or, Bool.or_true, Bool.false_or, Bool.or_false, Bool.not_true, Bool.not_false, cond_true, cond_false]), hE⟩
        · have hr37 := hb
          have hyr : 0 < k → ltB (kat x.keys (k - 1)) (kat x.keys k) = true := fun _ => by simpa [ltB] using hb
          refine c_skip ?_
       
          refine c_ops ?_
          refine l_val rfl rfl rfl (r_move rfl) ?_
          refine l_val rfl rfl rfl (r_add rfl rfl rfl) ?_
          refine l_val rfl rfl rfl (r_assign rfl) ?_
          refine l_nil ?_
          exact ⟨x.keys.length - (k + 1), by omega, ⟨rfl, rfl⟩, k + 1, by omega, rfl, by show Value.int .i64 (IntKind.i64.wrap ((k : Int) + 1)) = _; rw [wrap_succ hklt hks.max], fun j hj => by rcases Nat.lt_or_eq_of_le (Nat.le_of_lt_succ hj) with h | rfl <;> first | exact hall j h | exact ⟨hyn, hyr⟩, hL, hE⟩
      · have hr23 := hb
        replace hb := of_decide_eq_false hb
        have hyr : 0 < k → ltB (kat x.keys (k - 1)) (kat x.keys k) = true := fun h => absurd h (by omega)
        refine h_listed (listed' := #[T',T',T',T',T',T',T',T',T',T',T',F',F',F',F',F',F',F',F',F',F',F',F',F',F']) (by kernel_rfl) ?_
        refine h_n 11 rfl rfl (by kernel_rfl) (fun _ _ _ h => h) ⟨hK, hE⟩ rfl ?_
        refine h_listed (listed' := #[T',T',T',T',T',T',T',T',T',T',T',T',F',F',F',F',F',F',F',F',F',F',F',F',F']) (by kernel_rfl) ?_
        refine h_n 12 rfl rfl (by kernel_rfl) (fun _ _ _ h => h) ⟨hK, hE⟩ rfl ?_
        refine h_listed (listed' := #[T',T',T',T',T',T',T',T',T',T',T',T',T',F',F',F',F',F',F',F',F',F',F',F',F']) (by kernel_rfl) ?_
        refine h_n 13 rfl rfl (by kernel_rfl) (fun _ _ _ h => h) ⟨hK, hE⟩ rfl ?_
        refine h_listed (listed' := #[T',T',T',T',T',T',T',T',T',T',T',T',T',T',F',F',F',F',F',F',F',F',F',F',F']) (by kernel_rfl) ?_
        refine h_n 14 rfl rfl (by kernel_rfl) (fun _ _ _ h => h) ⟨hK, hE⟩ rfl ?_
        refine h_listed (listed' := #[T',T',T',T',T',T',T',T',T',T',T',T',T',T',T',F',F',F',F',F',F',F',F',F',F']) (by kernel_rfl) ?_
        refine h_n 15 rfl rfl (by kernel_rfl) (fun _ _ _ h => h) ⟨hK, hE⟩ rfl ?_
        refine h_listed (listed' := #[T',T',T',T',T',T',T',T',T',T',T',T',T',T',T',T',F',F',F',F',F',F',F',F',F']) (by kernel_rfl) ?_
        refine h_n 16 rfl rfl (by kernel_rfl) (fun _ _ _ h => h) ⟨hK, hE⟩ rfl ?_
        refine h_listed (listed' := #[T',T',T',T',T',T',T',T',T',T',T',T',T',T',T',T',T',F',F',F',F',F',F',F',F']) (by kernel_rfl) ?_
        refine h_n 17 rfl rfl (by kernel_rfl) (fun _ _ _ h => h) ⟨hK, hE⟩ rfl ?_
        refine h_listed (listed' := #[T',T',T',T',T',T',T',T',T',T',T',T',T',T',T',T',T',T',F',F',F',F',F',F',F']) (by kernel_rfl) ?_
        refine h_n 18 rfl rfl (by kernel_rfl) (fun _ _ _ h => h) ⟨hK, hE⟩ rfl ?_
        refine h_listed (listed' := #[T',T',T',T',T',T',T',T',T',T',T',T',T',T',T',T',T',T',T',F',F',F',F',F',F']) (by kernel_rfl) ?_
        refine h_n 19 rfl rfl (by kernel_rfl) (fun _ _ _ h => h) ⟨hK, hE⟩ rfl ?_
        refine h_listed (listed' := #[T',T',T',T',T',T',T',T',T',T',T',T',T',T',T',T',T',T',T',T',F',F',F',F',F']) (by kernel_rfl) ?_
        refine h_n 20 rfl rfl (by kernel_rfl) (fun _ _ _ h => h) ⟨hK, hE⟩ rfl ?_
        refine h_listed (listed' := #[T',T',T',T',T',T',T',T',T',T',T',T',T',T',T',T',T',T',T',T',T',F',F',F',F']) (by kernel_rfl) ?_
        refine h_n 21 rfl rfl (by kernel_rfl) (fun _ _ _ h => h) ⟨hK, hE⟩ rfl ?_
        refine h_listed (listed' := #[T',T',T',T',T',T',T',T',T',T',T',T',T',T',T',T',T',T',T',T',T',T',F',F',F']) (by kernel_rfl) ?_
        refine h_n 22 rfl rfl (by kernel_rfl) (fun _ _ _ h => h) ⟨hK, hE⟩ rfl ?_
        refine h_listed (listed' := #[T',T',T',T',T',T',T',T',T',T',T',T',T',T',T',T',T',T',T',T',T',T',T',F',F']) (by kernel_rfl) ?_
        refine h_t 23 rfl rfl (by kernel_rfl) (fun _ _ _ h => h) ⟨hK, hE⟩ rfl (fun W hW => r_pick rfl rfl) ?_
        refine h_listed (listed' := #[T',T',T',T',T',T',T',T',T',T',T',T',T',T',T',T',T',T',T',T',T',T',T',T',F']) (by kernel_rfl) ?_
        refine h_t 24 rfl rfl (by kernel_rfl) (fun _ _ _ h => h) ⟨hK, hE⟩ rfl (fun W hW => r_pick rfl rfl) ?_
        refine h_listed (listed' := #[T',T',T',T',T',T',T',T',T',T',T',T',T',T',T',T',T',T',T',T',T',T',T',T',T']) (by kernel_rfl) ?_
        refine h_done (by kernel_rfl) ?_
        refine c_no rfl ?_
        refine c_skip ?_
     
        refine c_ops ?_
        refine l_val rfl rfl rfl (r_move rfl) ?_
        refine l_val rfl rfl rfl (r_add rfl rfl rfl) ?_
        refine l_val rfl rfl rfl (r_assign rfl) ?_
        refine l_nil ?_
        exact ⟨x.keys.length - (k + 1), by omega, ⟨rfl, rfl⟩, k + 1, by omega, rfl, by show Value.int .i64 (IntKind.i64.wrap ((k : Int) + 1)) = _; rw [wrap_succ hklt hks.max], fun j hj => by rcases Nat.lt_or_eq_of_le (Nat.le_of_lt_succ hj) with h | rfl <;> first | exact hall j h | exact ⟨hyn, hyr⟩, hL, hE⟩
  · have hr10 := hb
    replace hb := of_decide_eq_false hb
    have hky : rKeysB x.keys = true := rKeysB_yes (fun j hj => hall j (by omega))
    refine c_exit ?_
    refine c_seq ?_
 
    refine c_ops ?_
    refine l_val rfl rfl rfl (r_fieldAddr (n := 0) rfl Tryz.underlying46 rfl Tryz.sizeOf9 rfl) ?_
    refine l_val rfl rfl rfl (r_load_blk rfl Tryz.isAgg9 rfl (hL.get 0 rfl) rfl) ?_
    refine l_val rfl rfl rfl (r_seql rfl rfl rfl) ?_
    refine l_val rfl rfl rfl (r_move rfl) ?_
    refine l_case 41 rfl (fun hb => ?_) (fun hb => ?_)
    · have hr41 := hb
      replace hb := of_decide_eq_true hb
      refine l_val rfl rfl rfl (r_fieldAddr (n := 0) rfl Tryz.underlying46 rfl Tryz.sizeOf3 rfl) ?_
      refine l_val rfl rfl rfl (r_load_blk rfl Tryz.isAgg3 rfl (hL.get 0 rfl) rfl) ?_
      refine l_val rfl rfl rfl (r_eql rfl rfl rfl) ?_
      refine l_val rfl rfl rfl (r_pick rfl rfl) ?_
      refine l_val rfl rfl rfl (r_move rfl) ?_
      refine l_case 46 rfl (fun hb => ?_) (fun hb => ?_)
      · have hr46 := hb
        replace hb := of_decide_eq_true hb
        refine l_val rfl rfl rfl (r_fieldAddr (n := 0) rfl Tryz.underlying46 rfl Tryz.sizeOf44 rfl) ?_
        refine l_val rfl rfl rfl (r_load_blk rfl Tryz.isAgg44 rfl (hL.get 0 rfl) rfl) ?_
        refine l_val rfl rfl rfl (r_len rfl Tryz.underlying44 rfl) ?_
        refine l_val rfl rfl rfl (r_leq rfl rfl rfl) ?_
        refine l_val rfl rfl rfl (r_pick rfl rfl) ?_
        refine l_val rfl rfl rfl (r_move rfl) ?_
        refine l_case 52 rfl (fun hb => ?_) (fun hb => ?_)
        · have hr52 := hb
          replace hb := of_decide_eq_true hb
          refine l_val rfl rfl rfl (r_fieldAddr (n := 0) rfl Tryz.underlying46 rfl Tryz.sizeOf26 rfl) ?_
          refine l_val rfl rfl rfl (r_load_blk rfl Tryz.isAgg26 rfl (hL.get 0 rfl) rfl) ?_
          refine l_val rfl rfl rfl (r_len rfl Tryz.underlying26 rfl) ?_
          refine l_val rfl rfl rfl (r_fieldAddr (n := 0) rfl Tryz.underlying46 rfl Tryz.sizeOf44 rfl) ?_
          refine l_val rfl rfl rfl (r_load_blk rfl Tryz.isAgg44 rfl (hL.get 0 rfl) rfl) ?_
          refine l_val rfl rfl rfl (r_len rfl Tryz.underlying44 rfl) ?_
          refine l_val rfl rfl rfl (r_eql rfl rfl rfl) ?_
          refine l_val rfl rfl rfl (r_pick rfl rfl) ?_
          refine l_val rfl rfl rfl (r_move rfl) ?_
          refine l_case 61 rfl (fun hb => ?_) (fun hb => ?_)
          · have hr61 := hb
            replace hb := of_decide_eq_true hb
            refine l_val rfl rfl rfl (r_move rfl) ?_
            refine l_val rfl rfl rfl (r_fieldAddr (n := 0) rfl Tryz.underlying46 rfl Tryz.sizeOf26 rfl) ?_
            refine l_val rfl rfl rfl (r_load_blk rfl Tryz.isAgg26 rfl (hL.get 0 rfl) rfl) ?_
            refine l_by rfl rfl rfl (r_call rfl rfl Tryz.func82 rfl rfl) (inside_calls _ Ag cg g (hg.keep RNode.kept (Ext0.cells hE)) Al cl x.l (hls.keep RInt.kept (Ext0.cells hE))) ?_
            rintro _ w ⟨rfl, hX⟩
            replace hL := hL.ext0 hX
            replace hE := hE.step0 hX
            refine ⟨_, rfl, ?_⟩
            refine l_val rfl rfl rfl (r_pick rfl rfl) ?_
            refine l_val rfl rfl rfl (r_assign rfl) ?_
            refine l_nil ?_
            refine c_ret ?_
            exact ⟨ret_bool rfl (by unfold recB; simp only [hky, hr10, hr41, hr46, hr52, hr61, Bool.true_and, Bool.and_true, Bool.false_and, Bool.and_false, Bool.true_or, Bool.or_true, Bool.false_or, Bool.or_false, Bool.not_true, Bool.not_false, cond_true, cond_false]), hE⟩
          · have hr61 := hb
            replace hb := of_decide_eq_false hb
            refine l_not rfl rfl rfl ?_
            refine l_not rfl rfl rfl ?_
            refine l_not rfl rfl rfl ?_
            refine l_not rfl rfl rfl ?_
            refine l_val rfl rfl rfl (r_pick rfl rfl) ?_
            refine l_val rfl rfl rfl (r_assign rfl) ?_
            refine l_nil ?_
            refine c_ret ?_
            exact ⟨ret_bool rfl (by unfold recB; simp only [hky, hr10, hr41, hr46, hr52, hr61, Bool.true_and, Bool.and_true, Bool.false_and, Bool.and_false, Bool.true_or, Bool.or_true, Bool.false_or, Bool.or_false, Bool.not_true, Bool.not_false, cond_true, cond_false]), hE⟩
        · have hr52 := hb
          replace hb := of_decide_eq_false hb
          refine l_not rfl rfl rfl ?_
          refine l_not rfl rfl rfl ?_
          refine l_not rfl rfl rfl ?_
          refine l_not rfl rfl rfl ?_
          refine l_not rfl rfl rfl ?_
          refine l_not rfl rfl rfl ?_
          refine l_not rfl rfl rfl ?_
          refine l_val rfl rfl rfl (r_pick rfl rfl) ?_
          refine l_val rfl rfl rfl (r_move rfl) ?_
          refine l_not rfl rfl rfl ?_
          refine l_not rfl rfl rfl ?_
          refine l_not rfl rfl rfl ?_
          refine l_not rfl rfl rfl ?_
          refine l_val rfl rfl rfl (r_pick rfl rfl) ?_
          refine l_val rfl rfl rfl (r_assign rfl) ?_
          refine l_nil ?_
          refine c_ret ?_
          exact ⟨ret_bool rfl (by unfold recB; simp only [hky, hr10, hr41, hr46, hr52, Bool.true_and, Bool.and_true, Bool.false_and, Bool.and_false, Bool.true_or, Bool.or_true, Bool.false_or, Bool.or_false, Bool.not_true, Bool.not_false, cond_true, cond_false]), hE⟩
      · have hr46 := hb
        replace hb := of_decide_eq_false hb
        refine l_not rfl rfl rfl ?_
        refine l_not rfl rfl rfl ?_
        refine l_not rfl rfl rfl ?_
        refine l_not rfl rfl rfl ?_
        refine l_val rfl rfl rfl (r_pick rfl rfl) ?_
        refine l_val rfl rfl rfl (r_move rfl) ?_
        refine l_not rfl rfl rfl ?_
        refine l_not rfl rfl rfl ?_
        refine l_not rfl rfl rfl ?_
        refine l_not rfl rfl rfl ?_
        refine l_not rfl rfl rfl ?_
        refine l_not rfl rfl rfl ?_
        refine l_not rfl rfl rfl ?_
        refine l_val rfl rfl rfl (r_pick rfl rfl) ?_
        refine l_val rfl rfl rfl (r_move rfl) ?_
        refine l_not rfl rfl rfl ?_
        refine l_not rfl rfl rfl ?_
        refine l_not rfl rfl rfl ?_
        refine l_not rfl rfl rfl ?_
        refine l_val rfl rfl rfl (r_pick rfl rfl) ?_
        refine l_val rfl rfl rfl (r_assign rfl) ?_
        refine l_nil ?_
        refine c_ret ?_
        exact ⟨ret_bool rfl (by unfold recB; simp only [hky, hr10, hr41, hr46, Bool.true_and, Bool.and_true, Bool.false_and, Bool.and_false, Bool.true_or, Bool.or_true, Bool.false_or, Bool.or_false, Bool.not_true, Bool.not_false, cond_true, cond_false]), hE⟩
    · have hr41 := hb
      replace hb := of_decide_eq_false hb
      refine l_not rfl rfl rfl ?_
      refine l_not rfl rfl rfl ?_
      refine l_not rfl rfl rfl ?_
      refine l_val rfl rfl rfl (r_pick rfl rfl) ?_
      refine l_val rfl rfl rfl (r_move rfl) ?_
      refine l_not rfl rfl rfl ?_
      refine l_not rfl rfl rfl ?_
      refine l_not rfl rfl rfl ?_
      refine l_not rfl rfl rfl ?_
      refine l_val rfl rfl rfl (r_pick rfl rfl) ?_
      refine l_val rfl rfl rfl (r_move rfl) ?_
      refine l_not rfl rfl rfl ?_
      refine l_not rfl rfl rfl ?_
      refine l_not rfl rfl rfl ?_
      refine l_not rfl rfl rfl ?_
      refine l_not rfl rfl rfl ?_
      refine l_not rfl rfl rfl ?_
      refine l_not rfl rfl rfl ?_
      refine l_val rfl rfl rfl (r_pick rfl rfl) ?_
      refine l_val rfl rfl rfl (r_move rfl) ?_
      refine l_not rfl rfl rfl ?_
      refine l_not rfl rfl rfl ?_
      refine l_not rfl rfl rfl ?_
      refine l_not rfl rfl rfl ?_
      refine l_val rfl rfl rfl (r_pick rfl rfl) ?_
      refine l_val rfl rfl rfl (r_assign rfl) ?_
      refine l_nil ?_
      refine c_ret ?_
      exact ⟨ret_bool rfl (by unfold recB; simp only [hky, hr10, hr41, Bool.true_and, Bool.and_true, Bool.false_and, Bool.and_false, Bool.true_or, Bool.or_true, Bool.false_or, Bool.or_false, Bool.not_true, Bool.not_false, cond_true, cond_false]), hE⟩
def unionB (g : List GNode) (x : GNode) : Bool := !(!decide (x.name = ⟨#[]⟩) || !decide (x.num = 0) || !decide ((x.keys.length : Int) = 0) || decide ((x.l.length : Int) < 2) || !(!x.l.any (outB g.length) && diffB x.l)) && x.l.all (fun k => !decide ((gat g k).kind = 8))
theorem union_rcalls (w0 : World) (Ag : Option Addr) (cg : Nat) (g : List GNode) (hg : Nodes w0 Ag cg g) (hn : g.length ≤ 1000000) (x : GNode) (Ak : Option Addr) (ck : Nat) (Al : Option Addr) (cl : Nat) (hks : Strs w0 Ak ck x.keys) (hls : Ints w0 Al cl x.l) :
    Calls Tryz.prog 81 [.slice Ag g.length cg, .agg (nodeCells x Ak ck Al cl).toArray].toArray w0 fun en w' => en = .returned (.bool (unionB g x)) ∧ Ext0 w0 w' := by
  have hE : Ext0 w0 w0 := Ext.refl _ _
  have hL : Has w0 [] := trivial
  refine calls [4] Tryz.func81 rfl rfl rfl rfl ?_
  refine c_seq ?_
  refine c_ops ?_
  refine l_new rfl rfl rfl (n_box rfl hL hE) ?_
  rintro _ w ⟨b3, rfl, hb3, hL, hE, hX⟩
  refine l_val rfl rfl rfl (r_assign rfl) ?_
  refine l_nil ?_
  refine c_seq ?_
  refine c_merge [6, 7, 8, 9, 10, 11, 12, 13, 14, 15, 16, 17, 18, 19, 20, 21, 22, 23, 24, 25, 26, 27, 28, 29, 30, 31, 32] (fun e w => e 32 = .bool (!decide (x.name = ⟨#[]⟩) || !decide (x.num = 0) || !decide ((x.keys.length : Int) = 0) || decide ((x.l.length : Int) < 2) || !(!x.l.any (outB g.length) && diffB x.l)) ∧ Has w [.blk b3 (.cells (nodeCells x Ak ck Al cl).toArray 46 (0, 0))] ∧ Ext0 w0 w) ?_ ?_
  · skip
 
    refine c_ops ?_
    refine l_val rfl rfl rfl (r_fieldAddr (n := 0) rfl Tryz.underlying46 rfl Tryz.sizeOf9 rfl) ?_
    refine l_val rfl rfl rfl (r_load_blk rfl Tryz.isAgg9 rfl (hL.get 0 rfl) rfl) ?_
    refine l_val rfl rfl rfl (r_sneq rfl rfl rfl) ?_
    refine l_val rfl rfl rfl (r_move rfl) ?_
    refine l_case 9 rfl (fun hb => ?_) (fun hb => ?_)
    · have hr9 := hb
      replace hb := of_decide_eq_false (by simpa using hb)
      refine l_not rfl rfl rfl ?_
      refine l_not rfl rfl rfl ?_
      refine l_not rfl rfl rfl ?_
      refine l_val rfl rfl rfl (r_pick rfl rfl) ?_
      refine l_val rfl rfl rfl (r_move rfl) ?_
      refine l_not rfl rfl rfl ?_
      refine l_not rfl rfl rfl ?_
      refine l_not rfl rfl rfl ?_
      refine l_not rfl rfl rfl ?_
      refine l_val rfl rfl rfl (r_pick rfl rfl) ?_
      refine l_val rfl rfl rfl (r_move rfl) ?_
      refine l_not rfl rfl rfl ?_
      refine l_not rfl rfl rfl ?_
      refine l_not rfl rfl rfl ?_
      refine l_not rfl rfl rfl ?_
      refine l_val rfl rfl rfl (r_pick rfl rfl) ?_
      refine l_val rfl rfl rfl (r_move rfl) ?_
      refine l_not rfl rfl rfl ?_
      refine l_not rfl rfl rfl ?_
      refine l_not rfl rfl rfl ?_
      refine l_not rfl rfl rfl ?_
      refine l_not rfl rfl rfl ?_
      refine l_val rfl rfl rfl (r_pick rfl rfl) ?_
      refine l_nil ?_
      refine ⟨by repeat (first | exact Agree.over _ _ _ | exact Agree.refl _ _ | (refine Agree.puto ?_ _ _ rfl) | (refine Agree.put ?_ _ _ rfl) | (refine Agree.sub ?_ rfl)), ?_⟩
      exact ⟨congrArg Value.bool (by simp only [hr9, Bool.true_and, Bool.and_true, Bool.false_and, Bool.and_false, Bool.true_or, Bool.or_true, Bool.false_or, Bool.or_false, Bool.not_true, Bool.not_false, cond_true, cond_false]), hL, hE⟩
    · have hr9 := hb
      replace hb := of_decide_eq_true (by simpa using hb)
      refine l_val rfl rfl rfl (r_fieldAddr (n := 0) rfl Tryz.underlying46 rfl Tryz.sizeOf3 rfl) ?_
      refine l_val rfl rfl rfl (r_load_blk rfl Tryz.isAgg3 rfl (hL.get 0 rfl) rfl) ?_
      refine l_val rfl rfl rfl (r_neq rfl rfl rfl) ?_
      refine l_val rfl rfl rfl (r_pick rfl rfl) ?_
      refine l_val rfl rfl rfl (r_move rfl) ?_
      refine l_case 14 rfl (fun hb => ?_) (fun hb => ?_)
      · have hr14 := hb
        replace hb := of_decide_eq_false (by simpa using hb)
        refine l_not rfl rfl rfl ?_
        refine l_not rfl rfl rfl ?_
        refine l_not rfl rfl rfl ?_
        refine l_not rfl rfl rfl ?_
        refine l_val rfl rfl rfl (r_pick rfl rfl) ?_
        refine l_val rfl rfl rfl (r_move rfl) ?_
        refine l_not rfl rfl rfl ?_
        refine l_not rfl rfl rfl ?_
        refine l_not rfl rfl rfl ?_
        refine l_not rfl rfl rfl ?_
        refine l_val rfl rfl rfl (r_pick rfl rfl) ?_
        refine l_val rfl rfl rfl (r_move rfl) ?_
        refine l_not rfl rfl rfl ?_
        refine l_not rfl rfl rfl ?_
        refine l_not rfl rfl rfl ?_
        refine l_not rfl rfl rfl ?_
        refine l_not rfl rfl rfl ?_
        refine l_val rfl rfl rfl (r_pick rfl rfl) ?_
        refine l_nil ?_
        refine ⟨by repeat (first | exact Agree.over _ _ _ | exact Agree.refl _ _ | (refine Agree.puto ?_ _ _ rfl) | (refine Agree.put ?_ _ _ rfl) | (refine Agree.sub ?_ rfl)), ?_⟩
        exact ⟨congrArg Value.bool (by simp only [hr9, hr14, Bool.true_and, Bool.and_true, Bool.false_and, Bool.and_false, Bool.true_or, Bool.or_true, Bool.false_or, Bool.or_false, Bool.not_true, Bool.not_false, cond_true, cond_false]), hL, hE⟩
      · have hr14 := hb
        replace hb := of_decide_eq_true (by simpa using hb)
        refine l_val rfl rfl rfl (r_fieldAddr (n := 0) rfl Tryz.underlying46 rfl Tryz.sizeOf44 rfl) ?_
        refine l_val rfl rfl rfl (r_load_blk rfl Tryz.isAgg44 rfl (hL.get 0 rfl) rfl) ?_
        refine l_val rfl rfl rfl (r_len rfl Tryz.underlying44 rfl) ?_
        refine l_val rfl rfl rfl (r_neq rfl rfl rfl) ?_
        refine l_val rfl rfl rfl (r_pick rfl rfl) ?_
        refine l_val rfl rfl rfl (r_move rfl) ?_
        refine l_case 20 rfl (fun hb => ?_) (fun hb => ?_)
        · have hr20 := hb
          replace hb := of_decide_eq_false (by simpa using hb)
          refine l_not rfl rfl rfl ?_
          refine l_not rfl rfl rfl ?_
          refine l_not rfl rfl rfl ?_
          refine l_not rfl rfl rfl ?_
          refine l_val rfl rfl rfl (r_pick rfl rfl) ?_
          refine l_val rfl rfl rfl (r_move rfl) ?_
          refine l_not rfl rfl rfl ?_
          refine l_not rfl rfl rfl ?_
          refine l_not rfl rfl rfl ?_
          refine l_not rfl rfl rfl ?_
          refine l_not rfl rfl rfl ?_
          refine l_val rfl rfl rfl (r_pick rfl rfl) ?_
          refine l_nil ?_
          refine ⟨by repeat (first | exact Agree.over _ _ _ | exact Agree.refl _ _ | (refine Agree.puto ?_ _ _ rfl) | (refine Agree.put ?_ _ _ rfl) | (refine Agree.sub ?_ rfl)), ?_⟩
          exact ⟨congrArg Value.bool (by simp only [hr9, hr14, hr20, Bool.true_and, Bool.and_true, Bool.false_and, Bool.and_false, Bool.true_or, Bool.or_true, Bool.false_or, Bool.or_false, Bool.not_true, Bool.not_false, cond_true, cond_false]), hL, hE⟩
        · have hr20 := hb
          replace hb := of_decide_eq_true (by simpa using hb)
          refine l_val rfl rfl rfl (r_fieldAddr (n := 0) rfl Tryz.underlying46 rfl Tryz.sizeOf26 rfl) ?_
          refine l_val rfl rfl rfl (r_load_blk rfl Tryz.isAgg26 rfl (hL.get 0 rfl) rfl) ?_
          refine l_val rfl rfl rfl (r_len rfl Tryz.underlying26 rfl) ?_
          refine l_val rfl rfl rfl (r_lss rfl rfl rfl) ?_
          refine l_val rfl rfl rfl (r_pick rfl rfl) ?_
          refine l_val rfl rfl rfl (r_move rfl) ?_
          refine l_case 26 rfl (fun hb => ?_) (fun hb => ?_)
          · have hr26 := hb
            replace hb := of_decide_eq_true hb
            refine l_not rfl rfl rfl ?_
            refine l_not rfl rfl rfl ?_
            refine l_not rfl rfl rfl ?_
            refine l_not rfl rfl rfl ?_
            refine l_not rfl rfl rfl ?_
            refine l_val rfl rfl rfl (r_pick rfl rfl) ?_
            refine l_nil ?_
            refine ⟨by repeat (first | exact Agree.over _ _ _ | exact Agree.refl _ _ | (refine Agree.puto ?_ _ _ rfl) | (refine Agree.put ?_ _ _ rfl) | (refine Agree.sub ?_ rfl)), ?_⟩
            exact ⟨congrArg Value.bool (by simp only [hr9, hr14, hr20, hr26, Bool.true_and, Bool.and_true, Bool.false_and, Bool.and_false, Bool.true_or, Bool.or_true, Bool.false_or, Bool.or_false, Bool.not_true, Bool.not_false, cond_true, cond_false]), hL, hE⟩
          · have hr26 := hb
            replace hb := of_decide_eq_false hb
            refine l_val rfl rfl rfl (r_move rfl) ?_
            refine l_val rfl rfl rfl (r_fieldAddr (n := 0) rfl Tryz.underlying46 rfl Tryz.sizeOf26 rfl) ?_
            refine l_val rfl rfl rfl (r_load_blk rfl Tryz.isAgg26 rfl (hL.get 0 rfl) rfl) ?_
            refine l_by rfl rfl rfl (r_call rfl rfl Tryz.func100 rfl rfl) (places_calls _ Ag cg g (hg.keep RNode.kept (Ext0.cells hE)) hn Al cl x.l (hls.keep RInt.kept (Ext0.cells hE))) ?_
            rintro _ w ⟨rfl, hX⟩
            replace hL := hL.ext0 hX
            replace hE := hE.step0 hX
            refine ⟨_, rfl, ?_⟩
            refine l_val rfl rfl rfl (r_not rfl rfl) ?_
            refine l_val rfl rfl rfl (r_pick rfl rfl) ?_
            refine l_nil ?_
            refine ⟨by repeat (first | exact Agree.over _ _ _ | exact Agree.refl _ _ | (refine Agree.puto ?_ _ _ rfl) | (refine Agree.put ?_ _ _ rfl) | (refine Agree.sub ?_ rfl)), ?_⟩
            exact ⟨congrArg Value.bool (by simp only [hr9, hr14, hr20, hr26, Bool.true_and, Bool.and_true, Bool.false_and, Bool.and_false, Bool.true_or, Bool.or_true, Bool.false_or, Bool.or_false, Bool.not_true, Bool.not_false, cond_true, cond_false]), hL, hE⟩
  rintro e w hI
  obtain ⟨h32, hL, hE⟩ := hI
  refine c_know h32 ?_
  refine c_cond rfl (fun hb => ?_) (fun hb => ?_)
  · have hr32 := hb
    have hq := hr32
    refine c_seq ?_
 
    refine c_ops ?_
    refine l_val rfl rfl rfl (r_assign rfl) ?_
    refine l_nil ?_
    refine c_ret ?_
    exact ⟨ret_bool rfl (by unfold unionB; rw [hq]; rfl), hE⟩
  · have hr32 := hb
    have hq := hr32
    have hins : x.l.any (outB g.length) = false := by have h := hq; simp only [Bool.or_eq_false_iff, Bool.not_eq_false', Bool.and_eq_true, Bool.not_eq_true'] at h; exact h.2.1
    refine c_skip ?_
    refine c_seq ?_
    refine c_seq ?_
 
    refine c_ops ?_
    refine l_val rfl rfl rfl (r_assign rfl) ?_
    refine l_nil ?_
    refine c_block ?_
 
    refine c_loop0 (fun m1 e w => (e 0 = .slice Ag g.length cg ∧ e 3 = .pointer (some ⟨b3, 0, none⟩)) ∧ ∃ (k : Nat), k ≤ x.l.length ∧ m1 = x.l.length - k ∧ e 5 = .int .i64 (k : Nat) ∧ (∀ j : Nat, j < k → (gat g (iat x.l j)).kind ≠ 8) ∧ Has w [.blk b3 (.cells (nodeCells x Ak ck Al cl).toArray 46 (0, 0))] ∧ Ext0 w0 w) (x.l.length) ?_ ?_
    · exact ⟨⟨rfl, rfl⟩, 0, Nat.zero_le _, rfl, rfl, fun j hj => absurd hj (Nat.not_lt_zero _), hL, hE⟩
    rintro m1 e w ⟨⟨hq0, hq3⟩, hI⟩
    refine c_know (t := 0) (by exact hq0) ?_
    refine c_know (t := 3) (by exact hq3) ?_
    clear hq0 hq3
    obtain ⟨k, hkl, hkm, h5s, hall, hL, hE⟩ := hI
    refine c_know (t := 5) (by exact h5s) ?_
    refine c_seq ?_
    refine c_seq ?_
 
    refine c_ops ?_
    refine l_val rfl rfl rfl (r_move rfl) ?_
    refine l_val rfl rfl rfl (r_fieldAddr (n := 0) rfl Tryz.underlying46 rfl Tryz.sizeOf26 rfl) ?_
    refine l_val rfl rfl rfl (r_load_blk rfl Tryz.isAgg26 rfl (hL.get 0 rfl) rfl) ?_
    refine l_val rfl rfl rfl (r_len rfl Tryz.underlying26 rfl) ?_
    refine l_val rfl rfl rfl (r_lss rfl rfl rfl) ?_
    refine l_nil ?_
    refine c_cond rfl (fun hb => ?_) (fun hb => ?_)
    · have hr37 := hb
      replace hb := of_decide_eq_true hb
      have hklt : k < x.l.length := by omega
      have hk := iat_nat hklt
      have hin : 0 ≤ iat x.l k ∧ iat x.l k < g.length := outB_no (any_false hins (List.mem_of_getElem? hk))
      refine c_skip ?_
      refine c_seq ?_
      refine c_block ?_
      refine c_seq ?_
   
      refine c_ops ?_
      refine l_val rfl rfl rfl (r_move rfl) ?_
      refine l_val rfl rfl rfl (r_fieldAddr (n := 0) rfl Tryz.underlying46 rfl Tryz.sizeOf26 rfl) ?_
      refine l_val rfl rfl rfl (r_load_blk rfl Tryz.isAgg26 rfl (hL.get 0 rfl) rfl) ?_
      refine l_val rfl rfl rfl (r_move rfl) ?_
      refine l_val rfl rfl rfl (r_indexAddr_sl rfl Tryz.underlying26 Tryz.sizeOf3 rfl hls.is rfl (by omega) (by omega)) ?_
      refine l_val rfl rfl rfl (r_load (v := .int .i64 (iat x.l k)) rfl Tryz.isAgg3 rfl ((hls.keep RInt.kept (Ext0.cells hE)).int k (by omega) (by omega))) ?_
      obtain ⟨Ak1, ck1, Al1, cl1, hcell, _, _⟩ := hg.node (iat x.l k) hin.1 hin.2
      refine l_val rfl rfl rfl (r_indexAddr_sl rfl Tryz.underlying22 Tryz.sizeOf46 rfl hg.is rfl hin.1 hin.2) ?_
      refine l_val rfl rfl rfl (r_fieldAddr (n := 0) rfl Tryz.underlying46 rfl Tryz.sizeOf3 rfl) ?_
      refine l_val rfl rfl rfl (r_load rfl Tryz.isAgg3 rfl (Ext0.cells hE _ _ (hcell 0 _ rfl))) ?_
      refine l_val rfl rfl rfl (r_eql rfl rfl rfl) ?_
      refine l_nil ?_
      refine c_cond rfl (fun hb => ?_) (fun hb => ?_)
      · have hr49 := hb
        replace hb := of_decide_eq_true hb
        have hno : (x.l.all fun k => !decide ((gat g k).kind = 8)) = false := by
          rw [List.all_eq_false]
          exact ⟨_, List.mem_of_getElem? hk, by simpa using hb⟩
        refine c_seq ?_
     
        refine c_ops ?_
        refine l_val rfl rfl rfl (r_assign rfl) ?_
        refine l_nil ?_
        refine c_ret ?_
        exact ⟨ret_bool rfl (by unfold unionB; rw [hno, Bool.and_false]), hE⟩
      · have hr49 := hb
        replace hb := of_decide_eq_false hb
        refine c_skip ?_
     
        refine c_ops ?_
        refine l_val rfl rfl rfl (r_move rfl) ?_
        refine l_val rfl rfl rfl (r_add rfl rfl rfl) ?_
        refine l_val rfl rfl rfl (r_assign rfl) ?_
        refine l_nil ?_
        exact ⟨x.l.length - (k + 1), by omega, ⟨rfl, rfl⟩, k + 1, by omega, rfl, by show Value.int .i64 (IntKind.i64.wrap ((k : Int) + 1)) = _; rw [wrap_succ hklt hls.max], fun j hj => by rcases Nat.lt_or_eq_of_le (Nat.le_of_lt_succ hj) with h | rfl <;> first | exact hall j h | exact hb, hL, hE⟩
    · have hr37 := hb
      replace hb := of_decide_eq_false hb
      have hyes : (x.l.all fun k => !decide ((gat g k).kind = 8)) = true := by
        rw [List.all_eq_true]
        intro y hy
        obtain ⟨j, hj⟩ := List.mem_iff_getElem?.1 hy
        have hjl := (List.getElem?_eq_some_iff.1 hj).1
        rw [iat_nat hjl] at hj
        cases hj
        simpa using hall j (by omega)
      refine c_exit ?_
      refine c_seq ?_
   
      refine c_ops ?_
      refine l_val rfl rfl rfl (r_assign rfl) ?_
      refine l_nil ?_
      refine c_ret ?_
      exact ⟨ret_bool rfl (by unfold unionB; rw [hq, hyes]; rfl), hE⟩
def bare3 (x : GNode) : Bool := decide ((x.keys.length : Int) = 0) && decide ((x.l.length : Int) = 0) && decide (x.num = 0)
def rMayB (g : List GNode) (x : GNode) : Bool :=
  cond (bareB x) (bare3 x && decide (x.name = ⟨#[]⟩))
  (cond (decide (x.kind = 5)) (bare3 x && (isNameB x.name || isKeyB x.name))
  (cond (decide (x.kind = 7)) (recB g x)
  (cond (decide (x.kind = 8)) (unionB g x)
  (cond (decide (x.kind = 9)) (decide (x.name = ⟨#[]⟩) && decide ((x.keys.length : Int) = 0) && decide (0 ≤ x.num) && decide (x.num < 16) && decide ((x.l.length : Int) = 1) && !x.l.any (outB g.length)) false))))
set_option maxHeartbeats 2000000 in
theorem may_rcalls (w0 : World) (Ag : Option Addr) (cg : Nat) (g : List GNode) (hg : Nodes w0 Ag cg g) (hn : g.length ≤ 1000000) (x : GNode) (Ak : Option Addr) (ck : Nat) (Al : Option Addr) (cl : Nat) (hks : Strs w0 Ak ck x.keys) (hls : Ints w0 Al cl x.l) (hfit : FitsN x) :
    Calls Tryz.prog 54 [.slice Ag g.length cg, .agg (nodeCells x Ak ck Al cl).toArray].toArray w0 fun en w' => en = .returned (.bool (rMayB g x)) ∧ Ext0 w0 w' := by
  have hE : Ext0 w0 w0 := Ext.refl _ _
  have hL : Has w0 [] := trivial
  refine calls [4] Tryz.func54 rfl rfl rfl rfl ?_
  refine c_seq ?_
  refine c_ops ?_
  refine l_new rfl rfl rfl (n_box rfl hL hE) ?_
  rintro _ w ⟨b3, rfl, hb3, hL, hE, hX⟩
  refine l_val rfl rfl rfl (r_assign rfl) ?_
  refine l_nil ?_
  refine c_merge [5, 6, 7, 8, 9, 10, 11, 12, 13, 14, 15, 16, 17, 18, 19, 20] (fun e w => e 5 = .bool (bare3 x) ∧ Has w [.blk b3 (.cells (nodeCells x Ak ck Al cl).toArray 46 (0, 0))] ∧ Ext0 w0 w) ?_ ?_
  · skip
 
    refine c_ops ?_
    refine l_val rfl rfl rfl (r_fieldAddr (n := 0) rfl Tryz.underlying46 rfl Tryz.sizeOf44 rfl) ?_
    refine l_val rfl rfl rfl (r_load_blk rfl Tryz.isAgg44 rfl (hL.get 0 rfl) rfl) ?_
    refine l_val rfl rfl rfl (r_len rfl Tryz.underlying44 rfl) ?_
    refine l_val rfl rfl rfl (r_eql rfl rfl rfl) ?_
    refine l_val rfl rfl rfl (r_move rfl) ?_
    refine l_case 10 rfl (fun hb => ?_) (fun hb => ?_)
    · have hr10 := hb
      replace hb := of_decide_eq_true hb
      refine l_val rfl rfl rfl (r_fieldAddr (n := 0) rfl Tryz.underlying46 rfl Tryz.sizeOf26 rfl) ?_
      refine l_val rfl rfl rfl (r_load_blk rfl Tryz.isAgg26 rfl (hL.get 0 rfl) rfl) ?_
      refine l_val rfl rfl rfl (r_len rfl Tryz.underlying26 rfl) ?_
      refine l_val rfl rfl rfl (r_eql rfl rfl rfl) ?_
      refine l_val rfl rfl rfl (r_pick rfl rfl) ?_
      refine l_val rfl rfl rfl (r_move rfl) ?_
      refine l_case 16 rfl (fun hb => ?_) (fun hb => ?_)
      · have hr16 := hb
        replace hb := of_decide_eq_true hb
        refine l_val rfl rfl rfl (r_fieldAddr (n := 0) rfl Tryz.underlying46 rfl Tryz.sizeOf3 rfl) ?_
        refine l_val rfl rfl rfl (r_load_blk rfl Tryz.isAgg3 rfl (hL.get 0 rfl) rfl) ?_
        refine l_val rfl rfl rfl (r_eql rfl rfl rfl) ?_
        refine l_val rfl rfl rfl (r_pick rfl rfl) ?_
        refine l_val rfl rfl rfl (r_assign rfl) ?_
        refine l_nil ?_
        refine ⟨by repeat (first | exact Agree.over _ _ _ | exact Agree.refl _ _ | (refine Agree.puto ?_ _ _ rfl) | (refine Agree.put ?_ _ _ rfl) | (refine Agree.sub ?_ rfl)), ?_⟩
        exact ⟨congrArg Value.bool (by simp only [bare3, hr10, hr16, Bool.true_and, Bool.and_true, Bool.false_and, Bool.and_false, Bool.true_or, Bool.or_true, Bool.false_or, Bool.or_false, Bool.not_true, Bool.not_false, cond_true, cond_false]), hL, hE⟩
      · have hr16 := hb
        replace hb := of_decide_eq_false hb
        refine l_not rfl rfl rfl ?_
        refine l_not rfl rfl rfl ?_
        refine l_not rfl rfl rfl ?_
        refine l_val rfl rfl rfl (r_pick rfl rfl) ?_
        refine l_val rfl rfl rfl (r_assign rfl) ?_
        refine l_nil ?_
        refine ⟨by repeat (first | exact Agree.over _ _ _ | exact Agree.refl _ _ | (refine Agree.puto ?_ _ _ rfl) | (refine Agree.put ?_ _ _ rfl) | (refine Agree.sub ?_ rfl)), ?_⟩
        exact ⟨congrArg Value.bool (by simp only [bare3, hr10, hr16, Bool.true_and, Bool.and_true, Bool.false_and, Bool.and_false, Bool.true_or, Bool.or_true, Bool.false_or, Bool.or_false, Bool.not_true, Bool.not_false, cond_true, cond_false]), hL, hE⟩
    · have hr10 := hb
      replace hb := of_decide_eq_false hb
      refine l_not rfl rfl rfl ?_
      refine l_not rfl rfl rfl ?_
      refine l_not rfl rfl rfl ?_
      refine l_not rfl rfl rfl ?_
      refine l_val rfl rfl rfl (r_pick rfl rfl) ?_
      refine l_val rfl rfl rfl (r_move rfl) ?_
      refine l_not rfl rfl rfl ?_
      refine l_not rfl rfl rfl ?_
      refine l_not rfl rfl rfl ?_
      refine l_val rfl rfl rfl (r_pick rfl rfl) ?_
      refine l_val rfl rfl rfl (r_assign rfl) ?_
      refine l_nil ?_
      refine ⟨by repeat (first | exact Agree.over _ _ _ | exact Agree.refl _ _ | (refine Agree.puto ?_ _ _ rfl) | (refine Agree.put ?_ _ _ rfl) | (refine Agree.sub ?_ rfl)), ?_⟩
      exact ⟨congrArg Value.bool (by simp only [bare3, hr10, Bool.true_and, Bool.and_true, Bool.false_and, Bool.and_false, Bool.true_or, Bool.or_true, Bool.false_or, Bool.or_false, Bool.not_true, Bool.not_false, cond_true, cond_false]), hL, hE⟩
  rintro e w hI
  obtain ⟨h5, hL, hE⟩ := hI
  refine c_know h5 ?_
  refine c_seq ?_
  refine c_seq ?_
  refine c_ops ?_
  refine l_val rfl rfl rfl (r_fieldAddr (n := 0) rfl Tryz.underlying46 rfl Tryz.sizeOf3 rfl) ?_
  refine l_val rfl rfl rfl (r_load_blk rfl Tryz.isAgg3 rfl (hL.get 0 rfl) rfl) ?_
  refine l_nil ?_
  refine c_block ?_
  refine c_merge [23, 24, 25, 26, 27] (fun e w => e 23 = .bool (bareB x) ∧ Has w [.blk b3 (.cells (nodeCells x Ak ck Al cl).toArray 46 (0, 0))] ∧ Ext0 w0 w) ?_ ?_
  · refine c_seq ?_
 
    refine c_ops ?_
    refine l_val rfl rfl rfl (r_eql rfl rfl rfl) ?_
    refine l_val rfl rfl rfl (r_assign rfl) ?_
    refine l_nil ?_
    refine c_cond rfl (fun hb => ?_) (fun hb => ?_)
    · have hr23 := hb
      replace hb := of_decide_eq_true hb
      refine c_skip ?_
      refine ⟨by repeat (first | exact Agree.over _ _ _ | exact Agree.refl _ _ | (refine Agree.puto ?_ _ _ rfl) | (refine Agree.put ?_ _ _ rfl) | (refine Agree.sub ?_ rfl)), ?_⟩
      exact ⟨congrArg Value.bool (by simp_all [bareB]), hL, hE⟩
    · have hr23 := hb
      replace hb := of_decide_eq_false hb
      refine c_seq ?_
   
      refine c_ops ?_
      refine l_val rfl rfl rfl (r_eql rfl rfl rfl) ?_
      refine l_val rfl rfl rfl (r_assign rfl) ?_
      refine l_nil ?_
      refine c_cond rfl (fun hb => ?_) (fun hb => ?_)
      · have hr23' := hb
        replace hb := of_decide_eq_true hb
        refine c_skip ?_
        refine ⟨by repeat (first | exact Agree.over _ _ _ | exact Agree.refl _ _ | (refine Agree.puto ?_ _ _ rfl) | (refine Agree.put ?_ _ _ rfl) | (refine Agree.sub ?_ rfl)), ?_⟩
        exact ⟨congrArg Value.bool (by simp_all [bareB]), hL, hE⟩
      · have hr23' := hb
        replace hb := of_decide_eq_false hb
        refine c_seq ?_
     
        refine c_ops ?_
        refine l_val rfl rfl rfl (r_eql rfl rfl rfl) ?_
        refine l_val rfl rfl rfl (r_assign rfl) ?_
        refine l_nil ?_
        refine c_cond rfl (fun hb => ?_) (fun hb => ?_)
        · have hr23'' := hb
          replace hb := of_decide_eq_true hb
          refine c_skip ?_
          refine ⟨by repeat (first | exact Agree.over _ _ _ | exact Agree.refl _ _ | (refine Agree.puto ?_ _ _ rfl) | (refine Agree.put ?_ _ _ rfl) | (refine Agree.sub ?_ rfl)), ?_⟩
          exact ⟨congrArg Value.bool (by simp_all [bareB]), hL, hE⟩
        · have hr23'' := hb
          replace hb := of_decide_eq_false hb
       
          refine c_ops ?_
          refine l_val rfl rfl rfl (r_eql rfl rfl rfl) ?_
          refine l_val rfl rfl rfl (r_assign rfl) ?_
          refine l_nil ?_
          refine ⟨by repeat (first | exact Agree.over _ _ _ | exact Agree.refl _ _ | (refine Agree.puto ?_ _ _ rfl) | (refine Agree.put ?_ _ _ rfl) | (refine Agree.sub ?_ rfl)), ?_⟩
          exact ⟨congrArg Value.bool (by simp_all [bareB]), hL, hE⟩
  rintro e w hI
  obtain ⟨h23, hL, hE⟩ := hI
  refine c_know h23 ?_
  refine c_cond rfl (fun hb => ?_) (fun hb => ?_)
  · have hr23 := hb
    refine c_seq ?_
 
    refine c_ops ?_
    refine l_val rfl rfl rfl (r_move rfl) ?_
    refine l_val rfl rfl rfl (r_move rfl) ?_
    refine l_case 29 rfl (fun hb => ?_) (fun hb => ?_)
    · have hr29 := hb
      refine l_val rfl rfl rfl (r_fieldAddr (n := 0) rfl Tryz.underlying46 rfl Tryz.sizeOf9 rfl) ?_
      refine l_val rfl rfl rfl (r_load_blk rfl Tryz.isAgg9 rfl (hL.get 0 rfl) rfl) ?_
      refine l_val rfl rfl rfl (r_seql rfl rfl rfl) ?_
      refine l_val rfl rfl rfl (r_pick rfl rfl) ?_
      refine l_val rfl rfl rfl (r_assign rfl) ?_
      refine l_nil ?_
      refine c_ret ?_
      exact ⟨ret_bool rfl (by simp only [rMayB, hr23, hr29, Bool.true_and, Bool.and_true, Bool.false_and, Bool.and_false, Bool.true_or, Bool.or_true, Bool.false_or, Bool.or_false, Bool.not_true, Bool.not_false, cond_true, cond_false]), hE⟩
    · have hr29 := hb
      refine l_not rfl rfl rfl ?_
      refine l_not rfl rfl rfl ?_
      refine l_not rfl rfl rfl ?_
      refine l_val rfl rfl rfl (r_pick rfl rfl) ?_
      refine l_val rfl rfl rfl (r_assign rfl) ?_
      refine l_nil ?_
      refine c_ret ?_
      exact ⟨ret_bool rfl (by simp only [rMayB, hr23, hr29, Bool.true_and, Bool.and_true, Bool.false_and, Bool.and_false, Bool.true_or, Bool.or_true, Bool.false_or, Bool.or_false, Bool.not_true, Bool.not_false, cond_true, cond_false]), hE⟩
  · have hr23 := hb
    refine c_seq ?_
 
    refine c_ops ?_
    refine l_val rfl rfl rfl (r_eql rfl rfl rfl) ?_
    refine l_val rfl rfl rfl (r_assign rfl) ?_
    refine l_nil ?_
    refine c_cond rfl (fun hb => ?_) (fun hb => ?_)
    · have hr34 := hb
      replace hb := of_decide_eq_true hb
      refine c_seq ?_
   
      refine c_ops ?_
      refine l_val rfl rfl rfl (r_move rfl) ?_
      refine l_val rfl rfl rfl (r_move rfl) ?_
      refine l_case 37 rfl (fun hb => ?_) (fun hb => ?_)
      · have hr37 := hb
        refine l_val rfl rfl rfl (r_fieldAddr (n := 0) rfl Tryz.underlying46 rfl Tryz.sizeOf9 rfl) ?_
        refine l_val rfl rfl rfl (r_load_blk rfl Tryz.isAgg9 rfl (hL.get 0 rfl) rfl) ?_
        refine l_by rfl rfl rfl (r_call rfl rfl Tryz.func78 rfl rfl) (rIsName_calls _ _ hfit.1) ?_
        rintro _ w ⟨rfl, hX⟩
        replace hL := hL.ext0 hX
        replace hE := hE.step0 hX
        refine ⟨_, rfl, ?_⟩
        refine l_val rfl rfl rfl (r_move rfl) ?_
        refine l_case 41 rfl (fun hb => ?_) (fun hb => ?_)
        · have hr41 := hb
          refine l_not rfl rfl rfl ?_
          refine l_not rfl rfl rfl ?_
          refine l_not rfl rfl rfl ?_
          refine l_val rfl rfl rfl (r_pick rfl rfl) ?_
          refine l_val rfl rfl rfl (r_pick rfl rfl) ?_
          refine l_val rfl rfl rfl (r_assign rfl) ?_
          refine l_nil ?_
          refine c_ret ?_
          exact ⟨ret_bool rfl (by simp only [rMayB, hr23, hr34, hr37, hr41, Bool.true_and, Bool.and_true, Bool.false_and, Bool.and_false, Bool.true_or, Bool.or_true, Bool.false_or, Bool.or_false, Bool.not_true, Bool.not_false, cond_true, cond_false]), hE⟩
        · have hr41 := hb
          refine l_val rfl rfl rfl (r_fieldAddr (n := 0) rfl Tryz.underlying46 rfl Tryz.sizeOf9 rfl) ?_
          refine l_val rfl rfl rfl (r_load_blk rfl Tryz.isAgg9 rfl (hL.get 0 rfl) rfl) ?_
          refine l_by rfl rfl rfl (r_call rfl rfl Tryz.func79 rfl rfl) (rIsKey_calls _ _) ?_
          rintro _ w ⟨rfl, hX⟩
          replace hL := hL.ext0 hX
          replace hE := hE.step0 hX
          refine ⟨_, rfl, ?_⟩
          refine l_val rfl rfl rfl (r_pick rfl rfl) ?_
          refine l_val rfl rfl rfl (r_pick rfl rfl) ?_
          refine l_val rfl rfl rfl (r_assign rfl) ?_
          refine l_nil ?_
          refine c_ret ?_
          exact ⟨ret_bool rfl (by simp only [rMayB, hr23, hr34, hr37, hr41, Bool.true_and, Bool.and_true, Bool.false_and, Bool.and_false, Bool.true_or, Bool.or_true, Bool.false_or, Bool.or_false, Bool.not_true, Bool.not_false, cond_true, cond_false]), hE⟩
      · have hr37 := hb
        refine l_not rfl rfl rfl ?_
        refine l_not rfl rfl rfl ?_
        refine l_not rfl rfl rfl ?_
        refine l_not rfl rfl rfl ?_
        refine l_not rfl rfl rfl ?_
        refine l_not rfl rfl rfl ?_
        refine l_not rfl rfl rfl ?_
        refine l_not rfl rfl rfl ?_
        refine l_val rfl rfl rfl (r_pick rfl rfl) ?_
        refine l_val rfl rfl rfl (r_assign rfl) ?_
        refine l_nil ?_
        refine c_ret ?_
        exact ⟨ret_bool rfl (by simp only [rMayB, hr23, hr34, hr37, Bool.true_and, Bool.and_true, Bool.false_and, Bool.and_false, Bool.true_or, Bool.or_true, Bool.false_or, Bool.or_false, Bool.not_true, Bool.not_false, cond_true, cond_false]), hE⟩
    · have hr34 := hb
      replace hb := of_decide_eq_false hb
      refine c_seq ?_
   
      refine c_ops ?_
      refine l_val rfl rfl rfl (r_eql rfl rfl rfl) ?_
      refine l_val rfl rfl rfl (r_assign rfl) ?_
      refine l_nil ?_
      refine c_cond rfl (fun hb => ?_) (fun hb => ?_)
      · have hr47 := hb
        replace hb := of_decide_eq_true hb
        refine c_seq ?_
     
        refine c_ops ?_
        refine l_val rfl rfl rfl (r_move rfl) ?_
        refine l_val rfl rfl rfl (r_load_blk_agg rfl Tryz.isAgg46 Tryz.sizeOf46 rfl (hL.get 0 rfl) rfl) ?_
        refine l_by rfl rfl rfl (r_call rfl rfl Tryz.func80 rfl rfl) (record_rcalls _ Ag cg g (hg.keep RNode.kept (Ext0.cells hE)) x Ak ck Al cl (hks.keep RStr.kept (Ext0.cells hE)) (hls.keep RInt.kept (Ext0.cells hE)) hfit) ?_
        rintro _ w ⟨rfl, hX⟩
        replace hL := hL.ext0 hX
        replace hE := hE.step0 hX
        refine ⟨_, rfl, ?_⟩
        refine l_val rfl rfl rfl (r_assign rfl) ?_
        refine l_nil ?_
        refine c_ret ?_
        exact ⟨ret_bool rfl (by simp only [rMayB, hr23, hr34, hr47, Bool.true_and, Bool.and_true, Bool.false_and, Bool.and_false, Bool.true_or, Bool.or_true, Bool.false_or, Bool.or_false, Bool.not_true, Bool.not_false, cond_true, cond_false]), hE⟩
      · have hr47 := hb
        replace hb := of_decide_eq_false hb
        refine c_seq ?_
     
        refine c_ops ?_
        refine l_val rfl rfl rfl (r_eql rfl rfl rfl) ?_
        refine l_val rfl rfl rfl (r_assign rfl) ?_
        refine l_nil ?_
        refine c_cond rfl (fun hb => ?_) (fun hb => ?_)
        · have hr52 := hb
          replace hb := of_decide_eq_true hb
          refine c_seq ?_
       
          refine c_ops ?_
          refine l_val rfl rfl rfl (r_move rfl) ?_
          refine l_val rfl rfl rfl (r_load_blk_agg rfl Tryz.isAgg46 Tryz.sizeOf46 rfl (hL.get 0 rfl) rfl) ?_
          refine l_by rfl rfl rfl (r_call rfl rfl Tryz.func81 rfl rfl) (union_rcalls _ Ag cg g (hg.keep RNode.kept (Ext0.cells hE)) hn x Ak ck Al cl (hks.keep RStr.kept (Ext0.cells hE)) (hls.keep RInt.kept (Ext0.cells hE))) ?_
          rintro _ w ⟨rfl, hX⟩
          replace hL := hL.ext0 hX
          replace hE := hE.step0 hX
          refine ⟨_, rfl, ?_⟩
          refine l_val rfl rfl rfl (r_assign rfl) ?_
          refine l_nil ?_
          refine c_ret ?_
          exact ⟨ret_bool rfl (by simp only [rMayB, hr23, hr34, hr47, hr52, Bool.true_and, Bool.and_true, Bool.false_and, Bool.and_false, Bool.true_or, Bool.or_true, Bool.false_or, Bool.or_false, Bool.not_true, Bool.not_false, cond_true, cond_false]), hE⟩
        · have hr52 := hb
          replace hb := of_decide_eq_false hb
          refine c_seq ?_
       
          refine c_ops ?_
          refine l_val rfl rfl rfl (r_eql rfl rfl rfl) ?_
          refine l_val rfl rfl rfl (r_assign rfl) ?_
          refine l_nil ?_
          refine c_cond rfl (fun hb => ?_) (fun hb => ?_)
          · have hr57 := hb
            replace hb := of_decide_eq_true hb
            refine c_seq ?_
         
            refine c_ops ?_
            refine l_val rfl rfl rfl (r_fieldAddr (n := 0) rfl Tryz.underlying46 rfl Tryz.sizeOf9 rfl) ?_
            refine l_val rfl rfl rfl (r_load_blk rfl Tryz.isAgg9 rfl (hL.get 0 rfl) rfl) ?_
            refine l_val rfl rfl rfl (r_seql rfl rfl rfl) ?_
            refine l_val rfl rfl rfl (r_move rfl) ?_
            refine l_case 62 rfl (fun hb => ?_) (fun hb => ?_)
            · have hr62 := hb
              replace hb := of_decide_eq_true hb
              refine l_val rfl rfl rfl (r_fieldAddr (n := 0) rfl Tryz.underlying46 rfl Tryz.sizeOf44 rfl) ?_
              refine l_val rfl rfl rfl (r_load_blk rfl Tryz.isAgg44 rfl (hL.get 0 rfl) rfl) ?_
              refine l_val rfl rfl rfl (r_len rfl Tryz.underlying44 rfl) ?_
              refine l_val rfl rfl rfl (r_eql rfl rfl rfl) ?_
              refine l_val rfl rfl rfl (r_pick rfl rfl) ?_
              refine l_val rfl rfl rfl (r_move rfl) ?_
              refine l_case 68 rfl (fun hb => ?_) (fun hb => ?_)
              · have hr68 := hb
                replace hb := of_decide_eq_true hb
                refine l_val rfl rfl rfl (r_fieldAddr (n := 0) rfl Tryz.underlying46 rfl Tryz.sizeOf3 rfl) ?_
                refine l_val rfl rfl rfl (r_load_blk rfl Tryz.isAgg3 rfl (hL.get 0 rfl) rfl) ?_
                refine l_val rfl rfl rfl (r_geq rfl rfl rfl) ?_
                refine l_val rfl rfl rfl (r_pick rfl rfl) ?_
                refine l_val rfl rfl rfl (r_move rfl) ?_
                refine l_case 73 rfl (fun hb => ?_) (fun hb => ?_)
                · have hr73 := hb
                  replace hb := of_decide_eq_true hb
                  refine l_val rfl rfl rfl (r_fieldAddr (n := 0) rfl Tryz.underlying46 rfl Tryz.sizeOf3 rfl) ?_
                  refine l_val rfl rfl rfl (r_load_blk rfl Tryz.isAgg3 rfl (hL.get 0 rfl) rfl) ?_
                  refine l_val rfl rfl rfl (r_lss rfl rfl rfl) ?_
                  refine l_val rfl rfl rfl (r_pick rfl rfl) ?_
                  refine l_val rfl rfl rfl (r_move rfl) ?_
                  refine l_case 78 rfl (fun hb => ?_) (fun hb => ?_)
                  · have hr78 := hb
                    replace hb := of_decide_eq_true hb
                    refine l_val rfl rfl rfl (r_fieldAddr (n := 0) rfl Tryz.underlying46 rfl Tryz.sizeOf26 rfl) ?_
                    refine l_val rfl rfl rfl (r_load_blk rfl Tryz.isAgg26 rfl (hL.get 0 rfl) rfl) ?_
                    refine l_val rfl rfl rfl (r_len rfl Tryz.underlying26 rfl) ?_
                    refine l_val rfl rfl rfl (r_eql rfl rfl rfl) ?_
                    refine l_val rfl rfl rfl (r_pick rfl rfl) ?_
                    refine l_val rfl rfl rfl (r_move rfl) ?_
                    refine l_case 84 rfl (fun hb => ?_) (fun hb => ?_)
                    · have hr84 := hb
                      replace hb := of_decide_eq_true hb
                      refine l_val rfl rfl rfl (r_move rfl) ?_
                      refine l_val rfl rfl rfl (r_fieldAddr (n := 0) rfl Tryz.underlying46 rfl Tryz.sizeOf26 rfl) ?_
                      refine l_val rfl rfl rfl (r_load_blk rfl Tryz.isAgg26 rfl (hL.get 0 rfl) rfl) ?_
                      refine l_by rfl rfl rfl (r_call rfl rfl Tryz.func82 rfl rfl) (inside_calls _ Ag cg g (hg.keep RNode.kept (Ext0.cells hE)) Al cl x.l (hls.keep RInt.kept (Ext0.cells hE))) ?_
                      rintro _ w ⟨rfl, hX⟩
                      replace hL := hL.ext0 hX
                      replace hE := hE.step0 hX
                      refine ⟨_, rfl, ?_⟩
                      refine l_val rfl rfl rfl (r_pick rfl rfl) ?_
                      refine l_val rfl rfl rfl (r_assign rfl) ?_
                      refine l_nil ?_
                      refine c_ret ?_
                      exact ⟨ret_bool rfl (by simp only [rMayB, hr23, hr34, hr47, hr52, hr57, hr62, hr68, hr73, hr78, hr84, Bool.true_and, Bool.and_true, Bool.false_and, Bool.and_false, Bool.true_or, Bool.or_true, Bool.false_or, Bool.or_false, Bool.not_true, Bool.not_false, cond_true, cond_false]), hE⟩
                    · have hr84 := hb
                      replace hb := of_decide_eq_false hb
                      refine l_not rfl rfl rfl ?_
                      refine l_not rfl rfl rfl ?_
                      refine l_not rfl rfl rfl ?_
                      refine l_not rfl rfl rfl ?_
                      refine l_val rfl rfl rfl (r_pick rfl rfl) ?_
                      refine l_val rfl rfl rfl (r_assign rfl) ?_
                      refine l_nil ?_
                      refine c_ret ?_
                      exact ⟨ret_bool rfl (by simp only [rMayB, hr23, hr34, hr47, hr52, hr57, hr62, hr68, hr73, hr78, hr84, Bool.true_and, Bool.and_true, Bool.false_and, Bool.and_false, Bool.true_or, Bool.or_true, Bool.false_or, Bool.or_false, Bool.not_true, Bool.not_false, cond_true, cond_false]), hE⟩
                  · have hr78 := hb
                    replace hb := of_decide_eq_false hb
                    refine l_not rfl rfl rfl ?_
                    refine l_not rfl rfl rfl ?_
                    refine l_not rfl rfl rfl ?_
                    refine l_not rfl rfl rfl ?_
                    refine l_val rfl rfl rfl (r_pick rfl rfl) ?_
                    refine l_val rfl rfl rfl (r_move rfl) ?_
                    refine l_not rfl rfl rfl ?_
                    refine l_not rfl rfl rfl ?_
                    refine l_not rfl rfl rfl ?_
                    refine l_not rfl rfl rfl ?_
                    refine l_val rfl rfl rfl (r_pick rfl rfl) ?_
                    refine l_val rfl rfl rfl (r_assign rfl) ?_
                    refine l_nil ?_
                    refine c_ret ?_
                    exact ⟨ret_bool rfl (by simp only [rMayB, hr23, hr34, hr47, hr52, hr57, hr62, hr68, hr73, hr78, Bool.true_and, Bool.and_true, Bool.false_and, Bool.and_false, Bool.true_or, Bool.or_true, Bool.false_or, Bool.or_false, Bool.not_true, Bool.not_false, cond_true, cond_false]), hE⟩
                · have hr73 := hb
                  replace hb := of_decide_eq_false hb
                  refine l_not rfl rfl rfl ?_
                  refine l_not rfl rfl rfl ?_
                  refine l_not rfl rfl rfl ?_
                  refine l_val rfl rfl rfl (r_pick rfl rfl) ?_
                  refine l_val rfl rfl rfl (r_move rfl) ?_
                  refine l_not rfl rfl rfl ?_
                  refine l_not rfl rfl rfl ?_
                  refine l_not rfl rfl rfl ?_
                  refine l_not rfl rfl rfl ?_
                  refine l_val rfl rfl rfl (r_pick rfl rfl) ?_
                  refine l_val rfl rfl rfl (r_move rfl) ?_
                  refine l_not rfl rfl rfl ?_
                  refine l_not rfl rfl rfl ?_
                  refine l_not rfl rfl rfl ?_
                  refine l_not rfl rfl rfl ?_
                  refine l_val rfl rfl rfl (r_pick rfl rfl) ?_
                  refine l_val rfl rfl rfl (r_assign rfl) ?_
                  refine l_nil ?_
                  refine c_ret ?_
                  exact ⟨ret_bool rfl (by simp only [rMayB, hr23, hr34, hr47, hr52, hr57, hr62, hr68, hr73, Bool.true_and, Bool.and_true, Bool.false_and, Bool.and_false, Bool.true_or, Bool.or_true, Bool.false_or, Bool.or_false, Bool.not_true, Bool.not_false, cond_true, cond_false]), hE⟩
              · have hr68 := hb
                replace hb := of_decide_eq_false hb
                refine l_not rfl rfl rfl ?_
                refine l_not rfl rfl rfl ?_
                refine l_not rfl rfl rfl ?_
                refine l_val rfl rfl rfl (r_pick rfl rfl) ?_
                refine l_val rfl rfl rfl (r_move rfl) ?_
                refine l_not rfl rfl rfl ?_
                refine l_not rfl rfl rfl ?_
                refine l_not rfl rfl rfl ?_
                refine l_val rfl rfl rfl (r_pick rfl rfl) ?_
                refine l_val rfl rfl rfl (r_move rfl) ?_
                refine l_not rfl rfl rfl ?_
                refine l_not rfl rfl rfl ?_
                refine l_not rfl rfl rfl ?_
                refine l_not rfl rfl rfl ?_
                refine l_val rfl rfl rfl (r_pick rfl rfl) ?_
                refine l_val rfl rfl rfl (r_move rfl) ?_
                refine l_not rfl rfl rfl ?_
                refine l_not rfl rfl rfl ?_
                refine l_not rfl rfl rfl ?_
                refine l_not rfl rfl rfl ?_
                refine l_val rfl rfl rfl (r_pick rfl rfl) ?_
                refine l_val rfl rfl rfl (r_assign rfl) ?_
                refine l_nil ?_
                refine c_ret ?_
                exact ⟨ret_bool rfl (by simp only [rMayB, hr23, hr34, hr47, hr52, hr57, hr62, hr68, Bool.true_and, Bool.and_true, Bool.false_and, Bool.and_false, Bool.true_or, Bool.or_true, Bool.false_or, Bool.or_false, Bool.not_true, Bool.not_false, cond_true, cond_false]), hE⟩
            · have hr62 := hb
              replace hb := of_decide_eq_false hb
              refine l_not rfl rfl rfl ?_
              refine l_not rfl rfl rfl ?_
              refine l_not rfl rfl rfl ?_
              refine l_not rfl rfl rfl ?_
              refine l_val rfl rfl rfl (r_pick rfl rfl) ?_
              refine l_val rfl rfl rfl (r_move rfl) ?_
              refine l_not rfl rfl rfl ?_
              refine l_not rfl rfl rfl ?_
              refine l_not rfl rfl rfl ?_
              refine l_val rfl rfl rfl (r_pick rfl rfl) ?_
              refine l_val rfl rfl rfl (r_move rfl) ?_
              refine l_not rfl rfl rfl ?_
              refine l_not rfl rfl rfl ?_
              refine l_not rfl rfl rfl ?_
              refine l_val rfl rfl rfl (r_pick rfl rfl) ?_
              refine l_val rfl rfl rfl (r_move rfl) ?_
              refine l_not rfl rfl rfl ?_
              refine l_not rfl rfl rfl ?_
              refine l_not rfl rfl rfl ?_
              refine l_not rfl rfl rfl ?_
              refine l_val rfl rfl rfl (r_pick rfl rfl) ?_
              refine l_val rfl rfl rfl (r_move rfl) ?_
              refine l_not rfl rfl rfl ?_
              refine l_not rfl rfl rfl ?_
              refine l_not rfl rfl rfl ?_
              refine l_not rfl rfl rfl ?_
              refine l_val rfl rfl rfl (r_pick rfl rfl) ?_
              refine l_val rfl rfl rfl (r_assign rfl) ?_
              refine l_nil ?_
              refine c_ret ?_
              exact ⟨ret_bool rfl (by simp only [rMayB, hr23, hr34, hr47, hr52, hr57, hr62, Bool.true_and, Bool.and_true, Bool.false_and, Bool.and_false, Bool.true_or, Bool.or_true, Bool.false_or, Bool.or_false, Bool.not_true, Bool.not_false, cond_true, cond_false]), hE⟩
          · have hr57 := hb
            replace hb := of_decide_eq_false hb
            refine c_skip ?_
            refine c_seq ?_
         
            refine c_ops ?_
            refine l_val rfl rfl rfl (r_assign rfl) ?_
            refine l_nil ?_
            refine c_ret ?_
            exact ⟨ret_bool rfl (by simp only [rMayB, hr23, hr34, hr47, hr52, hr57, Bool.true_and, Bool.and_true, Bool.false_and, Bool.and_false, Bool.true_or, Bool.or_true, Bool.false_or, Bool.or_false, Bool.not_true, Bool.not_false, cond_true, cond_false]), hE⟩
theorem oddB_kind {g : List GNode} {x : GNode} {b : Bool} : (!oddB g.length x && b) = true ↔ x.l.any (outB g.length) = false ∧ (x.num = 0 ∨ x.kind = 9) ∧ (x.name = ⟨#[]⟩ ∨ x.kind = 5) ∧ (x.keys.length = 0 ∨ x.kind = 7) ∧ b = true := by
  unfold oddB
  simp only [Bool.and_eq_true, Bool.not_eq_true', Bool.or_eq_false_iff, Bool.and_eq_false_iff, Bool.not_eq_false', decide_eq_true_eq, decide_eq_false_iff_not, and_assoc]
  constructor
  · rintro ⟨h1, h2, h3, h4, h5⟩
    exact ⟨h1, h2, h3, h4.imp_left (fun h => by omega), h5⟩
  · rintro ⟨h1, h2, h3, h4, h5⟩
    exact ⟨h1, h2, h3, h4.imp_left (fun h => by omega), h5⟩
theorem any_nil {g : List GNode} {x : GNode} (h : (x.l.length : Int) = 0) : x.l.any (outB g.length) = false := by
  have : x.l = [] := List.eq_nil_of_length_eq_zero (by omega)
  rw [this]; rfl
theorem rKeysB_eq (l : List ByteArray) : rKeysB l = (risesB l && !l.any (fun s => !isNameB s)) := by
  unfold rKeysB
  rw [Bool.and_comm, List.all_eq_not_any_not]
theorem rMayB_eq (g : List GNode) (x : GNode) : rMayB g x = mayB g x := by
  rw [Bool.eq_iff_iff]
  unfold mayB
  rw [oddB_kind]
  unfold rMayB kindB
  cases hb : bareB x with
  | true =>
    have hk : x.kind = 1 ∨ x.kind = 2 ∨ x.kind = 3 ∨ x.kind = 4 := by simpa [bareB] using hb
    simp only [cond_true, bare3, Bool.and_eq_true, decide_eq_true_eq]
    constructor
    · rintro ⟨⟨⟨h1, h2⟩, h3⟩, h4⟩
      exact ⟨any_nil h2, .inl h3, .inl h4, .inl (by omega), h2⟩
    · rintro ⟨h1, h2, h3, h4, h5⟩
      exact ⟨⟨⟨by omega, h5⟩, by omega⟩, h3.elim id (fun h => by omega)⟩
  | false =>
    simp only [cond_false]
    by_cases h5 : x.kind = 5
    · simp only [h5, decide_true, cond_true, bare3, Bool.and_eq_true, decide_eq_true_eq]
      constructor
      · rintro ⟨⟨⟨h1, h2⟩, h3⟩, h4⟩
        exact ⟨any_nil h2, .inl h3, .inr trivial, .inl (by omega), h2, h4⟩
      · rintro ⟨h1, h2, h3, h4, h6, h7⟩
        exact ⟨⟨⟨by omega, h6⟩, by omega⟩, h7⟩
    · simp only [h5, decide_false, cond_false]
      by_cases h7 : x.kind = 7
      · simp only [h7, decide_true, cond_true, recB, rKeysB_eq, Bool.and_eq_true, decide_eq_true_eq, Bool.not_eq_true']
        constructor
        · rintro ⟨⟨h1, h2⟩, ⟨⟨⟨h3, h4⟩, h6⟩, h8⟩, h9⟩
          exact ⟨h9, .inl h4, .inl h3, .inr trivial, ⟨⟨h8, h6⟩, h1⟩, h2⟩
        · rintro ⟨h1, h2, h3, h4, ⟨⟨h6, h8⟩, h9⟩, h10⟩
          exact ⟨⟨h9, h10⟩, ⟨⟨⟨by simpa using h3, by simpa using h2⟩, h8⟩, h6⟩, h1⟩
      · simp only [h7, decide_false, cond_false]
        by_cases h8 : x.kind = 8
        · simp only [h8, decide_true, cond_true, unionB, Bool.and_eq_true, Bool.or_eq_false_iff, decide_eq_true_eq, Bool.not_eq_true', Bool.not_eq_false', decide_eq_false_iff_not]
          constructor
          · rintro ⟨⟨⟨⟨⟨h1, h2⟩, h3⟩, h4⟩, h6, h9⟩, h10⟩
            exact ⟨h6, .inl h2, .inl h1, .inl (by omega), ⟨h10, by omega⟩, h9⟩
          · rintro ⟨h1, h2, h3, h4, ⟨h6, h9⟩, h10⟩
            exact ⟨⟨⟨⟨⟨by simpa using h3, by simpa using h2⟩, by simp at h4; simp [h4]⟩, by omega⟩, h1, h10⟩, h6⟩
        · simp only [h8, decide_false, cond_false]
          by_cases h9 : x.kind = 9
          · simp only [h9, decide_true, cond_true, Bool.and_eq_true, decide_eq_true_eq, Bool.not_eq_true']
            constructor
            · rintro ⟨⟨⟨⟨⟨h1, h2⟩, h3⟩, h4⟩, h6⟩, h10⟩
              exact ⟨h10, .inr trivial, .inl h1, .inl (by omega), ⟨h3, h4⟩, h6⟩
            · rintro ⟨h1, h2, h3, h4, ⟨h6, h10⟩, h11⟩
              exact ⟨⟨⟨⟨⟨by simpa using h3, by simp at h4; simp [h4]⟩, h6⟩, h10⟩, h11⟩, h1⟩
          · simp only [h9, decide_false, cond_false]
            simp
theorem rCheck_calls (w0 : World) (Ag : Option Addr) (cg : Nat) (g : List GNode) (hg : Nodes w0 Ag cg g) (hfit : Fits g) (hn : g.length ≤ 1000000) :
    Calls Tryz.prog 30 [.slice Ag g.length cg].toArray w0 fun en w' => en = .returned (.int .i64 (checkG g)) ∧ Ext0 w0 w' := by
  have hE : Ext0 w0 w0 := Ext.refl _ _
  have hL : Has w0 [] := trivial
  refine calls [2] Tryz.func30 rfl rfl rfl rfl ?_
  refine c_seq ?_
  refine c_ops ?_
  refine l_val rfl rfl rfl (r_assign rfl) ?_
  refine l_nil ?_
  refine c_seq ?_
  refine c_seq ?_
  refine c_ops ?_
  refine l_val rfl rfl rfl (r_move rfl) ?_
  refine l_val rfl rfl rfl (r_len rfl Tryz.underlying22 rfl) ?_
  refine l_val rfl rfl rfl (r_gtr rfl rfl rfl) ?_
  refine l_nil ?_
  refine c_cond rfl (fun hb => ?_) (fun hb => ?_)
  · have hr6 := hb
    replace hb := of_decide_eq_true hb
    refine c_seq ?_
 
    refine c_ops ?_
    refine l_val rfl rfl rfl (r_assign rfl) ?_
    refine l_nil ?_
    refine c_ret ?_
    exact ⟨ret_int rfl (by unfold checkG; rw [if_pos hb]), hE⟩
  · have hr6 := hb
    replace hb := of_decide_eq_false hb
    have h2000 : ¬ 2000 < (g.length : Int) := hb
    refine c_skip ?_
    refine c_seq ?_
    refine c_seq ?_
 
    refine c_ops ?_
    refine l_val rfl rfl rfl (r_assign rfl) ?_
    refine l_nil ?_
    refine c_block ?_
 
    refine c_loop [2, 3, 7, 8, 9, 10, 11, 12, 13, 14, 15, 16, 17, 18, 19] (fun m1 e w => ∃ (k : Nat), k ≤ g.length ∧ m1 = g.length - k ∧ e 3 = .int .i64 (k : Nat) ∧ (∀ j : Nat, j < k → mayB g (gat g j) = true) ∧ Ext0 w0 w) (g.length) ?_ ?_
    · exact ⟨0, Nat.zero_le _, rfl, rfl, fun j hj => absurd hj (Nat.not_lt_zero _), hE⟩
    intro m1 e w hI
    obtain ⟨k, hkl, hkm, h3s, hall, hE⟩ := hI
    refine c_know (t := 3) (by exact h3s) ?_
    have hL : Has w [] := trivial
    refine c_seq ?_
    refine c_seq ?_
 
    refine c_ops ?_
    refine l_val rfl rfl rfl (r_move rfl) ?_
    refine l_val rfl rfl rfl (r_move rfl) ?_
    refine l_val rfl rfl rfl (r_len rfl Tryz.underlying22 rfl) ?_
    refine l_val rfl rfl rfl (r_lss rfl rfl rfl) ?_
    refine l_nil ?_
    refine c_cond rfl (fun hb => ?_) (fun hb => ?_)
    · have hr10 := hb
      replace hb := of_decide_eq_true hb
      have hklt : k < g.length := by omega
      refine c_skip ?_
      refine c_seq ?_
      refine c_block ?_
      refine c_seq ?_
   
      refine c_ops ?_
      refine l_val rfl rfl rfl (r_move rfl) ?_
      refine l_val rfl rfl rfl (r_move rfl) ?_
      refine l_val rfl rfl rfl (r_move rfl) ?_
      refine l_val rfl rfl rfl (r_indexAddr_sl rfl Tryz.underlying22 Tryz.sizeOf46 rfl hg.is rfl (by omega) (by omega)) ?_
      obtain ⟨Ak, ck, Al, cl, hcell, hks, hls⟩ := hg.node k (by omega) (by omega)
      refine l_val rfl rfl rfl (r_load_agg (vs := nodeCells (gat g k) Ak ck Al cl) rfl Tryz.isAgg46 Tryz.sizeOf46 rfl (fun j v hj => Ext0.cells hE _ _ (hcell j v hj))) ?_
      refine l_by rfl rfl rfl (r_call rfl rfl Tryz.func54 rfl rfl) (may_rcalls _ Ag cg g (hg.keep RNode.kept (Ext0.cells hE)) hn (gat g k) Ak ck Al cl (hks.keep RStr.kept (Ext0.cells hE)) (hls.keep RInt.kept (Ext0.cells hE)) (hfit.texts _ (gat_mem hklt))) ?_
      rintro _ w ⟨hen, hX⟩
      rw [rMayB_eq] at hen
      subst hen
      replace hL := hL.ext0 hX
      replace hE := hE.step0 hX
      refine ⟨_, rfl, ?_⟩
      refine l_val rfl rfl rfl (r_not rfl rfl) ?_
      refine l_nil ?_
      refine c_cond rfl (fun hb => ?_) (fun hb => ?_)
      · have hr19 := hb
        refine c_seq ?_
     
        refine c_ops ?_
        refine l_val rfl rfl rfl (r_assign rfl) ?_
        refine l_nil ?_
        refine c_ret ?_
        exact ⟨ret_int rfl (by unfold checkG; rw [if_neg h2000, all_no hklt (by simpa using hb)]; rfl), hE⟩
      · have hr19 := hb
        refine c_skip ?_
     
        refine c_ops ?_
        refine l_val rfl rfl rfl (r_move rfl) ?_
        refine l_val rfl rfl rfl (r_add rfl rfl rfl) ?_
        refine l_val rfl rfl rfl (r_assign rfl) ?_
        refine l_nil ?_
        refine ⟨by repeat (first | exact Agree.over _ _ _ | exact Agree.refl _ _ | (refine Agree.puto ?_ _ _ rfl) | (refine Agree.put ?_ _ _ rfl) | (refine Agree.sub ?_ rfl)), ?_⟩
        exact ⟨g.length - (k + 1), by omega, k + 1, by omega, rfl, by show Value.int .i64 (IntKind.i64.wrap ((k : Int) + 1)) = _; rw [wrap_succ hklt hg.max], fun j hj => by rcases Nat.lt_or_eq_of_le (Nat.le_of_lt_succ hj) with h | rfl <;> first | exact hall j h | simpa using hb, hE⟩
    · have hr10 := hb
      replace hb := of_decide_eq_false hb
      refine c_exit ?_
      refine c_seq ?_
   
      refine c_ops ?_
      refine l_val rfl rfl rfl (r_assign rfl) ?_
      refine l_nil ?_
      refine c_ret ?_
      exact ⟨ret_int rfl (by unfold checkG; rw [if_neg h2000, all_yes (fun j hj => hall j (by omega))]; rfl), hE⟩
theorem rMembers_calls (w0 : World) (Ag : Option Addr) (cg : Nat) (g : List GNode) (hg : Nodes w0 Ag cg g) (hfit : Fits g) (n : Int) :
    Calls Tryz.prog 63 [.slice Ag g.length cg, .int .i64 n].toArray w0 fun en w' => ∃ v, en = .returned v ∧ w'.ownsRow w0.heap.size 3 1 v (membersG g n).length ((membersG g n).map (Value.int .i64)) ∧ Ext0 w0 w' := by
  have hE : Ext0 w0 w0 := Ext.refl _ _
  have hL : Has w0 [] := trivial
  refine calls [4] Tryz.func63 rfl rfl rfl rfl ?_
  refine c_seq ?_
  refine c_ops ?_
  refine l_val rfl rfl rfl (r_assign rfl) ?_
  refine l_nil ?_
  refine c_seq ?_
  refine c_seq ?_
  refine c_ops ?_
  refine l_val rfl rfl rfl (r_move rfl) ?_
  refine l_val rfl rfl rfl (r_lss rfl rfl rfl) ?_
  refine l_val rfl rfl rfl (r_move rfl) ?_
  refine l_case 7 rfl (fun hb => ?_) (fun hb => ?_)
  · have hr7 := hb
    replace hb := of_decide_eq_true hb
    have hm : membersG g n = [] := by unfold membersG; rw [if_pos (.inl (by omega))]
    refine l_not rfl rfl rfl ?_
    refine l_not rfl rfl rfl ?_
    refine l_not rfl rfl rfl ?_
    refine l_not rfl rfl rfl ?_
    refine l_val rfl rfl rfl (r_pick rfl rfl) ?_
    refine l_nil ?_
    refine c_yes rfl ?_
    refine c_seq ?_
 
    refine c_ops ?_
    refine l_val rfl rfl rfl (r_assign rfl) ?_
    refine l_nil ?_
    refine c_ret ?_
    rw [hm]; exact ⟨_, rfl, ⟨rfl, .inl ⟨rfl, rfl⟩⟩, hE⟩
  · have hr7 := hb
    replace hb := of_decide_eq_false hb
    refine l_val rfl rfl rfl (r_move rfl) ?_
    refine l_val rfl rfl rfl (r_move rfl) ?_
    refine l_val rfl rfl rfl (r_len rfl Tryz.underlying22 rfl) ?_
    refine l_val rfl rfl rfl (r_geq rfl rfl rfl) ?_
    refine l_val rfl rfl rfl (r_pick rfl rfl) ?_
    refine l_nil ?_
    refine c_cond rfl (fun hb => ?_) (fun hb => ?_)
    · have hr12 := hb
      replace hb := of_decide_eq_true hb
      have hm : membersG g n = [] := by unfold membersG; rw [if_pos (.inr (by omega))]
      refine c_seq ?_
   
      refine c_ops ?_
      refine l_val rfl rfl rfl (r_assign rfl) ?_
      refine l_nil ?_
      refine c_ret ?_
      rw [hm]; exact ⟨_, rfl, ⟨rfl, .inl ⟨rfl, rfl⟩⟩, hE⟩
    · have hr12 := hb
      replace hb := of_decide_eq_false hb
      have hin : 0 ≤ n ∧ n < g.length := by have := of_decide_eq_false hr7; omega
      obtain ⟨Ak, ck, Al, cl, hcell, hks, hls⟩ := hg.node n hin.1 hin.2
      refine c_skip ?_
      refine c_seq ?_
      refine c_seq ?_
   
      refine c_ops ?_
      refine l_val rfl rfl rfl (r_move rfl) ?_
      refine l_val rfl rfl rfl (r_move rfl) ?_
      refine l_val rfl rfl rfl (r_indexAddr_sl rfl Tryz.underlying22 Tryz.sizeOf46 rfl hg.is rfl hin.1 hin.2) ?_
      refine l_val rfl rfl rfl (r_fieldAddr (n := 0) rfl Tryz.underlying46 rfl Tryz.sizeOf3 rfl) ?_
      refine l_val rfl rfl rfl (r_load rfl Tryz.isAgg3 rfl (Ext0.cells hE _ _ (hcell 0 _ rfl))) ?_
      refine l_val rfl rfl rfl (r_eql rfl rfl rfl) ?_
      refine l_nil ?_
      refine c_cond rfl (fun hb => ?_) (fun hb => ?_)
      · have hr18 := hb
        replace hb := of_decide_eq_true hb
        have hm : membersG g n = (gat g n).l := by unfold membersG; rw [if_neg (by omega), if_pos hb]
        refine c_seq ?_
     
        refine c_ops ?_
        refine l_val rfl rfl rfl (r_move rfl) ?_
        refine l_val rfl rfl rfl (r_move rfl) ?_
        refine l_val rfl rfl rfl (r_indexAddr_sl rfl Tryz.underlying22 Tryz.sizeOf46 rfl hg.is rfl hin.1 hin.2) ?_
        refine l_val rfl rfl rfl (r_fieldAddr (n := 0) rfl Tryz.underlying46 rfl Tryz.sizeOf26 rfl) ?_
        refine l_val rfl rfl rfl (r_load rfl Tryz.isAgg26 rfl (Ext0.cells hE _ _ (hcell 4 _ rfl))) ?_
        refine l_by rfl rfl rfl (r_call rfl rfl Tryz.func25 rfl rfl) (CopyInts_calls _ Al (gat g n).l.length cl (gat g n).l (hls.keep RInt.kept (Ext0.cells hE)) (hfit.lists _ (gat_mem' hin.1 hin.2))) ?_
        rintro _ w ⟨v, rfl, hrow, hX⟩
        replace hrow := ownsRow_base hrow hE.size
        replace hE := hE.step0 hX
        refine ⟨_, rfl, ?_⟩
        refine l_val rfl rfl rfl (r_assign rfl) ?_
        refine l_nil ?_
        refine c_ret ?_
        rw [hm]; exact ⟨v, rfl, hrow, hE⟩
      · have hr18 := hb
        replace hb := of_decide_eq_false hb
        have hm : membersG g n = [n] := by unfold membersG; rw [if_neg (by omega), if_neg hb]
        refine c_skip ?_
        refine c_seq ?_
     
        refine c_ops ?_
        refine l_val rfl rfl rfl (r_move rfl) ?_
        refine l_new rfl rfl rfl (n_slice (cells := #[.int .i64 n]) rfl Tryz.underlying26 Tryz.sizeOf3 Tryz.zeroValue3 rfl rfl (fill_int1 _) hL hE) ?_
        rintro _ w ⟨s26, rfl, hs26, hL, hE, hX⟩
        refine l_val rfl rfl rfl (r_assign rfl) ?_
        refine l_nil ?_
        refine c_ret ?_
        rw [hm]; exact ⟨_, rfl, (hL.asRow (n := 1) hs26 rfl (by decide)).row 0 rfl, hE⟩
end Go.Proofs.YtndophlnapjkhaaGreatDoor.Vc
namespace Go.Proofs.YtndophlnapjkhaaGreatDoor.Vc
open Go Go.RowKit
set_option linter.unusedVariables false
set_option linter.unusedSimpArgs false
def fieldF (x : GNode) (key : ByteArray) : Int := if idxV (idxS x.keys key) < 0 then -1 else iat x.l (idxV (idxS x.keys key))
theorem fieldF_some {x : GNode} {key : ByteArray} {k : Nat} (h : idxS x.keys key = some k) : fieldF x key = iat x.l k := by
  unfold fieldF
  rw [h]
  exact if_neg (by simp only [idxV]; omega)
structure Grid (w : World) (xb : Nat) (Ag : Option Addr) (n cg : Nat) (st : Bool) (Ai : Option Addr) (ci : Nat) (X : Int × Int → Bool) : Prop where
  c0 : w.cell? ⟨xb, 0, none⟩ = some (.slice Ag n cg)
  c1 : w.cell? ⟨xb, 1, none⟩ = some (.bool st)
  c2 : w.cell? ⟨xb, 2, none⟩ = some (.slice Ai n ci)
  is : 0 < n → Ai.isSome = true
  row : ∀ a : Int, 0 ≤ a → a < n → ∃ Ar cr, w.cell? ((adr Ai).add (a.toNat * 1)) = some (.slice Ar n cr) ∧ (0 < n → Ar.isSome = true) ∧ ∀ b : Int, 0 ≤ b → b < n → w.cell? ((adr Ar).add (b.toNat * 1)) = some (.bool (X (a, b)))
theorem Grid.keep {w W : World} {xb : Nat} {Ag : Option Addr} {n cg : Nat} {st : Bool} {Ai : Option Addr} {ci : Nat} {X : Int × Int → Bool} (h : Grid w xb Ag n cg st Ai ci X) (hc : Cells w W) : Grid W xb Ag n cg st Ai ci X :=
  ⟨hc _ _ h.c0, hc _ _ h.c1, hc _ _ h.c2, h.is, fun a h0 h1 => let ⟨Ar, cr, h2, h3, h4⟩ := h.row a h0 h1; ⟨Ar, cr, hc _ _ h2, h3, fun b hb0 hb1 => hc _ _ (h4 b hb0 hb1)⟩⟩
theorem fieldF_neg {g : List GNode} {s : GNode} (hs : SideOk g s) (hlen : s.l.length = s.keys.length) {key : ByteArray} (h : fieldF s key < 0) : idxV (idxS s.keys key) < 0 := by
  unfold fieldF at h
  split at h
  · assumption
  · rename_i h0
    have hlt := idxS_lt s.keys key
    have hin := hs.inn (iat s.l (idxV (idxS s.keys key))) (by
      have := iat_nat (l := s.l) (k := (idxV (idxS s.keys key)).toNat) (by omega)
      rw [Int.toNat_of_nonneg (by omega)] at this
      exact List.mem_of_getElem? this)
    omega
theorem fieldF_pos {g : List GNode} {s : GNode} (hs : SideOk g s) (hlen : s.l.length = s.keys.length) {key : ByteArray} (h : ¬ fieldF s key < 0) : ¬ idxV (idxS s.keys key) < 0 ∧ fieldF s key = iat s.l (idxV (idxS s.keys key)) ∧ 0 ≤ fieldF s key ∧ fieldF s key < g.length := by
  by_cases h0 : idxV (idxS s.keys key) < 0
  · exact absurd (by unfold fieldF; rw [if_pos h0]; decide) h
  · have e : fieldF s key = iat s.l (idxV (idxS s.keys key)) := by unfold fieldF; rw [if_neg h0]
    have hlt := idxS_lt s.keys key
    have hin := hs.inn (iat s.l (idxV (idxS s.keys key))) (by
      have := iat_nat (l := s.l) (k := (idxV (idxS s.keys key)).toNat) (by omega)
      rw [Int.toNat_of_nonneg (by omega)] at this
      exact List.mem_of_getElem? this)
    exact ⟨h0, e, by omega, by omega⟩
section
variable {g : List GNode} {xb : Nat} {Ag : Option Addr} {cg : Nat} {st : Bool} {Ai : Option Addr} {ci : Nat} {X : Int × Int → Bool}
end
end Go.Proofs.YtndophlnapjkhaaGreatDoor.Vc
namespace Go.Proofs.YtndophlnapjkhaaGreatDoor.Vc
open Go Go.RowKit
set_option linter.unusedVariables false
set_option linter.unusedSimpArgs false
abbrev RW : Type := Nat × List Bool
def Xof (rs : List RW) (q : Int × Int) : Bool := ((rs.getD q.1.toNat (0, [])).2).getD q.2.toNat false
def setR (rs : List RW) (i k : Nat) : List RW := rs.set i ((rs.getD i (0, [])).1, (rs.getD i (0, [])).2.set k false)
def inGB (n : Nat) (q : Int × Int) : Bool := decide (0 ≤ q.1) && decide (q.1 < n) && decide (0 ≤ q.2) && decide (q.2 < n)
theorem inGB_is {n : Nat} {q : Int × Int} : inGB n q = true ↔ InG n q := by
  unfold inGB InG
  simp [and_assoc]
theorem Xof_set {rs : List RW} {i k : Nat} (q : Int × Int) (hi : i < rs.length) (hk : k < (rs.getD i (0, [])).2.length) : Xof (setR rs i k) q = if q.1.toNat = i ∧ q.2.toNat = k then false else Xof rs q := by
  unfold Xof setR
  simp only [List.getD_eq_getElem?_getD, List.getElem?_set] at hk ⊢
  by_cases h1 : i = q.1.toNat
  · subst h1
    rw [if_pos rfl, if_pos hi]
    simp only [Option.getD_some, List.getElem?_set]
    by_cases h2 : k = q.2.toNat
    · subst h2
      rw [if_pos rfl, if_pos hk, if_pos ⟨trivial, rfl⟩]
      rfl
    · rw [if_neg h2, if_neg (fun h => h2 h.2.symm)]
  · rw [if_neg h1, if_neg (fun h => h1 h.1.symm)]
section
variable {g : List GNode} {st : Bool}
structure OfAt (g : List GNode) (st : Bool) (rs0 rs : List RW) (more : Bool) (i k : Nat) : Prop where
  len : rs.length = g.length
  rows : ∀ r ∈ rs, r.2.length = g.length
  le : ∀ q, InG g.length q → mayX g st q = true → Xof rs q = true
  le0 : manyX g.length (Xof rs) ≤ manyX g.length (Xof rs0)
  gone : more = true → manyX g.length (Xof rs) < manyX g.length (Xof rs0)
  same : more = false → rs = rs0 ∧ ∀ q, InG g.length q → (q.1 < i ∨ (q.1 = i ∧ q.2 < k)) → Xof rs0 q = true → holdsX g st (Xof rs0) q = true
theorem OfAt.row_len {rs0 rs : List RW} {more : Bool} {i k j : Nat} (h : OfAt g st rs0 rs more i k) (hj : j < g.length) : (rs.getD j (0, [])).2.length = g.length := by
  rw [List.getD_eq_getElem?_getD, List.getElem?_eq_getElem (by rw [h.len]; exact hj)]
  exact h.rows _ (List.getElem_mem _)
theorem OfAt.start {rs : List RW} (hl : rs.length = g.length) (hr : ∀ r ∈ rs, r.2.length = g.length) (hle : ∀ q, InG g.length q → mayX g st q = true → Xof rs q = true) : OfAt g st rs rs false 0 0 :=
  ⟨hl, hr, hle, Nat.le_refl _, (fun h => by cases h), fun _ => ⟨rfl, fun q hq h => by
    exact absurd h (by have := hq.1; have := hq.2.2.1; omega)⟩⟩
theorem OfAt.keep {rs0 rs : List RW} {more : Bool} {i k : Nat} (h : OfAt g st rs0 rs more i k) (hh : Xof rs ((i : Int), (k : Int)) = true → holdsX g st (Xof rs) ((i : Int), (k : Int)) = true) : OfAt g st rs0 rs more i (k + 1) :=
  ⟨h.len, h.rows, h.le, h.le0, h.gone, fun hm => ⟨(h.same hm).1, fun q hq hc hX => by
    by_cases he : q = ((i : Int), (k : Int))
    · subst he
      have := (h.same hm).1
      subst this
      exact hh hX
    · refine (h.same hm).2 q hq ?_ hX
      rcases hc with hc | ⟨h1, h2⟩
      · exact .inl hc
      · refine .inr ⟨h1, ?_⟩
        have : q.2 ≠ k := fun e => he (Prod.ext h1 e)
        omega⟩⟩
theorem OfAt.row {rs0 rs : List RW} {more : Bool} {i : Nat} (h : OfAt g st rs0 rs more i g.length) : OfAt g st rs0 rs more (i + 1) 0 :=
  ⟨h.len, h.rows, h.le, h.le0, h.gone, fun hm => ⟨(h.same hm).1, fun q hq hc hX => (h.same hm).2 q hq (by have := hq.2.2.2; have := hq.2.2.1; omega) hX⟩⟩
theorem OfAt.take {rs0 rs : List RW} {more : Bool} {i k : Nat} (hok : GraphOk g) (h : OfAt g st rs0 rs more i k) (hi : i < g.length) (hk : k < g.length) (hx : Xof rs ((i : Int), (k : Int)) = true) (hh : holdsX g st (Xof rs) ((i : Int), (k : Int)) = false) : OfAt g st rs0 (setR rs i k) true i (k + 1) := by
  have hil : i < rs.length := by rw [h.len]; exact hi
  have hkl : k < (rs.getD i (0, [])).2.length := by rw [h.row_len hi]; exact hk
  have hin : InG g.length ((i : Int), (k : Int)) := ⟨by simp, by simp; omega, by simp, by simp; omega⟩
  have hXs := fun q => Xof_set (rs := rs) (i := i) (k := k) q hil hkl
  have hle : manyX g.length (Xof (setR rs i k)) < manyX g.length (Xof rs) := by
    refine sum_lt _ _ _ (fun q _ => ?_) ⟨((i : Int), (k : Int)), mem_allP hin, ?_⟩
    · rw [hXs]
      split
      · simp
      · exact Nat.le_refl _
    · have h0 : Xof (setR rs i k) ((i : Int), (k : Int)) = false := by rw [hXs]; exact if_pos ⟨Int.toNat_natCast _, Int.toNat_natCast _⟩
      rw [h0, hx]
      decide
  refine ⟨by unfold setR; rw [List.length_set]; exact h.len, ?_, ?_, by have := h.le0; omega, (fun _ => by have := h.le0; omega), (fun hm => by cases hm)⟩
  · intro r hr
    rcases List.mem_or_eq_of_mem_set hr with hr | rfl
    · exact h.rows r hr
    · rw [List.length_set]
      exact h.row_len hi
  · intro q hq hm
    rw [hXs]
    split
    · rename_i hc
      exfalso
      have he : q = ((i : Int), (k : Int)) := by
        obtain ⟨h1, _, h3, _⟩ := hq
        exact Prod.ext (by omega) (by omega)
      subst he
      rw [may_fix hok hin] at hm
      have h1 := holdsX_mono (g := g) (st := st) (X := mayX g st) (Y := fun q => Xof rs q || !inGB g.length q) (fun q hq => by
        cases hb : inGB g.length q with
        | false => simp
        | true => rw [h.le q (inGB_is.1 hb) hq]; rfl) _ hm
      rw [holdsX_congr (Y := Xof rs) hok (fun q hq => by rw [inGB_is.2 hq]; simp) hin, hh] at h1
      cases h1
    · exact h.le q hq hm
theorem OfAt.done {rs0 rs : List RW} (hok : GraphOk g) (h : OfAt g st rs0 rs false g.length 0) : rs = rs0 ∧ ∀ q, InG g.length q → Xof rs q = mayX g st q := by
  obtain ⟨h1, h2⟩ := h.same rfl
  subst h1
  refine ⟨rfl, fun q hq => ?_⟩
  cases hm : mayX g st q with
  | true => exact h.le q hq hm
  | false =>
    cases hx : Xof rs q with
    | false => rfl
    | true =>
      have := may_great (g := g) (st := st) (R := fun q => inGB g.length q && Xof rs q) (fun q hq => by
        rw [Bool.and_eq_true, inGB_is] at hq
        rw [holdsX_congr (Y := Xof rs) hok (fun p hp => by rw [inGB_is.2 hp]; rfl) hq.1]
        exact h2 q hq.1 (.inl hq.1.2.1) hq.2) (q := q) (by rw [inGB_is.2 hq, hx]; rfl)
      rw [hm] at this
      cases this
end
theorem Grid.congr {w : World} {xb : Nat} {Ag : Option Addr} {n cg : Nat} {st : Bool} {Ai : Option Addr} {ci : Nat} {X Y : Int × Int → Bool} (h : Grid w xb Ag n cg st Ai ci X) (hX : ∀ q, InG n q → X q = Y q) : Grid w xb Ag n cg st Ai ci Y :=
  ⟨h.c0, h.c1, h.c2, h.is, fun a h0 h1 => let ⟨Ar, cr, h2, h3, h4⟩ := h.row a h0 h1; ⟨Ar, cr, h2, h3, fun b hb0 hb1 => by rw [← hX (a, b) ⟨h0, h1, hb0, hb1⟩]; exact h4 b hb0 hb1⟩⟩
end Go.Proofs.YtndophlnapjkhaaGreatDoor.Vc
namespace Go.Proofs.YtndophlnapjkhaaGreatDoor.Vc
open Go Go.RowKit
set_option linter.unusedVariables false
set_option linter.unusedSimpArgs false
theorem numbers_rcalls (w0 : World) (nl : Nat) (A : Option Addr) (n c : Nat) (l : List Int) (hl : Sl w0 1 RInt A n c l) :
    Calls Tryz.prog 62 [.int .i64 (nl : Nat), .slice A n c].toArray w0 fun en w' => en = .returned (.bool (!l.any (outB nl))) ∧ Ext0 w0 w' := by
  have hE : Ext0 w0 w0 := Ext.refl _ _
  have hlen := hl.len
  subst hlen
  refine calls [4] Tryz.func62 rfl rfl rfl rfl ?_
  refine c_seq ?_
  refine c_ops ?_
  refine l_val rfl rfl rfl (r_assign rfl) ?_
  refine l_nil ?_
  refine c_seq ?_
  refine c_seq ?_
  refine c_ops ?_
  refine l_val rfl rfl rfl (r_assign rfl) ?_
  refine l_nil ?_
  refine c_block ?_
  refine c_loop [4, 5, 6, 7, 8, 9, 10, 11, 12, 13, 14, 15, 16, 17, 18, 19, 20, 21, 22, 23, 24] (fun m1 e w => ∃ (k : Nat), k ≤ l.length ∧ m1 = l.length - k ∧ e 5 = .int .i64 (k : Nat) ∧ (∀ j : Nat, j < k → outB nl (iat l j) = false) ∧ Ext0 w0 w) (l.length) ?_ ?_
  · exact ⟨0, Nat.zero_le _, rfl, rfl, fun j hj => absurd hj (Nat.not_lt_zero _), hE⟩
  intro m1 e w hI
  obtain ⟨k, hkl, hkm, h5s, hall, hE⟩ := hI
  refine c_know (t := 5) (by exact h5s) ?_
  have hL : Has w [] := trivial
  refine c_seq ?_
  refine c_seq ?_
  refine c_ops ?_
  refine l_val rfl rfl rfl (r_move rfl) ?_
  refine l_val rfl rfl rfl (r_move rfl) ?_
  refine l_val rfl rfl rfl (r_len rfl Tryz.underlying26 rfl) ?_
  refine l_val rfl rfl rfl (r_lss rfl rfl rfl) ?_
  refine l_nil ?_
  refine c_cond rfl (fun hb => ?_) (fun hb => ?_)
  · have hr9 := hb
    replace hb := of_decide_eq_true hb
    have hklt : k < l.length := by omega
    have hk := iat_nat hklt
    refine c_skip ?_
    refine c_seq ?_
    refine c_block ?_
    refine c_seq ?_
 
    refine c_ops ?_
    refine l_val rfl rfl rfl (r_move rfl) ?_
    refine l_val rfl rfl rfl (r_move rfl) ?_
    refine l_val rfl rfl rfl (r_indexAddr_sl rfl Tryz.underlying26 Tryz.sizeOf3 rfl hl.is rfl (by omega) (by omega)) ?_
    refine l_val rfl rfl rfl (r_load (v := .int .i64 (iat l k)) rfl Tryz.isAgg3 rfl ((hl.keep RInt.kept (Ext0.cells hE)).int k (by omega) (by omega))) ?_
    refine l_val rfl rfl rfl (r_lss rfl rfl rfl) ?_
    refine l_val rfl rfl rfl (r_move rfl) ?_
    refine l_case 17 rfl (fun hb => ?_) (fun hb => ?_)
    · have hr17 := hb
      replace hb := of_decide_eq_true hb
      have hno : outB nl (iat l k) = true := by simp [outB, hb]
      refine l_not rfl rfl rfl ?_
      refine l_not rfl rfl rfl ?_
      refine l_not rfl rfl rfl ?_
      refine l_not rfl rfl rfl ?_
      refine l_not rfl rfl rfl ?_
      refine l_not rfl rfl rfl ?_
      refine l_val rfl rfl rfl (r_pick rfl rfl) ?_
      refine l_nil ?_
      refine c_yes rfl ?_
      refine c_seq ?_
   
      refine c_ops ?_
      refine l_val rfl rfl rfl (r_assign rfl) ?_
      refine l_nil ?_
      refine c_ret ?_
      exact ⟨ret_bool rfl (by rw [any_get hk hno]; rfl), hE⟩
    · have hr17 := hb
      replace hb := of_decide_eq_false hb
      refine l_val rfl rfl rfl (r_move rfl) ?_
      refine l_val rfl rfl rfl (r_move rfl) ?_
      refine l_val rfl rfl rfl (r_indexAddr_sl rfl Tryz.underlying26 Tryz.sizeOf3 rfl hl.is rfl (by omega) (by omega)) ?_
      refine l_val rfl rfl rfl (r_load (v := .int .i64 (iat l k)) rfl Tryz.isAgg3 rfl ((hl.keep RInt.kept (Ext0.cells hE)).int k (by omega) (by omega))) ?_
      refine l_val rfl rfl rfl (r_move rfl) ?_
      refine l_val rfl rfl rfl (r_geq rfl rfl rfl) ?_
      refine l_val rfl rfl rfl (r_pick rfl rfl) ?_
      refine l_nil ?_
      refine c_cond rfl (fun hb => ?_) (fun hb => ?_)
      · have hr24 := hb
        replace hb := of_decide_eq_true hb
        have hno : outB nl (iat l k) = true := by simp [outB, hb]
        refine c_seq ?_
     
        refine c_ops ?_
        refine l_val rfl rfl rfl (r_assign rfl) ?_
        refine l_nil ?_
        refine c_ret ?_
        exact ⟨ret_bool rfl (by rw [any_get hk hno]; rfl), hE⟩
      · have hr24 := hb
        replace hb := of_decide_eq_false hb
        have hyes : outB nl (iat l k) = false := by have h1 := of_decide_eq_false hr17; simp [outB]; omega
        refine c_skip ?_
     
        refine c_ops ?_
        refine l_val rfl rfl rfl (r_move rfl) ?_
        refine l_val rfl rfl rfl (r_add rfl rfl rfl) ?_
        refine l_val rfl rfl rfl (r_assign rfl) ?_
        refine l_nil ?_
        refine ⟨by repeat (first | exact Agree.over _ _ _ | exact Agree.refl _ _ | (refine Agree.puto ?_ _ _ rfl) | (refine Agree.put ?_ _ _ rfl) | (refine Agree.sub ?_ rfl)), ?_⟩
        exact ⟨l.length - (k + 1), by omega, k + 1, by omega, rfl, by show Value.int .i64 (IntKind.i64.wrap ((k : Int) + 1)) = _; rw [wrap_succ hklt hl.max], fun j hj => by rcases Nat.lt_or_eq_of_le (Nat.le_of_lt_succ hj) with h | rfl <;> first | exact hall j h | exact hyes, hE⟩
  · have hr9 := hb
    replace hb := of_decide_eq_false hb
    refine c_exit ?_
    refine c_seq ?_
 
    refine c_ops ?_
    refine l_val rfl rfl rfl (r_assign rfl) ?_
    refine l_nil ?_
    refine c_ret ?_
    exact ⟨ret_bool rfl (by rw [any_none (fun j hj => hall j (by omega))]; rfl), hE⟩
theorem on_rcalls (w0 : World) (Ag : Option Addr) (cg : Nat) (g : List GNode) (hg : Nodes w0 Ag cg g) (f : Fact) (Aw : Option Addr) (cw : Nat) (hw : Ints w0 Aw cw f.why) (ha : 0 ≤ f.a ∧ f.a < g.length) (hne : (gat g f.a).kind ≠ 8 → f.why ≠ []) :
    Calls Tryz.prog 46 [.slice Ag g.length cg, .agg (factCells f Aw cw).toArray].toArray w0 fun en w' => ∃ A c, en = .returned (.slice A (onF g f).length c) ∧ (∀ W, Ints W Aw cw f.why → Ints W A c (onF g f)) ∧ Ext0 w0 w' := by
  have hE : Ext0 w0 w0 := Ext.refl _ _
  have hL : Has w0 [] := trivial
  obtain ⟨Ak, ck, Al, cl, hcell, _, _⟩ := hg.node f.a ha.1 ha.2
  refine calls [4] Tryz.func46 rfl rfl rfl rfl ?_
  refine c_seq ?_
  refine c_ops ?_
  refine l_new rfl rfl rfl (n_box rfl hL hE) ?_
  rintro _ w ⟨b3, rfl, hb3, hL, hE, hX⟩
  refine l_val rfl rfl rfl (r_assign rfl) ?_
  refine l_nil ?_
  refine c_seq ?_
  refine c_seq ?_
  refine c_ops ?_
  refine l_val rfl rfl rfl (r_move rfl) ?_
  refine l_val rfl rfl rfl (r_fieldAddr (n := 0) rfl Tryz.underlying43 rfl Tryz.sizeOf3 rfl) ?_
  refine l_val rfl rfl rfl (r_load_blk rfl Tryz.isAgg3 rfl (hL.get 0 rfl) rfl) ?_
  refine l_val rfl rfl rfl (r_indexAddr_sl rfl Tryz.underlying22 Tryz.sizeOf46 rfl hg.is rfl ha.1 ha.2) ?_
  refine l_val rfl rfl rfl (r_fieldAddr (n := 0) rfl Tryz.underlying46 rfl Tryz.sizeOf3 rfl) ?_
  refine l_val rfl rfl rfl (r_load rfl Tryz.isAgg3 rfl (Ext0.cells hE _ _ (hcell 0 _ rfl))) ?_
  refine l_val rfl rfl rfl (r_eql rfl rfl rfl) ?_
  refine l_nil ?_
  refine c_cond rfl (fun hb => ?_) (fun hb => ?_)
  · have hr11 := hb
    replace hb := of_decide_eq_true hb
    have hon : onF g f = f.why := by unfold onF; rw [if_pos hb]
    refine c_seq ?_
 
    refine c_ops ?_
    refine l_val rfl rfl rfl (r_fieldAddr (n := 0) rfl Tryz.underlying43 rfl Tryz.sizeOf26 rfl) ?_
    refine l_val rfl rfl rfl (r_load_blk rfl Tryz.isAgg26 rfl (hL.get 0 rfl) rfl) ?_
    refine l_val rfl rfl rfl (r_assign rfl) ?_
    refine l_nil ?_
    refine c_ret ?_
    exact ⟨Aw, cw, by rw [hon]; rfl, fun W h => by rw [hon]; exact h, hE⟩
  · have hr11 := hb
    replace hb := of_decide_eq_false hb
    have hon : onF g f = f.why.drop 1 := by unfold onF; rw [if_neg hb]
    have hwp := why_pos (hne hb)
    refine c_skip ?_
    refine c_seq ?_
 
    refine c_ops ?_
    refine l_val rfl rfl rfl (r_fieldAddr (n := 0) rfl Tryz.underlying43 rfl Tryz.sizeOf26 rfl) ?_
    refine l_val rfl rfl rfl (r_load_blk rfl Tryz.isAgg26 rfl (hL.get 0 rfl) rfl) ?_
    refine l_val rfl rfl rfl (r_slice_from rfl Tryz.underlying26 Tryz.sizeOf3 rfl rfl (by decide) (by omega)) ?_
    refine l_val rfl rfl rfl (r_assign rfl) ?_
    refine l_nil ?_
    refine c_ret ?_
    rw [hon]; exact ⟨_, _, by rw [List.length_drop]; rfl, fun W h => by have := h.drop1 hwp; rw [← this.len] at this; exact this, hE⟩
theorem one_any (nl : Nat) (l : List Int) : (decide ((l.length : Int) = 1) && !(l.drop 1).any (outB nl)) = decide ((l.length : Int) = 1) := by
  by_cases h : (l.length : Int) = 1
  · rw [List.drop_eq_nil_of_le (by omega)]
    simp
  · simp [h]
set_option maxHeartbeats 4000000 in
theorem formed_rcalls (w0 : World) (Ag : Option Addr) (cg : Nat) (g : List GNode) (hg : Nodes w0 Ag cg g) (hok : GraphOk g) (nl : Nat) (f : Fact) (Aw : Option Addr) (cw : Nat) (hw : Ints w0 Aw cw f.why) :
    Calls Tryz.prog 39 [.slice Ag g.length cg, .int .i64 (nl : Nat), .agg (factCells f Aw cw).toArray].toArray w0 fun en w' => en = .returned (.bool (formedF g nl f)) ∧ Ext0 w0 w' := by
  have hE : Ext0 w0 w0 := Ext.refl _ _
  have hL : Has w0 [] := trivial
  have hwm := hw.max
  refine calls [6] Tryz.func39 rfl rfl rfl rfl ?_
  refine c_seq ?_
  refine c_ops ?_
  refine l_new rfl rfl rfl (n_box rfl hL hE) ?_
  rintro _ w ⟨b5, rfl, hb5, hL, hE, hX⟩
  refine l_val rfl rfl rfl (r_assign rfl) ?_
  refine l_nil ?_
  refine c_seq ?_
  refine c_seq ?_
  refine c_ops ?_
  refine l_val rfl rfl rfl (r_fieldAddr (n := 0) rfl Tryz.underlying43 rfl Tryz.sizeOf3 rfl) ?_
  refine l_val rfl rfl rfl (r_load_blk rfl Tryz.isAgg3 rfl (hL.get 0 rfl) rfl) ?_
  refine l_val rfl rfl rfl (r_lss rfl rfl rfl) ?_
  refine l_val rfl rfl rfl (r_move rfl) ?_
  refine l_case 13 rfl (fun hb => ?_) (fun hb => ?_)
  · have hr13 := hb
    replace hb := of_decide_eq_true hb
    have hno : formedF g nl f = false := by have h : ¬ 0 ≤ f.a := (by omega); simp [formedF, placeB, h]
    refine l_not rfl rfl rfl ?_
    refine l_not rfl rfl rfl ?_
    refine l_not rfl rfl rfl ?_
    refine l_not rfl rfl rfl ?_
    refine l_not rfl rfl rfl ?_
    refine l_val rfl rfl rfl (r_pick rfl rfl) ?_
    refine l_val rfl rfl rfl (r_move rfl) ?_
    refine l_not rfl rfl rfl ?_
    refine l_not rfl rfl rfl ?_
    refine l_not rfl rfl rfl ?_
    refine l_val rfl rfl rfl (r_pick rfl rfl) ?_
    refine l_val rfl rfl rfl (r_move rfl) ?_
    refine l_not rfl rfl rfl ?_
    refine l_not rfl rfl rfl ?_
    refine l_not rfl rfl rfl ?_
    refine l_not rfl rfl rfl ?_
    refine l_not rfl rfl rfl ?_
    refine l_val rfl rfl rfl (r_pick rfl rfl) ?_
    refine l_nil ?_
    refine c_yes rfl ?_
    refine c_seq ?_
 
    refine c_ops ?_
    refine l_val rfl rfl rfl (r_assign rfl) ?_
    refine l_nil ?_
    refine c_ret ?_
    exact ⟨ret_bool rfl (by rw [hno]), hE⟩
  · have hr13 := hb
    replace hb := of_decide_eq_false hb
    refine l_val rfl rfl rfl (r_fieldAddr (n := 0) rfl Tryz.underlying43 rfl Tryz.sizeOf3 rfl) ?_
    refine l_val rfl rfl rfl (r_load_blk rfl Tryz.isAgg3 rfl (hL.get 0 rfl) rfl) ?_
    refine l_val rfl rfl rfl (r_move rfl) ?_
    refine l_val rfl rfl rfl (r_len rfl Tryz.underlying22 rfl) ?_
    refine l_val rfl rfl rfl (r_geq rfl rfl rfl) ?_
    refine l_val rfl rfl rfl (r_pick rfl rfl) ?_
    refine l_val rfl rfl rfl (r_move rfl) ?_
    refine l_case 20 rfl (fun hb => ?_) (fun hb => ?_)
    · have hr20 := hb
      replace hb := of_decide_eq_true hb
      have hno : formedF g nl f = false := by have h : ¬ f.a < g.length := (by omega); simp [formedF, placeB, h]
      refine l_not rfl rfl rfl ?_
      refine l_not rfl rfl rfl ?_
      refine l_not rfl rfl rfl ?_
      refine l_val rfl rfl rfl (r_pick rfl rfl) ?_
      refine l_val rfl rfl rfl (r_move rfl) ?_
      refine l_not rfl rfl rfl ?_
      refine l_not rfl rfl rfl ?_
      refine l_not rfl rfl rfl ?_
      refine l_not rfl rfl rfl ?_
      refine l_not rfl rfl rfl ?_
      refine l_val rfl rfl rfl (r_pick rfl rfl) ?_
      refine l_nil ?_
      refine c_yes rfl ?_
      refine c_seq ?_
   
      refine c_ops ?_
      refine l_val rfl rfl rfl (r_assign rfl) ?_
      refine l_nil ?_
      refine c_ret ?_
      exact ⟨ret_bool rfl (by rw [hno]), hE⟩
    · have hr20 := hb
      replace hb := of_decide_eq_false hb
      refine l_val rfl rfl rfl (r_fieldAddr (n := 0) rfl Tryz.underlying43 rfl Tryz.sizeOf3 rfl) ?_
      refine l_val rfl rfl rfl (r_load_blk rfl Tryz.isAgg3 rfl (hL.get 0 rfl) rfl) ?_
      refine l_val rfl rfl rfl (r_lss rfl rfl rfl) ?_
      refine l_val rfl rfl rfl (r_pick rfl rfl) ?_
      refine l_val rfl rfl rfl (r_move rfl) ?_
      refine l_case 25 rfl (fun hb => ?_) (fun hb => ?_)
      · have hr25 := hb
        replace hb := of_decide_eq_true hb
        have hno : formedF g nl f = false := by have h : ¬ 0 ≤ f.b := (by omega); simp [formedF, placeB, h]
        refine l_not rfl rfl rfl ?_
        refine l_not rfl rfl rfl ?_
        refine l_not rfl rfl rfl ?_
        refine l_not rfl rfl rfl ?_
        refine l_not rfl rfl rfl ?_
        refine l_val rfl rfl rfl (r_pick rfl rfl) ?_
        refine l_nil ?_
        refine c_yes rfl ?_
        refine c_seq ?_
     
        refine c_ops ?_
        refine l_val rfl rfl rfl (r_assign rfl) ?_
        refine l_nil ?_
        refine c_ret ?_
        exact ⟨ret_bool rfl (by rw [hno]), hE⟩
      · have hr25 := hb
        replace hb := of_decide_eq_false hb
        refine l_val rfl rfl rfl (r_fieldAddr (n := 0) rfl Tryz.underlying43 rfl Tryz.sizeOf3 rfl) ?_
        refine l_val rfl rfl rfl (r_load_blk rfl Tryz.isAgg3 rfl (hL.get 0 rfl) rfl) ?_
        refine l_val rfl rfl rfl (r_move rfl) ?_
        refine l_val rfl rfl rfl (r_len rfl Tryz.underlying22 rfl) ?_
        refine l_val rfl rfl rfl (r_geq rfl rfl rfl) ?_
        refine l_val rfl rfl rfl (r_pick rfl rfl) ?_
        refine l_nil ?_
        refine c_cond rfl (fun hb => ?_) (fun hb => ?_)
        · have hr31 := hb
          replace hb := of_decide_eq_true hb
          have hno : formedF g nl f = false := by have h : ¬ f.b < g.length := (by omega); simp [formedF, placeB, h]
          refine c_seq ?_
       
          refine c_ops ?_
          refine l_val rfl rfl rfl (r_assign rfl) ?_
          refine l_nil ?_
          refine c_ret ?_
          exact ⟨ret_bool rfl (by rw [hno]), hE⟩
        · have hr31 := hb
          replace hb := of_decide_eq_false hb
          have ha : 0 ≤ f.a ∧ f.a < g.length := ⟨by have := of_decide_eq_false hr13; omega, by have := of_decide_eq_false hr20; omega⟩
          have hbb : 0 ≤ f.b ∧ f.b < g.length := ⟨by have := of_decide_eq_false hr25; omega, by omega⟩
          have hpa : placeB g.length f.a = true := by simp [placeB, ha.1, ha.2]
          have hpb : placeB g.length f.b = true := by simp [placeB, hbb.1, hbb.2]
          obtain ⟨Ak, ck, Al, cl, hcell, hks, hls⟩ := hg.node f.a ha.1 ha.2
          refine c_skip ?_
          refine c_seq ?_
       
          refine c_ops ?_
          refine l_val rfl rfl rfl (r_move rfl) ?_
          refine l_val rfl rfl rfl (r_fieldAddr (n := 0) rfl Tryz.underlying43 rfl Tryz.sizeOf3 rfl) ?_
          refine l_val rfl rfl rfl (r_load_blk rfl Tryz.isAgg3 rfl (hL.get 0 rfl) rfl) ?_
          refine l_val rfl rfl rfl (r_indexAddr_sl rfl Tryz.underlying22 Tryz.sizeOf46 rfl hg.is rfl ha.1 ha.2) ?_
          refine l_val rfl rfl rfl (r_load_agg (vs := nodeCells (gat g f.a) Ak ck Al cl) rfl Tryz.isAgg46 Tryz.sizeOf46 rfl (fun j v hj => Ext0.cells hE _ _ (hcell j v hj))) ?_
          refine l_new rfl rfl rfl (n_alloc rfl Tryz.zeroValue46 hL hE) ?_
          rintro _ w ⟨b7, rfl, hb7, hL, hE, hX⟩
          refine l_new_do rfl rfl (r_store 0 rfl Tryz.sizeOf46 rfl hL hE rfl rfl rfl rfl (fun h => absurd h (Nat.not_lt.2 hb7))) ?_
          rintro w ⟨hL, hE, hz, hk⟩; replace hL : Has w [.blk b7 (.cells (nodeCells (gat g f.a) Ak ck Al cl).toArray 46 (0, 0)), .blk b5 (.cells (factCells f Aw cw).toArray 43 (0, 0))] := hL
          refine l_nil ?_
          refine c_seq ?_
          refine c_seq ?_
       
          refine c_ops ?_
          refine l_val rfl rfl rfl (r_fieldAddr (n := 0) rfl Tryz.underlying46 rfl Tryz.sizeOf3 rfl) ?_
          refine l_val rfl rfl rfl (r_load_blk rfl Tryz.isAgg3 rfl (hL.get 0 rfl) rfl) ?_
          refine l_val rfl rfl rfl (r_eql rfl rfl rfl) ?_
          refine l_nil ?_
          refine c_cond rfl (fun hb => ?_) (fun hb => ?_)
          · have hr39 := hb
            replace hb := of_decide_eq_true hb
            have hm : manyF g f = some ((gat g f.a).l.length : Int) := by unfold manyF; rw [if_pos hb]
            have hon : onF g f = f.why := by unfold onF; rw [if_pos hb]
            refine c_seq ?_
         
            refine c_ops ?_
            refine l_val rfl rfl rfl (r_fieldAddr (n := 0) rfl Tryz.underlying43 rfl Tryz.sizeOf26 rfl) ?_
            refine l_val rfl rfl rfl (r_load_blk rfl Tryz.isAgg26 rfl (hL.get 1 rfl) rfl) ?_
            refine l_val rfl rfl rfl (r_len rfl Tryz.underlying26 rfl) ?_
            refine l_val rfl rfl rfl (r_fieldAddr (n := 0) rfl Tryz.underlying46 rfl Tryz.sizeOf26 rfl) ?_
            refine l_val rfl rfl rfl (r_load_blk rfl Tryz.isAgg26 rfl (hL.get 0 rfl) rfl) ?_
            refine l_val rfl rfl rfl (r_len rfl Tryz.underlying26 rfl) ?_
            refine l_val rfl rfl rfl (r_eql rfl rfl rfl) ?_
            refine l_val rfl rfl rfl (r_move rfl) ?_
            refine l_case 47 rfl (fun hb => ?_) (fun hb => ?_)
            · have hr47 := hb
              replace hb := of_decide_eq_true hb
              refine l_val rfl rfl rfl (r_move rfl) ?_
              refine l_val rfl rfl rfl (r_fieldAddr (n := 0) rfl Tryz.underlying43 rfl Tryz.sizeOf26 rfl) ?_
              refine l_val rfl rfl rfl (r_load_blk rfl Tryz.isAgg26 rfl (hL.get 1 rfl) rfl) ?_
              refine l_by rfl rfl rfl (r_call rfl rfl Tryz.func62 rfl rfl) (numbers_rcalls _ nl _ _ _ _ (hw.keep RInt.kept (Ext0.cells hE))) ?_
              rintro _ w ⟨rfl, hX⟩
              replace hL := hL.ext0 hX
              replace hE := hE.step0 hX
              refine ⟨_, rfl, ?_⟩
              refine l_val rfl rfl rfl (r_pick rfl rfl) ?_
              refine l_val rfl rfl rfl (r_assign rfl) ?_
              refine l_nil ?_
              refine c_ret ?_
              exact ⟨ret_bool rfl (by rw [formed_some hpa hpb hm, hon]; simp only [hr47, Bool.true_and, Bool.and_true, Bool.false_and, Bool.and_false, Bool.true_or, Bool.or_true, Bool.false_or, Bool.or_false, Bool.not_true, Bool.not_false, cond_true, cond_false]), hE⟩
            · have hr47 := hb
              replace hb := of_decide_eq_false hb
              refine l_not rfl rfl rfl ?_
              refine l_not rfl rfl rfl ?_
              refine l_not rfl rfl rfl ?_
              refine l_not rfl rfl rfl ?_
              refine l_val rfl rfl rfl (r_pick rfl rfl) ?_
              refine l_val rfl rfl rfl (r_assign rfl) ?_
              refine l_nil ?_
              refine c_ret ?_
              exact ⟨ret_bool rfl (by rw [formed_some hpa hpb hm, hon]; simp only [hr47, Bool.true_and, Bool.and_true, Bool.false_and, Bool.and_false, Bool.true_or, Bool.or_true, Bool.false_or, Bool.or_false, Bool.not_true, Bool.not_false, cond_true, cond_false]), hE⟩
          · have hr39 := hb
            replace hb := of_decide_eq_false hb
            have h8 : ¬ (gat g f.a).kind = 8 := hb
            have hon : onF g f = f.why.drop 1 := by unfold onF; rw [if_neg hb]
            refine c_skip ?_
            refine c_seq ?_
            refine c_seq ?_
         
            refine c_ops ?_
            refine l_val rfl rfl rfl (r_fieldAddr (n := 0) rfl Tryz.underlying43 rfl Tryz.sizeOf26 rfl) ?_
            refine l_val rfl rfl rfl (r_load_blk rfl Tryz.isAgg26 rfl (hL.get 1 rfl) rfl) ?_
            refine l_val rfl rfl rfl (r_len rfl Tryz.underlying26 rfl) ?_
            refine l_val rfl rfl rfl (r_eql rfl rfl rfl) ?_
            refine l_nil ?_
            refine c_cond rfl (fun hb => ?_) (fun hb => ?_)
            · have hr56 := hb
              replace hb := of_decide_eq_true hb
              have hm : manyF g f = none := by unfold manyF; rw [if_neg h8, if_pos (by omega)]
              refine c_seq ?_
           
              refine c_ops ?_
              refine l_val rfl rfl rfl (r_assign rfl) ?_
              refine l_nil ?_
              refine c_ret ?_
              exact ⟨ret_bool rfl (by rw [formed_none hm]), hE⟩
            · have hr56 := hb
              replace hb := of_decide_eq_false hb
              have hw0 : ¬ f.why.length = 0 := by omega
              have hwp : 0 < f.why.length := by omega
              refine c_skip ?_
              refine c_seq ?_
              refine c_merge [57, 58, 59, 60, 61, 62, 63, 64, 65, 66] (fun e w => e 66 = .bool (decide ((gat g f.a).kind = 9) && decide (iat f.why 0 = -1)) ∧ Has w [.blk b7 (.cells (nodeCells (gat g f.a) Ak ck Al cl).toArray 46 (0, 0)), .blk b5 (.cells (factCells f Aw cw).toArray 43 (0, 0))] ∧ Ext0 w0 w) ?_ ?_
              · skip
             
                refine c_ops ?_
                refine l_val rfl rfl rfl (r_fieldAddr (n := 0) rfl Tryz.underlying46 rfl Tryz.sizeOf3 rfl) ?_
                refine l_val rfl rfl rfl (r_load_blk rfl Tryz.isAgg3 rfl (hL.get 0 rfl) rfl) ?_
                refine l_val rfl rfl rfl (r_eql rfl rfl rfl) ?_
                refine l_val rfl rfl rfl (r_move rfl) ?_
                refine l_case 60 rfl (fun hb => ?_) (fun hb => ?_)
                · have hr60 := hb
                  replace hb := of_decide_eq_true hb
                  refine l_val rfl rfl rfl (r_fieldAddr (n := 0) rfl Tryz.underlying43 rfl Tryz.sizeOf26 rfl) ?_
                  refine l_val rfl rfl rfl (r_load_blk rfl Tryz.isAgg26 rfl (hL.get 1 rfl) rfl) ?_
                  refine l_val rfl rfl rfl (r_indexAddr_sl rfl Tryz.underlying26 Tryz.sizeOf3 rfl hw.is rfl (by decide) (by omega)) ?_
                  refine l_val rfl rfl rfl (r_load (v := .int .i64 (iat f.why 0)) rfl Tryz.isAgg3 rfl ((hw.keep RInt.kept (Ext0.cells hE)).int 0 (by decide) (by omega))) ?_
                  refine l_val rfl rfl rfl (r_eql rfl rfl rfl) ?_
                  refine l_val rfl rfl rfl (r_pick rfl rfl) ?_
                  refine l_nil ?_
                  refine ⟨by repeat (first | exact Agree.over _ _ _ | exact Agree.refl _ _ | (refine Agree.puto ?_ _ _ rfl) | (refine Agree.put ?_ _ _ rfl) | (refine Agree.sub ?_ rfl)), ?_⟩
                  exact ⟨congrArg Value.bool (by simp only [hr60, Bool.true_and, Bool.and_true, Bool.false_and, Bool.and_false, Bool.true_or, Bool.or_true, Bool.false_or, Bool.or_false, Bool.not_true, Bool.not_false, cond_true, cond_false]), hL, hE⟩
                · have hr60 := hb
                  replace hb := of_decide_eq_false hb
                  refine l_not rfl rfl rfl ?_
                  refine l_not rfl rfl rfl ?_
                  refine l_not rfl rfl rfl ?_
                  refine l_not rfl rfl rfl ?_
                  refine l_not rfl rfl rfl ?_
                  refine l_val rfl rfl rfl (r_pick rfl rfl) ?_
                  refine l_nil ?_
                  refine ⟨by repeat (first | exact Agree.over _ _ _ | exact Agree.refl _ _ | (refine Agree.puto ?_ _ _ rfl) | (refine Agree.put ?_ _ _ rfl) | (refine Agree.sub ?_ rfl)), ?_⟩
                  exact ⟨congrArg Value.bool (by simp only [hr60, Bool.true_and, Bool.and_true, Bool.false_and, Bool.and_false, Bool.true_or, Bool.or_true, Bool.false_or, Bool.or_false, Bool.not_true, Bool.not_false, cond_true, cond_false]), hL, hE⟩
              rintro e w hI
              obtain ⟨h66, hL, hE⟩ := hI
              refine c_know (t := 66) (by exact h66) ?_
              refine c_cond rfl (fun hb => ?_) (fun hb => ?_)
              · have hr66 := hb
                have hm : manyF g f = some 2 := by unfold manyF; rw [if_neg h8, if_neg hw0, if_pos (by simpa using hb)]
                refine c_seq ?_
             
                refine c_ops ?_
                refine l_val rfl rfl rfl (r_fieldAddr (n := 0) rfl Tryz.underlying43 rfl Tryz.sizeOf26 rfl) ?_
                refine l_val rfl rfl rfl (r_load_blk rfl Tryz.isAgg26 rfl (hL.get 1 rfl) rfl) ?_
                refine l_val rfl rfl rfl (r_len rfl Tryz.underlying26 rfl) ?_
                refine l_val rfl rfl rfl (r_eql rfl rfl rfl) ?_
                refine l_val rfl rfl rfl (r_move rfl) ?_
                refine l_case 71 rfl (fun hb => ?_) (fun hb => ?_)
                · have hr71 := hb
                  replace hb := of_decide_eq_true hb
                  refine l_val rfl rfl rfl (r_move rfl) ?_
                  refine l_val rfl rfl rfl (r_fieldAddr (n := 0) rfl Tryz.underlying43 rfl Tryz.sizeOf26 rfl) ?_
                  refine l_val rfl rfl rfl (r_load_blk rfl Tryz.isAgg26 rfl (hL.get 1 rfl) rfl) ?_
                  refine l_val rfl rfl rfl (r_slice_from rfl Tryz.underlying26 Tryz.sizeOf3 rfl rfl (by decide) (by omega)) ?_
                  refine l_by rfl rfl rfl (r_call rfl rfl Tryz.func62 rfl rfl) (numbers_rcalls _ nl _ _ _ _ ((hw.keep RInt.kept (Ext0.cells hE)).drop1 hwp)) ?_
                  rintro _ w ⟨rfl, hX⟩
                  replace hL := hL.ext0 hX
                  replace hE := hE.step0 hX
                  refine ⟨_, rfl, ?_⟩
                  refine l_val rfl rfl rfl (r_pick rfl rfl) ?_
                  refine l_val rfl rfl rfl (r_assign rfl) ?_
                  refine l_nil ?_
                  refine c_ret ?_
                  exact ⟨ret_bool rfl (by rw [formed_some hpa hpb hm, hon]; simp only [hr71, Bool.true_and, Bool.and_true, Bool.false_and, Bool.and_false, Bool.true_or, Bool.or_true, Bool.false_or, Bool.or_false, Bool.not_true, Bool.not_false, cond_true, cond_false]), hE⟩
                · have hr71 := hb
                  replace hb := of_decide_eq_false hb
                  refine l_not rfl rfl rfl ?_
                  refine l_not rfl rfl rfl ?_
                  refine l_not rfl rfl rfl ?_
                  refine l_not rfl rfl rfl ?_
                  refine l_not rfl rfl rfl ?_
                  refine l_val rfl rfl rfl (r_pick rfl rfl) ?_
                  refine l_val rfl rfl rfl (r_assign rfl) ?_
                  refine l_nil ?_
                  refine c_ret ?_
                  exact ⟨ret_bool rfl (by rw [formed_some hpa hpb hm, hon]; simp only [hr71, Bool.true_and, Bool.and_true, Bool.false_and, Bool.and_false, Bool.true_or, Bool.or_true, Bool.false_or, Bool.or_false, Bool.not_true, Bool.not_false, cond_true, cond_false]), hE⟩
              · have hr66 := hb
                have h9 : ¬ ((gat g f.a).kind = 9 ∧ iat f.why 0 = -1) := by simpa using hb
                refine c_skip ?_
                refine c_seq ?_
             
                refine c_ops ?_
                refine l_val rfl rfl rfl (r_move rfl) ?_
                refine l_val rfl rfl rfl (r_fieldAddr (n := 0) rfl Tryz.underlying43 rfl Tryz.sizeOf3 rfl) ?_
                refine l_val rfl rfl rfl (r_load_blk rfl Tryz.isAgg3 rfl (hL.get 1 rfl) rfl) ?_
                refine l_by rfl rfl rfl (r_call rfl rfl Tryz.func63 rfl rfl) (rMembers_calls _ Ag cg g (hg.keep RNode.kept (Ext0.cells hE)) hok.fits f.b) ?_
                rintro _ w ⟨v, rfl, hrow, hX⟩
                replace hL := hL.addRow hX hrow
                replace hE := hE.step0 hX
                obtain ⟨A2, c2, rfl, hmem, _⟩ := Sl.ofInts hrow
                obtain ⟨bm, hL⟩ : ∃ bm, Has w (.row bm _ _ _ _ _ :: _) := ⟨_, hL⟩
                replace hL : Has w [.row bm 3 1 (.slice A2 (membersG g f.b).length c2) (membersG g f.b).length ((membersG g f.b).map (Value.int .i64)), .blk b7 (.cells (nodeCells (gat g f.a) Ak ck Al cl).toArray 46 (0, 0)), .blk b5 (.cells (factCells f Aw cw).toArray 43 (0, 0))] := hL
                refine ⟨_, rfl, ?_⟩
                refine l_val rfl rfl rfl (r_assign rfl) ?_
                refine l_nil ?_
                refine c_seq ?_
                refine c_seq ?_
             
                refine c_ops ?_
                refine l_val rfl rfl rfl (r_fieldAddr (n := 0) rfl Tryz.underlying43 rfl Tryz.sizeOf26 rfl) ?_
                refine l_val rfl rfl rfl (r_load_blk rfl Tryz.isAgg26 rfl (hL.get 2 rfl) rfl) ?_
                refine l_val rfl rfl rfl (r_indexAddr_sl rfl Tryz.underlying26 Tryz.sizeOf3 rfl hw.is rfl (by decide) (by omega)) ?_
                refine l_val rfl rfl rfl (r_load (v := .int .i64 (iat f.why 0)) rfl Tryz.isAgg3 rfl ((hw.keep RInt.kept (Ext0.cells hE)).int 0 (by decide) (by omega))) ?_
                refine l_val rfl rfl rfl (r_lss rfl rfl rfl) ?_
                refine l_val rfl rfl rfl (r_move rfl) ?_
                refine l_case 87 rfl (fun hb => ?_) (fun hb => ?_)
                · have hr87 := hb
                  replace hb := of_decide_eq_true hb
                  have hm : manyF g f = none := by unfold manyF; rw [if_neg h8, if_neg hw0, if_neg h9, if_pos (.inl hb)]
                  refine l_not rfl rfl rfl ?_
                  refine l_not rfl rfl rfl ?_
                  refine l_not rfl rfl rfl ?_
                  refine l_not rfl rfl rfl ?_
                  refine l_not rfl rfl rfl ?_
                  refine l_not rfl rfl rfl ?_
                  refine l_not rfl rfl rfl ?_
                  refine l_val rfl rfl rfl (r_pick rfl rfl) ?_
                  refine l_nil ?_
                  refine c_yes rfl ?_
                  refine c_seq ?_
               
                  refine c_ops ?_
                  refine l_val rfl rfl rfl (r_assign rfl) ?_
                  refine l_nil ?_
                  refine c_ret ?_
                  exact ⟨ret_bool rfl (by rw [formed_none hm]), hE⟩
                · have hr87 := hb
                  replace hb := of_decide_eq_false hb
                  refine l_val rfl rfl rfl (r_fieldAddr (n := 0) rfl Tryz.underlying43 rfl Tryz.sizeOf26 rfl) ?_
                  refine l_val rfl rfl rfl (r_load_blk rfl Tryz.isAgg26 rfl (hL.get 2 rfl) rfl) ?_
                  refine l_val rfl rfl rfl (r_indexAddr_sl rfl Tryz.underlying26 Tryz.sizeOf3 rfl hw.is rfl (by decide) (by omega)) ?_
                  refine l_val rfl rfl rfl (r_load (v := .int .i64 (iat f.why 0)) rfl Tryz.isAgg3 rfl ((hw.keep RInt.kept (Ext0.cells hE)).int 0 (by decide) (by omega))) ?_
                  refine l_val rfl rfl rfl (r_move rfl) ?_
                  refine l_val rfl rfl rfl (r_len rfl Tryz.underlying26 rfl) ?_
                  refine l_val rfl rfl rfl (r_geq rfl rfl rfl) ?_
                  refine l_val rfl rfl rfl (r_pick rfl rfl) ?_
                  refine l_nil ?_
                  refine c_cond rfl (fun hb => ?_) (fun hb => ?_)
                  · have hr95 := hb
                    replace hb := of_decide_eq_true hb
                    have hm : manyF g f = none := by unfold manyF; rw [if_neg h8, if_neg hw0, if_neg h9, if_pos (.inr hb)]
                    refine c_seq ?_
                 
                    refine c_ops ?_
                    refine l_val rfl rfl rfl (r_assign rfl) ?_
                    refine l_nil ?_
                    refine c_ret ?_
                    exact ⟨ret_bool rfl (by rw [formed_none hm]), hE⟩
                  · have hr95 := hb
                    replace hb := of_decide_eq_false hb
                    have hni : ¬ (iat f.why 0 < 0 ∨ (membersG g f.b).length ≤ iat f.why 0) := by have := of_decide_eq_false hr87; omega
                    have hwi : 0 ≤ iat f.why 0 ∧ iat f.why 0 < (membersG g f.b).length := by omega
                    have hch := chosen_in hok hwi
                    obtain ⟨Bk, dk, Bl, dl, hcell2, htk, htl⟩ := hg.node _ hch.1 hch.2.1
                    refine c_skip ?_
                    refine c_seq ?_
                 
                    refine c_ops ?_
                    refine l_val rfl rfl rfl (r_move rfl) ?_
                    refine l_val rfl rfl rfl (r_move rfl) ?_
                    refine l_val rfl rfl rfl (r_fieldAddr (n := 0) rfl Tryz.underlying43 rfl Tryz.sizeOf26 rfl) ?_
                    refine l_val rfl rfl rfl (r_load_blk rfl Tryz.isAgg26 rfl (hL.get 2 rfl) rfl) ?_
                    refine l_val rfl rfl rfl (r_indexAddr_sl rfl Tryz.underlying26 Tryz.sizeOf3 rfl hw.is rfl (by decide) (by omega)) ?_
                    refine l_val rfl rfl rfl (r_load (v := .int .i64 (iat f.why 0)) rfl Tryz.isAgg3 rfl ((hw.keep RInt.kept (Ext0.cells hE)).int 0 (by decide) (by omega))) ?_
                    refine l_val rfl rfl rfl (r_indexAddr_sl rfl Tryz.underlying26 Tryz.sizeOf3 rfl hmem.is rfl hwi.1 hwi.2) ?_
                    refine l_val rfl rfl rfl (r_load (v := .int .i64 (iat (membersG g f.b) (iat f.why 0))) rfl Tryz.isAgg3 rfl ((Sl.ints_at (hL.row 0 rfl)).int _ hwi.1 hwi.2)) ?_
                    refine l_val rfl rfl rfl (r_indexAddr_sl rfl Tryz.underlying22 Tryz.sizeOf46 rfl hg.is rfl hch.1 hch.2.1) ?_
                    refine l_val rfl rfl rfl (r_load_agg (vs := nodeCells (chosenF g f) Bk dk Bl dl) rfl Tryz.isAgg46 Tryz.sizeOf46 rfl (fun j v hj => Ext0.cells hE _ _ (hcell2 j v hj))) ?_
                    refine l_new rfl rfl rfl (n_alloc rfl Tryz.zeroValue46 hL hE) ?_
                    rintro _ w ⟨b9, rfl, hb9, hL, hE, hX⟩
                    refine l_new_do rfl rfl (r_store 0 rfl Tryz.sizeOf46 rfl hL hE rfl rfl rfl rfl (fun h => absurd h (Nat.not_lt.2 hb9))) ?_
                    rintro w ⟨hL, hE, hz, hk⟩; replace hL : Has w [.blk b9 (.cells (nodeCells (chosenF g f) Bk dk Bl dl).toArray 46 (0, 0)), .row bm 3 1 (.slice A2 (membersG g f.b).length c2) (membersG g f.b).length ((membersG g f.b).map (Value.int .i64)), .blk b7 (.cells (nodeCells (gat g f.a) Ak ck Al cl).toArray 46 (0, 0)), .blk b5 (.cells (factCells f Aw cw).toArray 43 (0, 0))] := hL
                    refine l_nil ?_
                    refine c_seq ?_
                    refine c_merge [106, 107, 108, 109, 110, 111, 112, 113] (fun e w => e 113 = .bool (decide ((gat g f.a).kind = 7) && decide ((chosenF g f).kind = 7)) ∧ Has w [.blk b9 (.cells (nodeCells (chosenF g f) Bk dk Bl dl).toArray 46 (0, 0)), .row bm 3 1 (.slice A2 (membersG g f.b).length c2) (membersG g f.b).length ((membersG g f.b).map (Value.int .i64)), .blk b7 (.cells (nodeCells (gat g f.a) Ak ck Al cl).toArray 46 (0, 0)), .blk b5 (.cells (factCells f Aw cw).toArray 43 (0, 0))] ∧ Ext0 w0 w) ?_ ?_
                    · skip
                   
                      refine c_ops ?_
                      refine l_val rfl rfl rfl (r_fieldAddr (n := 0) rfl Tryz.underlying46 rfl Tryz.sizeOf3 rfl) ?_
                      refine l_val rfl rfl rfl (r_load_blk rfl Tryz.isAgg3 rfl (hL.get 2 rfl) rfl) ?_
                      refine l_val rfl rfl rfl (r_eql rfl rfl rfl) ?_
                      refine l_val rfl rfl rfl (r_move rfl) ?_
                      refine l_case 109 rfl (fun hb => ?_) (fun hb => ?_)
                      · have hr109 := hb
                        replace hb := of_decide_eq_true hb
                        refine l_val rfl rfl rfl (r_fieldAddr (n := 0) rfl Tryz.underlying46 rfl Tryz.sizeOf3 rfl) ?_
                        refine l_val rfl rfl rfl (r_load_blk rfl Tryz.isAgg3 rfl (hL.get 0 rfl) rfl) ?_
                        refine l_val rfl rfl rfl (r_eql rfl rfl rfl) ?_
                        refine l_val rfl rfl rfl (r_pick rfl rfl) ?_
                        refine l_nil ?_
                        refine ⟨by repeat (first | exact Agree.over _ _ _ | exact Agree.refl _ _ | (refine Agree.puto ?_ _ _ rfl) | (refine Agree.put ?_ _ _ rfl) | (refine Agree.sub ?_ rfl)), ?_⟩
                        exact ⟨congrArg Value.bool (by simp only [hr109, Bool.true_and, Bool.and_true, Bool.false_and, Bool.and_false, Bool.true_or, Bool.or_true, Bool.false_or, Bool.or_false, Bool.not_true, Bool.not_false, cond_true, cond_false]), hL, hE⟩
                      · have hr109 := hb
                        replace hb := of_decide_eq_false hb
                        refine l_not rfl rfl rfl ?_
                        refine l_not rfl rfl rfl ?_
                        refine l_not rfl rfl rfl ?_
                        refine l_val rfl rfl rfl (r_pick rfl rfl) ?_
                        refine l_nil ?_
                        refine ⟨by repeat (first | exact Agree.over _ _ _ | exact Agree.refl _ _ | (refine Agree.puto ?_ _ _ rfl) | (refine Agree.put ?_ _ _ rfl) | (refine Agree.sub ?_ rfl)), ?_⟩
                        exact ⟨congrArg Value.bool (by simp only [hr109, Bool.true_and, Bool.and_true, Bool.false_and, Bool.and_false, Bool.true_or, Bool.or_true, Bool.false_or, Bool.or_false, Bool.not_true, Bool.not_false, cond_true, cond_false]), hL, hE⟩
                    rintro e w hI
                    obtain ⟨h113, hL, hE⟩ := hI
                    refine c_know (t := 113) (by exact h113) ?_
                    refine c_cond rfl (fun hb => ?_) (fun hb => ?_)
                    · have hr113 := hb
                      have hm : manyF g f = some (1 + ((chosenF g f).keys.length : Int)) := by unfold manyF; rw [if_neg h8, if_neg hw0, if_neg h9, if_neg hni, if_pos (by simpa using hb)]
                      have hkm : (chosenF g f).keys.length ≤ 1000000000000 := by
                        have h1 := hok.fits.lists _ (gat_mem' hch.1 hch.2.1)
                        have h2 := fun h => ((hok.is (gat_mem' hch.1 hch.2.1)).keys (k := 0) h).1
                        show (gat g (iat (membersG g f.b) (iat f.why 0))).keys.length ≤ _
                        omega
                      have hwr : IntKind.i64.wrap (1 + ((chosenF g f).keys.length : Int)) = 1 + ((chosenF g f).keys.length : Int) := wrap_small (by omega) (by omega)
                      refine c_seq ?_
                   
                      refine c_ops ?_
                      refine l_val rfl rfl rfl (r_fieldAddr (n := 0) rfl Tryz.underlying43 rfl Tryz.sizeOf26 rfl) ?_
                      refine l_val rfl rfl rfl (r_load_blk rfl Tryz.isAgg26 rfl (hL.get 3 rfl) rfl) ?_
                      refine l_val rfl rfl rfl (r_len rfl Tryz.underlying26 rfl) ?_
                      refine l_val rfl rfl rfl (r_fieldAddr (n := 0) rfl Tryz.underlying46 rfl Tryz.sizeOf44 rfl) ?_
                      refine l_val rfl rfl rfl (r_load_blk rfl Tryz.isAgg44 rfl (hL.get 0 rfl) rfl) ?_
                      refine l_val rfl rfl rfl (r_len rfl Tryz.underlying44 rfl) ?_
                      refine l_val rfl rfl rfl ((r_add rfl rfl rfl).trans (by rw [hwr])) ?_
                      refine l_val rfl rfl rfl (r_eql rfl rfl rfl) ?_
                      refine l_val rfl rfl rfl (r_move rfl) ?_
                      refine l_case 122 rfl (fun hb => ?_) (fun hb => ?_)
                      · have hr122 := hb
                        replace hb := of_decide_eq_true hb
                        refine l_val rfl rfl rfl (r_move rfl) ?_
                        refine l_val rfl rfl rfl (r_fieldAddr (n := 0) rfl Tryz.underlying43 rfl Tryz.sizeOf26 rfl) ?_
                        refine l_val rfl rfl rfl (r_load_blk rfl Tryz.isAgg26 rfl (hL.get 3 rfl) rfl) ?_
                        refine l_val rfl rfl rfl (r_slice_from rfl Tryz.underlying26 Tryz.sizeOf3 rfl rfl (by decide) (by omega)) ?_
                        refine l_by rfl rfl rfl (r_call rfl rfl Tryz.func62 rfl rfl) (numbers_rcalls _ nl _ _ _ _ ((hw.keep RInt.kept (Ext0.cells hE)).drop1 hwp)) ?_
                        rintro _ w ⟨rfl, hX⟩
                        replace hL := hL.ext0 hX
                        replace hE := hE.step0 hX
                        refine ⟨_, rfl, ?_⟩
                        refine l_val rfl rfl rfl (r_pick rfl rfl) ?_
                        refine l_val rfl rfl rfl (r_assign rfl) ?_
                        refine l_nil ?_
                        refine c_ret ?_
                        exact ⟨ret_bool rfl (by rw [formed_some hpa hpb hm, hon]; simp only [hr122, Bool.true_and, Bool.and_true, Bool.false_and, Bool.and_false, Bool.true_or, Bool.or_true, Bool.false_or, Bool.or_false, Bool.not_true, Bool.not_false, cond_true, cond_false]), hE⟩
                      · have hr122 := hb
                        replace hb := of_decide_eq_false hb
                        refine l_not rfl rfl rfl ?_
                        refine l_not rfl rfl rfl ?_
                        refine l_not rfl rfl rfl ?_
                        refine l_not rfl rfl rfl ?_
                        refine l_not rfl rfl rfl ?_
                        refine l_val rfl rfl rfl (r_pick rfl rfl) ?_
                        refine l_val rfl rfl rfl (r_assign rfl) ?_
                        refine l_nil ?_
                        refine c_ret ?_
                        exact ⟨ret_bool rfl (by rw [formed_some hpa hpb hm, hon]; simp only [hr122, Bool.true_and, Bool.and_true, Bool.false_and, Bool.and_false, Bool.true_or, Bool.or_true, Bool.false_or, Bool.or_false, Bool.not_true, Bool.not_false, cond_true, cond_false]), hE⟩
                    · have hr113 := hb
                      have h7 : ¬ ((gat g f.a).kind = 7 ∧ (chosenF g f).kind = 7) := by simpa using hb
                      refine c_skip ?_
                      refine c_seq ?_
                      refine c_merge [129, 130, 131, 132, 133, 134, 135, 136] (fun e w => e 136 = .bool (decide ((gat g f.a).kind = 9) && decide ((chosenF g f).kind = 9)) ∧ Has w [.blk b9 (.cells (nodeCells (chosenF g f) Bk dk Bl dl).toArray 46 (0, 0)), .row bm 3 1 (.slice A2 (membersG g f.b).length c2) (membersG g f.b).length ((membersG g f.b).map (Value.int .i64)), .blk b7 (.cells (nodeCells (gat g f.a) Ak ck Al cl).toArray 46 (0, 0)), .blk b5 (.cells (factCells f Aw cw).toArray 43 (0, 0))] ∧ Ext0 w0 w) ?_ ?_
                      · skip
                     
                        refine c_ops ?_
                        refine l_val rfl rfl rfl (r_fieldAddr (n := 0) rfl Tryz.underlying46 rfl Tryz.sizeOf3 rfl) ?_
                        refine l_val rfl rfl rfl (r_load_blk rfl Tryz.isAgg3 rfl (hL.get 2 rfl) rfl) ?_
                        refine l_val rfl rfl rfl (r_eql rfl rfl rfl) ?_
                        refine l_val rfl rfl rfl (r_move rfl) ?_
                        refine l_case 132 rfl (fun hb => ?_) (fun hb => ?_)
                        · have hr132 := hb
                          replace hb := of_decide_eq_true hb
                          refine l_val rfl rfl rfl (r_fieldAddr (n := 0) rfl Tryz.underlying46 rfl Tryz.sizeOf3 rfl) ?_
                          refine l_val rfl rfl rfl (r_load_blk rfl Tryz.isAgg3 rfl (hL.get 0 rfl) rfl) ?_
                          refine l_val rfl rfl rfl (r_eql rfl rfl rfl) ?_
                          refine l_val rfl rfl rfl (r_pick rfl rfl) ?_
                          refine l_nil ?_
                          refine ⟨by repeat (first | exact Agree.over _ _ _ | exact Agree.refl _ _ | (refine Agree.puto ?_ _ _ rfl) | (refine Agree.put ?_ _ _ rfl) | (refine Agree.sub ?_ rfl)), ?_⟩
                          exact ⟨congrArg Value.bool (by simp only [hr132, Bool.true_and, Bool.and_true, Bool.false_and, Bool.and_false, Bool.true_or, Bool.or_true, Bool.false_or, Bool.or_false, Bool.not_true, Bool.not_false, cond_true, cond_false]), hL, hE⟩
                        · have hr132 := hb
                          replace hb := of_decide_eq_false hb
                          refine l_not rfl rfl rfl ?_
                          refine l_not rfl rfl rfl ?_
                          refine l_not rfl rfl rfl ?_
                          refine l_val rfl rfl rfl (r_pick rfl rfl) ?_
                          refine l_nil ?_
                          refine ⟨by repeat (first | exact Agree.over _ _ _ | exact Agree.refl _ _ | (refine Agree.puto ?_ _ _ rfl) | (refine Agree.put ?_ _ _ rfl) | (refine Agree.sub ?_ rfl)), ?_⟩
                          exact ⟨congrArg Value.bool (by simp only [hr132, Bool.true_and, Bool.and_true, Bool.false_and, Bool.and_false, Bool.true_or, Bool.or_true, Bool.false_or, Bool.or_false, Bool.not_true, Bool.not_false, cond_true, cond_false]), hL, hE⟩
                      rintro e w hI
                      obtain ⟨h136, hL, hE⟩ := hI
                      refine c_know (t := 136) (by exact h136) ?_
                      refine c_cond rfl (fun hb => ?_) (fun hb => ?_)
                      · have hr136 := hb
                        have hm : manyF g f = some 2 := by unfold manyF; rw [if_neg h8, if_neg hw0, if_neg h9, if_neg hni, if_neg h7, if_pos (by simpa using hb)]
                        refine c_seq ?_
                     
                        refine c_ops ?_
                        refine l_val rfl rfl rfl (r_fieldAddr (n := 0) rfl Tryz.underlying43 rfl Tryz.sizeOf26 rfl) ?_
                        refine l_val rfl rfl rfl (r_load_blk rfl Tryz.isAgg26 rfl (hL.get 3 rfl) rfl) ?_
                        refine l_val rfl rfl rfl (r_len rfl Tryz.underlying26 rfl) ?_
                        refine l_val rfl rfl rfl (r_eql rfl rfl rfl) ?_
                        refine l_val rfl rfl rfl (r_move rfl) ?_
                        refine l_case 141 rfl (fun hb => ?_) (fun hb => ?_)
                        · have hr141 := hb
                          replace hb := of_decide_eq_true hb
                          refine l_val rfl rfl rfl (r_move rfl) ?_
                          refine l_val rfl rfl rfl (r_fieldAddr (n := 0) rfl Tryz.underlying43 rfl Tryz.sizeOf26 rfl) ?_
                          refine l_val rfl rfl rfl (r_load_blk rfl Tryz.isAgg26 rfl (hL.get 3 rfl) rfl) ?_
                          refine l_val rfl rfl rfl (r_slice_from rfl Tryz.underlying26 Tryz.sizeOf3 rfl rfl (by decide) (by omega)) ?_
                          refine l_by rfl rfl rfl (r_call rfl rfl Tryz.func62 rfl rfl) (numbers_rcalls _ nl _ _ _ _ ((hw.keep RInt.kept (Ext0.cells hE)).drop1 hwp)) ?_
                          rintro _ w ⟨rfl, hX⟩
                          replace hL := hL.ext0 hX
                          replace hE := hE.step0 hX
                          refine ⟨_, rfl, ?_⟩
                          refine l_val rfl rfl rfl (r_pick rfl rfl) ?_
                          refine l_val rfl rfl rfl (r_assign rfl) ?_
                          refine l_nil ?_
                          refine c_ret ?_
                          exact ⟨ret_bool rfl (by rw [formed_some hpa hpb hm, hon]; simp only [hr141, Bool.true_and, Bool.and_true, Bool.false_and, Bool.and_false, Bool.true_or, Bool.or_true, Bool.false_or, Bool.or_false, Bool.not_true, Bool.not_false, cond_true, cond_false]), hE⟩
                        · have hr141 := hb
                          replace hb := of_decide_eq_false hb
                          refine l_not rfl rfl rfl ?_
                          refine l_not rfl rfl rfl ?_
                          refine l_not rfl rfl rfl ?_
                          refine l_not rfl rfl rfl ?_
                          refine l_not rfl rfl rfl ?_
                          refine l_val rfl rfl rfl (r_pick rfl rfl) ?_
                          refine l_val rfl rfl rfl (r_assign rfl) ?_
                          refine l_nil ?_
                          refine c_ret ?_
                          exact ⟨ret_bool rfl (by rw [formed_some hpa hpb hm, hon]; simp only [hr141, Bool.true_and, Bool.and_true, Bool.false_and, Bool.and_false, Bool.true_or, Bool.or_true, Bool.false_or, Bool.or_false, Bool.not_true, Bool.not_false, cond_true, cond_false]), hE⟩
                      · have hr136 := hb
                        have hm : manyF g f = some 1 := by unfold manyF; rw [if_neg h8, if_neg hw0, if_neg h9, if_neg hni, if_neg h7, if_neg (by simpa using hb)]
                        refine c_skip ?_
                        refine c_seq ?_
                     
                        refine c_ops ?_
                        refine l_val rfl rfl rfl (r_fieldAddr (n := 0) rfl Tryz.underlying43 rfl Tryz.sizeOf26 rfl) ?_
                        refine l_val rfl rfl rfl (r_load_blk rfl Tryz.isAgg26 rfl (hL.get 3 rfl) rfl) ?_
                        refine l_val rfl rfl rfl (r_len rfl Tryz.underlying26 rfl) ?_
                        refine l_val rfl rfl rfl (r_eql rfl rfl rfl) ?_
                        refine l_val rfl rfl rfl (r_assign rfl) ?_
                        refine l_nil ?_
                        refine c_ret ?_
                        exact ⟨ret_bool rfl (by rw [formed_some hpa hpb hm, hon, one_any nl f.why]), hE⟩
end Go.Proofs.YtndophlnapjkhaaGreatDoor.Vc
namespace Go.Proofs.YtndophlnapjkhaaGreatDoor.Vc
open Go Go.RowKit
set_option linter.unusedVariables false
set_option linter.unusedSimpArgs false
theorem info_pr : (Tryz.prog.info? 32).map (fun i => (i.zero, i.size, i.bytes)) = some (some (.agg #[.int .i64 0, .int .i64 0]), 2, 16) := by kernel_rfl
theorem built_pr (a b : Int) : Tryz.prog.built 32 [(0, .int .i64 a), (1, .int .i64 b)] = some #[.int .i64 a, .int .i64 b] := by kernel_rfl
def NextRes (w0 : World) (r : FP × Bool) (en : Ending) (w' : World) : Prop := ∃ v, en = .returned (.tuple #[v, .bool r.2]) ∧ w'.ownsRow w0.heap.size 32 2 v r.1.length (r.1.map cells2).flatten ∧ Ext0 w0 w'
theorem by_union {g : List GNode} {f : Fact} (h8 : (gat g f.a).kind = 8) : byF g f = ((gat g f.a).l.map (fun m => (m, f.b)), true) := by
  unfold byF unionF
  simp [h8]
theorem by_bound {g : List GNode} {f : Fact} (h9 : (gat g f.a).kind = 9) (hw : iat f.why 0 = -1) : byF g f = ([(iat (gat g f.a).l 0, f.b)], true) := by
  unfold byF unionF boundF
  simp [h9, hw]
theorem by_loose {g : List GNode} {f : Fact} (h8 : (gat g f.a).kind ≠ 8) (hw : iat f.why 0 ≠ -1) (h : (gat g f.a).kind = 1 ∨ (chosenF g f).kind = 1) : byF g f = ([], true) := by
  unfold byF unionF boundF looseF
  simp [h8, hw, h]
theorem by_plain {g : List GNode} {f : Fact} (h8 : (gat g f.a).kind ≠ 8) (hw : iat f.why 0 ≠ -1) (h : ¬ ((gat g f.a).kind = 1 ∨ (chosenF g f).kind = 1)) : byF g f = plainR (gat g f.a) (chosenF g f) := by
  unfold byF unionF boundF looseF plainF
  simp [h8, hw, h]
def oddR (s t : GNode) : Bool := !decide (s.kind = t.kind) || (decide (s.kind = 5) && !decide (s.name = t.name)) || (decide (s.kind = 9) && !decide (s.num = t.num))
theorem NodeIs.nm {g : List GNode} {x : GNode} (h : NodeIs g x) : (x.kind ≠ 5 → x.name = ⟨#[]⟩) ∧ (x.kind ≠ 9 → x.num = 0) := by
  rcases h with ⟨h, _, _, hn, hm⟩ | ⟨h, _, _, hm⟩ | ⟨h, _, _, hn, hm⟩ | ⟨h, _, _, _, _, hn, hm⟩ | ⟨h, _, _, hn⟩
  · exact ⟨fun _ => hn, fun _ => hm⟩
  · exact ⟨fun h5 => absurd h h5, fun _ => hm⟩
  · exact ⟨fun _ => hn, fun _ => hm⟩
  · exact ⟨fun _ => hn, fun _ => hm⟩
  · exact ⟨fun _ => hn, fun h9 => absurd h h9⟩
theorem oddR_eq {g : List GNode} {s t : GNode} (hs : NodeIs g s) (ht : NodeIs g t) : oddR s t = oddF s t := by
  unfold oddR oddF
  by_cases hk : s.kind = t.kind
  · have e1 : (decide (s.kind = 5) && !decide (s.name = t.name)) = !decide (s.name = t.name) := by
      by_cases h5 : s.kind = 5
      · simp [h5]
      · rw [hs.nm.1 h5, ht.nm.1 (hk ▸ h5)]
        simp
    have e2 : (decide (s.kind = 9) && !decide (s.num = t.num)) = !decide (s.num = t.num) := by
      by_cases h9 : s.kind = 9
      · simp [h9]
      · rw [hs.nm.2 h9, ht.nm.2 (hk ▸ h9)]
        simp
    rw [e1, e2]
  · simp [hk]
def LastAt (s : GNode) (key : ByteArray) (k : Nat) (at_ : Int) : Prop := (at_ = -1 ∧ ∀ j, j < k → kat s.keys j ≠ key) ∨ ∃ j, j < k ∧ kat s.keys j = key ∧ at_ = iat s.l j
theorem LastAt.zero (s : GNode) (key : ByteArray) : LastAt s key 0 (-1) := .inl ⟨rfl, fun j hj => absurd hj (Nat.not_lt_zero _)⟩
theorem LastAt.hit {s : GNode} {key : ByteArray} {k : Nat} (h : kat s.keys k = key) : LastAt s key (k + 1) (iat s.l k) := .inr ⟨k, Nat.lt_succ_self _, h, rfl⟩
theorem LastAt.miss {s : GNode} {key : ByteArray} {k : Nat} {a : Int} (hl : LastAt s key k a) (h : kat s.keys k ≠ key) : LastAt s key (k + 1) a := by
  rcases hl with ⟨h1, h2⟩ | ⟨j, h1, h2, h3⟩
  · refine .inl ⟨h1, fun j hj => ?_⟩
    rcases Nat.lt_or_eq_of_le (Nat.le_of_lt_succ hj) with h4 | rfl
    · exact h2 j h4
    · exact h
  · exact .inr ⟨j, by omega, h2, h3⟩
theorem LastAt.is {s : GNode} {key : ByteArray} {a : Int} (hr : risesB s.keys = true) (h : LastAt s key s.keys.length a) : a = fieldF s key := by
  rcases h with ⟨rfl, h2⟩ | ⟨j, h1, h2, rfl⟩
  · have : idxS s.keys key = none := by
      unfold idxS
      refine findS_no _ _ _ fun x hx => ?_
      obtain ⟨j, hj⟩ := List.mem_iff_getElem?.1 hx
      have hl := (List.getElem?_eq_some_iff.1 hj).1
      rw [kat_some hl] at hj
      cases hj
      exact decide_eq_false fun e => h2 j hl e.symm
    unfold fieldF
    rw [this]
    rfl
  · have : idxS s.keys key = some j := by
      unfold idxS
      have := findS_at (fun x => decide (key = x)) 0 s.keys j (kat s.keys j) (kat_some h1) (decide_eq_true h2.symm) (fun i y hi hy => by
        refine decide_eq_false fun e => ?_
        have hl := (List.getElem?_eq_some_iff.1 hy).1
        rw [kat_some hl] at hy
        cases hy
        have := rises_all hr hi h1
        rw [h2, ← e, ltB_irrefl] at this
        cases this)
      rwa [Nat.zero_add] at this
    exact (fieldF_some this).symm
set_option maxHeartbeats 8000000 in
theorem next_rcalls (w0 : World) (Ag : Option Addr) (cg : Nat) (g : List GNode) (hg : Nodes w0 Ag cg g) (hok : GraphOk g) (f : Fact) (Aw : Option Addr) (cw : Nat) (hw : Ints w0 Aw cw f.why) (hf : FactOk g f) :
    Calls Tryz.prog 58 [.slice Ag g.length cg, .agg (factCells f Aw cw).toArray].toArray w0 (NextRes w0 (byF g f)) := by
  have hE : Ext0 w0 w0 := Ext.refl _ _
  have hL : Has w0 [] := trivial
  have ha := hf.a
  obtain ⟨s, hs⟩ : ∃ s, s = gat g f.a := ⟨_, rfl⟩
  have his := hok.is (gat_mem' ha.1 ha.2)
  have hsbig := hok.fits.lists _ (gat_mem' ha.1 ha.2)
  have hfw := hf.why
  have hfi := hf.idx
  have hby1 := @by_union g f
  have hby2 := @by_bound g f
  have hby3 := @by_loose g f
  have hby4 := @by_plain g f
  obtain ⟨Ak, ck, Al, cl, hcell, hsk, hsl⟩ := hg.node f.a ha.1 ha.2
  have hside : (gat g f.a).kind ≠ 8 → SideOk g (gat g f.a) := fun h => SideOk.of hok (gat_mem' ha.1 ha.2) h
  rw [← hs] at his hsbig hfw hfi hby1 hby2 hby3 hby4 hcell hsk hsl hside
  refine calls [4, 5] Tryz.func58 rfl rfl rfl rfl ?_
  refine c_seq ?_
  refine c_ops ?_
  refine l_new rfl rfl rfl (n_box rfl hL hE) ?_
  rintro _ w ⟨b3, rfl, hb3, hL, hE, hX⟩
  first | replace hEm := Ext.trans hEm hX | skip
  refine l_val rfl rfl rfl (r_assign rfl) ?_
  refine l_val rfl rfl rfl (r_assign rfl) ?_
  refine l_nil ?_
  refine c_seq ?_
  refine c_ops ?_
  refine l_val rfl rfl rfl (r_move rfl) ?_
  refine l_val rfl rfl rfl (r_fieldAddr (n := 0) rfl Tryz.underlying43 rfl Tryz.sizeOf3 rfl) ?_
  refine l_val rfl rfl rfl (r_load_blk rfl Tryz.isAgg3 rfl (hL.get 0 rfl) rfl) ?_
  refine l_val rfl rfl rfl (r_indexAddr_sl rfl Tryz.underlying22 Tryz.sizeOf46 rfl hg.is rfl ha.1 ha.2) ?_
  refine l_val rfl rfl rfl (r_load_agg (vs := nodeCells s Ak ck Al cl) rfl Tryz.isAgg46 Tryz.sizeOf46 rfl (fun j v hj => Ext0.cells hE _ _ (hcell j v hj))) ?_
  refine l_new rfl rfl rfl (n_alloc rfl Tryz.zeroValue46 hL hE) ?_
  rintro _ w ⟨b6, rfl, hb6, hL, hE, hX⟩
  first | replace hEm := Ext.trans hEm hX | skip
  refine l_new_do rfl rfl (r_store 0 rfl Tryz.sizeOf46 rfl hL hE rfl rfl rfl rfl (fun h => absurd h (Nat.not_lt.2 hb6))) ?_
  rintro w ⟨hL, hE, hz, hk⟩; replace hL : Has w [.blk b6 (.cells (nodeCells s Ak ck Al cl).toArray 46 (0, 0)), .blk b3 (.cells (factCells f Aw cw).toArray 43 (0, 0))] := hL
  refine l_nil ?_
  refine c_seq ?_
  refine c_ops ?_
  refine l_val rfl rfl rfl (r_assign rfl) ?_
  refine l_nil ?_
  refine c_seq ?_
  refine c_seq ?_
  refine c_ops ?_
  refine l_val rfl rfl rfl (r_fieldAddr (n := 0) rfl Tryz.underlying46 rfl Tryz.sizeOf3 rfl) ?_
  refine l_val rfl rfl rfl (r_load_blk rfl Tryz.isAgg3 rfl (hL.get 0 rfl) rfl) ?_
  refine l_val rfl rfl rfl (r_eql rfl rfl rfl) ?_
  refine l_nil ?_
  refine c_cond rfl (fun hb => ?_) (fun hb => ?_)
  · have hr20 := hb
    replace hb := of_decide_eq_true hb
    have hby := hby1 hb
    replace hL := hL.nilRow w0.heap.size 32 2
    refine c_seq ?_
    refine c_seq ?_
 
    refine c_ops ?_
    refine l_val rfl rfl rfl (r_assign rfl) ?_
    refine l_nil ?_
    refine c_block ?_
 
    refine c_loop0 (fun m1 e w => (e 0 = .slice Ag g.length cg ∧ e 3 = .pointer (some ⟨b3, 0, none⟩) ∧ e 6 = .pointer (some ⟨b6, 0, none⟩)) ∧ ∃ (k : Nat) (A5 : Option Addr) (c5 : Nat), k ≤ s.l.length ∧ m1 = s.l.length - k ∧ e 8 = .int .i64 (k : Nat) ∧ e 7 = .slice A5 ((s.l.take k).map (fun m => (m, f.b))).length c5 ∧ Has w [.row w0.heap.size 32 2 (.slice A5 ((s.l.take k).map (fun m => (m, f.b))).length c5) (((s.l.take k).map (fun m => (m, f.b)))).length ((((s.l.take k).map (fun m => (m, f.b)))).map cells2).flatten, .blk b6 (.cells (nodeCells s Ak ck Al cl).toArray 46 (0, 0)), .blk b3 (.cells (factCells f Aw cw).toArray 43 (0, 0))] ∧ Ext0 w0 w) (s.l.length) ?_ ?_
    · exact ⟨⟨rfl, rfl, rfl⟩, 0, none, 0, Nat.zero_le _, rfl, rfl, rfl, hL, hE⟩
    rintro m1 e w ⟨⟨hq0, hq3, hq6⟩, hI⟩
    refine c_know (t := 0) (by exact hq0) ?_
    refine c_know (t := 3) (by exact hq3) ?_
    refine c_know (t := 6) (by exact hq6) ?_
    clear hq0 hq3 hq6
    obtain ⟨k, A5, c5, hkl, hkm, h8s, h7s, hL, hE⟩ := hI
    refine c_know (t := 8) (by exact h8s) ?_
    refine c_know (t := 7) (by exact h7s) ?_
    refine c_seq ?_
    refine c_seq ?_
 
    refine c_ops ?_
    refine l_val rfl rfl rfl (r_move rfl) ?_
    refine l_val rfl rfl rfl (r_fieldAddr (n := 0) rfl Tryz.underlying46 rfl Tryz.sizeOf26 rfl) ?_
    refine l_val rfl rfl rfl (r_load_blk rfl Tryz.isAgg26 rfl (hL.get 1 rfl) rfl) ?_
    refine l_val rfl rfl rfl (r_len rfl Tryz.underlying26 rfl) ?_
    refine l_val rfl rfl rfl (r_lss rfl rfl rfl) ?_
    refine l_nil ?_
    refine c_cond rfl (fun hb => ?_) (fun hb => ?_)
    · have hr25 := hb
      replace hb := of_decide_eq_true hb
      have hklt : k < s.l.length := by omega
      have htk1 : (s.l.take (k + 1)).map (fun m => (m, f.b)) = ((s.l.take k).map (fun m => (m, f.b))) ++ [((iat s.l k), f.b)] := by rw [take_snoc (iat_nat hklt)]; simp
      refine c_skip ?_
      refine c_seq ?_
      refine c_block ?_
   
      refine c_draw mixed (hL.sub (.cons _ (.cons_cons _ (.cons_cons _ .slnil)))) hE ?_
      replace hL := hL.drew
      replace hE := hE.drew
      have hK := hL.sub (.cons _ (.cons_cons _ (.cons_cons _ .slnil)))
      refine h_t 0 rfl rfl (by kernel_rfl) (fun _ _ _ h => h) ⟨hK, hE⟩ rfl (fun W hW => r_move rfl) ?_
      refine h_listed (listed' := #[T',F',F',F',F',F',F',F',F',F',F',F']) (by kernel_rfl) ?_
      refine h_t 1 rfl rfl (by kernel_rfl) (fun _ _ _ h => h) ⟨hK, hE⟩ rfl (fun W hW => r_fieldAddr (n := 0) rfl Tryz.underlying46 rfl Tryz.sizeOf26 rfl) ?_
      refine h_listed (listed' := #[T',T',F',F',F',F',F',F',F',F',F',F']) (by kernel_rfl) ?_
      refine h_t 2 rfl rfl (by kernel_rfl) (fun _ _ _ h => h) ⟨hK, hE⟩ rfl (fun W hW => r_load_blk rfl Tryz.isAgg26 rfl (hW.1.get 0 rfl) rfl) ?_
      refine h_listed (listed' := #[T',T',T',F',F',F',F',F',F',F',F',F']) (by kernel_rfl) ?_
      refine h_t 3 rfl rfl (by kernel_rfl) (fun _ _ _ h => h) ⟨hK, hE⟩ rfl (fun W hW => r_move rfl) ?_
      refine h_listed (listed' := #[T',T',T',T',F',F',F',F',F',F',F',F']) (by kernel_rfl) ?_
      refine h_t 4 rfl rfl (by kernel_rfl) (fun _ _ _ h => h) ⟨hK, hE⟩ rfl (fun W hW => r_indexAddr_sl rfl Tryz.underlying26 Tryz.sizeOf3 rfl hsl.is rfl (by omega) (by omega)) ?_
      refine h_listed (listed' := #[T',T',T',T',T',F',F',F',F',F',F',F']) (by kernel_rfl) ?_
      refine h_t 5 rfl rfl (by kernel_rfl) (fun _ _ _ h => h) ⟨hK, hE⟩ rfl (fun W hW => r_load (v := .int .i64 (iat s.l k)) rfl Tryz.isAgg3 rfl ((hsl.keep RInt.kept (Ext0.cells hW.2)).int k (by omega) (by omega))) ?_
      refine h_listed (listed' := #[T',T',T',T',T',T',F',F',F',F',F',F']) (by kernel_rfl) ?_
      refine h_t 6 rfl rfl (by kernel_rfl) (fun _ _ _ h => h) ⟨hK, hE⟩ rfl (fun W hW => r_fieldAddr (n := 0) rfl Tryz.underlying43 rfl Tryz.sizeOf3 rfl) ?_
      refine h_listed (listed' := #[T',T',T',T',T',T',T',F',F',F',F',F']) (by kernel_rfl) ?_
      refine h_t 7 rfl rfl (by kernel_rfl) (fun _ _ _ h => h) ⟨hK, hE⟩ rfl (fun W hW => r_load_blk rfl Tryz.isAgg3 rfl (hW.1.get 1 rfl) rfl) ?_
      refine h_listed (listed' := #[T',T',T',T',T',T',T',T',F',F',F',F']) (by kernel_rfl) ?_
      refine h_t 8 rfl rfl (by kernel_rfl) (fun _ _ _ h => h) ⟨hK, hE⟩ rfl (fun W hW => r_build rfl rfl (built_pr _ _)) ?_
      refine h_listed (listed' := #[T',T',T',T',T',T',T',T',T',F',F',F']) (by kernel_rfl) ?_
      refine h_new 9 rfl rfl (by kernel_rfl) rfl (n_slice (cells := #[.int .i64 (iat s.l k), .int .i64 f.b]) rfl Tryz.underlying23 Tryz.sizeOf32 Tryz.zeroValue32 rfl rfl (fill_pair _ _) hL hE) ?_
      rintro _ w ⟨s37, rfl, hs37, hL, hE, hX⟩
      first | replace hEm := Ext.trans hEm hX | skip
      have hK := hL.sub (.cons _ (.cons _ (.cons_cons _ (.cons_cons _ .slnil))))
      refine ⟨⟨hK, hE⟩, ?_⟩
      refine h_listed (listed' := #[T',T',T',T',T',T',T',T',T',T',F',F']) (by kernel_rfl) ?_
      refine h_new 10 rfl rfl (by kernel_rfl) rfl (r_append (ys := cells2 ((iat s.l k), f.b)) 1 rfl Tryz.underlying23 info_pr rfl (by decide) rfl rfl hL hE rfl rfl (blk_raw (cs := #[.int .i64 (iat s.l k), .int .i64 f.b]) (hL.get 0 rfl) rfl) (fun u hu => by simp [cells2] at hu; rcases hu with rfl | rfl <;> rfl) (by simp; omega) (by simp; omega) (Nat.le_refl _) hE.size) ?_
      rintro _ w ⟨hL, hE, hk⟩
      obtain ⟨A8, c8, rfl⟩ := ownsRow_slice (hL.row 1 rfl)
      replace hL : Has w [.blk s37 (.cells #[.int .i64 (iat s.l k), .int .i64 f.b] 32 (0, 0)), .row w0.heap.size 32 2 (.slice A8 (((s.l.take k).map (fun m => (m, f.b))) ++ [((iat s.l k), f.b)]).length c8) (((s.l.take k).map (fun m => (m, f.b))) ++ [((iat s.l k), f.b)]).length ((((s.l.take k).map (fun m => (m, f.b))) ++ [((iat s.l k), f.b)]).map cells2).flatten, .blk b6 (.cells (nodeCells s Ak ck Al cl).toArray 46 (0, 0)), .blk b3 (.cells (factCells f Aw cw).toArray 43 (0, 0))] := by rw [← pairs_snoc, List.length_append]; exact hL
      first | replace hEm := Ext.trans hEm hX | skip
      have hK := hL.sub (.cons _ (.cons _ (.cons_cons _ (.cons_cons _ .slnil))))
      refine ⟨⟨hK, hE⟩, ?_⟩
      refine h_listed (listed' := #[T',T',T',T',T',T',T',T',T',T',T',F']) (by kernel_rfl) ?_
      refine h_t 11 rfl rfl (by kernel_rfl) (fun _ _ _ h => h) ⟨hK, hE⟩ rfl (fun W hW => r_assign rfl) ?_
      refine h_listed (listed' := #[T',T',T',T',T',T',T',T',T',T',T',T']) (by kernel_rfl) ?_
      refine h_done (by kernel_rfl) ?_
   
      refine c_ops ?_
      refine l_val rfl rfl rfl (r_move rfl) ?_
      refine l_val rfl rfl rfl (r_add rfl rfl rfl) ?_
      refine l_val rfl rfl rfl (r_assign rfl) ?_
      refine l_nil ?_
      exact ⟨s.l.length - (k + 1), by omega, ⟨rfl, rfl, rfl⟩, k + 1, A8, c8, by omega, rfl, by show Value.int .i64 (IntKind.i64.wrap ((k : Int) + 1)) = _; rw [wrap_succ hklt hsl.max], congrArg (fun n => Value.slice A8 n c8) (by rw [htk1, List.length_append]; rfl), by rw [htk1]; exact hL.tail, hE⟩
    · have hr25 := hb
      replace hb := of_decide_eq_false hb
      obtain rfl : k = s.l.length := by omega
      have hT : (s.l.take s.l.length).map (fun m => (m, f.b)) = s.l.map (fun m => (m, f.b)) := by rw [List.take_length]
      refine c_exit ?_
      refine c_seq ?_
   
      refine c_ops ?_
      refine l_val rfl rfl rfl (r_move rfl) ?_
      refine l_val rfl rfl rfl (r_assign rfl) ?_
      refine l_val rfl rfl rfl (r_assign rfl) ?_
      refine l_nil ?_
      refine c_ret ?_
      rw [hby]; exact ⟨_, rfl, by show World.ownsRow _ _ _ _ _ (s.l.map (fun m => (m, f.b))).length ((s.l.map (fun m => (m, f.b))).map cells2).flatten; rw [← hT]; exact hL.row 0 rfl, hE⟩
  · have hr20 := hb
    replace hb := of_decide_eq_false hb
    have h8 : s.kind ≠ 8 := hb
    have hwp := why_pos (hfw h8)
    replace hside := hside h8
    refine c_skip ?_
    refine c_seq ?_
    refine c_seq ?_
 
    refine c_ops ?_
    refine l_val rfl rfl rfl (r_fieldAddr (n := 0) rfl Tryz.underlying43 rfl Tryz.sizeOf26 rfl) ?_
    refine l_val rfl rfl rfl (r_load_blk rfl Tryz.isAgg26 rfl (hL.get 1 rfl) rfl) ?_
    refine l_val rfl rfl rfl (r_indexAddr_sl rfl Tryz.underlying26 Tryz.sizeOf3 rfl hw.is rfl (by omega) (by omega)) ?_
    refine l_val rfl rfl rfl (r_load (v := .int .i64 (iat f.why 0)) rfl Tryz.isAgg3 rfl ((hw.keep RInt.kept (Ext0.cells hE)).int 0 (by omega) (by omega))) ?_
    refine l_val rfl rfl rfl (r_eql rfl rfl rfl) ?_
    refine l_nil ?_
    refine c_cond rfl (fun hb => ?_) (fun hb => ?_)
    · have hr44 := hb
      replace hb := of_decide_eq_true hb
      have h9 : s.kind = 9 := Classical.byContradiction fun h => by have := hfi h8 (fun h2 => h h2.1); omega
      have hby := hby2 h9 hb
      have hs1 := hside.var h9
      refine c_seq ?_
   
      refine c_draw mixed (hL) hE ?_
      replace hL := hL.drew
      replace hE := hE.drew
      have hK := hL
      refine h_t 0 rfl rfl (by kernel_rfl) (fun _ _ _ h => h) ⟨hK, hE⟩ rfl (fun W hW => r_fieldAddr (n := 0) rfl Tryz.underlying46 rfl Tryz.sizeOf26 rfl) ?_
      refine h_t 1 rfl rfl (by kernel_rfl) (fun _ _ _ h => h) ⟨hK, hE⟩ rfl (fun W hW => r_load_blk rfl Tryz.isAgg26 rfl (hW.1.get 0 rfl) rfl) ?_
      refine h_t 2 rfl rfl (by kernel_rfl) (fun _ _ _ h => h) ⟨hK, hE⟩ rfl (fun W hW => r_indexAddr_sl rfl Tryz.underlying26 Tryz.sizeOf3 rfl hsl.is rfl (by omega) (by omega)) ?_
      refine h_t 3 rfl rfl (by kernel_rfl) (fun _ _ _ h => h) ⟨hK, hE⟩ rfl (fun W hW => r_load (v := .int .i64 (iat s.l 0)) rfl Tryz.isAgg3 rfl ((hsl.keep RInt.kept (Ext0.cells hW.2)).int 0 (by omega) (by omega))) ?_
      refine h_t 4 rfl rfl (by kernel_rfl) (fun _ _ _ h => h) ⟨hK, hE⟩ rfl (fun W hW => r_fieldAddr (n := 0) rfl Tryz.underlying43 rfl Tryz.sizeOf3 rfl) ?_
      refine h_t 5 rfl rfl (by kernel_rfl) (fun _ _ _ h => h) ⟨hK, hE⟩ rfl (fun W hW => r_load_blk rfl Tryz.isAgg3 rfl (hW.1.get 1 rfl) rfl) ?_
      refine h_t 6 rfl rfl (by kernel_rfl) (fun _ _ _ h => h) ⟨hK, hE⟩ rfl (fun W hW => r_build rfl rfl (built_pr _ _)) ?_
      refine h_new 7 rfl rfl (by kernel_rfl) rfl (n_slice (cells := #[.int .i64 (iat s.l 0), .int .i64 f.b]) rfl Tryz.underlying23 Tryz.sizeOf32 Tryz.zeroValue32 rfl rfl (fill_pair _ _) hL hE) ?_
      rintro _ w ⟨s52, rfl, hs52, hL, hE, hX⟩
      first | replace hEm := Ext.trans hEm hX | skip
      have hK := hL.sub (.cons _ (.cons_cons _ (.cons_cons _ .slnil)))
      refine ⟨⟨hK, hE⟩, ?_⟩
      refine h_t 8 rfl rfl (by kernel_rfl) (fun _ _ _ h => h) ⟨hK, hE⟩ rfl (fun W hW => r_assign rfl) ?_
      refine h_t 9 rfl rfl (by kernel_rfl) (fun _ _ _ h => h) ⟨hK, hE⟩ rfl (fun W hW => r_assign rfl) ?_
      refine h_done (by kernel_rfl) ?_
      refine c_ret ?_
      rw [hby]; exact ⟨_, rfl, (Has.asRow (n := 1) (sz := 2) hL hs52 rfl (by decide)).row 0 rfl, hE⟩
    · have hr44 := hb
      replace hb := of_decide_eq_false hb
      have hwi : 0 ≤ iat f.why 0 ∧ iat f.why 0 < (membersG g f.b).length := hfi h8 (fun h => hb h.2)
      have hch := chosen_in hok hwi
      obtain ⟨t, ht⟩ : ∃ t, t = chosenF g f := ⟨_, rfl⟩
      have hit := hok.is (gat_mem' hch.1 hch.2.1)
      have htside := SideOk.of hok (gat_mem' hch.1 hch.2.1) hch.2.2
      obtain ⟨Bk, dk, Bl, dl, hcell2, htk, htl⟩ := hg.node _ hch.1 hch.2.1
      have htbig := hok.fits.lists _ (gat_mem' hch.1 hch.2.1)
      rw [show gat g (iat (membersG g f.b) (iat f.why 0)) = t from ht.symm] at htbig hit htside hcell2 htk htl
      replace hby3 := hby3 h8 hb
      replace hby4 := hby4 h8 hb
      rw [← ht] at hby3 hby4
      refine c_skip ?_
      refine c_merge [9, 53, 54, 55, 56, 57, 58, 59, 60, 61, 62, 63, 64, 65] (fun e w => ∃ b9, e 9 = .pointer (some ⟨b9, 0, none⟩) ∧ Has w [.blk b9 (.cells (nodeCells t Bk dk Bl dl).toArray 46 (0, 0)), .blk b6 (.cells (nodeCells s Ak ck Al cl).toArray 46 (0, 0)), .blk b3 (.cells (factCells f Aw cw).toArray 43 (0, 0))] ∧ Ext0 w0 w) ?_ ?_
      · skip
     
        refine c_draw mixed (hL) hE ?_
        replace hL := hL.drew
        replace hE := hE.drew
        have hK := hL
        refine h_t 0 rfl rfl (by kernel_rfl) (fun _ _ _ h => h) ⟨hK, hE⟩ rfl (fun W hW => r_move rfl) ?_
        refine h_listed (listed' := #[T',F',F',F',F',F',F',F',F',F',F',F',F',F',F']) (by kernel_rfl) ?_
        refine h_t 1 rfl rfl (by kernel_rfl) (fun _ _ _ h => h) ⟨hK, hE⟩ rfl (fun W hW => r_move rfl) ?_
        refine h_listed (listed' := #[T',T',F',F',F',F',F',F',F',F',F',F',F',F',F']) (by kernel_rfl) ?_
        refine h_t 2 rfl rfl (by kernel_rfl) (fun _ _ _ h => h) ⟨hK, hE⟩ rfl (fun W hW => r_fieldAddr (n := 0) rfl Tryz.underlying43 rfl Tryz.sizeOf3 rfl) ?_
        refine h_listed (listed' := #[T',T',T',F',F',F',F',F',F',F',F',F',F',F',F']) (by kernel_rfl) ?_
        refine h_t 3 rfl rfl (by kernel_rfl) (fun _ _ _ h => h) ⟨hK, hE⟩ rfl (fun W hW => r_load_blk rfl Tryz.isAgg3 rfl (hW.1.get 1 rfl) rfl) ?_
        refine h_listed (listed' := #[T',T',T',T',F',F',F',F',F',F',F',F',F',F',F']) (by kernel_rfl) ?_
        refine h_t 5 rfl rfl (by kernel_rfl) (fun _ _ _ h => h) ⟨hK, hE⟩ rfl (fun W hW => r_fieldAddr (n := 0) rfl Tryz.underlying43 rfl Tryz.sizeOf26 rfl) ?_
        refine h_listed (listed' := #[T',T',T',T',F',T',F',F',F',F',F',F',F',F',F']) (by kernel_rfl) ?_
        refine h_t 6 rfl rfl (by kernel_rfl) (fun _ _ _ h => h) ⟨hK, hE⟩ rfl (fun W hW => r_load_blk rfl Tryz.isAgg26 rfl (hW.1.get 1 rfl) rfl) ?_
        refine h_listed (listed' := #[T',T',T',T',F',T',T',F',F',F',F',F',F',F',F']) (by kernel_rfl) ?_
        refine h_t 7 rfl rfl (by kernel_rfl) (fun _ _ _ h => h) ⟨hK, hE⟩ rfl (fun W hW => r_indexAddr_sl rfl Tryz.underlying26 Tryz.sizeOf3 rfl hw.is rfl (by omega) (by omega)) ?_
        refine h_listed (listed' := #[T',T',T',T',F',T',T',T',F',F',F',F',F',F',F']) (by kernel_rfl) ?_
        refine h_t 8 rfl rfl (by kernel_rfl) (fun _ _ _ h => h) ⟨hK, hE⟩ rfl (fun W hW => r_load (v := .int .i64 (iat f.why 0)) rfl Tryz.isAgg3 rfl ((hw.keep RInt.kept (Ext0.cells hW.2)).int 0 (by omega) (by omega))) ?_
        refine h_listed (listed' := #[T',T',T',T',F',T',T',T',T',F',F',F',F',F',F']) (by kernel_rfl) ?_
        refine h_many [4, 13] (by kernel_rfl) ⟨?_, ?_, trivial⟩
        · refine o_by 4 rfl rfl rfl rfl (r_call rfl rfl Tryz.func63 rfl rfl) (rMembers_calls _ Ag cg g (hg.keep RNode.kept (Ext0.cells hE)) hok.fits f.b) ?_
          rintro _ w ⟨v, rfl, hrow, hX⟩
          replace hL := hL.ext0 hX
          replace hE := hE.step0 hX
          obtain ⟨A2, c2, rfl, hmem, _⟩ := Sl.ofInts hrow
          obtain ⟨wm, hwm⟩ : ∃ x, x = w := ⟨_, rfl⟩
          rw [← hwm] at hmem
          have hEm : Ext0 wm w := hwm ▸ Ext.refl _ _
          have hK := hL
          refine ⟨_, rfl, ⟨hK, hE⟩, ?_⟩
          refine h_listed (listed' := #[T',T',T',T',T',T',T',T',T',F',F',F',F',F',F']) (by kernel_rfl) ?_
          refine h_t 9 rfl rfl (by kernel_rfl) (fun _ _ _ h => h) ⟨hK, hE⟩ rfl (fun W hW => r_indexAddr_sl rfl Tryz.underlying26 Tryz.sizeOf3 rfl hmem.is rfl hwi.1 hwi.2) ?_
          refine h_listed (listed' := #[T',T',T',T',T',T',T',T',T',T',F',F',F',F',F']) (by kernel_rfl) ?_
          refine h_many [10, 13] (by kernel_rfl) ⟨?_, ?_, trivial⟩
          · refine o_val 10 rfl rfl rfl rfl (r_load (v := .int .i64 (iat (membersG g f.b) (iat f.why 0))) rfl Tryz.isAgg3 rfl ((hmem.keep RInt.kept (Ext0.cells hEm)).int _ hwi.1 hwi.2)) ⟨hK, hE⟩ ?_
            refine h_listed (listed' := #[T',T',T',T',T',T',T',T',T',T',T',F',F',F',F']) (by kernel_rfl) ?_
            refine h_t 11 rfl rfl (by kernel_rfl) (fun _ _ _ h => h) ⟨hK, hE⟩ rfl (fun W hW => r_indexAddr_sl rfl Tryz.underlying22 Tryz.sizeOf46 rfl hg.is rfl hch.1 hch.2.1) ?_
            refine h_listed (listed' := #[T',T',T',T',T',T',T',T',T',T',T',T',F',F',F']) (by kernel_rfl) ?_
            refine h_t 12 rfl rfl (by kernel_rfl) (fun _ _ _ h => h) ⟨hK, hE⟩ rfl (fun W hW => r_load_agg (vs := nodeCells t Bk dk Bl dl) rfl Tryz.isAgg46 Tryz.sizeOf46 rfl (fun j v hj => (Ext0.cells hW.2) _ _ (hcell2 j v hj))) ?_
            refine h_listed (listed' := #[T',T',T',T',T',T',T',T',T',T',T',T',T',F',F']) (by kernel_rfl) ?_
            refine h_new 13 rfl rfl (by kernel_rfl) rfl (n_alloc rfl Tryz.zeroValue46 hL hE) ?_
            rintro _ w ⟨b9, rfl, hb9, hL, hE, hX⟩
            first | replace hEm := Ext.trans hEm hX | skip
            have hK := hL.sub (.cons _ (.cons_cons _ (.cons_cons _ .slnil)))
            refine ⟨⟨hK, hE⟩, ?_⟩
            refine h_listed (listed' := #[T',T',T',T',T',T',T',T',T',T',T',T',T',T',F']) (by kernel_rfl) ?_
            refine h_new_do 14 rfl rfl (by kernel_rfl) rfl (r_store 0 rfl Tryz.sizeOf46 rfl hL hE rfl rfl rfl rfl (fun h => absurd h (Nat.not_lt.2 hb9))) ?_
            rintro w ⟨hL, hE, hz, hk⟩; replace hL : Has w [.blk b9 (.cells (nodeCells t Bk dk Bl dl).toArray 46 (0, 0)), .blk b6 (.cells (nodeCells s Ak ck Al cl).toArray 46 (0, 0)), .blk b3 (.cells (factCells f Aw cw).toArray 43 (0, 0))] := hL
            have hK := hL.sub (.cons _ (.cons_cons _ (.cons_cons _ .slnil)))
            refine ⟨⟨hK, hE⟩, ?_⟩
            refine h_listed (listed' := #[T',T',T',T',T',T',T',T',T',T',T',T',T',T',T']) (by kernel_rfl) ?_
            refine h_done (by kernel_rfl) ?_
            refine ⟨by repeat (first | exact Agree.over _ _ _ | exact Agree.refl _ _ | (refine Agree.puto ?_ _ _ rfl) | (refine Agree.put ?_ _ _ rfl) | (refine Agree.sub ?_ rfl)), ?_⟩
            exact ⟨b9, rfl, (((hL.front 2 rfl).front 2 rfl).front 2 rfl), hE⟩
          · refine o_new 13 rfl rfl rfl rfl (n_alloc rfl Tryz.zeroValue46 hL hE) ?_
            rintro _ w ⟨b9, rfl, hb9, hL, hE, hX⟩
            first | replace hEm := Ext.trans hEm hX | skip
            have hK := hL.sub (.cons _ (.cons_cons _ (.cons_cons _ .slnil)))
            refine ⟨⟨hK, hE⟩, ?_⟩
            refine h_listed (listed' := #[T',T',T',T',T',T',T',T',T',T',F',F',F',T',F']) (by kernel_rfl) ?_
            refine h_one 10 rfl rfl (by kernel_rfl) rfl (r_load (v := .int .i64 (iat (membersG g f.b) (iat f.why 0))) rfl Tryz.isAgg3 rfl ((hmem.keep RInt.kept (Ext0.cells hEm)).int _ hwi.1 hwi.2)) ⟨hK, hE⟩ ?_
            refine h_listed (listed' := #[T',T',T',T',T',T',T',T',T',T',T',F',F',T',F']) (by kernel_rfl) ?_
            refine h_t 11 rfl rfl (by kernel_rfl) (fun _ _ _ h => h) ⟨hK, hE⟩ rfl (fun W hW => r_indexAddr_sl rfl Tryz.underlying22 Tryz.sizeOf46 rfl hg.is rfl hch.1 hch.2.1) ?_
            refine h_listed (listed' := #[T',T',T',T',T',T',T',T',T',T',T',T',F',T',F']) (by kernel_rfl) ?_
            refine h_t 12 rfl rfl (by kernel_rfl) (fun _ _ _ h => h) ⟨hK, hE⟩ rfl (fun W hW => r_load_agg (vs := nodeCells t Bk dk Bl dl) rfl Tryz.isAgg46 Tryz.sizeOf46 rfl (fun j v hj => (Ext0.cells hW.2) _ _ (hcell2 j v hj))) ?_
            refine h_listed (listed' := #[T',T',T',T',T',T',T',T',T',T',T',T',T',T',F']) (by kernel_rfl) ?_
            refine h_new_do 14 rfl rfl (by kernel_rfl) rfl (r_store 0 rfl Tryz.sizeOf46 rfl hL hE rfl rfl rfl rfl (fun h => absurd h (Nat.not_lt.2 hb9))) ?_
            rintro w ⟨hL, hE, hz, hk⟩; replace hL : Has w [.blk b9 (.cells (nodeCells t Bk dk Bl dl).toArray 46 (0, 0)), .blk b6 (.cells (nodeCells s Ak ck Al cl).toArray 46 (0, 0)), .blk b3 (.cells (factCells f Aw cw).toArray 43 (0, 0))] := hL
            have hK := hL.sub (.cons _ (.cons_cons _ (.cons_cons _ .slnil)))
            refine ⟨⟨hK, hE⟩, ?_⟩
            refine h_listed (listed' := #[T',T',T',T',T',T',T',T',T',T',T',T',T',T',T']) (by kernel_rfl) ?_
            refine h_done (by kernel_rfl) ?_
            refine ⟨by repeat (first | exact Agree.over _ _ _ | exact Agree.refl _ _ | (refine Agree.puto ?_ _ _ rfl) | (refine Agree.put ?_ _ _ rfl) | (refine Agree.sub ?_ rfl)), ?_⟩
            exact ⟨b9, rfl, (((hL.front 2 rfl).front 2 rfl).front 2 rfl), hE⟩
        · refine o_new 13 rfl rfl rfl rfl (n_alloc rfl Tryz.zeroValue46 hL hE) ?_
          rintro _ w ⟨b9, rfl, hb9, hL, hE, hX⟩
          first | replace hEm := Ext.trans hEm hX | skip
          have hK := hL.sub (.cons _ (.cons_cons _ (.cons_cons _ .slnil)))
          refine ⟨⟨hK, hE⟩, ?_⟩
          refine h_listed (listed' := #[T',T',T',T',F',T',T',T',T',F',F',F',F',T',F']) (by kernel_rfl) ?_
          refine h_by 4 rfl rfl (by kernel_rfl) rfl (r_call rfl rfl Tryz.func63 rfl rfl) (rMembers_calls _ Ag cg g (hg.keep RNode.kept (Ext0.cells hE)) hok.fits f.b) ?_
          rintro _ w ⟨v, rfl, hrow, hX⟩
          replace hL := hL.ext0 hX
          replace hE := hE.step0 hX
          obtain ⟨A2, c2, rfl, hmem, _⟩ := Sl.ofInts hrow
          obtain ⟨wm, hwm⟩ : ∃ x, x = w := ⟨_, rfl⟩
          rw [← hwm] at hmem
          have hEm : Ext0 wm w := hwm ▸ Ext.refl _ _
          have hK := hL.sub (.cons _ (.cons_cons _ (.cons_cons _ .slnil)))
          refine ⟨_, rfl, ⟨hK, hE⟩, ?_⟩
          refine h_listed (listed' := #[T',T',T',T',T',T',T',T',T',F',F',F',F',T',F']) (by kernel_rfl) ?_
          refine h_t 9 rfl rfl (by kernel_rfl) (fun _ _ _ h => h) ⟨hK, hE⟩ rfl (fun W hW => r_indexAddr_sl rfl Tryz.underlying26 Tryz.sizeOf3 rfl hmem.is rfl hwi.1 hwi.2) ?_
          refine h_listed (listed' := #[T',T',T',T',T',T',T',T',T',T',F',F',F',T',F']) (by kernel_rfl) ?_
          refine h_one 10 rfl rfl (by kernel_rfl) rfl (r_load (v := .int .i64 (iat (membersG g f.b) (iat f.why 0))) rfl Tryz.isAgg3 rfl ((hmem.keep RInt.kept (Ext0.cells hEm)).int _ hwi.1 hwi.2)) ⟨hK, hE⟩ ?_
          refine h_listed (listed' := #[T',T',T',T',T',T',T',T',T',T',T',F',F',T',F']) (by kernel_rfl) ?_
          refine h_t 11 rfl rfl (by kernel_rfl) (fun _ _ _ h => h) ⟨hK, hE⟩ rfl (fun W hW => r_indexAddr_sl rfl Tryz.underlying22 Tryz.sizeOf46 rfl hg.is rfl hch.1 hch.2.1) ?_
          refine h_listed (listed' := #[T',T',T',T',T',T',T',T',T',T',T',T',F',T',F']) (by kernel_rfl) ?_
          refine h_t 12 rfl rfl (by kernel_rfl) (fun _ _ _ h => h) ⟨hK, hE⟩ rfl (fun W hW => r_load_agg (vs := nodeCells t Bk dk Bl dl) rfl Tryz.isAgg46 Tryz.sizeOf46 rfl (fun j v hj => (Ext0.cells hW.2) _ _ (hcell2 j v hj))) ?_
          refine h_listed (listed' := #[T',T',T',T',T',T',T',T',T',T',T',T',T',T',F']) (by kernel_rfl) ?_
          refine h_new_do 14 rfl rfl (by kernel_rfl) rfl (r_store 0 rfl Tryz.sizeOf46 rfl hL hE rfl rfl rfl rfl (fun h => absurd h (Nat.not_lt.2 hb9))) ?_
          rintro w ⟨hL, hE, hz, hk⟩; replace hL : Has w [.blk b9 (.cells (nodeCells t Bk dk Bl dl).toArray 46 (0, 0)), .blk b6 (.cells (nodeCells s Ak ck Al cl).toArray 46 (0, 0)), .blk b3 (.cells (factCells f Aw cw).toArray 43 (0, 0))] := hL
          have hK := hL.sub (.cons _ (.cons_cons _ (.cons_cons _ .slnil)))
          refine ⟨⟨hK, hE⟩, ?_⟩
          refine h_listed (listed' := #[T',T',T',T',T',T',T',T',T',T',T',T',T',T',T']) (by kernel_rfl) ?_
          refine h_done (by kernel_rfl) ?_
          refine ⟨by repeat (first | exact Agree.over _ _ _ | exact Agree.refl _ _ | (refine Agree.puto ?_ _ _ rfl) | (refine Agree.put ?_ _ _ rfl) | (refine Agree.sub ?_ rfl)), ?_⟩
          exact ⟨b9, rfl, (((hL.front 2 rfl).front 2 rfl).front 2 rfl), hE⟩
      rintro e w hI
      obtain ⟨b9, h9s, hL, hE⟩ := hI
      refine c_know (t := 9) (by exact h9s) ?_
      refine c_seq ?_
      refine c_merge [66, 67, 68, 69, 70, 71, 72, 73] (fun e w => e 73 = .bool (decide (s.kind = 1) || decide (t.kind = 1)) ∧ Has w [.blk b9 (.cells (nodeCells t Bk dk Bl dl).toArray 46 (0, 0)), .blk b6 (.cells (nodeCells s Ak ck Al cl).toArray 46 (0, 0)), .blk b3 (.cells (factCells f Aw cw).toArray 43 (0, 0))] ∧ Ext0 w0 w) ?_ ?_
      · skip
     
        refine c_ops ?_
        refine l_val rfl rfl rfl (r_fieldAddr (n := 0) rfl Tryz.underlying46 rfl Tryz.sizeOf3 rfl) ?_
        refine l_val rfl rfl rfl (r_load_blk rfl Tryz.isAgg3 rfl (hL.get 1 rfl) rfl) ?_
        refine l_val rfl rfl rfl (r_eql rfl rfl rfl) ?_
        refine l_val rfl rfl rfl (r_move rfl) ?_
        refine l_case 69 rfl (fun hb => ?_) (fun hb => ?_)
        · have hr69 := hb
          replace hb := of_decide_eq_true hb
          refine l_not rfl rfl rfl ?_
          refine l_not rfl rfl rfl ?_
          refine l_not rfl rfl rfl ?_
          refine l_val rfl rfl rfl (r_pick rfl rfl) ?_
          refine l_nil ?_
          refine ⟨by repeat (first | exact Agree.over _ _ _ | exact Agree.refl _ _ | (refine Agree.puto ?_ _ _ rfl) | (refine Agree.put ?_ _ _ rfl) | (refine Agree.sub ?_ rfl)), ?_⟩
          exact ⟨congrArg Value.bool (by simp only [oddR, hr69, Bool.true_and, Bool.and_true, Bool.false_and, Bool.and_false, Bool.true_or, Bool.or_true, Bool.false_or, Bool.or_false, Bool.not_true, Bool.not_false, cond_true, cond_false]), hL, hE⟩
        · have hr69 := hb
          replace hb := of_decide_eq_false hb
          refine l_val rfl rfl rfl (r_fieldAddr (n := 0) rfl Tryz.underlying46 rfl Tryz.sizeOf3 rfl) ?_
          refine l_val rfl rfl rfl (r_load_blk rfl Tryz.isAgg3 rfl (hL.get 0 rfl) rfl) ?_
          refine l_val rfl rfl rfl (r_eql rfl rfl rfl) ?_
          refine l_val rfl rfl rfl (r_pick rfl rfl) ?_
          refine l_nil ?_
          refine ⟨by repeat (first | exact Agree.over _ _ _ | exact Agree.refl _ _ | (refine Agree.puto ?_ _ _ rfl) | (refine Agree.put ?_ _ _ rfl) | (refine Agree.sub ?_ rfl)), ?_⟩
          exact ⟨congrArg Value.bool (by simp only [oddR, hr69, Bool.true_and, Bool.and_true, Bool.false_and, Bool.and_false, Bool.true_or, Bool.or_true, Bool.false_or, Bool.or_false, Bool.not_true, Bool.not_false, cond_true, cond_false]), hL, hE⟩
      rintro e w hI
      obtain ⟨h73, hL, hE⟩ := hI
      refine c_know (t := 73) (by exact h73) ?_
      refine c_cond rfl (fun hb => ?_) (fun hb => ?_)
      · have hr73 := hb
        have hby := hby3 (by simpa using hb)
        refine c_seq ?_
     
        refine c_ops ?_
        refine l_val rfl rfl rfl (r_assign rfl) ?_
        refine l_val rfl rfl rfl (r_assign rfl) ?_
        refine l_nil ?_
        refine c_ret ?_
        rw [hby]; exact ⟨_, rfl, nil_row _ _ _ _, hE⟩
      · have hr73 := hb
        have h11 : ¬ (s.kind = 1 ∨ t.kind = 1) := by simpa using hb
        have hby := hby4 h11
        have hodd := oddR_eq his hit
        refine c_skip ?_
        refine c_seq ?_
        refine c_merge [74, 75, 76, 77, 78, 79, 80, 81, 82, 83, 84, 85, 86, 87, 88, 89, 90, 91, 92, 93, 94, 95, 96, 97, 98, 99, 100, 101, 102] (fun e w => e 102 = .bool (oddR s t) ∧ Has w [.blk b9 (.cells (nodeCells t Bk dk Bl dl).toArray 46 (0, 0)), .blk b6 (.cells (nodeCells s Ak ck Al cl).toArray 46 (0, 0)), .blk b3 (.cells (factCells f Aw cw).toArray 43 (0, 0))] ∧ Ext0 w0 w) ?_ ?_
        · skip
       
          refine c_ops ?_
          refine l_val rfl rfl rfl (r_fieldAddr (n := 0) rfl Tryz.underlying46 rfl Tryz.sizeOf3 rfl) ?_
          refine l_val rfl rfl rfl (r_load_blk rfl Tryz.isAgg3 rfl (hL.get 1 rfl) rfl) ?_
          refine l_val rfl rfl rfl (r_fieldAddr (n := 0) rfl Tryz.underlying46 rfl Tryz.sizeOf3 rfl) ?_
          refine l_val rfl rfl rfl (r_load_blk rfl Tryz.isAgg3 rfl (hL.get 0 rfl) rfl) ?_
          refine l_val rfl rfl rfl (r_neq rfl rfl rfl) ?_
          refine l_val rfl rfl rfl (r_move rfl) ?_
          refine l_case 79 rfl (fun hb => ?_) (fun hb => ?_)
          · have hr79 := hb
            replace hb := of_decide_eq_false (by simpa using hb)
            refine l_not rfl rfl rfl ?_
            refine l_not rfl rfl rfl ?_
            refine l_not rfl rfl rfl ?_
            refine l_not rfl rfl rfl ?_
            refine l_not rfl rfl rfl ?_
            refine l_not rfl rfl rfl ?_
            refine l_not rfl rfl rfl ?_
            refine l_not rfl rfl rfl ?_
            refine l_not rfl rfl rfl ?_
            refine l_not rfl rfl rfl ?_
            refine l_val rfl rfl rfl (r_pick rfl rfl) ?_
            refine l_val rfl rfl rfl (r_move rfl) ?_
            refine l_not rfl rfl rfl ?_
            refine l_not rfl rfl rfl ?_
            refine l_not rfl rfl rfl ?_
            refine l_not rfl rfl rfl ?_
            refine l_not rfl rfl rfl ?_
            refine l_not rfl rfl rfl ?_
            refine l_not rfl rfl rfl ?_
            refine l_not rfl rfl rfl ?_
            refine l_not rfl rfl rfl ?_
            refine l_not rfl rfl rfl ?_
            refine l_val rfl rfl rfl (r_pick rfl rfl) ?_
            refine l_nil ?_
            refine ⟨by repeat (first | exact Agree.over _ _ _ | exact Agree.refl _ _ | (refine Agree.puto ?_ _ _ rfl) | (refine Agree.put ?_ _ _ rfl) | (refine Agree.sub ?_ rfl)), ?_⟩
            exact ⟨congrArg Value.bool (by simp only [oddR, hr79, Bool.true_and, Bool.and_true, Bool.false_and, Bool.and_false, Bool.true_or, Bool.or_true, Bool.false_or, Bool.or_false, Bool.not_true, Bool.not_false, cond_true, cond_false]), hL, hE⟩
          · have hr79 := hb
            replace hb := of_decide_eq_true (by simpa using hb)
            refine l_val rfl rfl rfl (r_fieldAddr (n := 0) rfl Tryz.underlying46 rfl Tryz.sizeOf3 rfl) ?_
            refine l_val rfl rfl rfl (r_load_blk rfl Tryz.isAgg3 rfl (hL.get 1 rfl) rfl) ?_
            refine l_val rfl rfl rfl (r_eql rfl rfl rfl) ?_
            refine l_val rfl rfl rfl (r_move rfl) ?_
            refine l_case 83 rfl (fun hb => ?_) (fun hb => ?_)
            · have hr83 := hb
              replace hb := of_decide_eq_true hb
              refine l_val rfl rfl rfl (r_fieldAddr (n := 0) rfl Tryz.underlying46 rfl Tryz.sizeOf9 rfl) ?_
              refine l_val rfl rfl rfl (r_load_blk rfl Tryz.isAgg9 rfl (hL.get 1 rfl) rfl) ?_
              refine l_val rfl rfl rfl (r_fieldAddr (n := 0) rfl Tryz.underlying46 rfl Tryz.sizeOf9 rfl) ?_
              refine l_val rfl rfl rfl (r_load_blk rfl Tryz.isAgg9 rfl (hL.get 0 rfl) rfl) ?_
              refine l_val rfl rfl rfl (r_sneq rfl rfl rfl) ?_
              refine l_val rfl rfl rfl (r_pick rfl rfl) ?_
              refine l_val rfl rfl rfl (r_pick rfl rfl) ?_
              refine l_val rfl rfl rfl (r_move rfl) ?_
              refine l_case 91 rfl (fun hb => ?_) (fun hb => ?_)
              · have hr91 := hb
                replace hb := of_decide_eq_false (by simpa using hb)
                refine l_not rfl rfl rfl ?_
                refine l_not rfl rfl rfl ?_
                refine l_not rfl rfl rfl ?_
                refine l_not rfl rfl rfl ?_
                refine l_not rfl rfl rfl ?_
                refine l_not rfl rfl rfl ?_
                refine l_not rfl rfl rfl ?_
                refine l_not rfl rfl rfl ?_
                refine l_not rfl rfl rfl ?_
                refine l_not rfl rfl rfl ?_
                refine l_val rfl rfl rfl (r_pick rfl rfl) ?_
                refine l_nil ?_
                refine ⟨by repeat (first | exact Agree.over _ _ _ | exact Agree.refl _ _ | (refine Agree.puto ?_ _ _ rfl) | (refine Agree.put ?_ _ _ rfl) | (refine Agree.sub ?_ rfl)), ?_⟩
                exact ⟨congrArg Value.bool (by simp only [oddR, hr79, hr83, hr91, Bool.true_and, Bool.and_true, Bool.false_and, Bool.and_false, Bool.true_or, Bool.or_true, Bool.false_or, Bool.or_false, Bool.not_true, Bool.not_false, cond_true, cond_false]), hL, hE⟩
              · have hr91 := hb
                replace hb := of_decide_eq_true (by simpa using hb)
                refine l_val rfl rfl rfl (r_fieldAddr (n := 0) rfl Tryz.underlying46 rfl Tryz.sizeOf3 rfl) ?_
                refine l_val rfl rfl rfl (r_load_blk rfl Tryz.isAgg3 rfl (hL.get 1 rfl) rfl) ?_
                refine l_val rfl rfl rfl (r_eql rfl rfl rfl) ?_
                refine l_val rfl rfl rfl (r_move rfl) ?_
                refine l_case 95 rfl (fun hb => ?_) (fun hb => ?_)
                · have hr95 := hb
                  replace hb := of_decide_eq_true hb
                  refine l_val rfl rfl rfl (r_fieldAddr (n := 0) rfl Tryz.underlying46 rfl Tryz.sizeOf3 rfl) ?_
                  refine l_val rfl rfl rfl (r_load_blk rfl Tryz.isAgg3 rfl (hL.get 1 rfl) rfl) ?_
                  refine l_val rfl rfl rfl (r_fieldAddr (n := 0) rfl Tryz.underlying46 rfl Tryz.sizeOf3 rfl) ?_
                  refine l_val rfl rfl rfl (r_load_blk rfl Tryz.isAgg3 rfl (hL.get 0 rfl) rfl) ?_
                  refine l_val rfl rfl rfl (r_neq rfl rfl rfl) ?_
                  refine l_val rfl rfl rfl (r_pick rfl rfl) ?_
                  refine l_val rfl rfl rfl (r_pick rfl rfl) ?_
                  refine l_nil ?_
                  refine ⟨by repeat (first | exact Agree.over _ _ _ | exact Agree.refl _ _ | (refine Agree.puto ?_ _ _ rfl) | (refine Agree.put ?_ _ _ rfl) | (refine Agree.sub ?_ rfl)), ?_⟩
                  exact ⟨congrArg Value.bool (by simp only [oddR, hr79, hr83, hr91, hr95, Bool.true_and, Bool.and_true, Bool.false_and, Bool.and_false, Bool.true_or, Bool.or_true, Bool.false_or, Bool.or_false, Bool.not_true, Bool.not_false, cond_true, cond_false]), hL, hE⟩
                · have hr95 := hb
                  replace hb := of_decide_eq_false hb
                  refine l_not rfl rfl rfl ?_
                  refine l_not rfl rfl rfl ?_
                  refine l_not rfl rfl rfl ?_
                  refine l_not rfl rfl rfl ?_
                  refine l_not rfl rfl rfl ?_
                  refine l_val rfl rfl rfl (r_pick rfl rfl) ?_
                  refine l_val rfl rfl rfl (r_pick rfl rfl) ?_
                  refine l_nil ?_
                  refine ⟨by repeat (first | exact Agree.over _ _ _ | exact Agree.refl _ _ | (refine Agree.puto ?_ _ _ rfl) | (refine Agree.put ?_ _ _ rfl) | (refine Agree.sub ?_ rfl)), ?_⟩
                  exact ⟨congrArg Value.bool (by simp only [oddR, hr79, hr83, hr91, hr95, Bool.true_and, Bool.and_true, Bool.false_and, Bool.and_false, Bool.true_or, Bool.or_true, Bool.false_or, Bool.or_false, Bool.not_true, Bool.not_false, cond_true, cond_false]), hL, hE⟩
            · have hr83 := hb
              replace hb := of_decide_eq_false hb
              refine l_not rfl rfl rfl ?_
              refine l_not rfl rfl rfl ?_
              refine l_not rfl rfl rfl ?_
              refine l_not rfl rfl rfl ?_
              refine l_not rfl rfl rfl ?_
              refine l_val rfl rfl rfl (r_pick rfl rfl) ?_
              refine l_val rfl rfl rfl (r_pick rfl rfl) ?_
              refine l_val rfl rfl rfl (r_move rfl) ?_
              refine l_val rfl rfl rfl (r_fieldAddr (n := 0) rfl Tryz.underlying46 rfl Tryz.sizeOf3 rfl) ?_
              refine l_val rfl rfl rfl (r_load_blk rfl Tryz.isAgg3 rfl (hL.get 1 rfl) rfl) ?_
              refine l_val rfl rfl rfl (r_eql rfl rfl rfl) ?_
              refine l_val rfl rfl rfl (r_move rfl) ?_
              refine l_case 95 rfl (fun hb => ?_) (fun hb => ?_)
              · have hr95 := hb
                replace hb := of_decide_eq_true hb
                refine l_val rfl rfl rfl (r_fieldAddr (n := 0) rfl Tryz.underlying46 rfl Tryz.sizeOf3 rfl) ?_
                refine l_val rfl rfl rfl (r_load_blk rfl Tryz.isAgg3 rfl (hL.get 1 rfl) rfl) ?_
                refine l_val rfl rfl rfl (r_fieldAddr (n := 0) rfl Tryz.underlying46 rfl Tryz.sizeOf3 rfl) ?_
                refine l_val rfl rfl rfl (r_load_blk rfl Tryz.isAgg3 rfl (hL.get 0 rfl) rfl) ?_
                refine l_val rfl rfl rfl (r_neq rfl rfl rfl) ?_
                refine l_val rfl rfl rfl (r_pick rfl rfl) ?_
                refine l_val rfl rfl rfl (r_pick rfl rfl) ?_
                refine l_nil ?_
                refine ⟨by repeat (first | exact Agree.over _ _ _ | exact Agree.refl _ _ | (refine Agree.puto ?_ _ _ rfl) | (refine Agree.put ?_ _ _ rfl) | (refine Agree.sub ?_ rfl)), ?_⟩
                exact ⟨congrArg Value.bool (by simp only [oddR, hr79, hr83, hr95, Bool.true_and, Bool.and_true, Bool.false_and, Bool.and_false, Bool.true_or, Bool.or_true, Bool.false_or, Bool.or_false, Bool.not_true, Bool.not_false, cond_true, cond_false]), hL, hE⟩
              · have hr95 := hb
                replace hb := of_decide_eq_false hb
                refine l_not rfl rfl rfl ?_
                refine l_not rfl rfl rfl ?_
                refine l_not rfl rfl rfl ?_
                refine l_not rfl rfl rfl ?_
                refine l_not rfl rfl rfl ?_
                refine l_val rfl rfl rfl (r_pick rfl rfl) ?_
                refine l_val rfl rfl rfl (r_pick rfl rfl) ?_
                refine l_nil ?_
                refine ⟨by repeat (first | exact Agree.over _ _ _ | exact Agree.refl _ _ | (refine Agree.puto ?_ _ _ rfl) | (refine Agree.put ?_ _ _ rfl) | (refine Agree.sub ?_ rfl)), ?_⟩
                exact ⟨congrArg Value.bool (by simp only [oddR, hr79, hr83, hr95, Bool.true_and, Bool.and_true, Bool.false_and, Bool.and_false, Bool.true_or, Bool.or_true, Bool.false_or, Bool.or_false, Bool.not_true, Bool.not_false, cond_true, cond_false]), hL, hE⟩
        rintro e w hI
        obtain ⟨h102, hL, hE⟩ := hI
        refine c_know (t := 102) (by exact h102) ?_
        refine c_cond rfl (fun hb => ?_) (fun hb => ?_)
        · have hr102 := hb
          rw [show plainR s t = ([], false) by unfold plainR; rw [if_pos (by rw [← hodd]; exact hb)]] at hby
          refine c_seq ?_
       
          refine c_ops ?_
          refine l_val rfl rfl rfl (r_assign rfl) ?_
          refine l_val rfl rfl rfl (r_assign rfl) ?_
          refine l_nil ?_
          refine c_ret ?_
          rw [hby]; exact ⟨_, rfl, nil_row _ _ _ _, hE⟩
        · have hr102 := hb
          have hst : s.kind = t.kind := by
            have h := hb
            unfold oddR at h
            rw [Bool.or_eq_false_iff, Bool.or_eq_false_iff] at h
            simpa using h.1.1
          have hp : plainR s t = if s.kind = 9 then ([(iat s.l 0, iat t.l 0)], true) else match plainOn s (t.keys.zip t.l) with
            | none => ([], false)
            | some on => (on, true) := by unfold plainR; rw [if_neg (by rw [← hodd, hb]; decide)]; rfl
          refine c_skip ?_
          refine c_seq ?_
          refine c_seq ?_
       
          refine c_ops ?_
          refine l_val rfl rfl rfl (r_fieldAddr (n := 0) rfl Tryz.underlying46 rfl Tryz.sizeOf3 rfl) ?_
          refine l_val rfl rfl rfl (r_load_blk rfl Tryz.isAgg3 rfl (hL.get 1 rfl) rfl) ?_
          refine l_val rfl rfl rfl (r_eql rfl rfl rfl) ?_
          refine l_nil ?_
          refine c_cond rfl (fun hb => ?_) (fun hb => ?_)
          · have hr105 := hb
            replace hb := of_decide_eq_true hb
            rw [hp, if_pos hb] at hby
            have hs1 := hside.var hb
            have ht1 := htside.var (hst ▸ hb)
            refine c_seq ?_
         
            refine c_draw mixed (hL) hE ?_
            replace hL := hL.drew
            replace hE := hE.drew
            have hK := hL
            refine h_t 0 rfl rfl (by kernel_rfl) (fun _ _ _ h => h) ⟨hK, hE⟩ rfl (fun W hW => r_fieldAddr (n := 0) rfl Tryz.underlying46 rfl Tryz.sizeOf26 rfl) ?_
            refine h_listed (listed' := #[T',F',F',F',F',F',F',F',F',F',F',F']) (by kernel_rfl) ?_
            refine h_t 1 rfl rfl (by kernel_rfl) (fun _ _ _ h => h) ⟨hK, hE⟩ rfl (fun W hW => r_load_blk rfl Tryz.isAgg26 rfl (hW.1.get 1 rfl) rfl) ?_
            refine h_listed (listed' := #[T',T',F',F',F',F',F',F',F',F',F',F']) (by kernel_rfl) ?_
            refine h_t 2 rfl rfl (by kernel_rfl) (fun _ _ _ h => h) ⟨hK, hE⟩ rfl (fun W hW => r_indexAddr_sl rfl Tryz.underlying26 Tryz.sizeOf3 rfl hsl.is rfl (by omega) (by omega)) ?_
            refine h_listed (listed' := #[T',T',T',F',F',F',F',F',F',F',F',F']) (by kernel_rfl) ?_
            refine h_t 3 rfl rfl (by kernel_rfl) (fun _ _ _ h => h) ⟨hK, hE⟩ rfl (fun W hW => r_load (v := .int .i64 (iat s.l 0)) rfl Tryz.isAgg3 rfl ((hsl.keep RInt.kept (Ext0.cells hW.2)).int 0 (by omega) (by omega))) ?_
            refine h_listed (listed' := #[T',T',T',T',F',F',F',F',F',F',F',F']) (by kernel_rfl) ?_
            refine h_t 4 rfl rfl (by kernel_rfl) (fun _ _ _ h => h) ⟨hK, hE⟩ rfl (fun W hW => r_fieldAddr (n := 0) rfl Tryz.underlying46 rfl Tryz.sizeOf26 rfl) ?_
            refine h_listed (listed' := #[T',T',T',T',T',F',F',F',F',F',F',F']) (by kernel_rfl) ?_
            refine h_t 5 rfl rfl (by kernel_rfl) (fun _ _ _ h => h) ⟨hK, hE⟩ rfl (fun W hW => r_load_blk rfl Tryz.isAgg26 rfl (hW.1.get 0 rfl) rfl) ?_
            refine h_listed (listed' := #[T',T',T',T',T',T',F',F',F',F',F',F']) (by kernel_rfl) ?_
            refine h_t 6 rfl rfl (by kernel_rfl) (fun _ _ _ h => h) ⟨hK, hE⟩ rfl (fun W hW => r_indexAddr_sl rfl Tryz.underlying26 Tryz.sizeOf3 rfl htl.is rfl (by omega) (by omega)) ?_
            refine h_listed (listed' := #[T',T',T',T',T',T',T',F',F',F',F',F']) (by kernel_rfl) ?_
            refine h_t 7 rfl rfl (by kernel_rfl) (fun _ _ _ h => h) ⟨hK, hE⟩ rfl (fun W hW => r_load (v := .int .i64 (iat t.l 0)) rfl Tryz.isAgg3 rfl ((htl.keep RInt.kept (Ext0.cells hW.2)).int 0 (by omega) (by omega))) ?_
            refine h_listed (listed' := #[T',T',T',T',T',T',T',T',F',F',F',F']) (by kernel_rfl) ?_
            refine h_t 8 rfl rfl (by kernel_rfl) (fun _ _ _ h => h) ⟨hK, hE⟩ rfl (fun W hW => r_build rfl rfl (built_pr _ _)) ?_
            refine h_listed (listed' := #[T',T',T',T',T',T',T',T',T',F',F',F']) (by kernel_rfl) ?_
            refine h_new 9 rfl rfl (by kernel_rfl) rfl (n_slice (cells := #[.int .i64 (iat s.l 0), .int .i64 (iat t.l 0)]) rfl Tryz.underlying23 Tryz.sizeOf32 Tryz.zeroValue32 rfl rfl (fill_pair _ _) hL hE) ?_
            rintro _ w ⟨s115, rfl, hs115, hL, hE, hX⟩
            first | replace hEm := Ext.trans hEm hX | skip
            have hK := hL.sub (.cons _ (.cons_cons _ (.cons_cons _ (.cons_cons _ .slnil))))
            refine ⟨⟨hK, hE⟩, ?_⟩
            refine h_listed (listed' := #[T',T',T',T',T',T',T',T',T',T',F',F']) (by kernel_rfl) ?_
            refine h_t 10 rfl rfl (by kernel_rfl) (fun _ _ _ h => h) ⟨hK, hE⟩ rfl (fun W hW => r_assign rfl) ?_
            refine h_listed (listed' := #[T',T',T',T',T',T',T',T',T',T',T',F']) (by kernel_rfl) ?_
            refine h_t 11 rfl rfl (by kernel_rfl) (fun _ _ _ h => h) ⟨hK, hE⟩ rfl (fun W hW => r_assign rfl) ?_
            refine h_listed (listed' := #[T',T',T',T',T',T',T',T',T',T',T',T']) (by kernel_rfl) ?_
            refine h_done (by kernel_rfl) ?_
            refine c_ret ?_
            rw [hby]; exact ⟨_, rfl, (Has.asRow (n := 1) (sz := 2) hL hs115 rfl (by decide)).row 0 rfl, hE⟩
          · have hr105 := hb
            replace hb := of_decide_eq_false hb
            rw [if_neg hb] at hp
            replace hL := hL.nilRow w0.heap.size 32 2
            refine c_skip ?_
            refine c_seq ?_
            refine c_seq ?_
         
            refine c_ops ?_
            refine l_val rfl rfl rfl (r_assign rfl) ?_
            refine l_nil ?_
            refine c_block ?_
         
            refine c_loop0 (fun m1 e w => (e 0 = .slice Ag g.length cg ∧ e 3 = .pointer (some ⟨b3, 0, none⟩) ∧ e 6 = .pointer (some ⟨b6, 0, none⟩) ∧ e 9 = .pointer (some ⟨b9, 0, none⟩)) ∧ ∃ (k : Nat) (A5 : Option Addr) (c5 : Nat) (on : FP), k ≤ t.keys.length ∧ m1 = t.keys.length - k ∧ e 10 = .int .i64 (k : Nat) ∧ e 7 = .slice A5 on.length c5 ∧ on.length = k ∧ plainOn s (t.keys.zip t.l) = (plainOn s ((t.keys.zip t.l).drop k)).map (on ++ ·) ∧ Has w [.row w0.heap.size 32 2 (.slice A5 on.length c5) (on).length ((on).map cells2).flatten, .blk b9 (.cells (nodeCells t Bk dk Bl dl).toArray 46 (0, 0)), .blk b6 (.cells (nodeCells s Ak ck Al cl).toArray 46 (0, 0)), .blk b3 (.cells (factCells f Aw cw).toArray 43 (0, 0))] ∧ Ext0 w0 w) (t.keys.length) ?_ ?_
            · exact ⟨⟨rfl, rfl, rfl, rfl⟩, 0, none, 0, [], Nat.zero_le _, rfl, rfl, rfl, rfl, by simp, hL, hE⟩
            rintro m1 e w ⟨⟨hq0, hq3, hq6, hq9⟩, hI⟩
            refine c_know (t := 0) (by exact hq0) ?_
            refine c_know (t := 3) (by exact hq3) ?_
            refine c_know (t := 6) (by exact hq6) ?_
            refine c_know (t := 9) (by exact hq9) ?_
            clear hq0 hq3 hq6 hq9
            obtain ⟨k, A5, c5, on, hkl, hkm, h10s, h7s, honl, hon, hL, hE⟩ := hI
            refine c_know (t := 10) (by exact h10s) ?_
            refine c_know (t := 7) (by exact h7s) ?_
            refine c_seq ?_
            refine c_seq ?_
         
            refine c_ops ?_
            refine l_val rfl rfl rfl (r_move rfl) ?_
            refine l_val rfl rfl rfl (r_fieldAddr (n := 0) rfl Tryz.underlying46 rfl Tryz.sizeOf44 rfl) ?_
            refine l_val rfl rfl rfl (r_load_blk rfl Tryz.isAgg44 rfl (hL.get 1 rfl) rfl) ?_
            refine l_val rfl rfl rfl (r_len rfl Tryz.underlying44 rfl) ?_
            refine l_val rfl rfl rfl (r_lss rfl rfl rfl) ?_
            refine l_nil ?_
            refine c_cond rfl (fun hb => ?_) (fun hb => ?_)
            · have hr120 := hb
              replace hb := of_decide_eq_true hb
              have hklt : k < t.keys.length := by omega
              have hky := hit.keys hklt
              have hs7 : s.kind = 7 := by omega
              have hsr : risesB s.keys = true := by rcases his with ⟨h, _⟩ | ⟨h, _⟩ | ⟨h, hl, hr, _⟩ | ⟨h, _⟩ | ⟨h, _⟩ <;> first | exact hr | omega
              have hsll := hside.rcd hs7
              obtain ⟨key, hkey⟩ : ∃ key, key = kat t.keys k := ⟨_, rfl⟩
              have hstep := plainOn_step s (hkey ▸ kat_some hklt) (iat_nat (show k < t.l.length by omega))
              have hlt := idxS_lt s.keys key
              refine c_skip ?_
              refine c_seq ?_
              refine c_block ?_
              refine c_seq ?_
           
              refine c_ops ?_
              refine l_val rfl rfl rfl (r_assign rfl) ?_
              refine l_nil ?_
              refine c_seq ?_
              refine c_seq ?_
           
              refine c_ops ?_
              refine l_val rfl rfl rfl (r_assign rfl) ?_
              refine l_nil ?_
              refine c_block ?_
           
              refine c_loop0 (fun m1 e w => (e 0 = .slice Ag g.length cg ∧ e 3 = .pointer (some ⟨b3, 0, none⟩) ∧ e 6 = .pointer (some ⟨b6, 0, none⟩) ∧ e 9 = .pointer (some ⟨b9, 0, none⟩) ∧ e 7 = .slice A5 on.length c5 ∧ e 10 = .int .i64 (k : Nat)) ∧ ∃ (j : Nat) (at_ : Int), j ≤ s.keys.length ∧ m1 = s.keys.length - j ∧ e 12 = .int .i64 (j : Nat) ∧ e 11 = .int .i64 at_ ∧ LastAt s key j at_ ∧ Has w [.row w0.heap.size 32 2 (.slice A5 on.length c5) (on).length ((on).map cells2).flatten, .blk b9 (.cells (nodeCells t Bk dk Bl dl).toArray 46 (0, 0)), .blk b6 (.cells (nodeCells s Ak ck Al cl).toArray 46 (0, 0)), .blk b3 (.cells (factCells f Aw cw).toArray 43 (0, 0))] ∧ Ext0 w0 w) (s.keys.length) ?_ ?_
              · exact ⟨⟨rfl, rfl, rfl, rfl, rfl, rfl⟩, 0, -1, Nat.zero_le _, rfl, rfl, rfl, LastAt.zero _ _, hL, hE⟩
              rintro m1 e w ⟨⟨hq0, hq3, hq6, hq9, hq7, hq10⟩, hI⟩
              refine c_know (t := 0) (by exact hq0) ?_
              refine c_know (t := 3) (by exact hq3) ?_
              refine c_know (t := 6) (by exact hq6) ?_
              refine c_know (t := 9) (by exact hq9) ?_
              refine c_know (t := 7) (by exact hq7) ?_
              refine c_know (t := 10) (by exact hq10) ?_
              clear hq0 hq3 hq6 hq9 hq7 hq10
              obtain ⟨j, at_, hjl, hjm, h12s, h11s, hat, hL, hE⟩ := hI
              refine c_know (t := 12) (by exact h12s) ?_
              refine c_know (t := 11) (by exact h11s) ?_
              refine c_seq ?_
              refine c_seq ?_
           
              refine c_ops ?_
              refine l_val rfl rfl rfl (r_move rfl) ?_
              refine l_val rfl rfl rfl (r_fieldAddr (n := 0) rfl Tryz.underlying46 rfl Tryz.sizeOf44 rfl) ?_
              refine l_val rfl rfl rfl (r_load_blk rfl Tryz.isAgg44 rfl (hL.get 2 rfl) rfl) ?_
              refine l_val rfl rfl rfl (r_len rfl Tryz.underlying44 rfl) ?_
              refine l_val rfl rfl rfl (r_lss rfl rfl rfl) ?_
              refine l_nil ?_
              refine c_cond rfl (fun hb => ?_) (fun hb => ?_)
              · have hr127 := hb
                replace hb := of_decide_eq_true hb
                have hjlt : j < s.keys.length := by omega
                refine c_skip ?_
                refine c_seq ?_
                refine c_block ?_
                refine c_seq ?_
             
                refine c_draw mixed (hL) hE ?_
                replace hL := hL.drew
                replace hE := hE.drew
                have hK := hL
                refine h_t 0 rfl rfl (by kernel_rfl) (fun _ _ _ h => h) ⟨hK, hE⟩ rfl (fun W hW => r_fieldAddr (n := 0) rfl Tryz.underlying46 rfl Tryz.sizeOf44 rfl) ?_
                refine h_t 1 rfl rfl (by kernel_rfl) (fun _ _ _ h => h) ⟨hK, hE⟩ rfl (fun W hW => r_load_blk rfl Tryz.isAgg44 rfl (hW.1.get 2 rfl) rfl) ?_
                refine h_t 2 rfl rfl (by kernel_rfl) (fun _ _ _ h => h) ⟨hK, hE⟩ rfl (fun W hW => r_move rfl) ?_
                refine h_t 3 rfl rfl (by kernel_rfl) (fun _ _ _ h => h) ⟨hK, hE⟩ rfl (fun W hW => r_indexAddr_sl rfl Tryz.underlying44 Tryz.sizeOf9 rfl hsk.is rfl (by omega) (by omega)) ?_
                refine h_t 4 rfl rfl (by kernel_rfl) (fun _ _ _ h => h) ⟨hK, hE⟩ rfl (fun W hW => r_load (v := .string (kat s.keys j)) rfl Tryz.isAgg9 rfl ((hsk.keep RStr.kept (Ext0.cells hW.2)).str j (by omega) (by omega))) ?_
                refine h_t 5 rfl rfl (by kernel_rfl) (fun _ _ _ h => h) ⟨hK, hE⟩ rfl (fun W hW => r_fieldAddr (n := 0) rfl Tryz.underlying46 rfl Tryz.sizeOf44 rfl) ?_
                refine h_t 6 rfl rfl (by kernel_rfl) (fun _ _ _ h => h) ⟨hK, hE⟩ rfl (fun W hW => r_load_blk rfl Tryz.isAgg44 rfl (hW.1.get 1 rfl) rfl) ?_
                refine h_t 7 rfl rfl (by kernel_rfl) (fun _ _ _ h => h) ⟨hK, hE⟩ rfl (fun W hW => r_move rfl) ?_
                refine h_t 8 rfl rfl (by kernel_rfl) (fun _ _ _ h => h) ⟨hK, hE⟩ rfl (fun W hW => r_indexAddr_sl rfl Tryz.underlying44 Tryz.sizeOf9 rfl htk.is rfl (by omega) (by omega)) ?_
                refine h_t 9 rfl rfl (by kernel_rfl) (fun _ _ _ h => h) ⟨hK, hE⟩ rfl (fun W hW => r_load (v := .string key) rfl Tryz.isAgg9 rfl (by rw [hkey]; exact (htk.keep RStr.kept (Ext0.cells hW.2)).str k (by omega) (by omega))) ?_
                refine h_t 10 rfl rfl (by kernel_rfl) (fun _ _ _ h => h) ⟨hK, hE⟩ rfl (fun W hW => r_seql rfl rfl rfl) ?_
                refine h_done (by kernel_rfl) ?_
                refine c_cond rfl (fun hb => ?_) (fun hb => ?_)
                · have hr140 := hb
                  replace hb := of_decide_eq_true hb
                  have hat3 : LastAt s key (j + 1) (iat s.l j) := LastAt.hit hb
               
                  refine c_ops ?_
                  refine l_val rfl rfl rfl (r_fieldAddr (n := 0) rfl Tryz.underlying46 rfl Tryz.sizeOf26 rfl) ?_
                  refine l_val rfl rfl rfl (r_load_blk rfl Tryz.isAgg26 rfl (hL.get 2 rfl) rfl) ?_
                  refine l_val rfl rfl rfl (r_move rfl) ?_
                  refine l_val rfl rfl rfl (r_indexAddr_sl rfl Tryz.underlying26 Tryz.sizeOf3 rfl hsl.is rfl (by omega) (by omega)) ?_
                  refine l_val rfl rfl rfl (r_load (v := .int .i64 (iat s.l j)) rfl Tryz.isAgg3 rfl ((hsl.keep RInt.kept (Ext0.cells hE)).int j (by omega) (by omega))) ?_
                  refine l_val rfl rfl rfl (r_assign rfl) ?_
                  refine l_nil ?_
               
                  refine c_ops ?_
                  refine l_val rfl rfl rfl (r_move rfl) ?_
                  refine l_val rfl rfl rfl (r_add rfl rfl rfl) ?_
                  refine l_val rfl rfl rfl (r_assign rfl) ?_
                  refine l_nil ?_
                  exact ⟨s.keys.length - (j + 1), by omega, ⟨rfl, rfl, rfl, rfl, rfl, rfl⟩, j + 1, _, by omega, rfl, by show Value.int .i64 (IntKind.i64.wrap ((j : Int) + 1)) = _; rw [wrap_succ hjlt hsk.max], rfl, hat3, hL, hE⟩
                · have hr140 := hb
                  replace hb := of_decide_eq_false hb
                  have hat3 := hat.miss hb
                  refine c_skip ?_
               
                  refine c_ops ?_
                  refine l_val rfl rfl rfl (r_move rfl) ?_
                  refine l_val rfl rfl rfl (r_add rfl rfl rfl) ?_
                  refine l_val rfl rfl rfl (r_assign rfl) ?_
                  refine l_nil ?_
                  exact ⟨s.keys.length - (j + 1), by omega, ⟨rfl, rfl, rfl, rfl, rfl, rfl⟩, j + 1, _, by omega, rfl, by show Value.int .i64 (IntKind.i64.wrap ((j : Int) + 1)) = _; rw [wrap_succ hjlt hsk.max], rfl, hat3, hL, hE⟩
              · have hr127 := hb
                replace hb := of_decide_eq_false hb
                obtain rfl : j = s.keys.length := by omega
                have hat2 := hat.is hsr
                subst hat2
                refine c_exit ?_
                refine c_seq ?_
                refine c_seq ?_
             
                refine c_ops ?_
                refine l_val rfl rfl rfl (r_move rfl) ?_
                refine l_val rfl rfl rfl (r_lss rfl rfl rfl) ?_
                refine l_nil ?_
                refine c_cond rfl (fun hb => ?_) (fun hb => ?_)
                · have hr147 := hb
                  replace hb := of_decide_eq_true hb
                  have hneg := fieldF_neg hside hsll hb
                  rw [hp, hon, hstep, if_pos hneg] at hby
                  refine c_seq ?_
               
                  refine c_ops ?_
                  refine l_val rfl rfl rfl (r_assign rfl) ?_
                  refine l_val rfl rfl rfl (r_assign rfl) ?_
                  refine l_nil ?_
                  refine c_ret ?_
                  rw [hby]; exact ⟨_, rfl, nil_row _ _ _ _, hE⟩
                · have hr147 := hb
                  replace hb := of_decide_eq_false hb
                  have hpos := fieldF_pos hside hsll hb
                  rw [hpos.2.1]
                  have hon2 : plainOn s (t.keys.zip t.l) = (plainOn s ((t.keys.zip t.l).drop (k + 1))).map ((on ++ [(iat s.l (idxV (idxS s.keys key)), iat t.l k)]) ++ ·) := by
                    rw [hon, hstep, if_neg hpos.1, Option.map_map]
                    congr 1
                    funext l
                    simp
                  refine c_skip ?_
               
                  refine c_ops ?_
                  refine l_val rfl rfl rfl (r_move rfl) ?_
                  refine l_val rfl rfl rfl (r_move rfl) ?_
                  refine l_val rfl rfl rfl (r_fieldAddr (n := 0) rfl Tryz.underlying46 rfl Tryz.sizeOf26 rfl) ?_
                  refine l_val rfl rfl rfl (r_load_blk rfl Tryz.isAgg26 rfl (hL.get 1 rfl) rfl) ?_
                  refine l_val rfl rfl rfl (r_move rfl) ?_
                  refine l_val rfl rfl rfl (r_indexAddr_sl rfl Tryz.underlying26 Tryz.sizeOf3 rfl htl.is rfl (by omega) (by omega)) ?_
                  refine l_val rfl rfl rfl (r_load (v := .int .i64 (iat t.l k)) rfl Tryz.isAgg3 rfl ((htl.keep RInt.kept (Ext0.cells hE)).int k (by omega) (by omega))) ?_
                  refine l_val rfl rfl rfl (r_build rfl rfl (built_pr _ _)) ?_
                  refine l_new rfl rfl rfl (n_slice (cells := #[.int .i64 (iat s.l (idxV (idxS s.keys key))), .int .i64 (iat t.l k)]) rfl Tryz.underlying23 Tryz.sizeOf32 Tryz.zeroValue32 rfl rfl (fill_pair _ _) hL hE) ?_
                  rintro _ w ⟨s156, rfl, hs156, hL, hE, hX⟩
                  first | replace hEm := Ext.trans hEm hX | skip
                  refine l_new rfl rfl rfl (r_append (ys := cells2 ((iat s.l (idxV (idxS s.keys key))), (iat t.l k))) 1 rfl Tryz.underlying23 info_pr rfl (by decide) rfl rfl hL hE rfl rfl (blk_raw (cs := #[.int .i64 (iat s.l (idxV (idxS s.keys key))), .int .i64 (iat t.l k)]) (hL.get 0 rfl) rfl) (fun u hu => by simp [cells2] at hu; rcases hu with rfl | rfl <;> rfl) (by omega) (by omega) (Nat.le_refl _) hE.size) ?_
                  rintro _ w ⟨hL, hE, hk⟩
                  obtain ⟨A8, c8, rfl⟩ := ownsRow_slice (hL.row 1 rfl)
                  replace hL : Has w [.blk s156 (.cells #[.int .i64 (iat s.l (idxV (idxS s.keys key))), .int .i64 (iat t.l k)] 32 (0, 0)), .row w0.heap.size 32 2 (.slice A8 (on ++ [((iat s.l (idxV (idxS s.keys key))), (iat t.l k))]).length c8) (on ++ [((iat s.l (idxV (idxS s.keys key))), (iat t.l k))]).length ((on ++ [((iat s.l (idxV (idxS s.keys key))), (iat t.l k))]).map cells2).flatten, .blk b9 (.cells (nodeCells t Bk dk Bl dl).toArray 46 (0, 0)), .blk b6 (.cells (nodeCells s Ak ck Al cl).toArray 46 (0, 0)), .blk b3 (.cells (factCells f Aw cw).toArray 43 (0, 0))] := by rw [← pairs_snoc, List.length_append]; exact hL
                  first | replace hEm := Ext.trans hEm hX | skip
                  refine l_val rfl rfl rfl (r_assign rfl) ?_
                  refine l_nil ?_
               
                  refine c_ops ?_
                  refine l_val rfl rfl rfl (r_move rfl) ?_
                  refine l_val rfl rfl rfl (r_add rfl rfl rfl) ?_
                  refine l_val rfl rfl rfl (r_assign rfl) ?_
                  refine l_nil ?_
                  exact ⟨t.keys.length - (k + 1), by omega, ⟨rfl, rfl, rfl, rfl⟩, k + 1, A8, c8, on ++ [(iat s.l (idxV (idxS s.keys key)), iat t.l k)], by omega, rfl, by show Value.int .i64 (IntKind.i64.wrap ((k : Int) + 1)) = _; rw [wrap_succ hklt htk.max], congrArg (fun n => Value.slice A8 n c8) (by rw [List.length_append]; rfl), by simp [honl], hon2, hL.tail, hE⟩
            · have hr120 := hb
              replace hb := of_decide_eq_false hb
              obtain rfl : k = t.keys.length := by omega
              rw [List.drop_eq_nil_of_le (by simp; omega)] at hon
              rw [hp, hon] at hby
              replace hby : byF g f = (on, true) := by rw [hby]; simp [plainOn]
              refine c_exit ?_
              refine c_seq ?_
           
              refine c_ops ?_
              refine l_val rfl rfl rfl (r_move rfl) ?_
              refine l_val rfl rfl rfl (r_assign rfl) ?_
              refine l_val rfl rfl rfl (r_assign rfl) ?_
              refine l_nil ?_
              refine c_ret ?_
              rw [hby]; exact ⟨_, rfl, by have := hL.row 0 rfl; exact this, hE⟩
end Go.Proofs.YtndophlnapjkhaaGreatDoor.Vc
