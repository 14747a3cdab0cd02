/- Laws and walks for what the last text proves, part 5: FactFinds of the layer 'fact'. Conditions: those of each statement. -/
import Derived.Test.YtndophlnapjkhaaGreatDoorPf4
namespace Go.Proofs.YtndophlnapjkhaaGreatDoor.Vc
open Go Go.RowKit
set_option linter.unusedVariables false
set_option linter.unusedSimpArgs false
theorem info_bool : (Tryz.prog.info? 4).map (fun i => (i.zero, i.size, i.bytes)) = some (some (.bool false), 1, 1) := by kernel_rfl
theorem r_store1 {P : Program} {w : World} {ρ : Operand → Value} {o : Oper} {t : TypeId} {x y : Operand} {b j : Nat} {cs : List Value} {v : Value} {u : TypeId} {S : Nat → Prop} {w0 : World} {L : List Res} (i : Nat) (h : o.op = .store t x y) (hn : Sized P t 1) (hx : ρ x = .pointer (some ((⟨b, 0, none⟩ : Addr).add j))) (hy : ρ y = v) (h1 : v.oneCell' = true) (hc : v.cells = #[v])
    (hL : Has w L) (hE : Ext S w0 w) (hi : L[i]? = some (.blk b (.cells cs.toArray u (0, 0)))) (hl : j < cs.length) (hS : b < w0.heap.size → S b) :
    ∃ w', (execOp ρ o).run P w = .ok .skip w' ∧ Has w' (L.set i (.blk b (.cells (cs.set j v).toArray u (0, 0)))) ∧ Ext S w0 w' ∧ w'.heap.size = w.heap.size ∧ (∀ k, k ≠ b → w'.heap[k]? = w.heap[k]?) := by
  rw [blk_add, Nat.zero_add] at hx
  have hcl : (ρ y).cells.toList = [v] := by rw [hy, hc]
  have := r_store (P := P) i h hn hx hL hE hi (by rw [hy, hc]; rfl) (by rw [hcl]; simp [h1]) (Nat.ble_eq_true_of_le (by simp; omega)) hS
  rw [hcl] at this
  have he : putAt cs.toArray j [v] = (cs.set j v).toArray := by simp [putAt]
  rw [he] at this
  exact this
theorem any_get {α : Type} {p : α → Bool} {l : List α} {k : Nat} {x : α} (h : l[k]? = some x) (hp : p x = true) : l.any p = true := by
  rw [List.any_eq_true]
  exact ⟨x, List.mem_of_getElem? h, hp⟩
theorem any_none {p : Int → Bool} {l : List Int} (h : ∀ j : Nat, j < l.length → p (iat l j) = false) : l.any p = false := by
  rw [List.any_eq_false]
  intro x hx
  obtain ⟨j, hj⟩ := List.mem_iff_getElem?.1 hx
  have hl := (List.getElem?_eq_some_iff.1 hj).1
  have := h j hl
  rw [iat_nat hl] at hj
  cases hj
  simp [this]
theorem inside_calls (w0 : World) (Ag : Option Addr) (cg : Nat) (g : List GNode) (hg : Nodes w0 Ag cg g) (A : Option Addr) (c : Nat) (l : List Int) (hl : Ints w0 A c l) :
    Calls Tryz.prog 82 [.slice Ag g.length cg, .slice A l.length c].toArray w0 fun en w' => en = .returned (.bool (!l.any (outB g.length))) ∧ Ext0 w0 w' := by
  have hE : Ext0 w0 w0 := Ext.refl _ _
  refine calls [4] Tryz.func82 rfl rfl rfl rfl ?_
  refine c_seq ?_
  refine c_ops ?_
  refine l_val rfl rfl rfl (r_assign rfl) ?_
  refine l_nil ?_
  refine c_seq ?_
  refine c_seq ?_
  refine c_ops ?_
  refine l_val rfl rfl rfl (r_assign rfl) ?_
  refine l_nil ?_
  refine c_block ?_
  refine c_loop [4, 5, 6, 7, 8, 9, 10, 11, 12, 13, 14, 15, 16, 17, 18, 19, 20, 21, 22, 23, 24, 25] (fun m1 e w => ∃ (k : Nat), k ≤ l.length ∧ m1 = l.length - k ∧ e 5 = .int .i64 (k : Nat) ∧ (∀ j : Nat, j < k → outB g.length (iat l j) = false) ∧ Ext0 w0 w) (l.length) ?_ ?_
  · exact ⟨0, Nat.zero_le _, rfl, rfl, fun j hj => absurd hj (Nat.not_lt_zero _), hE⟩
  intro m1 e w hI
  obtain ⟨k, hkl, hkm, h5s, hall, hE⟩ := hI
  refine c_know (t := 5) (by exact h5s) ?_
  have hL : Has w [] := trivial
  refine c_seq ?_
  refine c_seq ?_
  refine c_ops ?_
  refine l_val rfl rfl rfl (r_move rfl) ?_
  refine l_val rfl rfl rfl (r_move rfl) ?_
  refine l_val rfl rfl rfl (r_len rfl Tryz.underlying26 rfl) ?_
  refine l_val rfl rfl rfl (r_lss rfl rfl rfl) ?_
  refine l_nil ?_
  refine c_cond rfl (fun hb => ?_) (fun hb => ?_)
  · have hr9 := hb
    replace hb := of_decide_eq_true hb
    have hklt : k < l.length := by omega
    have hk := iat_nat hklt
    refine c_skip ?_
    refine c_seq ?_
    refine c_block ?_
    refine c_seq ?_
 
    refine c_ops ?_
    refine l_val rfl rfl rfl (r_move rfl) ?_
    refine l_val rfl rfl rfl (r_move rfl) ?_
    refine l_val rfl rfl rfl (r_indexAddr_sl rfl Tryz.underlying26 Tryz.sizeOf3 rfl hl.is rfl (by omega) (by omega)) ?_
    refine l_val rfl rfl rfl (r_load (v := .int .i64 (iat l k)) rfl Tryz.isAgg3 rfl ((hl.keep RInt.kept (Ext0.cells hE)).int k (by omega) (by omega))) ?_
    refine l_val rfl rfl rfl (r_lss rfl rfl rfl) ?_
    refine l_val rfl rfl rfl (r_move rfl) ?_
    refine l_case 17 rfl (fun hb => ?_) (fun hb => ?_)
    · have hr17 := hb
      replace hb := of_decide_eq_true hb
      have hno : outB g.length (iat l k) = true := by simp [outB, hb]
      refine l_not rfl rfl rfl ?_
      refine l_not rfl rfl rfl ?_
      refine l_not rfl rfl rfl ?_
      refine l_not rfl rfl rfl ?_
      refine l_not rfl rfl rfl ?_
      refine l_not rfl rfl rfl ?_
      refine l_not rfl rfl rfl ?_
      refine l_val rfl rfl rfl (r_pick rfl rfl) ?_
      refine l_nil ?_
      refine c_yes rfl ?_
      refine c_seq ?_
   
      refine c_ops ?_
      refine l_val rfl rfl rfl (r_assign rfl) ?_
      refine l_nil ?_
      refine c_ret ?_
      exact ⟨ret_bool rfl (by rw [any_get hk hno]; rfl), hE⟩
    · have hr17 := hb
      replace hb := of_decide_eq_false hb
      refine l_val rfl rfl rfl (r_move rfl) ?_
      refine l_val rfl rfl rfl (r_move rfl) ?_
      refine l_val rfl rfl rfl (r_indexAddr_sl rfl Tryz.underlying26 Tryz.sizeOf3 rfl hl.is rfl (by omega) (by omega)) ?_
      refine l_val rfl rfl rfl (r_load (v := .int .i64 (iat l k)) rfl Tryz.isAgg3 rfl ((hl.keep RInt.kept (Ext0.cells hE)).int k (by omega) (by omega))) ?_
      refine l_val rfl rfl rfl (r_move rfl) ?_
      refine l_val rfl rfl rfl (r_len rfl Tryz.underlying22 rfl) ?_
      refine l_val rfl rfl rfl (r_geq rfl rfl rfl) ?_
      refine l_val rfl rfl rfl (r_pick rfl rfl) ?_
      refine l_nil ?_
      refine c_cond rfl (fun hb => ?_) (fun hb => ?_)
      · have hr25 := hb
        replace hb := of_decide_eq_true hb
        have hno : outB g.length (iat l k) = true := by simp [outB, hb]
        refine c_seq ?_
     
        refine c_ops ?_
        refine l_val rfl rfl rfl (r_assign rfl) ?_
        refine l_nil ?_
        refine c_ret ?_
        exact ⟨ret_bool rfl (by rw [any_get hk hno]; rfl), hE⟩
      · have hr25 := hb
        replace hb := of_decide_eq_false hb
        have hyes : outB g.length (iat l k) = false := by have h1 := of_decide_eq_false hr17; simp [outB]; omega
        refine c_skip ?_
     
        refine c_ops ?_
        refine l_val rfl rfl rfl (r_move rfl) ?_
        refine l_val rfl rfl rfl (r_add rfl rfl rfl) ?_
        refine l_val rfl rfl rfl (r_assign rfl) ?_
        refine l_nil ?_
        refine ⟨by repeat (first | exact Agree.over _ _ _ | exact Agree.refl _ _ | (refine Agree.puto ?_ _ _ rfl) | (refine Agree.put ?_ _ _ rfl) | (refine Agree.sub ?_ rfl)), ?_⟩
        exact ⟨l.length - (k + 1), by omega, k + 1, by omega, rfl, by show Value.int .i64 (IntKind.i64.wrap ((k : Int) + 1)) = _; rw [wrap_succ hklt hl.max], fun j hj => by rcases Nat.lt_or_eq_of_le (Nat.le_of_lt_succ hj) with h | rfl <;> first | exact hall j h | exact hyes, hE⟩
  · have hr9 := hb
    replace hb := of_decide_eq_false hb
    refine c_exit ?_
    refine c_seq ?_
 
    refine c_ops ?_
    refine l_val rfl rfl rfl (r_assign rfl) ?_
    refine l_nil ?_
    refine c_ret ?_
    exact ⟨ret_bool rfl (by rw [any_none (fun j hj => hall j (by omega))]; rfl), hE⟩
def inCells (n : Nat) (l : List Int) : List Value := (List.range n).map fun (i : Nat) => Value.bool (decide ((i : Int) ∈ l))
theorem inCells_get {n : Nat} {l : List Int} {i : Nat} (h : i < n) : (inCells n l)[i]? = some (.bool (decide ((i : Int) ∈ l))) := by
  unfold inCells
  rw [List.getElem?_map, List.getElem?_range h]
  rfl
theorem inCells_set {n : Nat} {l : List Int} {x : Int} (h0 : 0 ≤ x) : (inCells n l).set x.toNat (.bool true) = inCells n (l ++ [x]) := by
  apply List.ext_getElem?
  intro i
  rw [List.getElem?_set]
  have hlen : (inCells n l).length = n := by simp [inCells]
  rcases Nat.lt_or_ge i n with hi | hi
  · rw [inCells_get hi, inCells_get hi]
    split
    · rename_i e
      subst e
      rw [hlen, if_pos hi, Int.toNat_of_nonneg h0]
      simp
    · rename_i e
      have : ¬ (i : Int) = x := fun e2 => e (by omega)
      simp [this]
  · rw [List.getElem?_eq_none (by rw [hlen]; exact hi), List.getElem?_eq_none (by simp [inCells]; exact hi)]
    split
    · rename_i e
      rw [hlen, if_neg (by omega)]
    · rfl
theorem made_none (n : Nat) : (madeCells #[Value.bool false] (n * 1)) = (inCells n []).toArray := by
  unfold madeCells inCells
  apply Array.ext'
  simp [Nat.mod_one]
theorem nodup_snoc {l : List Int} {x : Int} : (l ++ [x]).Nodup ↔ l.Nodup ∧ x ∉ l := by
  rw [List.nodup_append]
  constructor
  · rintro ⟨h1, _, h3⟩
    exact ⟨h1, fun hx => h3 x hx x (by simp) rfl⟩
  · rintro ⟨h1, h2⟩
    refine ⟨h1, by simp, ?_⟩
    rintro a ha b hb rfl
    rw [List.mem_singleton] at hb
    subst hb
    exact h2 ha
theorem nodup_take {l : List Int} (h : l.Nodup) (k : Nat) : (l.take k).Nodup := (List.take_sublist k l).nodup h
set_option maxHeartbeats 2000000 in
theorem places_calls (w0 : World) (Ag : Option Addr) (cg : Nat) (g : List GNode) (hg : Nodes w0 Ag cg g) (hn : g.length ≤ 1000000) (A : Option Addr) (c : Nat) (l : List Int) (hl : Ints w0 A c l) :
    Calls Tryz.prog 100 [.slice Ag g.length cg, .slice A l.length c].toArray w0 fun en w' => en = .returned (.bool (!l.any (outB g.length) && diffB l)) ∧ Ext0 w0 w' := by
  have hE : Ext0 w0 w0 := Ext.refl _ _
  have hL : Has w0 [] := trivial
  refine calls [4] Tryz.func100 rfl rfl rfl rfl ?_
  refine c_seq ?_
  refine c_ops ?_
  refine l_val rfl rfl rfl (r_assign rfl) ?_
  refine l_nil ?_
  refine c_seq ?_
  refine c_ops ?_
  refine l_val rfl rfl rfl (r_move rfl) ?_
  refine l_val rfl rfl rfl (r_len rfl Tryz.underlying22 rfl) ?_
  refine l_new rfl rfl rfl (n_make rfl Tryz.underlying62 info_bool rfl rfl hL hE (by omega) (by omega)) ?_
  rintro _ w ⟨s9, rfl, hs9, hL, hE, hX⟩
  replace hL : Has w [.blk s9 (.cells (inCells g.length []).toArray 4 (0, 0))] := by rw [← made_none]; exact hL
  refine l_val rfl rfl rfl (r_assign rfl) ?_
  refine l_nil ?_
  refine c_seq ?_
  refine c_seq ?_
  refine c_ops ?_
  refine l_val rfl rfl rfl (r_assign rfl) ?_
  refine l_nil ?_
  refine c_block ?_
  refine c_loop0 (fun m1 e w => (e 0 = .slice Ag g.length cg ∧ e 1 = .slice A l.length c ∧ e 5 = .slice (some ⟨s9, 0, none⟩) g.length g.length) ∧ ∃ (k : Nat), k ≤ l.length ∧ m1 = l.length - k ∧ e 6 = .int .i64 (k : Nat) ∧ (∀ j : Nat, j < k → outB g.length (iat l j) = false) ∧ (l.take k).Nodup ∧ Has w [.blk s9 (.cells (inCells g.length (l.take k)).toArray 4 (0, 0))] ∧ Ext0 w0 w) (l.length) ?_ ?_
  · exact ⟨⟨rfl, rfl, rfl⟩, 0, Nat.zero_le _, rfl, rfl, fun j hj => absurd hj (Nat.not_lt_zero _), by simp, by simpa using hL, hE⟩
  rintro m1 e w ⟨⟨hq0, hq1, hq5⟩, hI⟩
  refine c_know (t := 0) (by exact hq0) ?_
  refine c_know (t := 1) (by exact hq1) ?_
  refine c_know (t := 5) (by exact hq5) ?_
  clear hq0 hq1 hq5
  obtain ⟨k, hkl, hkm, h6s, hall, hnd, hL, hE⟩ := hI
  refine c_know (t := 6) (by exact h6s) ?_
  refine c_seq ?_
  refine c_seq ?_
  refine c_ops ?_
  refine l_val rfl rfl rfl (r_move rfl) ?_
  refine l_val rfl rfl rfl (r_move rfl) ?_
  refine l_val rfl rfl rfl (r_len rfl Tryz.underlying26 rfl) ?_
  refine l_val rfl rfl rfl (r_lss rfl rfl rfl) ?_
  refine l_nil ?_
  refine c_cond rfl (fun hb => ?_) (fun hb => ?_)
  · have hr13 := hb
    replace hb := of_decide_eq_true hb
    have hklt : k < l.length := by omega
    have hk := iat_nat hklt
    refine c_skip ?_
    refine c_seq ?_
    refine c_block ?_
    refine c_seq ?_
    refine c_seq ?_
 
    refine c_ops ?_
    refine l_val rfl rfl rfl (r_move rfl) ?_
    refine l_val rfl rfl rfl (r_move rfl) ?_
    refine l_val rfl rfl rfl (r_indexAddr_sl rfl Tryz.underlying26 Tryz.sizeOf3 rfl hl.is rfl (by omega) (by omega)) ?_
    refine l_val rfl rfl rfl (r_load (v := .int .i64 (iat l k)) rfl Tryz.isAgg3 rfl ((hl.keep RInt.kept (Ext0.cells hE)).int k (by omega) (by omega))) ?_
    refine l_val rfl rfl rfl (r_lss rfl rfl rfl) ?_
    refine l_val rfl rfl rfl (r_move rfl) ?_
    refine l_case 21 rfl (fun hb => ?_) (fun hb => ?_)
    · have hr21 := hb
      replace hb := of_decide_eq_true hb
      have hno : outB g.length (iat l k) = true := by simp [outB, hb]
      refine l_not rfl rfl rfl ?_
      refine l_not rfl rfl rfl ?_
      refine l_not rfl rfl rfl ?_
      refine l_not rfl rfl rfl ?_
      refine l_not rfl rfl rfl ?_
      refine l_not rfl rfl rfl ?_
      refine l_not rfl rfl rfl ?_
      refine l_val rfl rfl rfl (r_pick rfl rfl) ?_
      refine l_val rfl rfl rfl (r_move rfl) ?_
      refine l_not rfl rfl rfl ?_
      refine l_not rfl rfl rfl ?_
      refine l_not rfl rfl rfl ?_
      refine l_not rfl rfl rfl ?_
      refine l_not rfl rfl rfl ?_
      refine l_not rfl rfl rfl ?_
      refine l_not rfl rfl rfl ?_
      refine l_val rfl rfl rfl (r_pick rfl rfl) ?_
      refine l_nil ?_
      refine c_yes rfl ?_
      refine c_seq ?_
   
      refine c_ops ?_
      refine l_val rfl rfl rfl (r_assign rfl) ?_
      refine l_nil ?_
      refine c_ret ?_
      exact ⟨ret_bool rfl (by rw [any_get hk hno]; rfl), hE⟩
    · have hr21 := hb
      replace hb := of_decide_eq_false hb
      refine l_val rfl rfl rfl (r_move rfl) ?_
      refine l_val rfl rfl rfl (r_move rfl) ?_
      refine l_val rfl rfl rfl (r_indexAddr_sl rfl Tryz.underlying26 Tryz.sizeOf3 rfl hl.is rfl (by omega) (by omega)) ?_
      refine l_val rfl rfl rfl (r_load (v := .int .i64 (iat l k)) rfl Tryz.isAgg3 rfl ((hl.keep RInt.kept (Ext0.cells hE)).int k (by omega) (by omega))) ?_
      refine l_val rfl rfl rfl (r_move rfl) ?_
      refine l_val rfl rfl rfl (r_len rfl Tryz.underlying22 rfl) ?_
      refine l_val rfl rfl rfl (r_geq rfl rfl rfl) ?_
      refine l_val rfl rfl rfl (r_pick rfl rfl) ?_
      refine l_val rfl rfl rfl (r_move rfl) ?_
      refine l_case 30 rfl (fun hb => ?_) (fun hb => ?_)
      · have hr30 := hb
        replace hb := of_decide_eq_true hb
        have hno : outB g.length (iat l k) = true := by simp [outB, hb]
        refine l_not rfl rfl rfl ?_
        refine l_not rfl rfl rfl ?_
        refine l_not rfl rfl rfl ?_
        refine l_not rfl rfl rfl ?_
        refine l_not rfl rfl rfl ?_
        refine l_not rfl rfl rfl ?_
        refine l_not rfl rfl rfl ?_
        refine l_val rfl rfl rfl (r_pick rfl rfl) ?_
        refine l_nil ?_
        refine c_yes rfl ?_
        refine c_seq ?_
     
        refine c_ops ?_
        refine l_val rfl rfl rfl (r_assign rfl) ?_
        refine l_nil ?_
        refine c_ret ?_
        exact ⟨ret_bool rfl (by rw [any_get hk hno]; rfl), hE⟩
      · have hr30 := hb
        replace hb := of_decide_eq_false hb
        have hin : 0 ≤ iat l k ∧ iat l k < g.length := by have h1 := of_decide_eq_false hr21; omega
        have hin3 : outB g.length (iat l k) = false := by simp [outB]; omega
        have hsn : w.cell? ((⟨s9, 0, none⟩ : Addr).add ((iat l k).toNat * 1)) = some (.bool (decide (iat l k ∈ l.take k))) := by
          rw [blk_add, blk_cell (hL.get 0 rfl), Nat.zero_add, Nat.mul_one]
          have := inCells_get (n := g.length) (l := l.take k) (i := (iat l k).toNat) (by omega)
          rw [Int.toNat_of_nonneg hin.1] at this
          simpa using this
        refine l_val rfl rfl rfl (r_move rfl) ?_
        refine l_val rfl rfl rfl (r_move rfl) ?_
        refine l_val rfl rfl rfl (r_move rfl) ?_
        refine l_val rfl rfl rfl (r_indexAddr_sl rfl Tryz.underlying26 Tryz.sizeOf3 rfl hl.is rfl (by omega) (by omega)) ?_
        refine l_val rfl rfl rfl (r_load (v := .int .i64 (iat l k)) rfl Tryz.isAgg3 rfl ((hl.keep RInt.kept (Ext0.cells hE)).int k (by omega) (by omega))) ?_
        refine l_val rfl rfl rfl (r_indexAddr rfl Tryz.underlying62 Tryz.sizeOf4 rfl rfl hin.1 hin.2) ?_
        refine l_val rfl rfl rfl (r_load (v := .bool (decide (iat l k ∈ l.take k))) rfl Tryz.isAgg4 rfl hsn) ?_
        refine l_val rfl rfl rfl (r_pick rfl rfl) ?_
        refine l_nil ?_
        refine c_cond rfl (fun hb => ?_) (fun hb => ?_)
        · have hr38 := hb
          have hno : diffB l = false := by
            unfold diffB
            apply decide_eq_false
            intro hd
            have h1 := nodup_take hd (k + 1)
            rw [take_snoc hk, nodup_snoc] at h1
            exact h1.2 (of_decide_eq_true hb)
          refine c_seq ?_
       
          refine c_ops ?_
          refine l_val rfl rfl rfl (r_assign rfl) ?_
          refine l_nil ?_
          refine c_ret ?_
          exact ⟨ret_bool rfl (by rw [hno, Bool.and_false]), hE⟩
        · have hr38 := hb
          have hyes := hin3
          have hnd2 : (l.take (k + 1)).Nodup := by rw [take_snoc hk, nodup_snoc]; exact ⟨hnd, of_decide_eq_false hb⟩
          refine c_skip ?_
       
          refine c_ops ?_
          refine l_val rfl rfl rfl (r_move rfl) ?_
          refine l_val rfl rfl rfl (r_move rfl) ?_
          refine l_val rfl rfl rfl (r_move rfl) ?_
          refine l_val rfl rfl rfl (r_indexAddr_sl rfl Tryz.underlying26 Tryz.sizeOf3 rfl hl.is rfl (by omega) (by omega)) ?_
          refine l_val rfl rfl rfl (r_load (v := .int .i64 (iat l k)) rfl Tryz.isAgg3 rfl ((hl.keep RInt.kept (Ext0.cells hE)).int k (by omega) (by omega))) ?_
          refine l_val rfl rfl rfl (r_indexAddr rfl Tryz.underlying62 Tryz.sizeOf4 rfl rfl hin.1 hin.2) ?_
          refine l_new_do rfl rfl (r_store1 (v := .bool true) 0 rfl Tryz.sizeOf4 rfl rfl rfl rfl hL hE rfl (by rw [Nat.mul_one]; simp [inCells]; omega) (fun h => absurd h (Nat.not_lt.2 hs9))) ?_
          rintro w ⟨hL, hE, hz, hk'⟩
          rw [Nat.mul_one, inCells_set hin.1, ← take_snoc hk] at hL
          refine l_nil ?_
       
          refine c_ops ?_
          refine l_val rfl rfl rfl (r_move rfl) ?_
          refine l_val rfl rfl rfl (r_add rfl rfl rfl) ?_
          refine l_val rfl rfl rfl (r_assign rfl) ?_
          refine l_nil ?_
          exact ⟨l.length - (k + 1), by omega, ⟨rfl, rfl, rfl⟩, k + 1, by omega, rfl, by show Value.int .i64 (IntKind.i64.wrap ((k : Int) + 1)) = _; rw [wrap_succ hklt hl.max], fun j hj => by rcases Nat.lt_or_eq_of_le (Nat.le_of_lt_succ hj) with h | rfl <;> first | exact hall j h | exact hyes, hnd2, hL, hE⟩
  · have hr13 := hb
    replace hb := of_decide_eq_false hb
    refine c_exit ?_
    refine c_seq ?_
 
    refine c_ops ?_
    refine l_val rfl rfl rfl (r_assign rfl) ?_
    refine l_nil ?_
    refine c_ret ?_
    exact ⟨ret_bool rfl (by rw [List.take_of_length_le (by omega)] at hnd; rw [any_none (fun j hj => hall j (by omega))]; simp [diffB, hnd]), hE⟩
end Go.Proofs.YtndophlnapjkhaaGreatDoor.Vc
namespace Go.Proofs.YtndophlnapjkhaaGreatDoor.Vc
open Go Go.RowKit
set_option linter.unusedVariables false
set_option linter.unusedSimpArgs false
theorem rises_of {l : List ByteArray} (h : ∀ i : Nat, 0 < i → i < l.length → ltB (kat l (i - 1)) (kat l i) = true) : risesB l = true := risesB_yes fun i h0 hi hc => by
  have hlt := h i h0 hi
  unfold kat at hlt
  unfold cmp2 at hc
  split at hc
  · rename_i e
    rw [e, ltB_irrefl] at hlt
    cases hlt
  · unfold cmpB at hc
    split at hc
    · rename_i hl
      have := ltB_trans hlt hl
      rw [ltB_irrefl] at this
      cases this
    · first | omega | (split at hc <;> omega)
def rKeysB (l : List ByteArray) : Bool := l.all isNameB && risesB l
theorem rKeysB_name {l : List ByteArray} {k : Nat} (hk : k < l.length) (h : isNameB (kat l k) = false) : rKeysB l = false := by
  unfold rKeysB
  have : l.all isNameB = false := by
    rw [List.all_eq_false]
    exact ⟨_, List.mem_of_getElem? (kat_some hk), by simp [h]⟩
  rw [this]
  rfl
theorem rKeysB_rise {l : List ByteArray} {k : Nat} (h0 : 0 < k) (hk : k < l.length) (h : ltB (kat l (k - 1)) (kat l k) = false) : rKeysB l = false := by
  unfold rKeysB
  cases hr : risesB l with
  | false => rw [Bool.and_false]
  | true => rw [rises_next hr h0 hk] at h; cases h
theorem rKeysB_yes {l : List ByteArray} (h : ∀ j : Nat, j < l.length → isNameB (kat l j) = true ∧ (0 < j → ltB (kat l (j - 1)) (kat l j) = true)) : rKeysB l = true := by
  unfold rKeysB
  rw [rises_of (fun i h0 hi => (h i hi).2 h0), Bool.and_true, List.all_eq_true]
  intro s hs
  obtain ⟨j, hj⟩ := List.mem_iff_getElem?.1 hs
  have hl := (List.getElem?_eq_some_iff.1 hj).1
  rw [kat_some hl] at hj
  cases hj
  exact (h j hl).1
def recB (g : List GNode) (x : GNode) : Bool := rKeysB x.keys && (decide (x.name = ⟨#[]⟩) && decide (x.num = 0) && decide ((x.keys.length : Int) ≤ 16) && decide ((x.l.length : Int) = x.keys.length) && !x.l.any (outB g.length))
theorem record_rcalls (w0 : World) (Ag : Option Addr) (cg : Nat) (g : List GNode) (hg : Nodes w0 Ag cg g) (x : GNode) (Ak : Option Addr) (ck : Nat) (Al : Option Addr) (cl : Nat) (hks : Strs w0 Ak ck x.keys) (hls : Ints w0 Al cl x.l) (hfit : FitsN x) :
    Calls Tryz.prog 80 [.slice Ag g.length cg, .agg (nodeCells x Ak ck Al cl).toArray].toArray w0 fun en w' => en = .returned (.bool (recB g x)) ∧ Ext0 w0 w' := by
  have hE : Ext0 w0 w0 := Ext.refl _ _
  have hL : Has w0 [] := trivial
  refine calls [4] Tryz.func80 rfl rfl rfl rfl ?_
  refine c_seq ?_
  refine c_ops ?_
  refine l_new rfl rfl rfl (n_box rfl hL hE) ?_
  rintro _ w ⟨b3, rfl, hb3, hL, hE, hX⟩
  refine l_val rfl rfl rfl (r_assign rfl) ?_
  refine l_nil ?_
  refine c_seq ?_
  refine c_seq ?_
  refine c_ops ?_
  refine l_val rfl rfl rfl (r_assign rfl) ?_
  refine l_nil ?_
  refine c_block ?_
  refine c_loop0 (fun m1 e w => (e 0 = .slice Ag g.length cg ∧ e 3 = .pointer (some ⟨b3, 0, none⟩)) ∧ ∃ (k : Nat), k ≤ x.keys.length ∧ m1 = x.keys.length - k ∧ e 5 = .int .i64 (k : Nat) ∧ (∀ j : Nat, j < k → isNameB (kat x.keys j) = true ∧ (0 < j → ltB (kat x.keys (j - 1)) (kat x.keys j) = true)) ∧ Has w [.blk b3 (.cells (nodeCells x Ak ck Al cl).toArray 46 (0, 0))] ∧ Ext0 w0 w) (x.keys.length) ?_ ?_
  · exact ⟨⟨rfl, rfl⟩, 0, Nat.zero_le _, rfl, rfl, fun j hj => absurd hj (Nat.not_lt_zero _), hL, hE⟩
  rintro m1 e w ⟨⟨hq0, hq3⟩, hI⟩
  refine c_know (t := 0) (by exact hq0) ?_
  refine c_know (t := 3) (by exact hq3) ?_
  clear hq0 hq3
  obtain ⟨k, hkl, hkm, h5s, hall, hL, hE⟩ := hI
  refine c_know (t := 5) (by exact h5s) ?_
  refine c_seq ?_
  refine c_seq ?_
  refine c_ops ?_
  refine l_val rfl rfl rfl (r_move rfl) ?_
  refine l_val rfl rfl rfl (r_fieldAddr (n := 0) rfl Tryz.underlying46 rfl Tryz.sizeOf44 rfl) ?_
  refine l_val rfl rfl rfl (r_load_blk rfl Tryz.isAgg44 rfl (hL.get 0 rfl) rfl) ?_
  refine l_val rfl rfl rfl (r_len rfl Tryz.underlying44 rfl) ?_
  refine l_val rfl rfl rfl (r_lss rfl rfl rfl) ?_
  refine l_nil ?_
  refine c_cond rfl (fun hb => ?_) (fun hb => ?_)
  · have hr10 := hb
    replace hb := of_decide_eq_true hb
    have hklt : k < x.keys.length := by omega
    refine c_skip ?_
    refine c_seq ?_
    refine c_block ?_
    refine c_seq ?_
 
    refine c_draw mixed (hL) hE ?_
    replace hL := hL.drew
    replace hE := hE.drew
    have hK := hL
    refine h_t 0 rfl rfl (by kernel_rfl) (fun _ _ _ h => h) ⟨hK, hE⟩ rfl (fun W hW => r_fieldAddr (n := 0) rfl Tryz.underlying46 rfl Tryz.sizeOf44 rfl) ?_
    refine h_listed (listed' := #[T',F',F',F',F',F',F',F',F',F',F',F',F',F',F',F',F',F',F',F',F',F',F',F',F']) (by kernel_rfl) ?_
    refine h_t 1 rfl rfl (by kernel_rfl) (fun _ _ _ h => h) ⟨hK, hE⟩ rfl (fun W hW => r_load_blk rfl Tryz.isAgg44 rfl (hW.1.get 0 rfl) rfl) ?_
    refine h_listed (listed' := #[T',T',F',F',F',F',F',F',F',F',F',F',F',F',F',F',F',F',F',F',F',F',F',F',F']) (by kernel_rfl) ?_
    refine h_t 2 rfl rfl (by kernel_rfl) (fun _ _ _ h => h) ⟨hK, hE⟩ rfl (fun W hW => r_move rfl) ?_
    refine h_listed (listed' := #[T',T',T',F',F',F',F',F',F',F',F',F',F',F',F',F',F',F',F',F',F',F',F',F',F']) (by kernel_rfl) ?_
    refine h_t 3 rfl rfl (by kernel_rfl) (fun _ _ _ h => h) ⟨hK, hE⟩ rfl (fun W hW => r_indexAddr_sl rfl Tryz.underlying44 Tryz.sizeOf9 rfl hks.is rfl (by omega) (by omega)) ?_
    refine h_listed (listed' := #[T',T',T',T',F',F',F',F',F',F',F',F',F',F',F',F',F',F',F',F',F',F',F',F',F']) (by kernel_rfl) ?_
    refine h_t 4 rfl rfl (by kernel_rfl) (fun _ _ _ h => h) ⟨hK, hE⟩ rfl (fun W hW => r_load (v := .string (kat x.keys k)) rfl Tryz.isAgg9 rfl ((hks.keep RStr.kept (Ext0.cells hW.2)).str k (by omega) (by omega))) ?_
    refine h_listed (listed' := #[T',T',T',T',T',F',F',F',F',F',F',F',F',F',F',F',F',F',F',F',F',F',F',F',F']) (by kernel_rfl) ?_
    refine h_by 5 rfl rfl (by kernel_rfl) rfl (r_call rfl rfl Tryz.func78 rfl rfl) (rIsName_calls _ _ (hfit.2 _ (List.mem_of_getElem? (kat_some hklt)))) ?_
    rintro _ w ⟨rfl, hX⟩
    replace hL := hL.ext0 hX
    replace hE := hE.step0 hX
    have hK := hL
    refine ⟨_, rfl, ⟨hK, hE⟩, ?_⟩
    refine h_listed (listed' := #[T',T',T',T',T',T',F',F',F',F',F',F',F',F',F',F',F',F',F',F',F',F',F',F',F']) (by kernel_rfl) ?_
    refine h_t 6 rfl rfl (by kernel_rfl) (fun _ _ _ h => h) ⟨hK, hE⟩ rfl (fun W hW => r_not rfl rfl) ?_
    refine h_listed (listed' := #[T',T',T',T',T',T',T',F',F',F',F',F',F',F',F',F',F',F',F',F',F',F',F',F',F']) (by kernel_rfl) ?_
    refine h_t 7 rfl rfl (by kernel_rfl) (fun _ _ _ h => h) ⟨hK, hE⟩ rfl (fun W hW => r_move rfl) ?_
    refine h_listed (listed' := #[T',T',T',T',T',T',T',T',F',F',F',F',F',F',F',F',F',F',F',F',F',F',F',F',F']) (by kernel_rfl) ?_
    refine h_case 20 rfl (fun hb => ?_) (fun hb => ?_)
    · have hr20 := hb
      have hrf : rKeysB x.keys = false := rKeysB_name hklt (by simpa using hb)
      refine h_listed (listed' := #[T',T',T',T',T',T',T',T',F',F',F',F',F',F',F',F',F',F',F',F',F',F',F',F',F']) (by kernel_rfl) ?_
      refine h_n 8 rfl rfl (by kernel_rfl) (fun _ _ _ h => h) ⟨hK, hE⟩ rfl ?_
      refine h_listed (listed' := #[T',T',T',T',T',T',T',T',T',F',F',F',F',F',F',F',F',F',F',F',F',F',F',F',F']) (by kernel_rfl) ?_
      refine h_n 9 rfl rfl (by kernel_rfl) (fun _ _ _ h => h) ⟨hK, hE⟩ rfl ?_
      refine h_listed (listed' := #[T',T',T',T',T',T',T',T',T',T',F',F',F',F',F',F',F',F',F',F',F',F',F',F',F']) (by kernel_rfl) ?_
      refine h_n 10 rfl rfl (by kernel_rfl) (fun _ _ _ h => h) ⟨hK, hE⟩ rfl ?_
      refine h_listed (listed' := #[T',T',T',T',T',T',T',T',T',T',T',F',F',F',F',F',F',F',F',F',F',F',F',F',F']) (by kernel_rfl) ?_
      refine h_n 11 rfl rfl (by kernel_rfl) (fun _ _ _ h => h) ⟨hK, hE⟩ rfl ?_
      refine h_listed (listed' := #[T',T',T',T',T',T',T',T',T',T',T',T',F',F',F',F',F',F',F',F',F',F',F',F',F']) (by kernel_rfl) ?_
      refine h_n 12 rfl rfl (by kernel_rfl) (fun _ _ _ h => h) ⟨hK, hE⟩ rfl ?_
      refine h_listed (listed' := #[T',T',T',T',T',T',T',T',T',T',T',T',T',F',F',F',F',F',F',F',F',F',F',F',F']) (by kernel_rfl) ?_
      refine h_n 13 rfl rfl (by kernel_rfl) (fun _ _ _ h => h) ⟨hK, hE⟩ rfl ?_
      refine h_listed (listed' := #[T',T',T',T',T',T',T',T',T',T',T',T',T',T',F',F',F',F',F',F',F',F',F',F',F']) (by kernel_rfl) ?_
      refine h_n 14 rfl rfl (by kernel_rfl) (fun _ _ _ h => h) ⟨hK, hE⟩ rfl ?_
      refine h_listed (listed' := #[T',T',T',T',T',T',T',T',T',T',T',T',T',T',T',F',F',F',F',F',F',F',F',F',F']) (by kernel_rfl) ?_
      refine h_n 15 rfl rfl (by kernel_rfl) (fun _ _ _ h => h) ⟨hK, hE⟩ rfl ?_
      refine h_listed (listed' := #[T',T',T',T',T',T',T',T',T',T',T',T',T',T',T',T',F',F',F',F',F',F',F',F',F']) (by kernel_rfl) ?_
      refine h_n 16 rfl rfl (by kernel_rfl) (fun _ _ _ h => h) ⟨hK, hE⟩ rfl ?_
      refine h_listed (listed' := #[T',T',T',T',T',T',T',T',T',T',T',T',T',T',T',T',T',F',F',F',F',F',F',F',F']) (by kernel_rfl) ?_
      refine h_n 17 rfl rfl (by kernel_rfl) (fun _ _ _ h => h) ⟨hK, hE⟩ rfl ?_
      refine h_listed (listed' := #[T',T',T',T',T',T',T',T',T',T',T',T',T',T',T',T',T',T',F',F',F',F',F',F',F']) (by kernel_rfl) ?_
      refine h_n 18 rfl rfl (by kernel_rfl) (fun _ _ _ h => h) ⟨hK, hE⟩ rfl ?_
      refine h_listed (listed' := #[T',T',T',T',T',T',T',T',T',T',T',T',T',T',T',T',T',T',T',F',F',F',F',F',F']) (by kernel_rfl) ?_
      refine h_n 19 rfl rfl (by kernel_rfl) (fun _ _ _ h => h) ⟨hK, hE⟩ rfl ?_
      refine h_listed (listed' := #[T',T',T',T',T',T',T',T',T',T',T',T',T',T',T',T',T',T',T',T',F',F',F',F',F']) (by kernel_rfl) ?_
      refine h_n 20 rfl rfl (by kernel_rfl) (fun _ _ _ h => h) ⟨hK, hE⟩ rfl ?_
      refine h_listed (listed' := #[T',T',T',T',T',T',T',T',T',T',T',T',T',T',T',T',T',T',T',T',T',F',F',F',F']) (by kernel_rfl) ?_
      refine h_n 21 rfl rfl (by kernel_rfl) (fun _ _ _ h => h) ⟨hK, hE⟩ rfl ?_
      refine h_listed (listed' := #[T',T',T',T',T',T',T',T',T',T',T',T',T',T',T',T',T',T',T',T',T',T',F',F',F']) (by kernel_rfl) ?_
      refine h_n 22 rfl rfl (by kernel_rfl) (fun _ _ _ h => h) ⟨hK, hE⟩ rfl ?_
      refine h_listed (listed' := #[T',T',T',T',T',T',T',T',T',T',T',T',T',T',T',T',T',T',T',T',T',T',T',F',F']) (by kernel_rfl) ?_
      refine h_n 23 rfl rfl (by kernel_rfl) (fun _ _ _ h => h) ⟨hK, hE⟩ rfl ?_
      refine h_listed (listed' := #[T',T',T',T',T',T',T',T',T',T',T',T',T',T',T',T',T',T',T',T',T',T',T',T',F']) (by kernel_rfl) ?_
      refine h_t 24 rfl rfl (by kernel_rfl) (fun _ _ _ h => h) ⟨hK, hE⟩ rfl (fun W hW => r_pick rfl rfl) ?_
      refine h_listed (listed' := #[T',T',T',T',T',T',T',T',T',T',T',T',T',T',T',T',T',T',T',T',T',T',T',T',T']) (by kernel_rfl) ?_
      refine h_done (by kernel_rfl) ?_
      refine c_yes rfl ?_
      refine c_seq ?_
   
      refine c_ops ?_
      refine l_val rfl rfl rfl (r_assign rfl) ?_
      refine l_nil ?_
      refine c_ret ?_
      exact ⟨ret_bool rfl (by unfold recB; simp only [hrf, hr10, hr20, Bool.true_and, Bool.and_true, Bool.false_and, Bool.and_false, Bool.true_or, Bool.or_true, Bool.false_or, Bool.or_false, Bool.not_true, Bool.not_false, cond_true, cond_false]), hE⟩
    · have hr20 := hb
      have hyn : isNameB (kat x.keys k) = true := by simpa using hb
      refine h_listed (listed' := #[T',T',T',T',T',T',T',T',F',F',F',F',F',F',F',F',F',F',F',F',F',F',F',F',F']) (by kernel_rfl) ?_
      refine h_t 8 rfl rfl (by kernel_rfl) (fun _ _ _ h => h) ⟨hK, hE⟩ rfl (fun W hW => r_move rfl) ?_
      refine h_listed (listed' := #[T',T',T',T',T',T',T',T',T',F',F',F',F',F',F',F',F',F',F',F',F',F',F',F',F']) (by kernel_rfl) ?_
      refine h_t 9 rfl rfl (by kernel_rfl) (fun _ _ _ h => h) ⟨hK, hE⟩ rfl (fun W hW => r_gtr rfl rfl rfl) ?_
      refine h_listed (listed' := #[T',T',T',T',T',T',T',T',T',T',F',F',F',F',F',F',F',F',F',F',F',F',F',F',F']) (by kernel_rfl) ?_
      refine h_t 10 rfl rfl (by kernel_rfl) (fun _ _ _ h => h) ⟨hK, hE⟩ rfl (fun W hW => r_move rfl) ?_
      refine h_listed (listed' := #[T',T',T',T',T',T',T',T',T',T',T',F',F',F',F',F',F',F',F',F',F',F',F',F',F']) (by kernel_rfl) ?_
      refine h_case 23 rfl (fun hb => ?_) (fun hb => ?_)
      · have hr23 := hb
        replace hb := of_decide_eq_true hb
        have hsub : IntKind.i64.wrap ((k : Int) - 1) = ((k - 1 : Nat) : Int) := by rw [wrap_small (by omega) (by have := hks.max; omega)]; omega
        refine h_listed (listed' := #[T',T',T',T',T',T',T',T',T',T',T',F',F',F',F',F',F',F',F',F',F',F',F',F',F']) (by kernel_rfl) ?_
        refine h_t 11 rfl rfl (by kernel_rfl) (fun _ _ _ h => h) ⟨hK, hE⟩ rfl (fun W hW => r_fieldAddr (n := 0) rfl Tryz.underlying46 rfl Tryz.sizeOf44 rfl) ?_
        refine h_listed (listed' := #[T',T',T',T',T',T',T',T',T',T',T',T',F',F',F',F',F',F',F',F',F',F',F',F',F']) (by kernel_rfl) ?_
        refine h_t 12 rfl rfl (by kernel_rfl) (fun _ _ _ h => h) ⟨hK, hE⟩ rfl (fun W hW => r_load_blk rfl Tryz.isAgg44 rfl (hW.1.get 0 rfl) rfl) ?_
        refine h_listed (listed' := #[T',T',T',T',T',T',T',T',T',T',T',T',T',F',F',F',F',F',F',F',F',F',F',F',F']) (by kernel_rfl) ?_
        refine h_t 13 rfl rfl (by kernel_rfl) (fun _ _ _ h => h) ⟨hK, hE⟩ rfl (fun W hW => r_move rfl) ?_
        refine h_listed (listed' := #[T',T',T',T',T',T',T',T',T',T',T',T',T',T',F',F',F',F',F',F',F',F',F',F',F']) (by kernel_rfl) ?_
        refine h_t 14 rfl rfl (by kernel_rfl) (fun _ _ _ h => h) ⟨hK, hE⟩ rfl (fun W hW => (r_sub rfl rfl rfl).trans (by rw [hsub])) ?_
        refine h_listed (listed' := #[T',T',T',T',T',T',T',T',T',T',T',T',T',T',T',F',F',F',F',F',F',F',F',F',F']) (by kernel_rfl) ?_
        refine h_t 15 rfl rfl (by kernel_rfl) (fun _ _ _ h => h) ⟨hK, hE⟩ rfl (fun W hW => r_indexAddr_sl rfl Tryz.underlying44 Tryz.sizeOf9 rfl hks.is rfl (by omega) (by omega)) ?_
        refine h_listed (listed' := #[T',T',T',T',T',T',T',T',T',T',T',T',T',T',T',T',F',F',F',F',F',F',F',F',F']) (by kernel_rfl) ?_
        refine h_t 16 rfl rfl (by kernel_rfl) (fun _ _ _ h => h) ⟨hK, hE⟩ rfl (fun W hW => r_load (v := .string (kat x.keys (k - 1))) rfl Tryz.isAgg9 rfl ((hks.keep RStr.kept (Ext0.cells hW.2)).str ((k - 1 : Nat) : Int) (by omega) (by omega))) ?_
        refine h_listed (listed' := #[T',T',T',T',T',T',T',T',T',T',T',T',T',T',T',T',T',F',F',F',F',F',F',F',F']) (by kernel_rfl) ?_
        refine h_t 17 rfl rfl (by kernel_rfl) (fun _ _ _ h => h) ⟨hK, hE⟩ rfl (fun W hW => r_fieldAddr (n := 0) rfl Tryz.underlying46 rfl Tryz.sizeOf44 rfl) ?_
        refine h_listed (listed' := #[T',T',T',T',T',T',T',T',T',T',T',T',T',T',T',T',T',T',F',F',F',F',F',F',F']) (by kernel_rfl) ?_
        refine h_t 18 rfl rfl (by kernel_rfl) (fun _ _ _ h => h) ⟨hK, hE⟩ rfl (fun W hW => r_load_blk rfl Tryz.isAgg44 rfl (hW.1.get 0 rfl) rfl) ?_
        refine h_listed (listed' := #[T',T',T',T',T',T',T',T',T',T',T',T',T',T',T',T',T',T',T',F',F',F',F',F',F']) (by kernel_rfl) ?_
        refine h_t 19 rfl rfl (by kernel_rfl) (fun _ _ _ h => h) ⟨hK, hE⟩ rfl (fun W hW => r_move rfl) ?_
        refine h_listed (listed' := #[T',T',T',T',T',T',T',T',T',T',T',T',T',T',T',T',T',T',T',T',F',F',F',F',F']) (by kernel_rfl) ?_
        refine h_t 20 rfl rfl (by kernel_rfl) (fun _ _ _ h => h) ⟨hK, hE⟩ rfl (fun W hW => r_indexAddr_sl rfl Tryz.underlying44 Tryz.sizeOf9 rfl hks.is rfl (by omega) (by omega)) ?_
        refine h_listed (listed' := #[T',T',T',T',T',T',T',T',T',T',T',T',T',T',T',T',T',T',T',T',T',F',F',F',F']) (by kernel_rfl) ?_
        refine h_t 21 rfl rfl (by kernel_rfl) (fun _ _ _ h => h) ⟨hK, hE⟩ rfl (fun W hW => r_load (v := .string (kat x.keys k)) rfl Tryz.isAgg9 rfl ((hks.keep RStr.kept (Ext0.cells hW.2)).str k (by omega) (by omega))) ?_
        refine h_listed (listed' := #[T',T',T',T',T',T',T',T',T',T',T',T',T',T',T',T',T',T',T',T',T',T',F',F',F']) (by kernel_rfl) ?_
        refine h_t 22 rfl rfl (by kernel_rfl) (fun _ _ _ h => h) ⟨hK, hE⟩ rfl (fun W hW => r_sgeq rfl rfl rfl) ?_
        refine h_listed (listed' := #[T',T',T',T',T',T',T',T',T',T',T',T',T',T',T',T',T',T',T',T',T',T',T',F',F']) (by kernel_rfl) ?_
        refine h_t 23 rfl rfl (by kernel_rfl) (fun _ _ _ h => h) ⟨hK, hE⟩ rfl (fun W hW => r_pick rfl rfl) ?_
        refine h_listed (listed' := #[T',T',T',T',T',T',T',T',T',T',T',T',T',T',T',T',T',T',T',T',T',T',T',T',F']) (by kernel_rfl) ?_
        refine h_t 24 rfl rfl (by kernel_rfl) (fun _ _ _ h => h) ⟨hK, hE⟩ rfl (fun W hW => r_pick rfl rfl) ?_
        refine h_listed (listed' := #[T',T',T',T',T',T',T',T',T',T',T',T',T',T',T',T',T',T',T',T',T',T',T',T',T']) (by kernel_rfl) ?_
        refine h_done (by kernel_rfl) ?_
        refine c_cond rfl (fun hb => ?_) (fun hb => ?_)
        · have hr37 := hb
          have hrf : rKeysB x.keys = false := rKeysB_rise (by have := of_decide_eq_true hr23; omega) hklt (by simpa [ltB] using hb)
          refine c_seq ?_
       
          refine c_ops ?_
          refine l_val rfl rfl rfl (r_assign rfl) ?_
          refine l_nil ?_
          refine c_ret ?_
          exact ⟨ret_bool rfl (by unfold recB; simp only [hrf, hr10, hr20, hr23, hr37, Bool.true_and, Bool.and_true, Bool.false_and, Bool.and_false, Bool.true_or, Bool.or_true, Bool.false_or, Bool.or_false, Bool.not_true, Bool.not_false, cond_true, cond_false]), hE⟩
        · have hr37 := hb
          have hyr : 0 < k → ltB (kat x.keys (k - 1)) (kat x.keys k) = true := fun _ => by simpa [ltB] using hb
          refine c_skip ?_
       
          refine c_ops ?_
          refine l_val rfl rfl rfl (r_move rfl) ?_
          refine l_val rfl rfl rfl (r_add rfl rfl rfl) ?_
          refine l_val rfl rfl rfl (r_assign rfl) ?_
          refine l_nil ?_
          exact ⟨x.keys.length - (k + 1), by omega, ⟨rfl, rfl⟩, k + 1, by omega, rfl, by show Value.int .i64 (IntKind.i64.wrap ((k : Int) + 1)) = _; rw [wrap_succ hklt hks.max], fun j hj => by rcases Nat.lt_or_eq_of_le (Nat.le_of_lt_succ hj) with h | rfl <;> first | exact hall j h | exact ⟨hyn, hyr⟩, hL, hE⟩
      · have hr23 := hb
        replace hb := of_decide_eq_false hb
        have hyr : 0 < k → ltB (kat x.keys (k - 1)) (kat x.keys k) = true := fun h => absurd h (by omega)
        refine h_listed (listed' := #[T',T',T',T',T',T',T',T',T',T',T',F',F',F',F',F',F',F',F',F',F',F',F',F',F']) (by kernel_rfl) ?_
        refine h_n 11 rfl rfl (by kernel_rfl) (fun _ _ _ h => h) ⟨hK, hE⟩ rfl ?_
        refine h_listed (listed' := #[T',T',T',T',T',T',T',T',T',T',T',T',F',F',F',F',F',F',F',F',F',F',F',F',F']) (by kernel_rfl) ?_
        refine h_n 12 rfl rfl (by kernel_rfl) (fun _ _ _ h => h) ⟨hK, hE⟩ rfl ?_
        refine h_listed (listed' := #[T',T',T',T',T',T',T',T',T',T',T',T',T',F',F',F',F',F',F',F',F',F',F',F',F']) (by kernel_rfl) ?_
        refine h_n 13 rfl rfl (by kernel_rfl) (fun _ _ _ h => h) ⟨hK, hE⟩ rfl ?_
        refine h_listed (listed' := #[T',T',T',T',T',T',T',T',T',T',T',T',T',T',F',F',F',F',F',F',F',F',F',F',F']) (by kernel_rfl) ?_
        refine h_n 14 rfl rfl (by kernel_rfl) (fun _ _ _ h => h) ⟨hK, hE⟩ rfl ?_
        refine h_listed (listed' := #[T',T',T',T',T',T',T',T',T',T',T',T',T',T',T',F',F',F',F',F',F',F',F',F',F']) (by kernel_rfl) ?_
        refine h_n 15 rfl rfl (by kernel_rfl) (fun _ _ _ h => h) ⟨hK, hE⟩ rfl ?_
        refine h_listed (listed' := #[T',T',T',T',T',T',T',T',T',T',T',T',T',T',T',T',F',F',F',F',F',F',F',F',F']) (by kernel_rfl) ?_
        refine h_n 16 rfl rfl (by kernel_rfl) (fun _ _ _ h => h) ⟨hK, hE⟩ rfl ?_
        refine h_listed (listed' := #[T',T',T',T',T',T',T',T',T',T',T',T',T',T',T',T',T',F',F',F',F',F',F',F',F']) (by kernel_rfl) ?_
        refine h_n 17 rfl rfl (by kernel_rfl) (fun _ _ _ h => h) ⟨hK, hE⟩ rfl ?_
        refine h_listed (listed' := #[T',T',T',T',T',T',T',T',T',T',T',T',T',T',T',T',T',T',F',F',F',F',F',F',F']) (by kernel_rfl) ?_
        refine h_n 18 rfl rfl (by kernel_rfl) (fun _ _ _ h => h) ⟨hK, hE⟩ rfl ?_
        refine h_listed (listed' := #[T',T',T',T',T',T',T',T',T',T',T',T',T',T',T',T',T',T',T',F',F',F',F',F',F']) (by kernel_rfl) ?_
        refine h_n 19 rfl rfl (by kernel_rfl) (fun _ _ _ h => h) ⟨hK, hE⟩ rfl ?_
        refine h_listed (listed' := #[T',T',T',T',T',T',T',T',T',T',T',T',T',T',T',T',T',T',T',T',F',F',F',F',F']) (by kernel_rfl) ?_
        refine h_n 20 rfl rfl (by kernel_rfl) (fun _ _ _ h => h) ⟨hK, hE⟩ rfl ?_
        refine h_listed (listed' := #[T',T',T',T',T',T',T',T',T',T',T',T',T',T',T',T',T',T',T',T',T',F',F',F',F']) (by kernel_rfl) ?_
        refine h_n 21 rfl rfl (by kernel_rfl) (fun _ _ _ h => h) ⟨hK, hE⟩ rfl ?_
        refine h_listed (listed' := #[T',T',T',T',T',T',T',T',T',T',T',T',T',T',T',T',T',T',T',T',T',T',F',F',F']) (by kernel_rfl) ?_
        refine h_n 22 rfl rfl (by kernel_rfl) (fun _ _ _ h => h) ⟨hK, hE⟩ rfl ?_
        refine h_listed (listed' := #[T',T',T',T',T',T',T',T',T',T',T',T',T',T',T',T',T',T',T',T',T',T',T',F',F']) (by kernel_rfl) ?_
        refine h_t 23 rfl rfl (by kernel_rfl) (fun _ _ _ h => h) ⟨hK, hE⟩ rfl (fun W hW => r_pick rfl rfl) ?_
        refine h_listed (listed' := #[T',T',T',T',T',T',T',T',T',T',T',T',T',T',T',T',T',T',T',T',T',T',T',T',F']) (by kernel_rfl) ?_
        refine h_t 24 rfl rfl (by kernel_rfl) (fun _ _ _ h => h) ⟨hK, hE⟩ rfl (fun W hW => r_pick rfl rfl) ?_
        refine h_listed (listed' := #[T',T',T',T',T',T',T',T',T',T',T',T',T',T',T',T',T',T',T',T',T',T',T',T',T']) (by kernel_rfl) ?_
        refine h_done (by kernel_rfl) ?_
        refine c_no rfl ?_
        refine c_skip ?_
     
        refine c_ops ?_
        refine l_val rfl rfl rfl (r_move rfl) ?_
        refine l_val rfl rfl rfl (r_add rfl rfl rfl) ?_
        refine l_val rfl rfl rfl (r_assign rfl) ?_
        refine l_nil ?_
        exact ⟨x.keys.length - (k + 1), by omega, ⟨rfl, rfl⟩, k + 1, by omega, rfl, by show Value.int .i64 (IntKind.i64.wrap ((k : Int) + 1)) = _; rw [wrap_succ hklt hks.max], fun j hj => by rcases Nat.lt_or_eq_of_le (Nat.le_of_lt_succ hj) with h | rfl <;> first | exact hall j h | exact ⟨hyn, hyr⟩, hL, hE⟩
  · have hr10 := hb
    replace hb := of_decide_eq_false hb
    have hky : rKeysB x.keys = true := rKeysB_yes (fun j hj => hall j (by omega))
    refine c_exit ?_
    refine c_seq ?_
 
    refine c_ops ?_
    refine l_val rfl rfl rfl (r_fieldAddr (n := 0) rfl Tryz.underlying46 rfl Tryz.sizeOf9 rfl) ?_
    refine l_val rfl rfl rfl (r_load_blk rfl Tryz.isAgg9 rfl (hL.get 0 rfl) rfl) ?_
    refine l_val rfl rfl rfl (r_seql rfl rfl rfl) ?_
    refine l_val rfl rfl rfl (r_move rfl) ?_
    refine l_case 41 rfl (fun hb => ?_) (fun hb => ?_)
    · have hr41 := hb
      replace hb := of_decide_eq_true hb
      refine l_val rfl rfl rfl (r_fieldAddr (n := 0) rfl Tryz.underlying46 rfl Tryz.sizeOf3 rfl) ?_
      refine l_val rfl rfl rfl (r_load_blk rfl Tryz.isAgg3 rfl (hL.get 0 rfl) rfl) ?_
      refine l_val rfl rfl rfl (r_eql rfl rfl rfl) ?_
      refine l_val rfl rfl rfl (r_pick rfl rfl) ?_
      refine l_val rfl rfl rfl (r_move rfl) ?_
      refine l_case 46 rfl (fun hb => ?_) (fun hb => ?_)
      · have hr46 := hb
        replace hb := of_decide_eq_true hb
        refine l_val rfl rfl rfl (r_fieldAddr (n := 0) rfl Tryz.underlying46 rfl Tryz.sizeOf44 rfl) ?_
        refine l_val rfl rfl rfl (r_load_blk rfl Tryz.isAgg44 rfl (hL.get 0 rfl) rfl) ?_
        refine l_val rfl rfl rfl (r_len rfl Tryz.underlying44 rfl) ?_
        refine l_val rfl rfl rfl (r_leq rfl rfl rfl) ?_
        refine l_val rfl rfl rfl (r_pick rfl rfl) ?_
        refine l_val rfl rfl rfl (r_move rfl) ?_
        refine l_case 52 rfl (fun hb => ?_) (fun hb => ?_)
        · have hr52 := hb
          replace hb := of_decide_eq_true hb
          refine l_val rfl rfl rfl (r_fieldAddr (n := 0) rfl Tryz.underlying46 rfl Tryz.sizeOf26 rfl) ?_
          refine l_val rfl rfl rfl (r_load_blk rfl Tryz.isAgg26 rfl (hL.get 0 rfl) rfl) ?_
          refine l_val rfl rfl rfl (r_len rfl Tryz.underlying26 rfl) ?_
          refine l_val rfl rfl rfl (r_fieldAddr (n := 0) rfl Tryz.underlying46 rfl Tryz.sizeOf44 rfl) ?_
          refine l_val rfl rfl rfl (r_load_blk rfl Tryz.isAgg44 rfl (hL.get 0 rfl) rfl) ?_
          refine l_val rfl rfl rfl (r_len rfl Tryz.underlying44 rfl) ?_
          refine l_val rfl rfl rfl (r_eql rfl rfl rfl) ?_
          refine l_val rfl rfl rfl (r_pick rfl rfl) ?_
          refine l_val rfl rfl rfl (r_move rfl) ?_
          refine l_case 61 rfl (fun hb => ?_) (fun hb => ?_)
          · have hr61 := hb
            replace hb := of_decide_eq_true hb
            refine l_val rfl rfl rfl (r_move rfl) ?_
            refine l_val rfl rfl rfl (r_fieldAddr (n := 0) rfl Tryz.underlying46 rfl Tryz.sizeOf26 rfl) ?_
            refine l_val rfl rfl rfl (r_load_blk rfl Tryz.isAgg26 rfl (hL.get 0 rfl) rfl) ?_
            refine l_by rfl rfl rfl (r_call rfl rfl Tryz.func82 rfl rfl) (inside_calls _ Ag cg g (hg.keep RNode.kept (Ext0.cells hE)) Al cl x.l (hls.keep RInt.kept (Ext0.cells hE))) ?_
            rintro _ w ⟨rfl, hX⟩
            replace hL := hL.ext0 hX
            replace hE := hE.step0 hX
            refine ⟨_, rfl, ?_⟩
            refine l_val rfl rfl rfl (r_pick rfl rfl) ?_
            refine l_val rfl rfl rfl (r_assign rfl) ?_
            refine l_nil ?_
            refine c_ret ?_
            exact ⟨ret_bool rfl (by unfold recB; simp only [hky, hr10, hr41, hr46, hr52, hr61, Bool.true_and, Bool.and_true, Bool.false_and, Bool.and_false, Bool.true_or, Bool.or_true, Bool.false_or, Bool.or_false, Bool.not_true, Bool.not_false, cond_true, cond_false]), hE⟩
          · have hr61 := hb
            replace hb := of_decide_eq_false hb
            refine l_not rfl rfl rfl ?_
            refine l_not rfl rfl rfl ?_
            refine l_not rfl rfl rfl ?_
            refine l_not rfl rfl rfl ?_
            refine l_val rfl rfl rfl (r_pick rfl rfl) ?_
            refine l_val rfl rfl rfl (r_assign rfl) ?_
            refine l_nil ?_
            refine c_ret ?_
            exact ⟨ret_bool rfl (by unfold recB; simp only [hky, hr10, hr41, hr46, hr52, hr61, Bool.true_and, Bool.and_true, Bool.false_and, Bool.and_false, Bool.true_or, Bool.or_true, Bool.false_or, Bool.or_false, Bool.not_true, Bool.not_false, cond_true, cond_false]), hE⟩
        · have hr52 := hb
          replace hb := of_decide_eq_false hb
          refine l_not rfl rfl rfl ?_
          refine l_not rfl rfl rfl ?_
          refine l_not rfl rfl rfl ?_
          refine l_not rfl rfl rfl ?_
          refine l_not rfl rfl rfl ?_
          refine l_not rfl rfl rfl ?_
          refine l_not rfl rfl rfl ?_
          refine l_val rfl rfl rfl (r_pick rfl rfl) ?_
          refine l_val rfl rfl rfl (r_move rfl) ?_
          refine l_not rfl rfl rfl ?_
          refine l_not rfl rfl rfl ?_
          refine l_not rfl rfl rfl ?_
          refine l_not rfl rfl rfl ?_
          refine l_val rfl rfl rfl (r_pick rfl rfl) ?_
          refine l_val rfl rfl rfl (r_assign rfl) ?_
          refine l_nil ?_
          refine c_ret ?_
          exact ⟨ret_bool rfl (by unfold recB; simp only [hky, hr10, hr41, hr46, hr52, Bool.true_and, Bool.and_true, Bool.false_and, Bool.and_false, Bool.true_or, Bool.or_true, Bool.false_or, Bool.or_false, Bool.not_true, Bool.not_false, cond_true, cond_false]), hE⟩
      · have hr46 := hb
        replace hb := of_decide_eq_false hb
        refine l_not rfl rfl rfl ?_
        refine l_not rfl rfl rfl ?_
        refine l_not rfl rfl rfl ?_
        refine l_not rfl rfl rfl ?_
        refine l_val rfl rfl rfl (r_pick rfl rfl) ?_
        refine l_val rfl rfl rfl (r_move rfl) ?_
        refine l_not rfl rfl rfl ?_
        refine l_not rfl rfl rfl ?_
        refine l_not rfl rfl rfl ?_
        refine l_not rfl rfl rfl ?_
        refine l_not rfl rfl rfl ?_
        refine l_not rfl rfl rfl ?_
        refine l_not rfl rfl rfl ?_
        refine l_val rfl rfl rfl (r_pick rfl rfl) ?_
        refine l_val rfl rfl rfl (r_move rfl) ?_
        refine l_not rfl rfl rfl ?_
        refine l_not rfl rfl rfl ?_
        refine l_not rfl rfl rfl ?_
        refine l_not rfl rfl rfl ?_
        refine l_val rfl rfl rfl (r_pick rfl rfl) ?_
        refine l_val rfl rfl rfl (r_assign rfl) ?_
        refine l_nil ?_
        refine c_ret ?_
        exact ⟨ret_bool rfl (by unfold recB; simp only [hky, hr10, hr41, hr46, Bool.true_and, Bool.and_true, Bool.false_and, Bool.and_false, Bool.true_or, Bool.or_true, Bool.false_or, Bool.or_false, Bool.not_true, Bool.not_false, cond_true, cond_false]), hE⟩
    · have hr41 := hb
      replace hb := of_decide_eq_false hb
      refine l_not rfl rfl rfl ?_
      refine l_not rfl rfl rfl ?_
      refine l_not rfl rfl rfl ?_
      refine l_val rfl rfl rfl (r_pick rfl rfl) ?_
      refine l_val rfl rfl rfl (r_move rfl) ?_
      refine l_not rfl rfl rfl ?_
      refine l_not rfl rfl rfl ?_
      refine l_not rfl rfl rfl ?_
      refine l_not rfl rfl rfl ?_
      refine l_val rfl rfl rfl (r_pick rfl rfl) ?_
      refine l_val rfl rfl rfl (r_move rfl) ?_
      refine l_not rfl rfl rfl ?_
      refine l_not rfl rfl rfl ?_
      refine l_not rfl rfl rfl ?_
      refine l_not rfl rfl rfl ?_
      refine l_not rfl rfl rfl ?_
      refine l_not rfl rfl rfl ?_
      refine l_not rfl rfl rfl ?_
      refine l_val rfl rfl rfl (r_pick rfl rfl) ?_
      refine l_val rfl rfl rfl (r_move rfl) ?_
      refine l_not rfl rfl rfl ?_
      refine l_not rfl rfl rfl ?_
      refine l_not rfl rfl rfl ?_
      refine l_not rfl rfl rfl ?_
      refine l_val rfl rfl rfl (r_pick rfl rfl) ?_
      refine l_val rfl rfl rfl (r_assign rfl) ?_
      refine l_nil ?_
      refine c_ret ?_
      exact ⟨ret_bool rfl (by unfold recB; simp only [hky, hr10, hr41, Bool.true_and, Bool.and_true, Bool.false_and, Bool.and_false, Bool.true_or, Bool.or_true, Bool.false_or, Bool.or_false, Bool.not_true, Bool.not_false, cond_true, cond_false]), hE⟩
def unionB (g : List GNode) (x : GNode) : Bool := !(!decide (x.name = ⟨#[]⟩) || !decide (x.num = 0) || !decide ((x.keys.length : Int) = 0) || decide ((x.l.length : Int) < 2) || !(!x.l.any (outB g.length) && diffB x.l)) && x.l.all (fun k => !decide ((gat g k).kind = 8))
theorem union_rcalls (w0 : World) (Ag : Option Addr) (cg : Nat) (g : List GNode) (hg : Nodes w0 Ag cg g) (hn : g.length ≤ 1000000) (x : GNode) (Ak : Option Addr) (ck : Nat) (Al : Option Addr) (cl : Nat) (hks : Strs w0 Ak ck x.keys) (hls : Ints w0 Al cl x.l) :
    Calls Tryz.prog 81 [.slice Ag g.length cg, .agg (nodeCells x Ak ck Al cl).toArray].toArray w0 fun en w' => en = .returned (.bool (unionB g x)) ∧ Ext0 w0 w' := by
  have hE : Ext0 w0 w0 := Ext.refl _ _
  have hL : Has w0 [] := trivial
  refine calls [4] Tryz.func81 rfl rfl rfl rfl ?_
  refine c_seq ?_
  refine c_ops ?_
  refine l_new rfl rfl rfl (n_box rfl hL hE) ?_
  rintro _ w ⟨b3, rfl, hb3, hL, hE, hX⟩
  refine l_val rfl rfl rfl (r_assign rfl) ?_
  refine l_nil ?_
  refine c_seq ?_
  refine c_merge [6, 7, 8, 9, 10, 11, 12, 13, 14, 15, 16, 17, 18, 19, 20, 21, 22, 23, 24, 25, 26, 27, 28, 29, 30, 31, 32] (fun e w => e 32 = .bool (!decide (x.name = ⟨#[]⟩) || !decide (x.num = 0) || !decide ((x.keys.length : Int) = 0) || decide ((x.l.length : Int) < 2) || !(!x.l.any (outB g.length) && diffB x.l)) ∧ Has w [.blk b3 (.cells (nodeCells x Ak ck Al cl).toArray 46 (0, 0))] ∧ Ext0 w0 w) ?_ ?_
  · skip
 
    refine c_ops ?_
    refine l_val rfl rfl rfl (r_fieldAddr (n := 0) rfl Tryz.underlying46 rfl Tryz.sizeOf9 rfl) ?_
    refine l_val rfl rfl rfl (r_load_blk rfl Tryz.isAgg9 rfl (hL.get 0 rfl) rfl) ?_
    refine l_val rfl rfl rfl (r_sneq rfl rfl rfl) ?_
    refine l_val rfl rfl rfl (r_move rfl) ?_
    refine l_case 9 rfl (fun hb => ?_) (fun hb => ?_)
    · have hr9 := hb
      replace hb := of_decide_eq_false (by simpa using hb)
      refine l_not rfl rfl rfl ?_
      refine l_not rfl rfl rfl ?_
      refine l_not rfl rfl rfl ?_
      refine l_val rfl rfl rfl (r_pick rfl rfl) ?_
      refine l_val rfl rfl rfl (r_move rfl) ?_
      refine l_not rfl rfl rfl ?_
      refine l_not rfl rfl rfl ?_
      refine l_not rfl rfl rfl ?_
      refine l_not rfl rfl rfl ?_
      refine l_val rfl rfl rfl (r_pick rfl rfl) ?_
      refine l_val rfl rfl rfl (r_move rfl) ?_
      refine l_not rfl rfl rfl ?_
      refine l_not rfl rfl rfl ?_
      refine l_not rfl rfl rfl ?_
      refine l_not rfl rfl rfl ?_
      refine l_val rfl rfl rfl (r_pick rfl rfl) ?_
      refine l_val rfl rfl rfl (r_move rfl) ?_
      refine l_not rfl rfl rfl ?_
      refine l_not rfl rfl rfl ?_
      refine l_not rfl rfl rfl ?_
      refine l_not rfl rfl rfl ?_
      refine l_not rfl rfl rfl ?_
      refine l_val rfl rfl rfl (r_pick rfl rfl) ?_
      refine l_nil ?_
      refine ⟨by repeat (first | exact Agree.over _ _ _ | exact Agree.refl _ _ | (refine Agree.puto ?_ _ _ rfl) | (refine Agree.put ?_ _ _ rfl) | (refine Agree.sub ?_ rfl)), ?_⟩
      exact ⟨congrArg Value.bool (by simp only [hr9, Bool.true_and, Bool.and_true, Bool.false_and, Bool.and_false, Bool.true_or, Bool.or_true, Bool.false_or, Bool.or_false, Bool.not_true, Bool.not_false, cond_true, cond_false]), hL, hE⟩
    · have hr9 := hb
      replace hb := of_decide_eq_true (by simpa using hb)
      refine l_val rfl rfl rfl (r_fieldAddr (n := 0) rfl Tryz.underlying46 rfl Tryz.sizeOf3 rfl) ?_
      refine l_val rfl rfl rfl (r_load_blk rfl Tryz.isAgg3 rfl (hL.get 0 rfl) rfl) ?_
      refine l_val rfl rfl rfl (r_neq rfl rfl rfl) ?_
      refine l_val rfl rfl rfl (r_pick rfl rfl) ?_
      refine l_val rfl rfl rfl (r_move rfl) ?_
      refine l_case 14 rfl (fun hb => ?_) (fun hb => ?_)
      · have hr14 := hb
        replace hb := of_decide_eq_false (by simpa using hb)
        refine l_not rfl rfl rfl ?_
        refine l_not rfl rfl rfl ?_
        refine l_not rfl rfl rfl ?_
        refine l_not rfl rfl rfl ?_
        refine l_val rfl rfl rfl (r_pick rfl rfl) ?_
        refine l_val rfl rfl rfl (r_move rfl) ?_
        refine l_not rfl rfl rfl ?_
        refine l_not rfl rfl rfl ?_
        refine l_not rfl rfl rfl ?_
        refine l_not rfl rfl rfl ?_
        refine l_val rfl rfl rfl (r_pick rfl rfl) ?_
        refine l_val rfl rfl rfl (r_move rfl) ?_
        refine l_not rfl rfl rfl ?_
        refine l_not rfl rfl rfl ?_
        refine l_not rfl rfl rfl ?_
        refine l_not rfl rfl rfl ?_
        refine l_not rfl rfl rfl ?_
        refine l_val rfl rfl rfl (r_pick rfl rfl) ?_
        refine l_nil ?_
        refine ⟨by repeat (first | exact Agree.over _ _ _ | exact Agree.refl _ _ | (refine Agree.puto ?_ _ _ rfl) | (refine Agree.put ?_ _ _ rfl) | (refine Agree.sub ?_ rfl)), ?_⟩
        exact ⟨congrArg Value.bool (by simp only [hr9, hr14, Bool.true_and, Bool.and_true, Bool.false_and, Bool.and_false, Bool.true_or, Bool.or_true, Bool.false_or, Bool.or_false, Bool.not_true, Bool.not_false, cond_true, cond_false]), hL, hE⟩
      · have hr14 := hb
        replace hb := of_decide_eq_true (by simpa using hb)
        refine l_val rfl rfl rfl (r_fieldAddr (n := 0) rfl Tryz.underlying46 rfl Tryz.sizeOf44 rfl) ?_
        refine l_val rfl rfl rfl (r_load_blk rfl Tryz.isAgg44 rfl (hL.get 0 rfl) rfl) ?_
        refine l_val rfl rfl rfl (r_len rfl Tryz.underlying44 rfl) ?_
        refine l_val rfl rfl rfl (r_neq rfl rfl rfl) ?_
        refine l_val rfl rfl rfl (r_pick rfl rfl) ?_
        refine l_val rfl rfl rfl (r_move rfl) ?_
        refine l_case 20 rfl (fun hb => ?_) (fun hb => ?_)
        · have hr20 := hb
          replace hb := of_decide_eq_false (by simpa using hb)
          refine l_not rfl rfl rfl ?_
          refine l_not rfl rfl rfl ?_
          refine l_not rfl rfl rfl ?_
          refine l_not rfl rfl rfl ?_
          refine l_val rfl rfl rfl (r_pick rfl rfl) ?_
          refine l_val rfl rfl rfl (r_move rfl) ?_
          refine l_not rfl rfl rfl ?_
          refine l_not rfl rfl rfl ?_
          refine l_not rfl rfl rfl ?_
          refine l_not rfl rfl rfl ?_
          refine l_not rfl rfl rfl ?_
          refine l_val rfl rfl rfl (r_pick rfl rfl) ?_
          refine l_nil ?_
          refine ⟨by repeat (first | exact Agree.over _ _ _ | exact Agree.refl _ _ | (refine Agree.puto ?_ _ _ rfl) | (refine Agree.put ?_ _ _ rfl) | (refine Agree.sub ?_ rfl)), ?_⟩
          exact ⟨congrArg Value.bool (by simp only [hr9, hr14, hr20, Bool.true_and, Bool.and_true, Bool.false_and, Bool.and_false, Bool.true_or, Bool.or_true, Bool.false_or, Bool.or_false, Bool.not_true, Bool.not_false, cond_true, cond_false]), hL, hE⟩
        · have hr20 := hb
          replace hb := of_decide_eq_true (by simpa using hb)
          refine l_val rfl rfl rfl (r_fieldAddr (n := 0) rfl Tryz.underlying46 rfl Tryz.sizeOf26 rfl) ?_
          refine l_val rfl rfl rfl (r_load_blk rfl Tryz.isAgg26 rfl (hL.get 0 rfl) rfl) ?_
          refine l_val rfl rfl rfl (r_len rfl Tryz.underlying26 rfl) ?_
          refine l_val rfl rfl rfl (r_lss rfl rfl rfl) ?_
          refine l_val rfl rfl rfl (r_pick rfl rfl) ?_
          refine l_val rfl rfl rfl (r_move rfl) ?_
          refine l_case 26 rfl (fun hb => ?_) (fun hb => ?_)
          · have hr26 := hb
            replace hb := of_decide_eq_true hb
            refine l_not rfl rfl rfl ?_
            refine l_not rfl rfl rfl ?_
            refine l_not rfl rfl rfl ?_
            refine l_not rfl rfl rfl ?_
            refine l_not rfl rfl rfl ?_
            refine l_val rfl rfl rfl (r_pick rfl rfl) ?_
            refine l_nil ?_
            refine ⟨by repeat (first | exact Agree.over _ _ _ | exact Agree.refl _ _ | (refine Agree.puto ?_ _ _ rfl) | (refine Agree.put ?_ _ _ rfl) | (refine Agree.sub ?_ rfl)), ?_⟩
            exact ⟨congrArg Value.bool (by simp only [hr9, hr14, hr20, hr26, Bool.true_and, Bool.and_true, Bool.false_and, Bool.and_false, Bool.true_or, Bool.or_true, Bool.false_or, Bool.or_false, Bool.not_true, Bool.not_false, cond_true, cond_false]), hL, hE⟩
          · have hr26 := hb
            replace hb := of_decide_eq_false hb
            refine l_val rfl rfl rfl (r_move rfl) ?_
            refine l_val rfl rfl rfl (r_fieldAddr (n := 0) rfl Tryz.underlying46 rfl Tryz.sizeOf26 rfl) ?_
            refine l_val rfl rfl rfl (r_load_blk rfl Tryz.isAgg26 rfl (hL.get 0 rfl) rfl) ?_
            refine l_by rfl rfl rfl (r_call rfl rfl Tryz.func100 rfl rfl) (places_calls _ Ag cg g (hg.keep RNode.kept (Ext0.cells hE)) hn Al cl x.l (hls.keep RInt.kept (Ext0.cells hE))) ?_
            rintro _ w ⟨rfl, hX⟩
            replace hL := hL.ext0 hX
            replace hE := hE.step0 hX
            refine ⟨_, rfl, ?_⟩
            refine l_val rfl rfl rfl (r_not rfl rfl) ?_
            refine l_val rfl rfl rfl (r_pick rfl rfl) ?_
            refine l_nil ?_
            refine ⟨by repeat (first | exact Agree.over _ _ _ | exact Agree.refl _ _ | (refine Agree.puto ?_ _ _ rfl) | (refine Agree.put ?_ _ _ rfl) | (refine Agree.sub ?_ rfl)), ?_⟩
            exact ⟨congrArg Value.bool (by simp only [hr9, hr14, hr20, hr26, Bool.true_and, Bool.and_true, Bool.false_and, Bool.and_false, Bool.true_or, Bool.or_true, Bool.false_or, Bool.or_false, Bool.not_true, Bool.not_false, cond_true, cond_false]), hL, hE⟩
  rintro e w hI
  obtain ⟨h32, hL, hE⟩ := hI
  refine c_know h32 ?_
  refine c_cond rfl (fun hb => ?_) (fun hb => ?_)
  · have hr32 := hb
    have hq := hr32
    refine c_seq ?_
 
    refine c_ops ?_
    refine l_val rfl rfl rfl (r_assign rfl) ?_
    refine l_nil ?_
    refine c_ret ?_
    exact ⟨ret_bool rfl (by unfold unionB; rw [hq]; rfl), hE⟩
  · have hr32 := hb
    have hq := hr32
    have hins : x.l.any (outB g.length) = false := by have h := hq; simp only [Bool.or_eq_false_iff, Bool.not_eq_false', Bool.and_eq_true, Bool.not_eq_true'] at h; exact h.2.1
    refine c_skip ?_
    refine c_seq ?_
    refine c_seq ?_
 
    refine c_ops ?_
    refine l_val rfl rfl rfl (r_assign rfl) ?_
    refine l_nil ?_
    refine c_block ?_
 
    refine c_loop0 (fun m1 e w => (e 0 = .slice Ag g.length cg ∧ e 3 = .pointer (some ⟨b3, 0, none⟩)) ∧ ∃ (k : Nat), k ≤ x.l.length ∧ m1 = x.l.length - k ∧ e 5 = .int .i64 (k : Nat) ∧ (∀ j : Nat, j < k → (gat g (iat x.l j)).kind ≠ 8) ∧ Has w [.blk b3 (.cells (nodeCells x Ak ck Al cl).toArray 46 (0, 0))] ∧ Ext0 w0 w) (x.l.length) ?_ ?_
    · exact ⟨⟨rfl, rfl⟩, 0, Nat.zero_le _, rfl, rfl, fun j hj => absurd hj (Nat.not_lt_zero _), hL, hE⟩
    rintro m1 e w ⟨⟨hq0, hq3⟩, hI⟩
    refine c_know (t := 0) (by exact hq0) ?_
    refine c_know (t := 3) (by exact hq3) ?_
    clear hq0 hq3
    obtain ⟨k, hkl, hkm, h5s, hall, hL, hE⟩ := hI
    refine c_know (t := 5) (by exact h5s) ?_
    refine c_seq ?_
    refine c_seq ?_
 
    refine c_ops ?_
    refine l_val rfl rfl rfl (r_move rfl) ?_
    refine l_val rfl rfl rfl (r_fieldAddr (n := 0) rfl Tryz.underlying46 rfl Tryz.sizeOf26 rfl) ?_
    refine l_val rfl rfl rfl (r_load_blk rfl Tryz.isAgg26 rfl (hL.get 0 rfl) rfl) ?_
    refine l_val rfl rfl rfl (r_len rfl Tryz.underlying26 rfl) ?_
    refine l_val rfl rfl rfl (r_lss rfl rfl rfl) ?_
    refine l_nil ?_
    refine c_cond rfl (fun hb => ?_) (fun hb => ?_)
    · have hr37 := hb
      replace hb := of_decide_eq_true hb
      have hklt : k < x.l.length := by omega
      have hk := iat_nat hklt
      have hin : 0 ≤ iat x.l k ∧ iat x.l k < g.length := outB_no (any_false hins (List.mem_of_getElem? hk))
      refine c_skip ?_
      refine c_seq ?_
      refine c_block ?_
      refine c_seq ?_
   
      refine c_ops ?_
      refine l_val rfl rfl rfl (r_move rfl) ?_
      refine l_val rfl rfl rfl (r_fieldAddr (n := 0) rfl Tryz.underlying46 rfl Tryz.sizeOf26 rfl) ?_
      refine l_val rfl rfl rfl (r_load_blk rfl Tryz.isAgg26 rfl (hL.get 0 rfl) rfl) ?_
      refine l_val rfl rfl rfl (r_move rfl) ?_
      refine l_val rfl rfl rfl (r_indexAddr_sl rfl Tryz.underlying26 Tryz.sizeOf3 rfl hls.is rfl (by omega) (by omega)) ?_
      refine l_val rfl rfl rfl (r_load (v := .int .i64 (iat x.l k)) rfl Tryz.isAgg3 rfl ((hls.keep RInt.kept (Ext0.cells hE)).int k (by omega) (by omega))) ?_
      obtain ⟨Ak1, ck1, Al1, cl1, hcell, _, _⟩ := hg.node (iat x.l k) hin.1 hin.2
      refine l_val rfl rfl rfl (r_indexAddr_sl rfl Tryz.underlying22 Tryz.sizeOf46 rfl hg.is rfl hin.1 hin.2) ?_
      refine l_val rfl rfl rfl (r_fieldAddr (n := 0) rfl Tryz.underlying46 rfl Tryz.sizeOf3 rfl) ?_
      refine l_val rfl rfl rfl (r_load rfl Tryz.isAgg3 rfl (Ext0.cells hE _ _ (hcell 0 _ rfl))) ?_
      refine l_val rfl rfl rfl (r_eql rfl rfl rfl) ?_
      refine l_nil ?_
      refine c_cond rfl (fun hb => ?_) (fun hb => ?_)
      · have hr49 := hb
        replace hb := of_decide_eq_true hb
        have hno : (x.l.all fun k => !decide ((gat g k).kind = 8)) = false := by
          rw [List.all_eq_false]
          exact ⟨_, List.mem_of_getElem? hk, by simpa using hb⟩
        refine c_seq ?_
     
        refine c_ops ?_
        refine l_val rfl rfl rfl (r_assign rfl) ?_
        refine l_nil ?_
        refine c_ret ?_
        exact ⟨ret_bool rfl (by unfold unionB; rw [hno, Bool.and_false]), hE⟩
      · have hr49 := hb
        replace hb := of_decide_eq_false hb
        refine c_skip ?_
     
        refine c_ops ?_
        refine l_val rfl rfl rfl (r_move rfl) ?_
        refine l_val rfl rfl rfl (r_add rfl rfl rfl) ?_
        refine l_val rfl rfl rfl (r_assign rfl) ?_
        refine l_nil ?_
        exact ⟨x.l.length - (k + 1), by omega, ⟨rfl, rfl⟩, k + 1, by omega, rfl, by show Value.int .i64 (IntKind.i64.wrap ((k : Int) + 1)) = _; rw [wrap_succ hklt hls.max], fun j hj => by rcases Nat.lt_or_eq_of_le (Nat.le_of_lt_succ hj) with h | rfl <;> first | exact hall j h | exact hb, hL, hE⟩
    · have hr37 := hb
      replace hb := of_decide_eq_false hb
      have hyes : (x.l.all fun k => !decide ((gat g k).kind = 8)) = true := by
        rw [List.all_eq_true]
        intro y hy
        obtain ⟨j, hj⟩ := List.mem_iff_getElem?.1 hy
        have hjl := (List.getElem?_eq_some_iff.1 hj).1
        rw [iat_nat hjl] at hj
        cases hj
        simpa using hall j (by omega)
      refine c_exit ?_
      refine c_seq ?_
   
      refine c_ops ?_
      refine l_val rfl rfl rfl (r_assign rfl) ?_
      refine l_nil ?_
      refine c_ret ?_
      exact ⟨ret_bool rfl (by unfold unionB; rw [hq, hyes]; rfl), hE⟩
def bare3 (x : GNode) : Bool := decide ((x.keys.length : Int) = 0) && decide ((x.l.length : Int) = 0) && decide (x.num = 0)
def rMayB (g : List GNode) (x : GNode) : Bool :=
  cond (bareB x) (bare3 x && decide (x.name = ⟨#[]⟩))
  (cond (decide (x.kind = 5)) (bare3 x && (isNameB x.name || isKeyB x.name))
  (cond (decide (x.kind = 7)) (recB g x)
  (cond (decide (x.kind = 8)) (unionB g x)
  (cond (decide (x.kind = 9)) (decide (x.name = ⟨#[]⟩) && decide ((x.keys.length : Int) = 0) && decide (0 ≤ x.num) && decide (x.num < 16) && decide ((x.l.length : Int) = 1) && !x.l.any (outB g.length)) false))))
set_option maxHeartbeats 2000000 in
theorem may_rcalls (w0 : World) (Ag : Option Addr) (cg : Nat) (g : List GNode) (hg : Nodes w0 Ag cg g) (hn : g.length ≤ 1000000) (x : GNode) (Ak : Option Addr) (ck : Nat) (Al : Option Addr) (cl : Nat) (hks : Strs w0 Ak ck x.keys) (hls : Ints w0 Al cl x.l) (hfit : FitsN x) :
    Calls Tryz.prog 54 [.slice Ag g.length cg, .agg (nodeCells x Ak ck Al cl).toArray].toArray w0 fun en w' => en = .returned (.bool (rMayB g x)) ∧ Ext0 w0 w' := by
  have hE : Ext0 w0 w0 := Ext.refl _ _
  have hL : Has w0 [] := trivial
  refine calls [4] Tryz.func54 rfl rfl rfl rfl ?_
  refine c_seq ?_
  refine c_ops ?_
  refine l_new rfl rfl rfl (n_box rfl hL hE) ?_
  rintro _ w ⟨b3, rfl, hb3, hL, hE, hX⟩
  refine l_val rfl rfl rfl (r_assign rfl) ?_
  refine l_nil ?_
  refine c_merge [5, 6, 7, 8, 9, 10, 11, 12, 13, 14, 15, 16, 17, 18, 19, 20] (fun e w => e 5 = .bool (bare3 x) ∧ Has w [.blk b3 (.cells (nodeCells x Ak ck Al cl).toArray 46 (0, 0))] ∧ Ext0 w0 w) ?_ ?_
  · skip
 
    refine c_ops ?_
    refine l_val rfl rfl rfl (r_fieldAddr (n := 0) rfl Tryz.underlying46 rfl Tryz.sizeOf44 rfl) ?_
    refine l_val rfl rfl rfl (r_load_blk rfl Tryz.isAgg44 rfl (hL.get 0 rfl) rfl) ?_
    refine l_val rfl rfl rfl (r_len rfl Tryz.underlying44 rfl) ?_
    refine l_val rfl rfl rfl (r_eql rfl rfl rfl) ?_
    refine l_val rfl rfl rfl (r_move rfl) ?_
    refine l_case 10 rfl (fun hb => ?_) (fun hb => ?_)
    · have hr10 := hb
      replace hb := of_decide_eq_true hb
      refine l_val rfl rfl rfl (r_fieldAddr (n := 0) rfl Tryz.underlying46 rfl Tryz.sizeOf26 rfl) ?_
      refine l_val rfl rfl rfl (r_load_blk rfl Tryz.isAgg26 rfl (hL.get 0 rfl) rfl) ?_
      refine l_val rfl rfl rfl (r_len rfl Tryz.underlying26 rfl) ?_
      refine l_val rfl rfl rfl (r_eql rfl rfl rfl) ?_
      refine l_val rfl rfl rfl (r_pick rfl rfl) ?_
      refine l_val rfl rfl rfl (r_move rfl) ?_
      refine l_case 16 rfl (fun hb => ?_) (fun hb => ?_)
      · have hr16 := hb
        replace hb := of_decide_eq_true hb
        refine l_val rfl rfl rfl (r_fieldAddr (n := 0) rfl Tryz.underlying46 rfl Tryz.sizeOf3 rfl) ?_
        refine l_val rfl rfl rfl (r_load_blk rfl Tryz.isAgg3 rfl (hL.get 0 rfl) rfl) ?_
        refine l_val rfl rfl rfl (r_eql rfl rfl rfl) ?_
        refine l_val rfl rfl rfl (r_pick rfl rfl) ?_
        refine l_val rfl rfl rfl (r_assign rfl) ?_
        refine l_nil ?_
        refine ⟨by repeat (first | exact Agree.over _ _ _ | exact Agree.refl _ _ | (refine Agree.puto ?_ _ _ rfl) | (refine Agree.put ?_ _ _ rfl) | (refine Agree.sub ?_ rfl)), ?_⟩
        exact ⟨congrArg Value.bool (by simp only [bare3, hr10, hr16, Bool.true_and, Bool.and_true, Bool.false_and, Bool.and_false, Bool.true_or, Bool.or_true, Bool.false_or, Bool.or_false, Bool.not_true, Bool.not_false, cond_true, cond_false]), hL, hE⟩
      · have hr16 := hb
        replace hb := of_decide_eq_false hb
        refine l_not rfl rfl rfl ?_
        refine l_not rfl rfl rfl ?_
        refine l_not rfl rfl rfl ?_
        refine l_val rfl rfl rfl (r_pick rfl rfl) ?_
        refine l_val rfl rfl rfl (r_assign rfl) ?_
        refine l_nil ?_
        refine ⟨by repeat (first | exact Agree.over _ _ _ | exact Agree.refl _ _ | (refine Agree.puto ?_ _ _ rfl) | (refine Agree.put ?_ _ _ rfl) | (refine Agree.sub ?_ rfl)), ?_⟩
        exact ⟨congrArg Value.bool (by simp only [bare3, hr10, hr16, Bool.true_and, Bool.and_true, Bool.false_and, Bool.and_false, Bool.true_or, Bool.or_true, Bool.false_or, Bool.or_false, Bool.not_true, Bool.not_false, cond_true, cond_false]), hL, hE⟩
    · have hr10 := hb
      replace hb := of_decide_eq_false hb
      refine l_not rfl rfl rfl ?_
      refine l_not rfl rfl rfl ?_
      refine l_not rfl rfl rfl ?_
      refine l_not rfl rfl rfl ?_
      refine l_val rfl rfl rfl (r_pick rfl rfl) ?_
      refine l_val rfl rfl rfl (r_move rfl) ?_
      refine l_not rfl rfl rfl ?_
      refine l_not rfl rfl rfl ?_
      refine l_not rfl rfl rfl ?_
      refine l_val rfl rfl rfl (r_pick rfl rfl) ?_
      refine l_val rfl rfl rfl (r_assign rfl) ?_
      refine l_nil ?_
      refine ⟨by repeat (first | exact Agree.over _ _ _ | exact Agree.refl _ _ | (refine Agree.puto ?_ _ _ rfl) | (refine Agree.put ?_ _ _ rfl) | (refine Agree.sub ?_ rfl)), ?_⟩
      exact ⟨congrArg Value.bool (by simp only [bare3, hr10, Bool.true_and, Bool.and_true, Bool.false_and, Bool.and_false, Bool.true_or, Bool.or_true, Bool.false_or, Bool.or_false, Bool.not_true, Bool.not_false, cond_true, cond_false]), hL, hE⟩
  rintro e w hI
  obtain ⟨h5, hL, hE⟩ := hI
  refine c_know h5 ?_
  refine c_seq ?_
  refine c_seq ?_
  refine c_ops ?_
  refine l_val rfl rfl rfl (r_fieldAddr (n := 0) rfl Tryz.underlying46 rfl Tryz.sizeOf3 rfl) ?_
  refine l_val rfl rfl rfl (r_load_blk rfl Tryz.isAgg3 rfl (hL.get 0 rfl) rfl) ?_
  refine l_nil ?_
  refine c_block ?_
  refine c_merge [23, 24, 25, 26, 27] (fun e w => e 23 = .bool (bareB x) ∧ Has w [.blk b3 (.cells (nodeCells x Ak ck Al cl).toArray 46 (0, 0))] ∧ Ext0 w0 w) ?_ ?_
  · refine c_seq ?_
 
    refine c_ops ?_
    refine l_val rfl rfl rfl (r_eql rfl rfl rfl) ?_
    refine l_val rfl rfl rfl (r_assign rfl) ?_
    refine l_nil ?_
    refine c_cond rfl (fun hb => ?_) (fun hb => ?_)
    · have hr23 := hb
      replace hb := of_decide_eq_true hb
      refine c_skip ?_
      refine ⟨by repeat (first | exact Agree.over _ _ _ | exact Agree.refl _ _ | (refine Agree.puto ?_ _ _ rfl) | (refine Agree.put ?_ _ _ rfl) | (refine Agree.sub ?_ rfl)), ?_⟩
      exact ⟨congrArg Value.bool (by simp_all [bareB]), hL, hE⟩
    · have hr23 := hb
      replace hb := of_decide_eq_false hb
      refine c_seq ?_
   
      refine c_ops ?_
      refine l_val rfl rfl rfl (r_eql rfl rfl rfl) ?_
      refine l_val rfl rfl rfl (r_assign rfl) ?_
      refine l_nil ?_
      refine c_cond rfl (fun hb => ?_) (fun hb => ?_)
      · have hr23' := hb
        replace hb := of_decide_eq_true hb
        refine c_skip ?_
        refine ⟨by repeat (first | exact Agree.over _ _ _ | exact Agree.refl _ _ | (refine Agree.puto ?_ _ _ rfl) | (refine Agree.put ?_ _ _ rfl) | (refine Agree.sub ?_ rfl)), ?_⟩
        exact ⟨congrArg Value.bool (by simp_all [bareB]), hL, hE⟩
      · have hr23' := hb
        replace hb := of_decide_eq_false hb
        refine c_seq ?_
     
        refine c_ops ?_
        refine l_val rfl rfl rfl (r_eql rfl rfl rfl) ?_
        refine l_val rfl rfl rfl (r_assign rfl) ?_
        refine l_nil ?_
        refine c_cond rfl (fun hb => ?_) (fun hb => ?_)
        · have hr23'' := hb
          replace hb := of_decide_eq_true hb
          refine c_skip ?_
          refine ⟨by repeat (first | exact Agree.over _ _ _ | exact Agree.refl _ _ | (refine Agree.puto ?_ _ _ rfl) | (refine Agree.put ?_ _ _ rfl) | (refine Agree.sub ?_ rfl)), ?_⟩
          exact ⟨congrArg Value.bool (by simp_all [bareB]), hL, hE⟩
        · have hr23'' := hb
          replace hb := of_decide_eq_false hb
       
          refine c_ops ?_
          refine l_val rfl rfl rfl (r_eql rfl rfl rfl) ?_
          refine l_val rfl rfl rfl (r_assign rfl) ?_
          refine l_nil ?_
          refine ⟨by repeat (first | exact Agree.over _ _ _ | exact Agree.refl _ _ | (refine Agree.puto ?_ _ _ rfl) | (refine Agree.put ?_ _ _ rfl) | (refine Agree.sub ?_ rfl)), ?_⟩
          exact ⟨congrArg Value.bool (by simp_all [bareB]), hL, hE⟩
  rintro e w hI
  obtain ⟨h23, hL, hE⟩ := hI
  refine c_know h23 ?_
  refine c_cond rfl (fun hb => ?_) (fun hb => ?_)
  · have hr23 := hb
    refine c_seq ?_
 
    refine c_ops ?_
    refine l_val rfl rfl rfl (r_move rfl) ?_
    refine l_val rfl rfl rfl (r_move rfl) ?_
    refine l_case 29 rfl (fun hb => ?_) (fun hb => ?_)
    · have hr29 := hb
      refine l_val rfl rfl rfl (r_fieldAddr (n := 0) rfl Tryz.underlying46 rfl Tryz.sizeOf9 rfl) ?_
      refine l_val rfl rfl rfl (r_load_blk rfl Tryz.isAgg9 rfl (hL.get 0 rfl) rfl) ?_
      refine l_val rfl rfl rfl (r_seql rfl rfl rfl) ?_
      refine l_val rfl rfl rfl (r_pick rfl rfl) ?_
      refine l_val rfl rfl rfl (r_assign rfl) ?_
      refine l_nil ?_
      refine c_ret ?_
      exact ⟨ret_bool rfl (by simp only [rMayB, hr23, hr29, Bool.true_and, Bool.and_true, Bool.false_and, Bool.and_false, Bool.true_or, Bool.or_true, Bool.false_or, Bool.or_false, Bool.not_true, Bool.not_false, cond_true, cond_false]), hE⟩
    · have hr29 := hb
      refine l_not rfl rfl rfl ?_
      refine l_not rfl rfl rfl ?_
      refine l_not rfl rfl rfl ?_
      refine l_val rfl rfl rfl (r_pick rfl rfl) ?_
      refine l_val rfl rfl rfl (r_assign rfl) ?_
      refine l_nil ?_
      refine c_ret ?_
      exact ⟨ret_bool rfl (by simp only [rMayB, hr23, hr29, Bool.true_and, Bool.and_true, Bool.false_and, Bool.and_false, Bool.true_or, Bool.or_true, Bool.false_or, Bool.or_false, Bool.not_true, Bool.not_false, cond_true, cond_false]), hE⟩
  · have hr23 := hb
    refine c_seq ?_
 
    refine c_ops ?_
    refine l_val rfl rfl rfl (r_eql rfl rfl rfl) ?_
    refine l_val rfl rfl rfl (r_assign rfl) ?_
    refine l_nil ?_
    refine c_cond rfl (fun hb => ?_) (fun hb => ?_)
    · have hr34 := hb
      replace hb := of_decide_eq_true hb
      refine c_seq ?_
   
      refine c_ops ?_
      refine l_val rfl rfl rfl (r_move rfl) ?_
      refine l_val rfl rfl rfl (r_move rfl) ?_
      refine l_case 37 rfl (fun hb => ?_) (fun hb => ?_)
      · have hr37 := hb
        refine l_val rfl rfl rfl (r_fieldAddr (n := 0) rfl Tryz.underlying46 rfl Tryz.sizeOf9 rfl) ?_
        refine l_val rfl rfl rfl (r_load_blk rfl Tryz.isAgg9 rfl (hL.get 0 rfl) rfl) ?_
        refine l_by rfl rfl rfl (r_call rfl rfl Tryz.func78 rfl rfl) (rIsName_calls _ _ hfit.1) ?_
        rintro _ w ⟨rfl, hX⟩
        replace hL := hL.ext0 hX
        replace hE := hE.step0 hX
        refine ⟨_, rfl, ?_⟩
        refine l_val rfl rfl rfl (r_move rfl) ?_
        refine l_case 41 rfl (fun hb => ?_) (fun hb => ?_)
        · have hr41 := hb
          refine l_not rfl rfl rfl ?_
          refine l_not rfl rfl rfl ?_
          refine l_not rfl rfl rfl ?_
          refine l_val rfl rfl rfl (r_pick rfl rfl) ?_
          refine l_val rfl rfl rfl (r_pick rfl rfl) ?_
          refine l_val rfl rfl rfl (r_assign rfl) ?_
          refine l_nil ?_
          refine c_ret ?_
          exact ⟨ret_bool rfl (by simp only [rMayB, hr23, hr34, hr37, hr41, Bool.true_and, Bool.and_true, Bool.false_and, Bool.and_false, Bool.true_or, Bool.or_true, Bool.false_or, Bool.or_false, Bool.not_true, Bool.not_false, cond_true, cond_false]), hE⟩
        · have hr41 := hb
          refine l_val rfl rfl rfl (r_fieldAddr (n := 0) rfl Tryz.underlying46 rfl Tryz.sizeOf9 rfl) ?_
          refine l_val rfl rfl rfl (r_load_blk rfl Tryz.isAgg9 rfl (hL.get 0 rfl) rfl) ?_
          refine l_by rfl rfl rfl (r_call rfl rfl Tryz.func79 rfl rfl) (rIsKey_calls _ _) ?_
          rintro _ w ⟨rfl, hX⟩
          replace hL := hL.ext0 hX
          replace hE := hE.step0 hX
          refine ⟨_, rfl, ?_⟩
          refine l_val rfl rfl rfl (r_pick rfl rfl) ?_
          refine l_val rfl rfl rfl (r_pick rfl rfl) ?_
          refine l_val rfl rfl rfl (r_assign rfl) ?_
          refine l_nil ?_
          refine c_ret ?_
          exact ⟨ret_bool rfl (by simp only [rMayB, hr23, hr34, hr37, hr41, Bool.true_and, Bool.and_true, Bool.false_and, Bool.and_false, Bool.true_or, Bool.or_true, Bool.false_or, Bool.or_false, Bool.not_true, Bool.not_false, cond_true, cond_false]), hE⟩
      · have hr37 := hb
        refine l_not rfl rfl rfl ?_
        refine l_not rfl rfl rfl ?_
        refine l_not rfl rfl rfl ?_
        refine l_not rfl rfl rfl ?_
        refine l_not rfl rfl rfl ?_
        refine l_not rfl rfl rfl ?_
        refine l_not rfl rfl rfl ?_
        refine l_not rfl rfl rfl ?_
        refine l_val rfl rfl rfl (r_pick rfl rfl) ?_
        refine l_val rfl rfl rfl (r_assign rfl) ?_
        refine l_nil ?_
        refine c_ret ?_
        exact ⟨ret_bool rfl (by simp only [rMayB, hr23, hr34, hr37, Bool.true_and, Bool.and_true, Bool.false_and, Bool.and_false, Bool.true_or, Bool.or_true, Bool.false_or, Bool.or_false, Bool.not_true, Bool.not_false, cond_true, cond_false]), hE⟩
    · have hr34 := hb
      replace hb := of_decide_eq_false hb
      refine c_seq ?_
   
      refine c_ops ?_
      refine l_val rfl rfl rfl (r_eql rfl rfl rfl) ?_
      refine l_val rfl rfl rfl (r_assign rfl) ?_
      refine l_nil ?_
      refine c_cond rfl (fun hb => ?_) (fun hb => ?_)
      · have hr47 := hb
        replace hb := of_decide_eq_true hb
        refine c_seq ?_
     
        refine c_ops ?_
        refine l_val rfl rfl rfl (r_move rfl) ?_
        refine l_val rfl rfl rfl (r_load_blk_agg rfl Tryz.isAgg46 Tryz.sizeOf46 rfl (hL.get 0 rfl) rfl) ?_
        refine l_by rfl rfl rfl (r_call rfl rfl Tryz.func80 rfl rfl) (record_rcalls _ Ag cg g (hg.keep RNode.kept (Ext0.cells hE)) x Ak ck Al cl (hks.keep RStr.kept (Ext0.cells hE)) (hls.keep RInt.kept (Ext0.cells hE)) hfit) ?_
        rintro _ w ⟨rfl, hX⟩
        replace hL := hL.ext0 hX
        replace hE := hE.step0 hX
        refine ⟨_, rfl, ?_⟩
        refine l_val rfl rfl rfl (r_assign rfl) ?_
        refine l_nil ?_
        refine c_ret ?_
        exact ⟨ret_bool rfl (by simp only [rMayB, hr23, hr34, hr47, Bool.true_and, Bool.and_true, Bool.false_and, Bool.and_false, Bool.true_or, Bool.or_true, Bool.false_or, Bool.or_false, Bool.not_true, Bool.not_false, cond_true, cond_false]), hE⟩
      · have hr47 := hb
        replace hb := of_decide_eq_false hb
        refine c_seq ?_
     
        refine c_ops ?_
        refine l_val rfl rfl rfl (r_eql rfl rfl rfl) ?_
        refine l_val rfl rfl rfl (r_assign rfl) ?_
        refine l_nil ?_
        refine c_cond rfl (fun hb => ?_) (fun hb => ?_)
        · have hr52 := hb
          replace hb := of_decide_eq_true hb
          refine c_seq ?_
       
          refine c_ops ?_
          refine l_val rfl rfl rfl (r_move rfl) ?_
          refine l_val rfl rfl rfl (r_load_blk_agg rfl Tryz.isAgg46 Tryz.sizeOf46 rfl (hL.get 0 rfl) rfl) ?_
          refine l_by rfl rfl rfl (r_call rfl rfl Tryz.func81 rfl rfl) (union_rcalls _ Ag cg g (hg.keep RNode.kept (Ext0.cells hE)) hn x Ak ck Al cl (hks.keep RStr.kept (Ext0.cells hE)) (hls.keep RInt.kept (Ext0.cells hE))) ?_
          rintro _ w ⟨rfl, hX⟩
          replace hL := hL.ext0 hX
          replace hE := hE.step0 hX
          refine ⟨_, rfl, ?_⟩
          refine l_val rfl rfl rfl (r_assign rfl) ?_
          refine l_nil ?_
          refine c_ret ?_
          exact ⟨ret_bool rfl (by simp only [rMayB, hr23, hr34, hr47, hr52, Bool.true_and, Bool.and_true, Bool.false_and, Bool.and_false, Bool.true_or, Bool.or_true, Bool.false_or, Bool.or_false, Bool.not_true, Bool.not_false, cond_true, cond_false]), hE⟩
        · have hr52 := hb
          replace hb := of_decide_eq_false hb
          refine c_seq ?_
       
          refine c_ops ?_
          refine l_val rfl rfl rfl (r_eql rfl rfl rfl) ?_
          refine l_val rfl rfl rfl (r_assign rfl) ?_
          refine l_nil ?_
          refine c_cond rfl (fun hb => ?_) (fun hb => ?_)
          · have hr57 := hb
            replace hb := of_decide_eq_true hb
            refine c_seq ?_
         
            refine c_ops ?_
            refine l_val rfl rfl rfl (r_fieldAddr (n := 0) rfl Tryz.underlying46 rfl Tryz.sizeOf9 rfl) ?_
            refine l_val rfl rfl rfl (r_load_blk rfl Tryz.isAgg9 rfl (hL.get 0 rfl) rfl) ?_
            refine l_val rfl rfl rfl (r_seql rfl rfl rfl) ?_
            refine l_val rfl rfl rfl (r_move rfl) ?_
            refine l_case 62 rfl (fun hb => ?_) (fun hb => ?_)
            · have hr62 := hb
              replace hb := of_decide_eq_true hb
              refine l_val rfl rfl rfl (r_fieldAddr (n := 0) rfl Tryz.underlying46 rfl Tryz.sizeOf44 rfl) ?_
              refine l_val rfl rfl rfl (r_load_blk rfl Tryz.isAgg44 rfl (hL.get 0 rfl) rfl) ?_
              refine l_val rfl rfl rfl (r_len rfl Tryz.underlying44 rfl) ?_
              refine l_val rfl rfl rfl (r_eql rfl rfl rfl) ?_
              refine l_val rfl rfl rfl (r_pick rfl rfl) ?_
              refine l_val rfl rfl rfl (r_move rfl) ?_
              refine l_case 68 rfl (fun hb => ?_) (fun hb => ?_)
              · have hr68 := hb
                replace hb := of_decide_eq_true hb
                refine l_val rfl rfl rfl (r_fieldAddr (n := 0) rfl Tryz.underlying46 rfl Tryz.sizeOf3 rfl) ?_
                refine l_val rfl rfl rfl (r_load_blk rfl Tryz.isAgg3 rfl (hL.get 0 rfl) rfl) ?_
                refine l_val rfl rfl rfl (r_geq rfl rfl rfl) ?_
                refine l_val rfl rfl rfl (r_pick rfl rfl) ?_
                refine l_val rfl rfl rfl (r_move rfl) ?_
                refine l_case 73 rfl (fun hb => ?_) (fun hb => ?_)
                · have hr73 := hb
                  replace hb := of_decide_eq_true hb
                  refine l_val rfl rfl rfl (r_fieldAddr (n := 0) rfl Tryz.underlying46 rfl Tryz.sizeOf3 rfl) ?_
                  refine l_val rfl rfl rfl (r_load_blk rfl Tryz.isAgg3 rfl (hL.get 0 rfl) rfl) ?_
                  refine l_val rfl rfl rfl (r_lss rfl rfl rfl) ?_
                  refine l_val rfl rfl rfl (r_pick rfl rfl) ?_
                  refine l_val rfl rfl rfl (r_move rfl) ?_
                  refine l_case 78 rfl (fun hb => ?_) (fun hb => ?_)
                  · have hr78 := hb
                    replace hb := of_decide_eq_true hb
                    refine l_val rfl rfl rfl (r_fieldAddr (n := 0) rfl Tryz.underlying46 rfl Tryz.sizeOf26 rfl) ?_
                    refine l_val rfl rfl rfl (r_load_blk rfl Tryz.isAgg26 rfl (hL.get 0 rfl) rfl) ?_
                    refine l_val rfl rfl rfl (r_len rfl Tryz.underlying26 rfl) ?_
                    refine l_val rfl rfl rfl (r_eql rfl rfl rfl) ?_
                    refine l_val rfl rfl rfl (r_pick rfl rfl) ?_
                    refine l_val rfl rfl rfl (r_move rfl) ?_
                    refine l_case 84 rfl (fun hb => ?_) (fun hb => ?_)
                    · have hr84 := hb
                      replace hb := of_decide_eq_true hb
                      refine l_val rfl rfl rfl (r_move rfl) ?_
                      refine l_val rfl rfl rfl (r_fieldAddr (n := 0) rfl Tryz.underlying46 rfl Tryz.sizeOf26 rfl) ?_
                      refine l_val rfl rfl rfl (r_load_blk rfl Tryz.isAgg26 rfl (hL.get 0 rfl) rfl) ?_
                      refine l_by rfl rfl rfl (r_call rfl rfl Tryz.func82 rfl rfl) (inside_calls _ Ag cg g (hg.keep RNode.kept (Ext0.cells hE)) Al cl x.l (hls.keep RInt.kept (Ext0.cells hE))) ?_
                      rintro _ w ⟨rfl, hX⟩
                      replace hL := hL.ext0 hX
                      replace hE := hE.step0 hX
                      refine ⟨_, rfl, ?_⟩
                      refine l_val rfl rfl rfl (r_pick rfl rfl) ?_
                      refine l_val rfl rfl rfl (r_assign rfl) ?_
                      refine l_nil ?_
                      refine c_ret ?_
                      exact ⟨ret_bool rfl (by simp only [rMayB, hr23, hr34, hr47, hr52, hr57, hr62, hr68, hr73, hr78, hr84, Bool.true_and, Bool.and_true, Bool.false_and, Bool.and_false, Bool.true_or, Bool.or_true, Bool.false_or, Bool.or_false, Bool.not_true, Bool.not_false, cond_true, cond_false]), hE⟩
                    · have hr84 := hb
                      replace hb := of_decide_eq_false hb
                      refine l_not rfl rfl rfl ?_
                      refine l_not rfl rfl rfl ?_
                      refine l_not rfl rfl rfl ?_
                      refine l_not rfl rfl rfl ?_
                      refine l_val rfl rfl rfl (r_pick rfl rfl) ?_
                      refine l_val rfl rfl rfl (r_assign rfl) ?_
                      refine l_nil ?_
                      refine c_ret ?_
                      exact ⟨ret_bool rfl (by simp only [rMayB, hr23, hr34, hr47, hr52, hr57, hr62, hr68, hr73, hr78, hr84, Bool.true_and, Bool.and_true, Bool.false_and, Bool.and_false, Bool.true_or, Bool.or_true, Bool.false_or, Bool.or_false, Bool.not_true, Bool.not_false, cond_true, cond_false]), hE⟩
                  · have hr78 := hb
                    replace hb := of_decide_eq_false hb
                    refine l_not rfl rfl rfl ?_
                    refine l_not rfl rfl rfl ?_
                    refine l_not rfl rfl rfl ?_
                    refine l_not rfl rfl rfl ?_
                    refine l_val rfl rfl rfl (r_pick rfl rfl) ?_
                    refine l_val rfl rfl rfl (r_move rfl) ?_
                    refine l_not rfl rfl rfl ?_
                    refine l_not rfl rfl rfl ?_
                    refine l_not rfl rfl rfl ?_
                    refine l_not rfl rfl rfl ?_
                    refine l_val rfl rfl rfl (r_pick rfl rfl) ?_
                    refine l_val rfl rfl rfl (r_assign rfl) ?_
                    refine l_nil ?_
                    refine c_ret ?_
                    exact ⟨ret_bool rfl (by simp only [rMayB, hr23, hr34, hr47, hr52, hr57, hr62, hr68, hr73, hr78, Bool.true_and, Bool.and_true, Bool.false_and, Bool.and_false, Bool.true_or, Bool.or_true, Bool.false_or, Bool.or_false, Bool.not_true, Bool.not_false, cond_true, cond_false]), hE⟩
                · have hr73 := hb
                  replace hb := of_decide_eq_false hb
                  refine l_not rfl rfl rfl ?_
                  refine l_not rfl rfl rfl ?_
                  refine l_not rfl rfl rfl ?_
                  refine l_val rfl rfl rfl (r_pick rfl rfl) ?_
                  refine l_val rfl rfl rfl (r_move rfl) ?_
                  refine l_not rfl rfl rfl ?_
                  refine l_not rfl rfl rfl ?_
                  refine l_not rfl rfl rfl ?_
                  refine l_not rfl rfl rfl ?_
                  refine l_val rfl rfl rfl (r_pick rfl rfl) ?_
                  refine l_val rfl rfl rfl (r_move rfl) ?_
                  refine l_not rfl rfl rfl ?_
                  refine l_not rfl rfl rfl ?_
                  refine l_not rfl rfl rfl ?_
                  refine l_not rfl rfl rfl ?_
                  refine l_val rfl rfl rfl (r_pick rfl rfl) ?_
                  refine l_val rfl rfl rfl (r_assign rfl) ?_
                  refine l_nil ?_
                  refine c_ret ?_
                  exact ⟨ret_bool rfl (by simp only [rMayB, hr23, hr34, hr47, hr52, hr57, hr62, hr68, hr73, Bool.true_and, Bool.and_true, Bool.false_and, Bool.and_false, Bool.true_or, Bool.or_true, Bool.false_or, Bool.or_false, Bool.not_true, Bool.not_false, cond_true, cond_false]), hE⟩
              · have hr68 := hb
                replace hb := of_decide_eq_false hb
                refine l_not rfl rfl rfl ?_
                refine l_not rfl rfl rfl ?_
                refine l_not rfl rfl rfl ?_
                refine l_val rfl rfl rfl (r_pick rfl rfl) ?_
                refine l_val rfl rfl rfl (r_move rfl) ?_
                refine l_not rfl rfl rfl ?_
                refine l_not rfl rfl rfl ?_
                refine l_not rfl rfl rfl ?_
                refine l_val rfl rfl rfl (r_pick rfl rfl) ?_
                refine l_val rfl rfl rfl (r_move rfl) ?_
                refine l_not rfl rfl rfl ?_
                refine l_not rfl rfl rfl ?_
                refine l_not rfl rfl rfl ?_
                refine l_not rfl rfl rfl ?_
                refine l_val rfl rfl rfl (r_pick rfl rfl) ?_
                refine l_val rfl rfl rfl (r_move rfl) ?_
                refine l_not rfl rfl rfl ?_
                refine l_not rfl rfl rfl ?_
                refine l_not rfl rfl rfl ?_
                refine l_not rfl rfl rfl ?_
                refine l_val rfl rfl rfl (r_pick rfl rfl) ?_
                refine l_val rfl rfl rfl (r_assign rfl) ?_
                refine l_nil ?_
                refine c_ret ?_
                exact ⟨ret_bool rfl (by simp only [rMayB, hr23, hr34, hr47, hr52, hr57, hr62, hr68, Bool.true_and, Bool.and_true, Bool.false_and, Bool.and_false, Bool.true_or, Bool.or_true, Bool.false_or, Bool.or_false, Bool.not_true, Bool.not_false, cond_true, cond_false]), hE⟩
            · have hr62 := hb
              replace hb := of_decide_eq_false hb
              refine l_not rfl rfl rfl ?_
              refine l_not rfl rfl rfl ?_
              refine l_not rfl rfl rfl ?_
              refine l_not rfl rfl rfl ?_
              refine l_val rfl rfl rfl (r_pick rfl rfl) ?_
              refine l_val rfl rfl rfl (r_move rfl) ?_
              refine l_not rfl rfl rfl ?_
              refine l_not rfl rfl rfl ?_
              refine l_not rfl rfl rfl ?_
              refine l_val rfl rfl rfl (r_pick rfl rfl) ?_
              refine l_val rfl rfl rfl (r_move rfl) ?_
              refine l_not rfl rfl rfl ?_
              refine l_not rfl rfl rfl ?_
              refine l_not rfl rfl rfl ?_
              refine l_val rfl rfl rfl (r_pick rfl rfl) ?_
              refine l_val rfl rfl rfl (r_move rfl) ?_
              refine l_not rfl rfl rfl ?_
              refine l_not rfl rfl rfl ?_
              refine l_not rfl rfl rfl ?_
              refine l_not rfl rfl rfl ?_
              refine l_val rfl rfl rfl (r_pick rfl rfl) ?_
              refine l_val rfl rfl rfl (r_move rfl) ?_
              refine l_not rfl rfl rfl ?_
              refine l_not rfl rfl rfl ?_
              refine l_not rfl rfl rfl ?_
              refine l_not rfl rfl rfl ?_
              refine l_val rfl rfl rfl (r_pick rfl rfl) ?_
              refine l_val rfl rfl rfl (r_assign rfl) ?_
              refine l_nil ?_
              refine c_ret ?_
              exact ⟨ret_bool rfl (by simp only [rMayB, hr23, hr34, hr47, hr52, hr57, hr62, Bool.true_and, Bool.and_true, Bool.false_and, Bool.and_false, Bool.true_or, Bool.or_true, Bool.false_or, Bool.or_false, Bool.not_true, Bool.not_false, cond_true, cond_false]), hE⟩
          · have hr57 := hb
            replace hb := of_decide_eq_false hb
            refine c_skip ?_
            refine c_seq ?_
         
            refine c_ops ?_
            refine l_val rfl rfl rfl (r_assign rfl) ?_
            refine l_nil ?_
            refine c_ret ?_
            exact ⟨ret_bool rfl (by simp only [rMayB, hr23, hr34, hr47, hr52, hr57, Bool.true_and, Bool.and_true, Bool.false_and, Bool.and_false, Bool.true_or, Bool.or_true, Bool.false_or, Bool.or_false, Bool.not_true, Bool.not_false, cond_true, cond_false]), hE⟩
theorem oddB_kind {g : List GNode} {x : GNode} {b : Bool} : (!oddB g.length x && b) = true ↔ x.l.any (outB g.length) = false ∧ (x.num = 0 ∨ x.kind = 9) ∧ (x.name = ⟨#[]⟩ ∨ x.kind = 5) ∧ (x.keys.length = 0 ∨ x.kind = 7) ∧ b = true := by
  unfold oddB
  simp only [Bool.and_eq_true, Bool.not_eq_true', Bool.or_eq_false_iff, Bool.and_eq_false_iff, Bool.not_eq_false', decide_eq_true_eq, decide_eq_false_iff_not, and_assoc]
  constructor
  · rintro ⟨h1, h2, h3, h4, h5⟩
    exact ⟨h1, h2, h3, h4.imp_left (fun h => by omega), h5⟩
  · rintro ⟨h1, h2, h3, h4, h5⟩
    exact ⟨h1, h2, h3, h4.imp_left (fun h => by omega), h5⟩
theorem any_nil {g : List GNode} {x : GNode} (h : (x.l.length : Int) = 0) : x.l.any (outB g.length) = false := by
  have : x.l = [] := List.eq_nil_of_length_eq_zero (by omega)
  rw [this]; rfl
theorem rKeysB_eq (l : List ByteArray) : rKeysB l = (risesB l && !l.any (fun s => !isNameB s)) := by
  unfold rKeysB
  rw [Bool.and_comm, List.all_eq_not_any_not]
theorem rMayB_eq (g : List GNode) (x : GNode) : rMayB g x = mayB g x := by
  rw [Bool.eq_iff_iff]
  unfold mayB
  rw [oddB_kind]
  unfold rMayB kindB
  cases hb : bareB x with
  | true =>
    have hk : x.kind = 1 ∨ x.kind = 2 ∨ x.kind = 3 ∨ x.kind = 4 := by simpa [bareB] using hb
    simp only [cond_true, bare3, Bool.and_eq_true, decide_eq_true_eq]
    constructor
    · rintro ⟨⟨⟨h1, h2⟩, h3⟩, h4⟩
      exact ⟨any_nil h2, .inl h3, .inl h4, .inl (by omega), h2⟩
    · rintro ⟨h1, h2, h3, h4, h5⟩
      exact ⟨⟨⟨by omega, h5⟩, by omega⟩, h3.elim id (fun h => by omega)⟩
  | false =>
    simp only [cond_false]
    by_cases h5 : x.kind = 5
    · simp only [h5, decide_true, cond_true, bare3, Bool.and_eq_true, decide_eq_true_eq]
      constructor
      · rintro ⟨⟨⟨h1, h2⟩, h3⟩, h4⟩
        exact ⟨any_nil h2, .inl h3, .inr trivial, .inl (by omega), h2, h4⟩
      · rintro ⟨h1, h2, h3, h4, h6, h7⟩
        exact ⟨⟨⟨by omega, h6⟩, by omega⟩, h7⟩
    · simp only [h5, decide_false, cond_false]
      by_cases h7 : x.kind = 7
      · simp only [h7, decide_true, cond_true, recB, rKeysB_eq, Bool.and_eq_true, decide_eq_true_eq, Bool.not_eq_true']
        constructor
        · rintro ⟨⟨h1, h2⟩, ⟨⟨⟨h3, h4⟩, h6⟩, h8⟩, h9⟩
          exact ⟨h9, .inl h4, .inl h3, .inr trivial, ⟨⟨h8, h6⟩, h1⟩, h2⟩
        · rintro ⟨h1, h2, h3, h4, ⟨⟨h6, h8⟩, h9⟩, h10⟩
          exact ⟨⟨h9, h10⟩, ⟨⟨⟨by simpa using h3, by simpa using h2⟩, h8⟩, h6⟩, h1⟩
      · simp only [h7, decide_false, cond_false]
        by_cases h8 : x.kind = 8
        · simp only [h8, decide_true, cond_true, unionB, Bool.and_eq_true, Bool.or_eq_false_iff, decide_eq_true_eq, Bool.not_eq_true', Bool.not_eq_false', decide_eq_false_iff_not]
          constructor
          · rintro ⟨⟨⟨⟨⟨h1, h2⟩, h3⟩, h4⟩, h6, h9⟩, h10⟩
            exact ⟨h6, .inl h2, .inl h1, .inl (by omega), ⟨h10, by omega⟩, h9⟩
          · rintro ⟨h1, h2, h3, h4, ⟨h6, h9⟩, h10⟩
            exact ⟨⟨⟨⟨⟨by simpa using h3, by simpa using h2⟩, by simp at h4; simp [h4]⟩, by omega⟩, h1, h10⟩, h6⟩
        · simp only [h8, decide_false, cond_false]
          by_cases h9 : x.kind = 9
          · simp only [h9, decide_true, cond_true, Bool.and_eq_true, decide_eq_true_eq, Bool.not_eq_true']
            constructor
            · rintro ⟨⟨⟨⟨⟨h1, h2⟩, h3⟩, h4⟩, h6⟩, h10⟩
              exact ⟨h10, .inr trivial, .inl h1, .inl (by omega), ⟨h3, h4⟩, h6⟩
            · rintro ⟨h1, h2, h3, h4, ⟨h6, h10⟩, h11⟩
              exact ⟨⟨⟨⟨⟨by simpa using h3, by simp at h4; simp [h4]⟩, h6⟩, h10⟩, h11⟩, h1⟩
          · simp only [h9, decide_false, cond_false]
            simp
theorem rCheck_calls (w0 : World) (Ag : Option Addr) (cg : Nat) (g : List GNode) (hg : Nodes w0 Ag cg g) (hfit : Fits g) (hn : g.length ≤ 1000000) :
    Calls Tryz.prog 30 [.slice Ag g.length cg].toArray w0 fun en w' => en = .returned (.int .i64 (checkG g)) ∧ Ext0 w0 w' := by
  have hE : Ext0 w0 w0 := Ext.refl _ _
  have hL : Has w0 [] := trivial
  refine calls [2] Tryz.func30 rfl rfl rfl rfl ?_
  refine c_seq ?_
  refine c_ops ?_
  refine l_val rfl rfl rfl (r_assign rfl) ?_
  refine l_nil ?_
  refine c_seq ?_
  refine c_seq ?_
  refine c_ops ?_
  refine l_val rfl rfl rfl (r_move rfl) ?_
  refine l_val rfl rfl rfl (r_len rfl Tryz.underlying22 rfl) ?_
  refine l_val rfl rfl rfl (r_gtr rfl rfl rfl) ?_
  refine l_nil ?_
  refine c_cond rfl (fun hb => ?_) (fun hb => ?_)
  · have hr6 := hb
    replace hb := of_decide_eq_true hb
    refine c_seq ?_
 
    refine c_ops ?_
    refine l_val rfl rfl rfl (r_assign rfl) ?_
    refine l_nil ?_
    refine c_ret ?_
    exact ⟨ret_int rfl (by unfold checkG; rw [if_pos hb]), hE⟩
  · have hr6 := hb
    replace hb := of_decide_eq_false hb
    have h2000 : ¬ 2000 < (g.length : Int) := hb
    refine c_skip ?_
    refine c_seq ?_
    refine c_seq ?_
 
    refine c_ops ?_
    refine l_val rfl rfl rfl (r_assign rfl) ?_
    refine l_nil ?_
    refine c_block ?_
 
    refine c_loop [2, 3, 7, 8, 9, 10, 11, 12, 13, 14, 15, 16, 17, 18, 19] (fun m1 e w => ∃ (k : Nat), k ≤ g.length ∧ m1 = g.length - k ∧ e 3 = .int .i64 (k : Nat) ∧ (∀ j : Nat, j < k → mayB g (gat g j) = true) ∧ Ext0 w0 w) (g.length) ?_ ?_
    · exact ⟨0, Nat.zero_le _, rfl, rfl, fun j hj => absurd hj (Nat.not_lt_zero _), hE⟩
    intro m1 e w hI
    obtain ⟨k, hkl, hkm, h3s, hall, hE⟩ := hI
    refine c_know (t := 3) (by exact h3s) ?_
    have hL : Has w [] := trivial
    refine c_seq ?_
    refine c_seq ?_
 
    refine c_ops ?_
    refine l_val rfl rfl rfl (r_move rfl) ?_
    refine l_val rfl rfl rfl (r_move rfl) ?_
    refine l_val rfl rfl rfl (r_len rfl Tryz.underlying22 rfl) ?_
    refine l_val rfl rfl rfl (r_lss rfl rfl rfl) ?_
    refine l_nil ?_
    refine c_cond rfl (fun hb => ?_) (fun hb => ?_)
    · have hr10 := hb
      replace hb := of_decide_eq_true hb
      have hklt : k < g.length := by omega
      refine c_skip ?_
      refine c_seq ?_
      refine c_block ?_
      refine c_seq ?_
   
      refine c_ops ?_
      refine l_val rfl rfl rfl (r_move rfl) ?_
      refine l_val rfl rfl rfl (r_move rfl) ?_
      refine l_val rfl rfl rfl (r_move rfl) ?_
      refine l_val rfl rfl rfl (r_indexAddr_sl rfl Tryz.underlying22 Tryz.sizeOf46 rfl hg.is rfl (by omega) (by omega)) ?_
      obtain ⟨Ak, ck, Al, cl, hcell, hks, hls⟩ := hg.node k (by omega) (by omega)
      refine l_val rfl rfl rfl (r_load_agg (vs := nodeCells (gat g k) Ak ck Al cl) rfl Tryz.isAgg46 Tryz.sizeOf46 rfl (fun j v hj => Ext0.cells hE _ _ (hcell j v hj))) ?_
      refine l_by rfl rfl rfl (r_call rfl rfl Tryz.func54 rfl rfl) (may_rcalls _ Ag cg g (hg.keep RNode.kept (Ext0.cells hE)) hn (gat g k) Ak ck Al cl (hks.keep RStr.kept (Ext0.cells hE)) (hls.keep RInt.kept (Ext0.cells hE)) (hfit.texts _ (gat_mem hklt))) ?_
      rintro _ w ⟨hen, hX⟩
      rw [rMayB_eq] at hen
      subst hen
      replace hL := hL.ext0 hX
      replace hE := hE.step0 hX
      refine ⟨_, rfl, ?_⟩
      refine l_val rfl rfl rfl (r_not rfl rfl) ?_
      refine l_nil ?_
      refine c_cond rfl (fun hb => ?_) (fun hb => ?_)
      · have hr19 := hb
        refine c_seq ?_
     
        refine c_ops ?_
        refine l_val rfl rfl rfl (r_assign rfl) ?_
        refine l_nil ?_
        refine c_ret ?_
        exact ⟨ret_int rfl (by unfold checkG; rw [if_neg h2000, all_no hklt (by simpa using hb)]; rfl), hE⟩
      · have hr19 := hb
        refine c_skip ?_
     
        refine c_ops ?_
        refine l_val rfl rfl rfl (r_move rfl) ?_
        refine l_val rfl rfl rfl (r_add rfl rfl rfl) ?_
        refine l_val rfl rfl rfl (r_assign rfl) ?_
        refine l_nil ?_
        refine ⟨by repeat (first | exact Agree.over _ _ _ | exact Agree.refl _ _ | (refine Agree.puto ?_ _ _ rfl) | (refine Agree.put ?_ _ _ rfl) | (refine Agree.sub ?_ rfl)), ?_⟩
        exact ⟨g.length - (k + 1), by omega, k + 1, by omega, rfl, by show Value.int .i64 (IntKind.i64.wrap ((k : Int) + 1)) = _; rw [wrap_succ hklt hg.max], fun j hj => by rcases Nat.lt_or_eq_of_le (Nat.le_of_lt_succ hj) with h | rfl <;> first | exact hall j h | simpa using hb, hE⟩
    · have hr10 := hb
      replace hb := of_decide_eq_false hb
      refine c_exit ?_
      refine c_seq ?_
   
      refine c_ops ?_
      refine l_val rfl rfl rfl (r_assign rfl) ?_
      refine l_nil ?_
      refine c_ret ?_
      exact ⟨ret_int rfl (by unfold checkG; rw [if_neg h2000, all_yes (fun j hj => hall j (by omega))]; rfl), hE⟩
theorem rMembers_calls (w0 : World) (Ag : Option Addr) (cg : Nat) (g : List GNode) (hg : Nodes w0 Ag cg g) (hfit : Fits g) (n : Int) :
    Calls Tryz.prog 63 [.slice Ag g.length cg, .int .i64 n].toArray w0 fun en w' => ∃ v, en = .returned v ∧ w'.ownsRow w0.heap.size 3 1 v (membersG g n).length ((membersG g n).map (Value.int .i64)) ∧ Ext0 w0 w' := by
  have hE : Ext0 w0 w0 := Ext.refl _ _
  have hL : Has w0 [] := trivial
  refine calls [4] Tryz.func63 rfl rfl rfl rfl ?_
  refine c_seq ?_
  refine c_ops ?_
  refine l_val rfl rfl rfl (r_assign rfl) ?_
  refine l_nil ?_
  refine c_seq ?_
  refine c_seq ?_
  refine c_ops ?_
  refine l_val rfl rfl rfl (r_move rfl) ?_
  refine l_val rfl rfl rfl (r_lss rfl rfl rfl) ?_
  refine l_val rfl rfl rfl (r_move rfl) ?_
  refine l_case 7 rfl (fun hb => ?_) (fun hb => ?_)
  · have hr7 := hb
    replace hb := of_decide_eq_true hb
    have hm : membersG g n = [] := by unfold membersG; rw [if_pos (.inl (by omega))]
    refine l_not rfl rfl rfl ?_
    refine l_not rfl rfl rfl ?_
    refine l_not rfl rfl rfl ?_
    refine l_not rfl rfl rfl ?_
    refine l_val rfl rfl rfl (r_pick rfl rfl) ?_
    refine l_nil ?_
    refine c_yes rfl ?_
    refine c_seq ?_
 
    refine c_ops ?_
    refine l_val rfl rfl rfl (r_assign rfl) ?_
    refine l_nil ?_
    refine c_ret ?_
    rw [hm]; exact ⟨_, rfl, ⟨rfl, .inl ⟨rfl, rfl⟩⟩, hE⟩
  · have hr7 := hb
    replace hb := of_decide_eq_false hb
    refine l_val rfl rfl rfl (r_move rfl) ?_
    refine l_val rfl rfl rfl (r_move rfl) ?_
    refine l_val rfl rfl rfl (r_len rfl Tryz.underlying22 rfl) ?_
    refine l_val rfl rfl rfl (r_geq rfl rfl rfl) ?_
    refine l_val rfl rfl rfl (r_pick rfl rfl) ?_
    refine l_nil ?_
    refine c_cond rfl (fun hb => ?_) (fun hb => ?_)
    · have hr12 := hb
      replace hb := of_decide_eq_true hb
      have hm : membersG g n = [] := by unfold membersG; rw [if_pos (.inr (by omega))]
      refine c_seq ?_
   
      refine c_ops ?_
      refine l_val rfl rfl rfl (r_assign rfl) ?_
      refine l_nil ?_
      refine c_ret ?_
      rw [hm]; exact ⟨_, rfl, ⟨rfl, .inl ⟨rfl, rfl⟩⟩, hE⟩
    · have hr12 := hb
      replace hb := of_decide_eq_false hb
      have hin : 0 ≤ n ∧ n < g.length := by have := of_decide_eq_false hr7; omega
      obtain ⟨Ak, ck, Al, cl, hcell, hks, hls⟩ := hg.node n hin.1 hin.2
      refine c_skip ?_
      refine c_seq ?_
      refine c_seq ?_
   
      refine c_ops ?_
      refine l_val rfl rfl rfl (r_move rfl) ?_
      refine l_val rfl rfl rfl (r_move rfl) ?_
      refine l_val rfl rfl rfl (r_indexAddr_sl rfl Tryz.underlying22 Tryz.sizeOf46 rfl hg.is rfl hin.1 hin.2) ?_
      refine l_val rfl rfl rfl (r_fieldAddr (n := 0) rfl Tryz.underlying46 rfl Tryz.sizeOf3 rfl) ?_
      refine l_val rfl rfl rfl (r_load rfl Tryz.isAgg3 rfl (Ext0.cells hE _ _ (hcell 0 _ rfl))) ?_
      refine l_val rfl rfl rfl (r_eql rfl rfl rfl) ?_
      refine l_nil ?_
      refine c_cond rfl (fun hb => ?_) (fun hb => ?_)
      · have hr18 := hb
        replace hb := of_decide_eq_true hb
        have hm : membersG g n = (gat g n).l := by unfold membersG; rw [if_neg (by omega), if_pos hb]
        refine c_seq ?_
     
        refine c_ops ?_
        refine l_val rfl rfl rfl (r_move rfl) ?_
        refine l_val rfl rfl rfl (r_move rfl) ?_
        refine l_val rfl rfl rfl (r_indexAddr_sl rfl Tryz.underlying22 Tryz.sizeOf46 rfl hg.is rfl hin.1 hin.2) ?_
        refine l_val rfl rfl rfl (r_fieldAddr (n := 0) rfl Tryz.underlying46 rfl Tryz.sizeOf26 rfl) ?_
        refine l_val rfl rfl rfl (r_load rfl Tryz.isAgg26 rfl (Ext0.cells hE _ _ (hcell 4 _ rfl))) ?_
        refine l_by rfl rfl rfl (r_call rfl rfl Tryz.func25 rfl rfl) (CopyInts_calls _ Al (gat g n).l.length cl (gat g n).l (hls.keep RInt.kept (Ext0.cells hE)) (hfit.lists _ (gat_mem' hin.1 hin.2))) ?_
        rintro _ w ⟨v, rfl, hrow, hX⟩
        replace hrow := ownsRow_base hrow hE.size
        replace hE := hE.step0 hX
        refine ⟨_, rfl, ?_⟩
        refine l_val rfl rfl rfl (r_assign rfl) ?_
        refine l_nil ?_
        refine c_ret ?_
        rw [hm]; exact ⟨v, rfl, hrow, hE⟩
      · have hr18 := hb
        replace hb := of_decide_eq_false hb
        have hm : membersG g n = [n] := by unfold membersG; rw [if_neg (by omega), if_neg hb]
        refine c_skip ?_
        refine c_seq ?_
     
        refine c_ops ?_
        refine l_val rfl rfl rfl (r_move rfl) ?_
        refine l_new rfl rfl rfl (n_slice (cells := #[.int .i64 n]) rfl Tryz.underlying26 Tryz.sizeOf3 Tryz.zeroValue3 rfl rfl (fill_int1 _) hL hE) ?_
        rintro _ w ⟨s26, rfl, hs26, hL, hE, hX⟩
        refine l_val rfl rfl rfl (r_assign rfl) ?_
        refine l_nil ?_
        refine c_ret ?_
        rw [hm]; exact ⟨_, rfl, (hL.asRow (n := 1) hs26 rfl (by decide)).row 0 rfl, hE⟩
end Go.Proofs.YtndophlnapjkhaaGreatDoor.Vc
namespace Go.Proofs.YtndophlnapjkhaaGreatDoor.Vc
open Go Go.RowKit
set_option linter.unusedVariables false
set_option linter.unusedSimpArgs false
def fieldF (x : GNode) (key : ByteArray) : Int := if idxV (idxS x.keys key) < 0 then -1 else iat x.l (idxV (idxS x.keys key))
theorem fieldF_some {x : GNode} {key : ByteArray} {k : Nat} (h : idxS x.keys key = some k) : fieldF x key = iat x.l k := by
  unfold fieldF
  rw [h]
  exact if_neg (by simp only [idxV]; omega)
theorem idx_step {xs : List ByteArray} {s : ByteArray} {k : Nat} (hk : k < xs.length) : findS (fun (_ : Unit) x => (decide (s = x), ())) k () (xs.drop k) = if s = kat xs k then (some k, ()) else findS (fun (_ : Unit) x => (decide (s = x), ())) (k + 1) () (xs.drop (k + 1)) := by
  rw [findS_step (fun (_ : Unit) x => (decide (s = x), ())) () xs k _ (kat_some hk)]
  by_cases h : s = kat xs k <;> simp [h]
theorem field_rcalls (w0 : World) (s : GNode) (Ak : Option Addr) (ck : Nat) (Al : Option Addr) (cl : Nat) (hsk : Strs w0 Ak ck s.keys) (hsl : Ints w0 Al cl s.l) (hlen : s.l.length = s.keys.length) (key : ByteArray) :
    Calls Tryz.prog 120 [.agg (nodeCells s Ak ck Al cl).toArray, .string key].toArray w0 fun en w' => en = .returned (.int .i64 (fieldF s key)) ∧ Ext0 w0 w' := by
  have hE : Ext0 w0 w0 := Ext.refl _ _
  have hL : Has w0 [] := trivial
  refine calls [4] Tryz.func120 rfl rfl rfl rfl ?_
  refine c_seq ?_
  refine c_ops ?_
  refine l_new rfl rfl rfl (n_box rfl hL hE) ?_
  rintro _ w ⟨b2, rfl, hb2, hL, hE, hX⟩
  refine l_val rfl rfl rfl (r_assign rfl) ?_
  refine l_nil ?_
  refine c_seq ?_
  refine c_seq ?_
  refine c_ops ?_
  refine l_val rfl rfl rfl (r_assign rfl) ?_
  refine l_nil ?_
  refine c_block ?_
  refine c_loop [4, 5, 6, 7, 8, 9, 10, 11, 12, 13, 14, 15, 16, 17, 18, 19, 20, 21, 22, 23, 24] (fun m1 e w => ∃ (k : Nat), k ≤ s.keys.length ∧ m1 = s.keys.length - k ∧ e 5 = .int .i64 (k : Nat) ∧ (idxS s.keys key) = (findS (fun (_ : Unit) x => (decide (key = x), ())) k () (s.keys.drop k)).1 ∧ Has w [.blk b2 (.cells (nodeCells s Ak ck Al cl).toArray 46 (0, 0))] ∧ Ext0 w0 w) (s.keys.length) ?_ ?_
  · exact ⟨0, Nat.zero_le _, rfl, rfl, rfl, hL, hE⟩
  intro m1 e w hI
  obtain ⟨k, hkl, hkm, h5s, hfind, hL, hE⟩ := hI
  refine c_know (t := 5) (by exact h5s) ?_
  refine c_seq ?_
  refine c_seq ?_
  refine c_ops ?_
  refine l_val rfl rfl rfl (r_move rfl) ?_
  refine l_val rfl rfl rfl (r_fieldAddr (n := 0) rfl Tryz.underlying46 rfl Tryz.sizeOf44 rfl) ?_
  refine l_val rfl rfl rfl (r_load_blk rfl Tryz.isAgg44 rfl (hL.get 0 rfl) rfl) ?_
  refine l_val rfl rfl rfl (r_len rfl Tryz.underlying44 rfl) ?_
  refine l_val rfl rfl rfl (r_lss rfl rfl rfl) ?_
  refine l_nil ?_
  refine c_cond rfl (fun hb => ?_) (fun hb => ?_)
  · have hr10 := hb
    replace hb := of_decide_eq_true hb
    have hklt : k < s.keys.length := by omega
    refine c_skip ?_
    refine c_seq ?_
    refine c_block ?_
    refine c_seq ?_
 
    refine c_ops ?_
    refine l_val rfl rfl rfl (r_fieldAddr (n := 0) rfl Tryz.underlying46 rfl Tryz.sizeOf44 rfl) ?_
    refine l_val rfl rfl rfl (r_load_blk rfl Tryz.isAgg44 rfl (hL.get 0 rfl) rfl) ?_
    refine l_val rfl rfl rfl (r_move rfl) ?_
    refine l_val rfl rfl rfl (r_indexAddr_sl rfl Tryz.underlying44 Tryz.sizeOf9 rfl hsk.is rfl (by omega) (by omega)) ?_
    refine l_val rfl rfl rfl (r_load (v := .string (kat s.keys k)) rfl Tryz.isAgg9 rfl ((hsk.keep RStr.kept (Ext0.cells hE)).str k (by omega) (by omega))) ?_
    refine l_val rfl rfl rfl (r_move rfl) ?_
    refine l_val rfl rfl rfl (r_seql rfl rfl rfl) ?_
    refine l_nil ?_
    refine c_cond rfl (fun hb => ?_) (fun hb => ?_)
    · have hr19 := hb
      replace hb := of_decide_eq_true hb
      refine c_seq ?_
   
      refine c_ops ?_
      refine l_val rfl rfl rfl (r_fieldAddr (n := 0) rfl Tryz.underlying46 rfl Tryz.sizeOf26 rfl) ?_
      refine l_val rfl rfl rfl (r_load_blk rfl Tryz.isAgg26 rfl (hL.get 0 rfl) rfl) ?_
      refine l_val rfl rfl rfl (r_move rfl) ?_
      refine l_val rfl rfl rfl (r_indexAddr_sl rfl Tryz.underlying26 Tryz.sizeOf3 rfl hsl.is rfl (by omega) (by omega)) ?_
      refine l_val rfl rfl rfl (r_load (v := .int .i64 (iat s.l k)) rfl Tryz.isAgg3 rfl ((hsl.keep RInt.kept (Ext0.cells hE)).int k (by omega) (by omega))) ?_
      refine l_val rfl rfl rfl (r_assign rfl) ?_
      refine l_nil ?_
      refine c_ret ?_
      exact ⟨ret_int rfl (fieldF_some (by rw [hfind, idx_step hklt, if_pos hb.symm])).symm, hE⟩
    · have hr19 := hb
      replace hb := of_decide_eq_false hb
      refine c_skip ?_
   
      refine c_ops ?_
      refine l_val rfl rfl rfl (r_move rfl) ?_
      refine l_val rfl rfl rfl (r_add rfl rfl rfl) ?_
      refine l_val rfl rfl rfl (r_assign rfl) ?_
      refine l_nil ?_
      refine ⟨by repeat (first | exact Agree.over _ _ _ | exact Agree.refl _ _ | (refine Agree.puto ?_ _ _ rfl) | (refine Agree.put ?_ _ _ rfl) | (refine Agree.sub ?_ rfl)), ?_⟩
      exact ⟨s.keys.length - (k + 1), by omega, k + 1, by omega, rfl, by show Value.int .i64 (IntKind.i64.wrap ((k : Int) + 1)) = _; rw [wrap_succ hklt hsk.max], by rw [hfind, idx_step hklt, if_neg (fun e => hb e.symm)], hL, hE⟩
  · have hr10 := hb
    replace hb := of_decide_eq_false hb
    refine c_exit ?_
    refine c_seq ?_
 
    refine c_ops ?_
    refine l_val rfl rfl rfl (r_assign rfl) ?_
    refine l_nil ?_
    refine c_ret ?_
    exact ⟨ret_int rfl (by unfold fieldF; rw [hfind, findS_end _ _ _ _ (by omega)]; rfl), hE⟩
structure Grid (w : World) (xb : Nat) (Ag : Option Addr) (n cg : Nat) (st : Bool) (Ai : Option Addr) (ci : Nat) (X : Int × Int → Bool) : Prop where
  c0 : w.cell? ⟨xb, 0, none⟩ = some (.slice Ag n cg)
  c1 : w.cell? ⟨xb, 1, none⟩ = some (.bool st)
  c2 : w.cell? ⟨xb, 2, none⟩ = some (.slice Ai n ci)
  is : 0 < n → Ai.isSome = true
  row : ∀ a : Int, 0 ≤ a → a < n → ∃ Ar cr, w.cell? ((adr Ai).add (a.toNat * 1)) = some (.slice Ar n cr) ∧ (0 < n → Ar.isSome = true) ∧ ∀ b : Int, 0 ≤ b → b < n → w.cell? ((adr Ar).add (b.toNat * 1)) = some (.bool (X (a, b)))
theorem Grid.keep {w W : World} {xb : Nat} {Ag : Option Addr} {n cg : Nat} {st : Bool} {Ai : Option Addr} {ci : Nat} {X : Int × Int → Bool} (h : Grid w xb Ag n cg st Ai ci X) (hc : Cells w W) : Grid W xb Ag n cg st Ai ci X :=
  ⟨hc _ _ h.c0, hc _ _ h.c1, hc _ _ h.c2, h.is, fun a h0 h1 => let ⟨Ar, cr, h2, h3, h4⟩ := h.row a h0 h1; ⟨Ar, cr, hc _ _ h2, h3, fun b hb0 hb1 => hc _ _ (h4 b hb0 hb1)⟩⟩
theorem recX_step (X : Int × Int → Bool) (s : GNode) {ks : List ByteArray} {l : List Int} {k : Nat} {key : ByteArray} {x : Int} (h1 : ks[k]? = some key) (h2 : l[k]? = some x) : recX X s ((ks.zip l).drop k) = if idxV (idxS s.keys key) < 0 then false else X (iat s.l (idxV (idxS s.keys key)), x) && recX X s ((ks.zip l).drop (k + 1)) := by
  rw [zip_at h1 h2, recX]
theorem fieldF_neg {g : List GNode} {s : GNode} (hs : SideOk g s) (hlen : s.l.length = s.keys.length) {key : ByteArray} (h : fieldF s key < 0) : idxV (idxS s.keys key) < 0 := by
  unfold fieldF at h
  split at h
  · assumption
  · rename_i h0
    have hlt := idxS_lt s.keys key
    have hin := hs.inn (iat s.l (idxV (idxS s.keys key))) (by
      have := iat_nat (l := s.l) (k := (idxV (idxS s.keys key)).toNat) (by omega)
      rw [Int.toNat_of_nonneg (by omega)] at this
      exact List.mem_of_getElem? this)
    omega
theorem fieldF_pos {g : List GNode} {s : GNode} (hs : SideOk g s) (hlen : s.l.length = s.keys.length) {key : ByteArray} (h : ¬ fieldF s key < 0) : ¬ idxV (idxS s.keys key) < 0 ∧ fieldF s key = iat s.l (idxV (idxS s.keys key)) ∧ 0 ≤ fieldF s key ∧ fieldF s key < g.length := by
  by_cases h0 : idxV (idxS s.keys key) < 0
  · exact absurd (by unfold fieldF; rw [if_pos h0]; decide) h
  · have e : fieldF s key = iat s.l (idxV (idxS s.keys key)) := by unfold fieldF; rw [if_neg h0]
    have hlt := idxS_lt s.keys key
    have hin := hs.inn (iat s.l (idxV (idxS s.keys key))) (by
      have := iat_nat (l := s.l) (k := (idxV (idxS s.keys key)).toNat) (by omega)
      rw [Int.toNat_of_nonneg (by omega)] at this
      exact List.mem_of_getElem? this)
    exact ⟨h0, e, by omega, by omega⟩
section
variable {g : List GNode} {xb : Nat} {Ag : Option Addr} {cg : Nat} {st : Bool} {Ai : Option Addr} {ci : Nat} {X : Int × Int → Bool}
theorem records_rcalls (w0 : World) (hG : Grid w0 xb Ag g.length cg st Ai ci X) (s : GNode) (Ak : Option Addr) (ck : Nat) (Al : Option Addr) (cl : Nat) (hsk : Strs w0 Ak ck s.keys) (hsl : Ints w0 Al cl s.l) (t : GNode) (Bk : Option Addr) (dk : Nat) (Bl : Option Addr) (dl : Nat) (htk : Strs w0 Bk dk t.keys) (htl : Ints w0 Bl dl t.l) (hs : SideOk g s) (ht : SideOk g t) (hs1 : s.l.length = s.keys.length) (ht1 : t.l.length = t.keys.length) :
    Calls Tryz.prog 114 [.pointer (some ⟨xb, 0, none⟩), .agg (nodeCells s Ak ck Al cl).toArray, .agg (nodeCells t Bk dk Bl dl).toArray].toArray w0 fun en w' => en = .returned (.bool (recX X s (t.keys.zip t.l))) ∧ Ext0 w0 w' := by
  have hE : Ext0 w0 w0 := Ext.refl _ _
  have hL : Has w0 [] := trivial
  refine calls [6] Tryz.func114 rfl rfl rfl rfl ?_
  refine c_seq ?_
  refine c_ops ?_
  refine l_new rfl rfl rfl (n_box rfl hL hE) ?_
  rintro _ w ⟨b4, rfl, hb4, hL, hE, hX⟩
  refine l_new rfl rfl rfl (n_box rfl hL hE) ?_
  rintro _ w ⟨b5, rfl, hb5, hL, hE, hX⟩
  refine l_val rfl rfl rfl (r_assign rfl) ?_
  refine l_nil ?_
  refine c_seq ?_
  refine c_seq ?_
  refine c_ops ?_
  refine l_val rfl rfl rfl (r_assign rfl) ?_
  refine l_nil ?_
  refine c_block ?_
  refine c_loop0 (fun m1 e w => (e 0 = .pointer (some ⟨xb, 0, none⟩) ∧ e 4 = .pointer (some ⟨b4, 0, none⟩) ∧ e 5 = .pointer (some ⟨b5, 0, none⟩)) ∧ ∃ (k : Nat), k ≤ t.keys.length ∧ m1 = t.keys.length - k ∧ e 7 = .int .i64 (k : Nat) ∧ recX X s (t.keys.zip t.l) = recX X s ((t.keys.zip t.l).drop k) ∧ Has w [.blk b5 (.cells (nodeCells t Bk dk Bl dl).toArray 46 (0, 0)), .blk b4 (.cells (nodeCells s Ak ck Al cl).toArray 46 (0, 0))] ∧ Ext0 w0 w) (t.keys.length) ?_ ?_
  · exact ⟨⟨rfl, rfl, rfl⟩, 0, Nat.zero_le _, rfl, rfl, rfl, hL, hE⟩
  rintro m1 e w ⟨⟨hq0, hq4, hq5⟩, hI⟩
  refine c_know (t := 0) (by exact hq0) ?_
  refine c_know (t := 4) (by exact hq4) ?_
  refine c_know (t := 5) (by exact hq5) ?_
  clear hq0 hq4 hq5
  obtain ⟨k, hkl, hkm, h7s, hrec, hL, hE⟩ := hI
  refine c_know (t := 7) (by exact h7s) ?_
  refine c_seq ?_
  refine c_seq ?_
  refine c_ops ?_
  refine l_val rfl rfl rfl (r_move rfl) ?_
  refine l_val rfl rfl rfl (r_fieldAddr (n := 0) rfl Tryz.underlying46 rfl Tryz.sizeOf44 rfl) ?_
  refine l_val rfl rfl rfl (r_load_blk rfl Tryz.isAgg44 rfl (hL.get 0 rfl) rfl) ?_
  refine l_val rfl rfl rfl (r_len rfl Tryz.underlying44 rfl) ?_
  refine l_val rfl rfl rfl (r_lss rfl rfl rfl) ?_
  refine l_nil ?_
  refine c_cond rfl (fun hb => ?_) (fun hb => ?_)
  · have hr13 := hb
    replace hb := of_decide_eq_true hb
    have hklt : k < t.keys.length := by omega
    obtain ⟨key, hkey⟩ : ∃ key, key = kat t.keys k := ⟨_, rfl⟩
    have hstep := recX_step X s (hkey ▸ kat_some hklt) (iat_nat (show k < t.l.length by omega))
    have htin := ht.inn _ (List.mem_of_getElem? (iat_nat (show k < t.l.length by omega)))
    refine c_skip ?_
    refine c_seq ?_
    refine c_block ?_
    refine c_seq ?_
 
    refine c_draw mixed (hL) hE ?_
    replace hL := hL.drew
    replace hE := hE.drew
    have hK := hL
    refine h_t 0 rfl rfl (by kernel_rfl) (fun _ _ _ h => h) ⟨hK, hE⟩ rfl (fun W hW => r_load_blk_agg rfl Tryz.isAgg46 Tryz.sizeOf46 rfl (hW.1.get 1 rfl) rfl) ?_
    refine h_t 1 rfl rfl (by kernel_rfl) (fun _ _ _ h => h) ⟨hK, hE⟩ rfl (fun W hW => r_fieldAddr (n := 0) rfl Tryz.underlying46 rfl Tryz.sizeOf44 rfl) ?_
    refine h_t 2 rfl rfl (by kernel_rfl) (fun _ _ _ h => h) ⟨hK, hE⟩ rfl (fun W hW => r_load_blk rfl Tryz.isAgg44 rfl (hW.1.get 0 rfl) rfl) ?_
    refine h_t 3 rfl rfl (by kernel_rfl) (fun _ _ _ h => h) ⟨hK, hE⟩ rfl (fun W hW => r_move rfl) ?_
    refine h_t 4 rfl rfl (by kernel_rfl) (fun _ _ _ h => h) ⟨hK, hE⟩ rfl (fun W hW => r_indexAddr_sl rfl Tryz.underlying44 Tryz.sizeOf9 rfl htk.is rfl (by omega) (by omega)) ?_
    refine h_t 5 rfl rfl (by kernel_rfl) (fun _ _ _ h => h) ⟨hK, hE⟩ rfl (fun W hW => r_load (v := .string key) rfl Tryz.isAgg9 rfl (by rw [hkey]; exact (htk.keep RStr.kept (Ext0.cells hW.2)).str k (by omega) (by omega))) ?_
    refine h_by 6 rfl rfl (by kernel_rfl) rfl (r_call rfl rfl Tryz.func120 rfl rfl) (field_rcalls _ s Ak ck Al cl (hsk.keep RStr.kept (Ext0.cells hE)) (hsl.keep RInt.kept (Ext0.cells hE)) hs1 key) ?_
    rintro _ w ⟨rfl, hX⟩
    replace hL := hL.ext0 hX
    replace hE := hE.step0 hX
    have hK := hL
    refine ⟨_, rfl, ⟨hK, hE⟩, ?_⟩
    refine h_t 7 rfl rfl (by kernel_rfl) (fun _ _ _ h => h) ⟨hK, hE⟩ rfl (fun W hW => r_assign rfl) ?_
    refine h_done (by kernel_rfl) ?_
    refine c_seq ?_
 
    refine c_draw mixed (hL) hE ?_
    replace hL := hL.drew
    replace hE := hE.drew
    have hK := hL
    refine h_t 0 rfl rfl (by kernel_rfl) (fun _ _ _ h => h) ⟨hK, hE⟩ rfl (fun W hW => r_move rfl) ?_
    refine h_listed (listed' := #[T',F',F',F',F',F',F',F',F',F',F',F',F',F',F',F',F',F',F']) (by kernel_rfl) ?_
    refine h_t 1 rfl rfl (by kernel_rfl) (fun _ _ _ h => h) ⟨hK, hE⟩ rfl (fun W hW => r_lss rfl rfl rfl) ?_
    refine h_listed (listed' := #[T',T',F',F',F',F',F',F',F',F',F',F',F',F',F',F',F',F',F']) (by kernel_rfl) ?_
    refine h_t 2 rfl rfl (by kernel_rfl) (fun _ _ _ h => h) ⟨hK, hE⟩ rfl (fun W hW => r_move rfl) ?_
    refine h_listed (listed' := #[T',T',T',F',F',F',F',F',F',F',F',F',F',F',F',F',F',F',F']) (by kernel_rfl) ?_
    refine h_case 25 rfl (fun hb => ?_) (fun hb => ?_)
    · have hr25 := hb
      replace hb := of_decide_eq_true hb
      have hno : recX X s (t.keys.zip t.l) = false := by rw [hrec, hstep, if_pos (fieldF_neg hs hs1 hb)]
      refine h_listed (listed' := #[T',T',T',F',F',F',F',F',F',F',F',F',F',F',F',F',F',F',F']) (by kernel_rfl) ?_
      refine h_n 3 rfl rfl (by kernel_rfl) (fun _ _ _ h => h) ⟨hK, hE⟩ rfl ?_
      refine h_listed (listed' := #[T',T',T',T',F',F',F',F',F',F',F',F',F',F',F',F',F',F',F']) (by kernel_rfl) ?_
      refine h_n 4 rfl rfl (by kernel_rfl) (fun _ _ _ h => h) ⟨hK, hE⟩ rfl ?_
      refine h_listed (listed' := #[T',T',T',T',T',F',F',F',F',F',F',F',F',F',F',F',F',F',F']) (by kernel_rfl) ?_
      refine h_n 5 rfl rfl (by kernel_rfl) (fun _ _ _ h => h) ⟨hK, hE⟩ rfl ?_
      refine h_listed (listed' := #[T',T',T',T',T',T',F',F',F',F',F',F',F',F',F',F',F',F',F']) (by kernel_rfl) ?_
      refine h_n 6 rfl rfl (by kernel_rfl) (fun _ _ _ h => h) ⟨hK, hE⟩ rfl ?_
      refine h_listed (listed' := #[T',T',T',T',T',T',T',F',F',F',F',F',F',F',F',F',F',F',F']) (by kernel_rfl) ?_
      refine h_n 7 rfl rfl (by kernel_rfl) (fun _ _ _ h => h) ⟨hK, hE⟩ rfl ?_
      refine h_listed (listed' := #[T',T',T',T',T',T',T',T',F',F',F',F',F',F',F',F',F',F',F']) (by kernel_rfl) ?_
      refine h_n 8 rfl rfl (by kernel_rfl) (fun _ _ _ h => h) ⟨hK, hE⟩ rfl ?_
      refine h_listed (listed' := #[T',T',T',T',T',T',T',T',T',F',F',F',F',F',F',F',F',F',F']) (by kernel_rfl) ?_
      refine h_n 9 rfl rfl (by kernel_rfl) (fun _ _ _ h => h) ⟨hK, hE⟩ rfl ?_
      refine h_listed (listed' := #[T',T',T',T',T',T',T',T',T',T',F',F',F',F',F',F',F',F',F']) (by kernel_rfl) ?_
      refine h_n 10 rfl rfl (by kernel_rfl) (fun _ _ _ h => h) ⟨hK, hE⟩ rfl ?_
      refine h_listed (listed' := #[T',T',T',T',T',T',T',T',T',T',T',F',F',F',F',F',F',F',F']) (by kernel_rfl) ?_
      refine h_n 11 rfl rfl (by kernel_rfl) (fun _ _ _ h => h) ⟨hK, hE⟩ rfl ?_
      refine h_listed (listed' := #[T',T',T',T',T',T',T',T',T',T',T',T',F',F',F',F',F',F',F']) (by kernel_rfl) ?_
      refine h_n 12 rfl rfl (by kernel_rfl) (fun _ _ _ h => h) ⟨hK, hE⟩ rfl ?_
      refine h_listed (listed' := #[T',T',T',T',T',T',T',T',T',T',T',T',T',F',F',F',F',F',F']) (by kernel_rfl) ?_
      refine h_n 13 rfl rfl (by kernel_rfl) (fun _ _ _ h => h) ⟨hK, hE⟩ rfl ?_
      refine h_listed (listed' := #[T',T',T',T',T',T',T',T',T',T',T',T',T',T',F',F',F',F',F']) (by kernel_rfl) ?_
      refine h_n 14 rfl rfl (by kernel_rfl) (fun _ _ _ h => h) ⟨hK, hE⟩ rfl ?_
      refine h_listed (listed' := #[T',T',T',T',T',T',T',T',T',T',T',T',T',T',T',F',F',F',F']) (by kernel_rfl) ?_
      refine h_n 15 rfl rfl (by kernel_rfl) (fun _ _ _ h => h) ⟨hK, hE⟩ rfl ?_
      refine h_listed (listed' := #[T',T',T',T',T',T',T',T',T',T',T',T',T',T',T',T',F',F',F']) (by kernel_rfl) ?_
      refine h_n 16 rfl rfl (by kernel_rfl) (fun _ _ _ h => h) ⟨hK, hE⟩ rfl ?_
      refine h_listed (listed' := #[T',T',T',T',T',T',T',T',T',T',T',T',T',T',T',T',T',F',F']) (by kernel_rfl) ?_
      refine h_n 17 rfl rfl (by kernel_rfl) (fun _ _ _ h => h) ⟨hK, hE⟩ rfl ?_
      refine h_listed (listed' := #[T',T',T',T',T',T',T',T',T',T',T',T',T',T',T',T',T',T',F']) (by kernel_rfl) ?_
      refine h_t 18 rfl rfl (by kernel_rfl) (fun _ _ _ h => h) ⟨hK, hE⟩ rfl (fun W hW => r_pick rfl rfl) ?_
      refine h_listed (listed' := #[T',T',T',T',T',T',T',T',T',T',T',T',T',T',T',T',T',T',T']) (by kernel_rfl) ?_
      refine h_done (by kernel_rfl) ?_
      refine c_yes rfl ?_
      refine c_seq ?_
   
      refine c_ops ?_
      refine l_val rfl rfl rfl (r_assign rfl) ?_
      refine l_nil ?_
      refine c_ret ?_
      exact ⟨ret_bool rfl hno.symm, hE⟩
    · have hr25 := hb
      replace hb := of_decide_eq_false hb
      have hf := fieldF_pos hs hs1 hb
      obtain ⟨Ar, cr, hr0, hr1, hr2⟩ := hG.row (fieldF s key) hf.2.2.1 hf.2.2.2
      refine h_listed (listed' := #[T',T',T',F',F',F',F',F',F',F',F',F',F',F',F',F',F',F',F']) (by kernel_rfl) ?_
      refine h_t 3 rfl rfl (by kernel_rfl) (fun _ _ _ h => h) ⟨hK, hE⟩ rfl (fun W hW => r_move rfl) ?_
      refine h_listed (listed' := #[T',T',T',T',F',F',F',F',F',F',F',F',F',F',F',F',F',F',F']) (by kernel_rfl) ?_
      refine h_t 4 rfl rfl (by kernel_rfl) (fun _ _ _ h => h) ⟨hK, hE⟩ rfl (fun W hW => r_nilCheck rfl rfl) ?_
      refine h_listed (listed' := #[T',T',T',T',T',F',F',F',F',F',F',F',F',F',F',F',F',F',F']) (by kernel_rfl) ?_
      refine h_t 5 rfl rfl (by kernel_rfl) (fun _ _ _ h => h) ⟨hK, hE⟩ rfl (fun W hW => r_fieldAddr (n := 0) rfl Tryz.underlying65 rfl Tryz.sizeOf63 rfl) ?_
      refine h_listed (listed' := #[T',T',T',T',T',T',F',F',F',F',F',F',F',F',F',F',F',F',F']) (by kernel_rfl) ?_
      refine h_t 6 rfl rfl (by kernel_rfl) (fun _ _ _ h => h) ⟨hK, hE⟩ rfl (fun W hW => r_load rfl Tryz.isAgg63 rfl (Ext0.cells hW.2 _ _ hG.c2)) ?_
      refine h_listed (listed' := #[T',T',T',T',T',T',T',F',F',F',F',F',F',F',F',F',F',F',F']) (by kernel_rfl) ?_
      refine h_t 7 rfl rfl (by kernel_rfl) (fun _ _ _ h => h) ⟨hK, hE⟩ rfl (fun W hW => r_move rfl) ?_
      refine h_listed (listed' := #[T',T',T',T',T',T',T',T',F',F',F',F',F',F',F',F',F',F',F']) (by kernel_rfl) ?_
      refine h_t 8 rfl rfl (by kernel_rfl) (fun _ _ _ h => h) ⟨hK, hE⟩ rfl (fun W hW => r_indexAddr_sl rfl Tryz.underlying63 Tryz.sizeOf62 rfl hG.is rfl hf.2.2.1 hf.2.2.2) ?_
      refine h_listed (listed' := #[T',T',T',T',T',T',T',T',T',F',F',F',F',F',F',F',F',F',F']) (by kernel_rfl) ?_
      refine h_t 9 rfl rfl (by kernel_rfl) (fun _ _ _ h => h) ⟨hK, hE⟩ rfl (fun W hW => r_load (v := .slice Ar g.length cr) rfl Tryz.isAgg62 rfl (Ext0.cells hW.2 _ _ hr0)) ?_
      refine h_listed (listed' := #[T',T',T',T',T',T',T',T',T',T',F',F',F',F',F',F',F',F',F']) (by kernel_rfl) ?_
      refine h_t 10 rfl rfl (by kernel_rfl) (fun _ _ _ h => h) ⟨hK, hE⟩ rfl (fun W hW => r_fieldAddr (n := 0) rfl Tryz.underlying46 rfl Tryz.sizeOf26 rfl) ?_
      refine h_listed (listed' := #[T',T',T',T',T',T',T',T',T',T',T',F',F',F',F',F',F',F',F']) (by kernel_rfl) ?_
      refine h_t 11 rfl rfl (by kernel_rfl) (fun _ _ _ h => h) ⟨hK, hE⟩ rfl (fun W hW => r_load_blk rfl Tryz.isAgg26 rfl (hW.1.get 0 rfl) rfl) ?_
      refine h_listed (listed' := #[T',T',T',T',T',T',T',T',T',T',T',T',F',F',F',F',F',F',F']) (by kernel_rfl) ?_
      refine h_t 12 rfl rfl (by kernel_rfl) (fun _ _ _ h => h) ⟨hK, hE⟩ rfl (fun W hW => r_move rfl) ?_
      refine h_listed (listed' := #[T',T',T',T',T',T',T',T',T',T',T',T',T',F',F',F',F',F',F']) (by kernel_rfl) ?_
      refine h_t 13 rfl rfl (by kernel_rfl) (fun _ _ _ h => h) ⟨hK, hE⟩ rfl (fun W hW => r_indexAddr_sl rfl Tryz.underlying26 Tryz.sizeOf3 rfl htl.is rfl (by omega) (by omega)) ?_
      refine h_listed (listed' := #[T',T',T',T',T',T',T',T',T',T',T',T',T',T',F',F',F',F',F']) (by kernel_rfl) ?_
      refine h_t 14 rfl rfl (by kernel_rfl) (fun _ _ _ h => h) ⟨hK, hE⟩ rfl (fun W hW => r_load (v := .int .i64 (iat t.l k)) rfl Tryz.isAgg3 rfl ((htl.keep RInt.kept (Ext0.cells hW.2)).int k (by omega) (by omega))) ?_
      refine h_listed (listed' := #[T',T',T',T',T',T',T',T',T',T',T',T',T',T',T',F',F',F',F']) (by kernel_rfl) ?_
      refine h_t 15 rfl rfl (by kernel_rfl) (fun _ _ _ h => h) ⟨hK, hE⟩ rfl (fun W hW => r_indexAddr_sl rfl Tryz.underlying62 Tryz.sizeOf4 rfl hr1 rfl htin.1 htin.2) ?_
      refine h_listed (listed' := #[T',T',T',T',T',T',T',T',T',T',T',T',T',T',T',T',F',F',F']) (by kernel_rfl) ?_
      refine h_t 16 rfl rfl (by kernel_rfl) (fun _ _ _ h => h) ⟨hK, hE⟩ rfl (fun W hW => r_load (v := .bool (X ((fieldF s key), (iat t.l k)))) rfl Tryz.isAgg4 rfl (Ext0.cells hW.2 _ _ (hr2 (iat t.l k) htin.1 htin.2))) ?_
      refine h_listed (listed' := #[T',T',T',T',T',T',T',T',T',T',T',T',T',T',T',T',T',F',F']) (by kernel_rfl) ?_
      refine h_t 17 rfl rfl (by kernel_rfl) (fun _ _ _ h => h) ⟨hK, hE⟩ rfl (fun W hW => r_not rfl rfl) ?_
      refine h_listed (listed' := #[T',T',T',T',T',T',T',T',T',T',T',T',T',T',T',T',T',T',F']) (by kernel_rfl) ?_
      refine h_t 18 rfl rfl (by kernel_rfl) (fun _ _ _ h => h) ⟨hK, hE⟩ rfl (fun W hW => r_pick rfl rfl) ?_
      refine h_listed (listed' := #[T',T',T',T',T',T',T',T',T',T',T',T',T',T',T',T',T',T',T']) (by kernel_rfl) ?_
      refine h_done (by kernel_rfl) ?_
      refine c_cond rfl (fun hb => ?_) (fun hb => ?_)
      · have hr41 := hb
        have hno : recX X s (t.keys.zip t.l) = false := by rw [hrec, hstep, if_neg hf.1, ← hf.2.1]; simp at hb; rw [hb]; rfl
        refine c_seq ?_
     
        refine c_ops ?_
        refine l_val rfl rfl rfl (r_assign rfl) ?_
        refine l_nil ?_
        refine c_ret ?_
        exact ⟨ret_bool rfl hno.symm, hE⟩
      · have hr41 := hb
        have hrec2 : recX X s (t.keys.zip t.l) = recX X s ((t.keys.zip t.l).drop (k + 1)) := by rw [hrec, hstep, if_neg hf.1, ← hf.2.1]; simp at hb; rw [hb]; rfl
        refine c_skip ?_
     
        refine c_ops ?_
        refine l_val rfl rfl rfl (r_move rfl) ?_
        refine l_val rfl rfl rfl (r_add rfl rfl rfl) ?_
        refine l_val rfl rfl rfl (r_assign rfl) ?_
        refine l_nil ?_
        exact ⟨t.keys.length - (k + 1), by omega, ⟨rfl, rfl, rfl⟩, k + 1, by omega, rfl, by show Value.int .i64 (IntKind.i64.wrap ((k : Int) + 1)) = _; rw [wrap_succ hklt htk.max], hrec2, hL, hE⟩
  · have hr13 := hb
    replace hb := of_decide_eq_false hb
    refine c_exit ?_
    refine c_seq ?_
 
    refine c_ops ?_
    refine l_val rfl rfl rfl (r_assign rfl) ?_
    refine l_nil ?_
    refine c_ret ?_
    exact ⟨ret_bool rfl (by rw [hrec, List.drop_eq_nil_of_le (by simp; omega)]; rfl), hE⟩
theorem does_rcalls (w0 : World) (hG : Grid w0 xb Ag g.length cg st Ai ci X) (s : GNode) (Ak : Option Addr) (ck : Nat) (Al : Option Addr) (cl : Nat) (hsk : Strs w0 Ak ck s.keys) (hsl : Ints w0 Al cl s.l) (t : GNode) (Bk : Option Addr) (dk : Nat) (Bl : Option Addr) (dl : Nat) (htk : Strs w0 Bk dk t.keys) (htl : Ints w0 Bl dl t.l) (hs : SideOk g s) (ht : SideOk g t) :
    Calls Tryz.prog 101 [.pointer (some ⟨xb, 0, none⟩), .agg (nodeCells s Ak ck Al cl).toArray, .agg (nodeCells t Bk dk Bl dl).toArray].toArray w0 fun en w' => en = .returned (.bool (doesX st X s t)) ∧ Ext0 w0 w' := by
  have hE : Ext0 w0 w0 := Ext.refl _ _
  have hL : Has w0 [] := trivial
  refine calls [6] Tryz.func101 rfl rfl rfl rfl ?_
  refine c_seq ?_
  refine c_ops ?_
  refine l_new rfl rfl rfl (n_box rfl hL hE) ?_
  rintro _ w ⟨b4, rfl, hb4, hL, hE, hX⟩
  refine l_new rfl rfl rfl (n_box rfl hL hE) ?_
  rintro _ w ⟨b5, rfl, hb5, hL, hE, hX⟩
  refine l_val rfl rfl rfl (r_assign rfl) ?_
  refine l_nil ?_
  refine c_seq ?_
  refine c_merge [7, 8, 9, 10, 11, 12, 13, 14] (fun e w => e 14 = .bool (decide (s.kind = 1) || decide (t.kind = 1)) ∧ Has w [.blk b5 (.cells (nodeCells t Bk dk Bl dl).toArray 46 (0, 0)), .blk b4 (.cells (nodeCells s Ak ck Al cl).toArray 46 (0, 0))] ∧ Ext0 w0 w) ?_ ?_
  · skip
 
    refine c_ops ?_
    refine l_val rfl rfl rfl (r_fieldAddr (n := 0) rfl Tryz.underlying46 rfl Tryz.sizeOf3 rfl) ?_
    refine l_val rfl rfl rfl (r_load_blk rfl Tryz.isAgg3 rfl (hL.get 1 rfl) rfl) ?_
    refine l_val rfl rfl rfl (r_eql rfl rfl rfl) ?_
    refine l_val rfl rfl rfl (r_move rfl) ?_
    refine l_case 10 rfl (fun hb => ?_) (fun hb => ?_)
    · have hr10 := hb
      replace hb := of_decide_eq_true hb
      refine l_not rfl rfl rfl ?_
      refine l_not rfl rfl rfl ?_
      refine l_not rfl rfl rfl ?_
      refine l_val rfl rfl rfl (r_pick rfl rfl) ?_
      refine l_nil ?_
      refine ⟨by repeat (first | exact Agree.over _ _ _ | exact Agree.refl _ _ | (refine Agree.puto ?_ _ _ rfl) | (refine Agree.put ?_ _ _ rfl) | (refine Agree.sub ?_ rfl)), ?_⟩
      exact ⟨congrArg Value.bool (by simp only [hr10, Bool.true_and, Bool.and_true, Bool.false_and, Bool.and_false, Bool.true_or, Bool.or_true, Bool.false_or, Bool.or_false, Bool.not_true, Bool.not_false, cond_true, cond_false]), hL, hE⟩
    · have hr10 := hb
      replace hb := of_decide_eq_false hb
      refine l_val rfl rfl rfl (r_fieldAddr (n := 0) rfl Tryz.underlying46 rfl Tryz.sizeOf3 rfl) ?_
      refine l_val rfl rfl rfl (r_load_blk rfl Tryz.isAgg3 rfl (hL.get 0 rfl) rfl) ?_
      refine l_val rfl rfl rfl (r_eql rfl rfl rfl) ?_
      refine l_val rfl rfl rfl (r_pick rfl rfl) ?_
      refine l_nil ?_
      refine ⟨by repeat (first | exact Agree.over _ _ _ | exact Agree.refl _ _ | (refine Agree.puto ?_ _ _ rfl) | (refine Agree.put ?_ _ _ rfl) | (refine Agree.sub ?_ rfl)), ?_⟩
      exact ⟨congrArg Value.bool (by simp only [hr10, Bool.true_and, Bool.and_true, Bool.false_and, Bool.and_false, Bool.true_or, Bool.or_true, Bool.false_or, Bool.or_false, Bool.not_true, Bool.not_false, cond_true, cond_false]), hL, hE⟩
  rintro e w hI
  obtain ⟨h14, hL, hE⟩ := hI
  refine c_know h14 ?_
  refine c_cond rfl (fun hb => ?_) (fun hb => ?_)
  · have hr14 := hb
    have hd : doesX st X s t = (!st || decide (s.kind = t.kind)) := by unfold doesX; rw [if_pos (by simpa using hb)]
    refine c_seq ?_
 
    refine c_ops ?_
    refine l_val rfl rfl rfl (r_move rfl) ?_
    refine l_val rfl rfl rfl (r_nilCheck rfl rfl) ?_
    refine l_val rfl rfl rfl (r_fieldAddr (n := 0) rfl Tryz.underlying65 rfl Tryz.sizeOf4 rfl) ?_
    refine l_val rfl rfl rfl (r_load rfl Tryz.isAgg4 rfl (Ext0.cells hE _ _ hG.c1)) ?_
    refine l_val rfl rfl rfl (r_not rfl rfl) ?_
    refine l_val rfl rfl rfl (r_move rfl) ?_
    refine l_case 20 rfl (fun hb => ?_) (fun hb => ?_)
    · have hr20 := hb
      have hst : st = false := by simpa using hb
      refine l_not rfl rfl rfl ?_
      refine l_not rfl rfl rfl ?_
      refine l_not rfl rfl rfl ?_
      refine l_not rfl rfl rfl ?_
      refine l_not rfl rfl rfl ?_
      refine l_val rfl rfl rfl (r_pick rfl rfl) ?_
      refine l_val rfl rfl rfl (r_assign rfl) ?_
      refine l_nil ?_
      refine c_ret ?_
      exact ⟨ret_bool rfl (by rw [hd, hst]; rfl), hE⟩
    · have hr20 := hb
      have hst : st = true := by simpa using hb
      refine l_val rfl rfl rfl (r_fieldAddr (n := 0) rfl Tryz.underlying46 rfl Tryz.sizeOf3 rfl) ?_
      refine l_val rfl rfl rfl (r_load_blk rfl Tryz.isAgg3 rfl (hL.get 1 rfl) rfl) ?_
      refine l_val rfl rfl rfl (r_fieldAddr (n := 0) rfl Tryz.underlying46 rfl Tryz.sizeOf3 rfl) ?_
      refine l_val rfl rfl rfl (r_load_blk rfl Tryz.isAgg3 rfl (hL.get 0 rfl) rfl) ?_
      refine l_val rfl rfl rfl (r_eql rfl rfl rfl) ?_
      refine l_val rfl rfl rfl (r_pick rfl rfl) ?_
      refine l_val rfl rfl rfl (r_assign rfl) ?_
      refine l_nil ?_
      refine c_ret ?_
      exact ⟨ret_bool rfl (by rw [hd, hst]; rfl), hE⟩
  · have hr14 := hb
    have h11 : ¬ (s.kind = 1 ∨ t.kind = 1) := by simpa using hb
    refine c_skip ?_
    refine c_seq ?_
    refine c_seq ?_
 
    refine c_ops ?_
    refine l_val rfl rfl rfl (r_fieldAddr (n := 0) rfl Tryz.underlying46 rfl Tryz.sizeOf3 rfl) ?_
    refine l_val rfl rfl rfl (r_load_blk rfl Tryz.isAgg3 rfl (hL.get 1 rfl) rfl) ?_
    refine l_val rfl rfl rfl (r_fieldAddr (n := 0) rfl Tryz.underlying46 rfl Tryz.sizeOf3 rfl) ?_
    refine l_val rfl rfl rfl (r_load_blk rfl Tryz.isAgg3 rfl (hL.get 0 rfl) rfl) ?_
    refine l_val rfl rfl rfl (r_neq rfl rfl rfl) ?_
    refine l_nil ?_
    refine c_cond rfl (fun hb => ?_) (fun hb => ?_)
    · have hr31 := hb
      replace hb := of_decide_eq_false (by simpa using hb)
      have hd : doesX st X s t = false := by unfold doesX; rw [if_neg h11, if_neg hb]
      refine c_seq ?_
   
      refine c_ops ?_
      refine l_val rfl rfl rfl (r_assign rfl) ?_
      refine l_nil ?_
      refine c_ret ?_
      exact ⟨ret_bool rfl hd.symm, hE⟩
    · have hr31 := hb
      replace hb := of_decide_eq_true (by simpa using hb)
      have hkk : s.kind = t.kind := hb
      have hd : doesX st X s t = ruleX X s t := by unfold doesX; rw [if_neg h11, if_pos hkk]
      refine c_skip ?_
      refine c_seq ?_
      refine c_seq ?_
   
      refine c_ops ?_
      refine l_val rfl rfl rfl (r_fieldAddr (n := 0) rfl Tryz.underlying46 rfl Tryz.sizeOf3 rfl) ?_
      refine l_val rfl rfl rfl (r_load_blk rfl Tryz.isAgg3 rfl (hL.get 1 rfl) rfl) ?_
      refine l_nil ?_
      refine c_block ?_
      refine c_merge [34, 35, 36, 37] (fun e w => e 34 = .bool (decide (s.kind = 2 ∨ s.kind = 3 ∨ s.kind = 4)) ∧ Has w [.blk b5 (.cells (nodeCells t Bk dk Bl dl).toArray 46 (0, 0)), .blk b4 (.cells (nodeCells s Ak ck Al cl).toArray 46 (0, 0))] ∧ Ext0 w0 w) ?_ ?_
      · refine c_seq ?_
     
        refine c_ops ?_
        refine l_val rfl rfl rfl (r_eql rfl rfl rfl) ?_
        refine l_val rfl rfl rfl (r_assign rfl) ?_
        refine l_nil ?_
        refine c_cond rfl (fun hb => ?_) (fun hb => ?_)
        · have hr34 := hb
          replace hb := of_decide_eq_true hb
          refine c_skip ?_
          refine ⟨by repeat (first | exact Agree.over _ _ _ | exact Agree.refl _ _ | (refine Agree.puto ?_ _ _ rfl) | (refine Agree.put ?_ _ _ rfl) | (refine Agree.sub ?_ rfl)), ?_⟩
          exact ⟨congrArg Value.bool (by simp_all), hL, hE⟩
        · have hr34 := hb
          replace hb := of_decide_eq_false hb
          refine c_seq ?_
       
          refine c_ops ?_
          refine l_val rfl rfl rfl (r_eql rfl rfl rfl) ?_
          refine l_val rfl rfl rfl (r_assign rfl) ?_
          refine l_nil ?_
          refine c_cond rfl (fun hb => ?_) (fun hb => ?_)
          · have hr34' := hb
            replace hb := of_decide_eq_true hb
            refine c_skip ?_
            refine ⟨by repeat (first | exact Agree.over _ _ _ | exact Agree.refl _ _ | (refine Agree.puto ?_ _ _ rfl) | (refine Agree.put ?_ _ _ rfl) | (refine Agree.sub ?_ rfl)), ?_⟩
            exact ⟨congrArg Value.bool (by simp_all), hL, hE⟩
          · have hr34' := hb
            replace hb := of_decide_eq_false hb
         
            refine c_ops ?_
            refine l_val rfl rfl rfl (r_eql rfl rfl rfl) ?_
            refine l_val rfl rfl rfl (r_assign rfl) ?_
            refine l_nil ?_
            refine ⟨by repeat (first | exact Agree.over _ _ _ | exact Agree.refl _ _ | (refine Agree.puto ?_ _ _ rfl) | (refine Agree.put ?_ _ _ rfl) | (refine Agree.sub ?_ rfl)), ?_⟩
            exact ⟨congrArg Value.bool (by simp_all), hL, hE⟩
      rintro e w hI
      obtain ⟨h34, hL, hE⟩ := hI
      refine c_know h34 ?_
      refine c_cond rfl (fun hb => ?_) (fun hb => ?_)
      · have hr34 := hb
        have h234 : s.kind = 2 ∨ s.kind = 3 ∨ s.kind = 4 := by simpa using hb
        have hd2 : doesX st X s t = true := by rw [hd]; unfold ruleX; rw [if_neg (by omega), if_neg (by omega), if_neg (by omega)]
        refine c_seq ?_
     
        refine c_ops ?_
        refine l_val rfl rfl rfl (r_assign rfl) ?_
        refine l_nil ?_
        refine c_ret ?_
        exact ⟨ret_bool rfl hd2.symm, hE⟩
      · have hr34 := hb
        have h234 : ¬ (s.kind = 2 ∨ s.kind = 3 ∨ s.kind = 4) := by simpa using hb
        refine c_seq ?_
     
        refine c_ops ?_
        refine l_val rfl rfl rfl (r_eql rfl rfl rfl) ?_
        refine l_val rfl rfl rfl (r_assign rfl) ?_
        refine l_nil ?_
        refine c_cond rfl (fun hb => ?_) (fun hb => ?_)
        · have hr38 := hb
          replace hb := of_decide_eq_true hb
          have hd2 : doesX st X s t = decide (s.name = t.name) := by rw [hd]; unfold ruleX; rw [if_pos hb]
          refine c_seq ?_
       
          refine c_ops ?_
          refine l_val rfl rfl rfl (r_fieldAddr (n := 0) rfl Tryz.underlying46 rfl Tryz.sizeOf9 rfl) ?_
          refine l_val rfl rfl rfl (r_load_blk rfl Tryz.isAgg9 rfl (hL.get 1 rfl) rfl) ?_
          refine l_val rfl rfl rfl (r_fieldAddr (n := 0) rfl Tryz.underlying46 rfl Tryz.sizeOf9 rfl) ?_
          refine l_val rfl rfl rfl (r_load_blk rfl Tryz.isAgg9 rfl (hL.get 0 rfl) rfl) ?_
          refine l_val rfl rfl rfl (r_seql rfl rfl rfl) ?_
          refine l_val rfl rfl rfl (r_assign rfl) ?_
          refine l_nil ?_
          refine c_ret ?_
          exact ⟨ret_bool rfl hd2.symm, hE⟩
        · have hr38 := hb
          replace hb := of_decide_eq_false hb
          have h5 : ¬ s.kind = 5 := hb
          refine c_seq ?_
       
          refine c_ops ?_
          refine l_val rfl rfl rfl (r_eql rfl rfl rfl) ?_
          refine l_val rfl rfl rfl (r_assign rfl) ?_
          refine l_nil ?_
          refine c_cond rfl (fun hb => ?_) (fun hb => ?_)
          · have hr45 := hb
            replace hb := of_decide_eq_true hb
            have h9 : s.kind = 9 := hb
            have hs1 := hs.var h9
            have ht1 := ht.var (hkk ▸ h9)
            have hs9 := hs.first h9
            have ht9 := ht.first (hkk ▸ h9)
            obtain ⟨Ar, cr, hr0, hr1, hr2⟩ := hG.row (iat s.l 0) hs9.1 hs9.2
            have hd2 : doesX st X s t = if s.num = t.num then X (iat s.l 0, iat t.l 0) else false := by rw [hd]; unfold ruleX; rw [if_neg h5, if_neg (by omega), if_pos h9]
            refine c_seq ?_
         
            refine c_draw mixed (hL) hE ?_
            replace hL := hL.drew
            replace hE := hE.drew
            have hK := hL
            refine h_t 0 rfl rfl (by kernel_rfl) (fun _ _ _ h => h) ⟨hK, hE⟩ rfl (fun W hW => r_fieldAddr (n := 0) rfl Tryz.underlying46 rfl Tryz.sizeOf3 rfl) ?_
            refine h_listed (listed' := #[T',F',F',F',F',F',F',F',F',F',F',F',F',F',F',F',F',F',F',F',F',F',F',F']) (by kernel_rfl) ?_
            refine h_t 1 rfl rfl (by kernel_rfl) (fun _ _ _ h => h) ⟨hK, hE⟩ rfl (fun W hW => r_load_blk rfl Tryz.isAgg3 rfl (hW.1.get 1 rfl) rfl) ?_
            refine h_listed (listed' := #[T',T',F',F',F',F',F',F',F',F',F',F',F',F',F',F',F',F',F',F',F',F',F',F']) (by kernel_rfl) ?_
            refine h_t 2 rfl rfl (by kernel_rfl) (fun _ _ _ h => h) ⟨hK, hE⟩ rfl (fun W hW => r_fieldAddr (n := 0) rfl Tryz.underlying46 rfl Tryz.sizeOf3 rfl) ?_
            refine h_listed (listed' := #[T',T',T',F',F',F',F',F',F',F',F',F',F',F',F',F',F',F',F',F',F',F',F',F']) (by kernel_rfl) ?_
            refine h_t 3 rfl rfl (by kernel_rfl) (fun _ _ _ h => h) ⟨hK, hE⟩ rfl (fun W hW => r_load_blk rfl Tryz.isAgg3 rfl (hW.1.get 0 rfl) rfl) ?_
            refine h_listed (listed' := #[T',T',T',T',F',F',F',F',F',F',F',F',F',F',F',F',F',F',F',F',F',F',F',F']) (by kernel_rfl) ?_
            refine h_t 4 rfl rfl (by kernel_rfl) (fun _ _ _ h => h) ⟨hK, hE⟩ rfl (fun W hW => r_eql rfl rfl rfl) ?_
            refine h_listed (listed' := #[T',T',T',T',T',F',F',F',F',F',F',F',F',F',F',F',F',F',F',F',F',F',F',F']) (by kernel_rfl) ?_
            refine h_t 5 rfl rfl (by kernel_rfl) (fun _ _ _ h => h) ⟨hK, hE⟩ rfl (fun W hW => r_move rfl) ?_
            refine h_listed (listed' := #[T',T',T',T',T',T',F',F',F',F',F',F',F',F',F',F',F',F',F',F',F',F',F',F']) (by kernel_rfl) ?_
            refine h_case 52 rfl (fun hb => ?_) (fun hb => ?_)
            · have hr52 := hb
              replace hb := of_decide_eq_true hb
              rw [if_pos hb] at hd2
              refine h_listed (listed' := #[T',T',T',T',T',T',F',F',F',F',F',F',F',F',F',F',F',F',F',F',F',F',F',F']) (by kernel_rfl) ?_
              refine h_t 6 rfl rfl (by kernel_rfl) (fun _ _ _ h => h) ⟨hK, hE⟩ rfl (fun W hW => r_move rfl) ?_
              refine h_listed (listed' := #[T',T',T',T',T',T',T',F',F',F',F',F',F',F',F',F',F',F',F',F',F',F',F',F']) (by kernel_rfl) ?_
              refine h_t 7 rfl rfl (by kernel_rfl) (fun _ _ _ h => h) ⟨hK, hE⟩ rfl (fun W hW => r_nilCheck rfl rfl) ?_
              refine h_listed (listed' := #[T',T',T',T',T',T',T',T',F',F',F',F',F',F',F',F',F',F',F',F',F',F',F',F']) (by kernel_rfl) ?_
              refine h_t 8 rfl rfl (by kernel_rfl) (fun _ _ _ h => h) ⟨hK, hE⟩ rfl (fun W hW => r_fieldAddr (n := 0) rfl Tryz.underlying65 rfl Tryz.sizeOf63 rfl) ?_
              refine h_listed (listed' := #[T',T',T',T',T',T',T',T',T',F',F',F',F',F',F',F',F',F',F',F',F',F',F',F']) (by kernel_rfl) ?_
              refine h_t 9 rfl rfl (by kernel_rfl) (fun _ _ _ h => h) ⟨hK, hE⟩ rfl (fun W hW => r_load rfl Tryz.isAgg63 rfl (Ext0.cells hW.2 _ _ hG.c2)) ?_
              refine h_listed (listed' := #[T',T',T',T',T',T',T',T',T',T',F',F',F',F',F',F',F',F',F',F',F',F',F',F']) (by kernel_rfl) ?_
              refine h_t 10 rfl rfl (by kernel_rfl) (fun _ _ _ h => h) ⟨hK, hE⟩ rfl (fun W hW => r_fieldAddr (n := 0) rfl Tryz.underlying46 rfl Tryz.sizeOf26 rfl) ?_
              refine h_listed (listed' := #[T',T',T',T',T',T',T',T',T',T',T',F',F',F',F',F',F',F',F',F',F',F',F',F']) (by kernel_rfl) ?_
              refine h_t 11 rfl rfl (by kernel_rfl) (fun _ _ _ h => h) ⟨hK, hE⟩ rfl (fun W hW => r_load_blk rfl Tryz.isAgg26 rfl (hW.1.get 1 rfl) rfl) ?_
              refine h_listed (listed' := #[T',T',T',T',T',T',T',T',T',T',T',T',F',F',F',F',F',F',F',F',F',F',F',F']) (by kernel_rfl) ?_
              refine h_t 12 rfl rfl (by kernel_rfl) (fun _ _ _ h => h) ⟨hK, hE⟩ rfl (fun W hW => r_indexAddr_sl rfl Tryz.underlying26 Tryz.sizeOf3 rfl hsl.is rfl (by decide) (by omega)) ?_
              refine h_listed (listed' := #[T',T',T',T',T',T',T',T',T',T',T',T',T',F',F',F',F',F',F',F',F',F',F',F']) (by kernel_rfl) ?_
              refine h_t 13 rfl rfl (by kernel_rfl) (fun _ _ _ h => h) ⟨hK, hE⟩ rfl (fun W hW => r_load (v := .int .i64 (iat s.l 0)) rfl Tryz.isAgg3 rfl ((hsl.keep RInt.kept (Ext0.cells hW.2)).int 0 (by decide) (by omega))) ?_
              refine h_listed (listed' := #[T',T',T',T',T',T',T',T',T',T',T',T',T',T',F',F',F',F',F',F',F',F',F',F']) (by kernel_rfl) ?_
              refine h_t 14 rfl rfl (by kernel_rfl) (fun _ _ _ h => h) ⟨hK, hE⟩ rfl (fun W hW => r_indexAddr_sl rfl Tryz.underlying63 Tryz.sizeOf62 rfl hG.is rfl hs9.1 hs9.2) ?_
              refine h_listed (listed' := #[T',T',T',T',T',T',T',T',T',T',T',T',T',T',T',F',F',F',F',F',F',F',F',F']) (by kernel_rfl) ?_
              refine h_t 15 rfl rfl (by kernel_rfl) (fun _ _ _ h => h) ⟨hK, hE⟩ rfl (fun W hW => r_load (v := .slice Ar g.length cr) rfl Tryz.isAgg62 rfl (Ext0.cells hW.2 _ _ hr0)) ?_
              refine h_listed (listed' := #[T',T',T',T',T',T',T',T',T',T',T',T',T',T',T',T',F',F',F',F',F',F',F',F']) (by kernel_rfl) ?_
              refine h_t 16 rfl rfl (by kernel_rfl) (fun _ _ _ h => h) ⟨hK, hE⟩ rfl (fun W hW => r_fieldAddr (n := 0) rfl Tryz.underlying46 rfl Tryz.sizeOf26 rfl) ?_
              refine h_listed (listed' := #[T',T',T',T',T',T',T',T',T',T',T',T',T',T',T',T',T',F',F',F',F',F',F',F']) (by kernel_rfl) ?_
              refine h_t 17 rfl rfl (by kernel_rfl) (fun _ _ _ h => h) ⟨hK, hE⟩ rfl (fun W hW => r_load_blk rfl Tryz.isAgg26 rfl (hW.1.get 0 rfl) rfl) ?_
              refine h_listed (listed' := #[T',T',T',T',T',T',T',T',T',T',T',T',T',T',T',T',T',T',F',F',F',F',F',F']) (by kernel_rfl) ?_
              refine h_t 18 rfl rfl (by kernel_rfl) (fun _ _ _ h => h) ⟨hK, hE⟩ rfl (fun W hW => r_indexAddr_sl rfl Tryz.underlying26 Tryz.sizeOf3 rfl htl.is rfl (by decide) (by omega)) ?_
              refine h_listed (listed' := #[T',T',T',T',T',T',T',T',T',T',T',T',T',T',T',T',T',T',T',F',F',F',F',F']) (by kernel_rfl) ?_
              refine h_t 19 rfl rfl (by kernel_rfl) (fun _ _ _ h => h) ⟨hK, hE⟩ rfl (fun W hW => r_load (v := .int .i64 (iat t.l 0)) rfl Tryz.isAgg3 rfl ((htl.keep RInt.kept (Ext0.cells hW.2)).int 0 (by decide) (by omega))) ?_
              refine h_listed (listed' := #[T',T',T',T',T',T',T',T',T',T',T',T',T',T',T',T',T',T',T',T',F',F',F',F']) (by kernel_rfl) ?_
              refine h_t 20 rfl rfl (by kernel_rfl) (fun _ _ _ h => h) ⟨hK, hE⟩ rfl (fun W hW => r_indexAddr_sl rfl Tryz.underlying62 Tryz.sizeOf4 rfl hr1 rfl ht9.1 ht9.2) ?_
              refine h_listed (listed' := #[T',T',T',T',T',T',T',T',T',T',T',T',T',T',T',T',T',T',T',T',T',F',F',F']) (by kernel_rfl) ?_
              refine h_t 21 rfl rfl (by kernel_rfl) (fun _ _ _ h => h) ⟨hK, hE⟩ rfl (fun W hW => r_load (v := .bool (X (iat s.l 0, (iat t.l 0)))) rfl Tryz.isAgg4 rfl (Ext0.cells hW.2 _ _ (hr2 (iat t.l 0) ht9.1 ht9.2))) ?_
              refine h_listed (listed' := #[T',T',T',T',T',T',T',T',T',T',T',T',T',T',T',T',T',T',T',T',T',T',F',F']) (by kernel_rfl) ?_
              refine h_t 22 rfl rfl (by kernel_rfl) (fun _ _ _ h => h) ⟨hK, hE⟩ rfl (fun W hW => r_pick rfl rfl) ?_
              refine h_listed (listed' := #[T',T',T',T',T',T',T',T',T',T',T',T',T',T',T',T',T',T',T',T',T',T',T',F']) (by kernel_rfl) ?_
              refine h_t 23 rfl rfl (by kernel_rfl) (fun _ _ _ h => h) ⟨hK, hE⟩ rfl (fun W hW => r_assign rfl) ?_
              refine h_listed (listed' := #[T',T',T',T',T',T',T',T',T',T',T',T',T',T',T',T',T',T',T',T',T',T',T',T']) (by kernel_rfl) ?_
              refine h_done (by kernel_rfl) ?_
              refine c_ret ?_
              exact ⟨ret_bool rfl hd2.symm, hE⟩
            · have hr52 := hb
              replace hb := of_decide_eq_false hb
              rw [if_neg hb] at hd2
              refine h_listed (listed' := #[T',T',T',T',T',T',F',F',F',F',F',F',F',F',F',F',F',F',F',F',F',F',F',F']) (by kernel_rfl) ?_
              refine h_n 6 rfl rfl (by kernel_rfl) (fun _ _ _ h => h) ⟨hK, hE⟩ rfl ?_
              refine h_listed (listed' := #[T',T',T',T',T',T',T',F',F',F',F',F',F',F',F',F',F',F',F',F',F',F',F',F']) (by kernel_rfl) ?_
              refine h_n 7 rfl rfl (by kernel_rfl) (fun _ _ _ h => h) ⟨hK, hE⟩ rfl ?_
              refine h_listed (listed' := #[T',T',T',T',T',T',T',T',F',F',F',F',F',F',F',F',F',F',F',F',F',F',F',F']) (by kernel_rfl) ?_
              refine h_n 8 rfl rfl (by kernel_rfl) (fun _ _ _ h => h) ⟨hK, hE⟩ rfl ?_
              refine h_listed (listed' := #[T',T',T',T',T',T',T',T',T',F',F',F',F',F',F',F',F',F',F',F',F',F',F',F']) (by kernel_rfl) ?_
              refine h_n 9 rfl rfl (by kernel_rfl) (fun _ _ _ h => h) ⟨hK, hE⟩ rfl ?_
              refine h_listed (listed' := #[T',T',T',T',T',T',T',T',T',T',F',F',F',F',F',F',F',F',F',F',F',F',F',F']) (by kernel_rfl) ?_
              refine h_n 10 rfl rfl (by kernel_rfl) (fun _ _ _ h => h) ⟨hK, hE⟩ rfl ?_
              refine h_listed (listed' := #[T',T',T',T',T',T',T',T',T',T',T',F',F',F',F',F',F',F',F',F',F',F',F',F']) (by kernel_rfl) ?_
              refine h_n 11 rfl rfl (by kernel_rfl) (fun _ _ _ h => h) ⟨hK, hE⟩ rfl ?_
              refine h_listed (listed' := #[T',T',T',T',T',T',T',T',T',T',T',T',F',F',F',F',F',F',F',F',F',F',F',F']) (by kernel_rfl) ?_
              refine h_n 12 rfl rfl (by kernel_rfl) (fun _ _ _ h => h) ⟨hK, hE⟩ rfl ?_
              refine h_listed (listed' := #[T',T',T',T',T',T',T',T',T',T',T',T',T',F',F',F',F',F',F',F',F',F',F',F']) (by kernel_rfl) ?_
              refine h_n 13 rfl rfl (by kernel_rfl) (fun _ _ _ h => h) ⟨hK, hE⟩ rfl ?_
              refine h_listed (listed' := #[T',T',T',T',T',T',T',T',T',T',T',T',T',T',F',F',F',F',F',F',F',F',F',F']) (by kernel_rfl) ?_
              refine h_n 14 rfl rfl (by kernel_rfl) (fun _ _ _ h => h) ⟨hK, hE⟩ rfl ?_
              refine h_listed (listed' := #[T',T',T',T',T',T',T',T',T',T',T',T',T',T',T',F',F',F',F',F',F',F',F',F']) (by kernel_rfl) ?_
              refine h_n 15 rfl rfl (by kernel_rfl) (fun _ _ _ h => h) ⟨hK, hE⟩ rfl ?_
              refine h_listed (listed' := #[T',T',T',T',T',T',T',T',T',T',T',T',T',T',T',T',F',F',F',F',F',F',F',F']) (by kernel_rfl) ?_
              refine h_n 16 rfl rfl (by kernel_rfl) (fun _ _ _ h => h) ⟨hK, hE⟩ rfl ?_
              refine h_listed (listed' := #[T',T',T',T',T',T',T',T',T',T',T',T',T',T',T',T',T',F',F',F',F',F',F',F']) (by kernel_rfl) ?_
              refine h_n 17 rfl rfl (by kernel_rfl) (fun _ _ _ h => h) ⟨hK, hE⟩ rfl ?_
              refine h_listed (listed' := #[T',T',T',T',T',T',T',T',T',T',T',T',T',T',T',T',T',T',F',F',F',F',F',F']) (by kernel_rfl) ?_
              refine h_n 18 rfl rfl (by kernel_rfl) (fun _ _ _ h => h) ⟨hK, hE⟩ rfl ?_
              refine h_listed (listed' := #[T',T',T',T',T',T',T',T',T',T',T',T',T',T',T',T',T',T',T',F',F',F',F',F']) (by kernel_rfl) ?_
              refine h_n 19 rfl rfl (by kernel_rfl) (fun _ _ _ h => h) ⟨hK, hE⟩ rfl ?_
              refine h_listed (listed' := #[T',T',T',T',T',T',T',T',T',T',T',T',T',T',T',T',T',T',T',T',F',F',F',F']) (by kernel_rfl) ?_
              refine h_n 20 rfl rfl (by kernel_rfl) (fun _ _ _ h => h) ⟨hK, hE⟩ rfl ?_
              refine h_listed (listed' := #[T',T',T',T',T',T',T',T',T',T',T',T',T',T',T',T',T',T',T',T',T',F',F',F']) (by kernel_rfl) ?_
              refine h_n 21 rfl rfl (by kernel_rfl) (fun _ _ _ h => h) ⟨hK, hE⟩ rfl ?_
              refine h_listed (listed' := #[T',T',T',T',T',T',T',T',T',T',T',T',T',T',T',T',T',T',T',T',T',T',F',F']) (by kernel_rfl) ?_
              refine h_t 22 rfl rfl (by kernel_rfl) (fun _ _ _ h => h) ⟨hK, hE⟩ rfl (fun W hW => r_pick rfl rfl) ?_
              refine h_listed (listed' := #[T',T',T',T',T',T',T',T',T',T',T',T',T',T',T',T',T',T',T',T',T',T',T',F']) (by kernel_rfl) ?_
              refine h_t 23 rfl rfl (by kernel_rfl) (fun _ _ _ h => h) ⟨hK, hE⟩ rfl (fun W hW => r_assign rfl) ?_
              refine h_listed (listed' := #[T',T',T',T',T',T',T',T',T',T',T',T',T',T',T',T',T',T',T',T',T',T',T',T']) (by kernel_rfl) ?_
              refine h_done (by kernel_rfl) ?_
              refine c_ret ?_
              exact ⟨ret_bool rfl hd2.symm, hE⟩
          · have hr45 := hb
            replace hb := of_decide_eq_false hb
            have h7 : s.kind = 7 := by rcases hs.plain with k | k | k | k | k | ⟨k, _⟩ | ⟨k, _⟩ <;> first | exact k | omega | exact absurd (.inl k) h11 | exact absurd k hb
            have hd2 : doesX st X s t = recX X s (t.keys.zip t.l) := by rw [hd]; unfold ruleX; rw [if_neg h5, if_pos h7]
            refine c_skip ?_
            refine c_seq ?_
         
            refine c_ops ?_
            refine l_val rfl rfl rfl (r_move rfl) ?_
            refine l_val rfl rfl rfl (r_load_blk_agg rfl Tryz.isAgg46 Tryz.sizeOf46 rfl (hL.get 1 rfl) rfl) ?_
            refine l_val rfl rfl rfl (r_load_blk_agg rfl Tryz.isAgg46 Tryz.sizeOf46 rfl (hL.get 0 rfl) rfl) ?_
            refine l_by rfl rfl rfl (r_call rfl rfl Tryz.func114 rfl rfl) (records_rcalls _ (hG.keep (Ext0.cells hE)) s Ak ck Al cl (hsk.keep RStr.kept (Ext0.cells hE)) (hsl.keep RInt.kept (Ext0.cells hE)) t Bk dk Bl dl (htk.keep RStr.kept (Ext0.cells hE)) (htl.keep RInt.kept (Ext0.cells hE)) hs ht (hs.rcd h7) (ht.rcd (hkk ▸ h7))) ?_
            rintro _ w ⟨rfl, hX⟩
            replace hL := hL.ext0 hX
            replace hE := hE.step0 hX
            refine ⟨_, rfl, ?_⟩
            refine l_val rfl rfl rfl (r_assign rfl) ?_
            refine l_nil ?_
            refine c_ret ?_
            exact ⟨ret_bool rfl hd2.symm, hE⟩
end
end Go.Proofs.YtndophlnapjkhaaGreatDoor.Vc
namespace Go.Proofs.YtndophlnapjkhaaGreatDoor.Vc
open Go Go.RowKit
set_option linter.unusedVariables false
set_option linter.unusedSimpArgs false
theorem findX_step {α : Type} (p : α → Bool) (l : List α) (k : Nat) (x : α) (h : l[k]? = some x) : findX p k (l.drop k) = if p x then some k else findX p (k + 1) (l.drop (k + 1)) := by
  have hk : k < l.length := (List.getElem?_eq_some_iff.1 h).1
  rw [List.drop_eq_getElem_cons hk]
  have : l[k] = x := (List.getElem?_eq_some_iff.1 h).2
  rw [this, findX]
theorem findX_end {α : Type} (p : α → Bool) (l : List α) (k : Nat) (h : l.length ≤ k) : findX p k (l.drop k) = none := by
  rw [List.drop_eq_nil_of_le h]
  rfl
section
variable {g : List GNode} {xb : Nat} {Ag : Option Addr} {cg : Nat} {st : Bool} {Ai : Option Addr} {ci : Nat} {X : Int × Int → Bool}
theorem pickX_hit {a b : Int} {k : Nat} (h : findX (fun k => doesX st X (gat g a) (gat g k)) 0 (membersG g b) = some k) : pickX g st X a b = k := by
  unfold pickX
  rw [h]
theorem pickX_miss {a b : Int} (h : findX (fun k => doesX st X (gat g a) (gat g k)) 0 (membersG g b) = none) : pickX g st X a b = if (gat g a).kind = 9 then (if X (iat (gat g a).l 0, b) then -1 else -2) else -2 := by
  unfold pickX
  rw [h]
theorem pick_rcalls (w0 : World) (hG : Grid w0 xb Ag g.length cg st Ai ci X) (hg : Nodes w0 Ag cg g) (hok : GraphOk g) (a b : Int) (ha : 0 ≤ a) (han : a < g.length) (ha8 : (gat g a).kind ≠ 8) (hb0 : 0 ≤ b) (hbn : b < g.length) :
    Calls Tryz.prog 83 [.pointer (some ⟨xb, 0, none⟩), .int .i64 a, .int .i64 b].toArray w0 fun en w' => en = .returned (.int .i64 (pickX g st X a b)) ∧ Ext0 w0 w' := by
  have hE : Ext0 w0 w0 := Ext.refl _ _
  have hL : Has w0 [] := trivial
  obtain ⟨Ak, ck, Al, cl, hcell, hsk, hsl⟩ := hg.node a ha han
  have hs := SideOk.of hok (gat_mem' ha han) ha8
  have hgi := hg.is
  refine calls [6] Tryz.func83 rfl rfl rfl rfl ?_
  refine c_seq ?_
  refine c_ops ?_
  refine l_val rfl rfl rfl (r_assign rfl) ?_
  refine l_nil ?_
  refine c_seq ?_
  refine c_ops ?_
  refine l_val rfl rfl rfl (r_move rfl) ?_
  refine l_val rfl rfl rfl (r_nilCheck rfl rfl) ?_
  refine l_val rfl rfl rfl (r_fieldAddr (n := 0) rfl Tryz.underlying65 rfl Tryz.sizeOf22 rfl) ?_
  refine l_val rfl rfl rfl (r_load rfl Tryz.isAgg22 rfl (Ext0.cells hE _ _ hG.c0)) ?_
  refine l_val rfl rfl rfl (r_move rfl) ?_
  refine l_by rfl rfl rfl (r_call rfl rfl Tryz.func63 rfl rfl) (rMembers_calls _ Ag cg g (hg.keep RNode.kept (Ext0.cells hE)) hok.fits b) ?_
  rintro _ w ⟨v, rfl, hrow, hX⟩
  replace hE := hE.trans hX
  obtain ⟨Am, cm, rfl, hmem, _⟩ := Sl.ofInts hrow
  clear hrow
  obtain ⟨wa, hwa⟩ : ∃ x, x = w := ⟨_, rfl⟩
  rw [← hwa] at hmem hE
  have hE0 : Ext0 w0 wa := hE
  replace hE : Ext0 wa w := hwa ▸ Ext.refl _ _
  replace hG := hG.keep (Ext0.cells hE0)
  replace hg := hg.keep RNode.kept (Ext0.cells hE0)
  have hL : Has w [] := trivial
  replace hsk := hsk.keep RStr.kept (Ext0.cells hE0)
  replace hsl := hsl.keep RInt.kept (Ext0.cells hE0)
  have hcell : ∀ j v, (nodeCells (gat g a) Ak ck Al cl)[j]? = some v → wa.cell? (((adr Ag).add (a.toNat * 5)).add j) = some v := fun j v hj => Ext0.cells hE0 _ _ (hcell j v hj)
  refine ⟨_, rfl, ?_⟩
  refine l_val rfl rfl rfl (r_assign rfl) ?_
  refine l_nil ?_
  refine c_seq ?_
  refine c_seq ?_
  refine c_ops ?_
  refine l_val rfl rfl rfl (r_assign rfl) ?_
  refine l_nil ?_
  refine c_block ?_
  refine c_loop [6, 8, 15, 16, 17, 18, 19, 20, 21, 22, 23, 24, 25, 26, 27, 28, 29, 30, 31, 32, 33, 34, 35, 36, 37, 38, 39, 40] (fun m1 e w => ∃ (k : Nat), k ≤ (membersG g b).length ∧ m1 = (membersG g b).length - k ∧ e 8 = .int .i64 (k : Nat) ∧ findX (fun k => doesX st X (gat g a) (gat g k)) 0 (membersG g b) = findX (fun k => doesX st X (gat g a) (gat g k)) k ((membersG g b).drop k) ∧ Ext0 wa w) ((membersG g b).length) ?_ ?_
  · exact ⟨0, Nat.zero_le _, rfl, rfl, rfl, hE⟩
  intro m1 e w hI
  obtain ⟨k, hkl, hkm, h8s, hfind, hE⟩ := hI
  refine c_know (t := 8) (by exact h8s) ?_
  have hL : Has w [] := trivial
  refine c_seq ?_
  refine c_seq ?_
  refine c_ops ?_
  refine l_val rfl rfl rfl (r_move rfl) ?_
  refine l_val rfl rfl rfl (r_move rfl) ?_
  refine l_val rfl rfl rfl (r_len rfl Tryz.underlying26 rfl) ?_
  refine l_val rfl rfl rfl (r_lss rfl rfl rfl) ?_
  refine l_nil ?_
  refine c_cond rfl (fun hb => ?_) (fun hb => ?_)
  · have hr18 := hb
    replace hb := of_decide_eq_true hb
    have hklt : k < (membersG g b).length := by omega
    have hk := iat_nat hklt
    have hin := hok.members (List.mem_of_getElem? hk)
    obtain ⟨Bk, dk, Bl, dl, hcell2, htk, htl⟩ := hg.node (iat (membersG g b) k) hin.1 hin.2.1
    have hstep := findX_step (fun k => doesX st X (gat g a) (gat g k)) (membersG g b) k _ hk
    refine c_skip ?_
    refine c_seq ?_
    refine c_block ?_
    refine c_seq ?_
 
    refine c_draw mixed (hL) hE ?_
    replace hL := hL.drew
    replace hE := hE.drew
    have hK := hL
    refine h_t 0 rfl rfl (by kernel_rfl) (fun _ _ _ h => h) ⟨hK, hE⟩ rfl (fun W hW => r_move rfl) ?_
    refine h_listed (listed' := #[T',F',F',F',F',F',F',F',F',F',F',F',F',F',F',F',F',F',F']) (by kernel_rfl) ?_
    refine h_t 1 rfl rfl (by kernel_rfl) (fun _ _ _ h => h) ⟨hK, hE⟩ rfl (fun W hW => r_move rfl) ?_
    refine h_listed (listed' := #[T',T',F',F',F',F',F',F',F',F',F',F',F',F',F',F',F',F',F']) (by kernel_rfl) ?_
    refine h_t 2 rfl rfl (by kernel_rfl) (fun _ _ _ h => h) ⟨hK, hE⟩ rfl (fun W hW => r_nilCheck rfl rfl) ?_
    refine h_listed (listed' := #[T',T',T',F',F',F',F',F',F',F',F',F',F',F',F',F',F',F',F']) (by kernel_rfl) ?_
    refine h_t 3 rfl rfl (by kernel_rfl) (fun _ _ _ h => h) ⟨hK, hE⟩ rfl (fun W hW => r_fieldAddr (n := 0) rfl Tryz.underlying65 rfl Tryz.sizeOf22 rfl) ?_
    refine h_listed (listed' := #[T',T',T',T',F',F',F',F',F',F',F',F',F',F',F',F',F',F',F']) (by kernel_rfl) ?_
    refine h_t 4 rfl rfl (by kernel_rfl) (fun _ _ _ h => h) ⟨hK, hE⟩ rfl (fun W hW => r_load rfl Tryz.isAgg22 rfl (Ext0.cells hW.2 _ _ hG.c0)) ?_
    refine h_listed (listed' := #[T',T',T',T',T',F',F',F',F',F',F',F',F',F',F',F',F',F',F']) (by kernel_rfl) ?_
    refine h_t 5 rfl rfl (by kernel_rfl) (fun _ _ _ h => h) ⟨hK, hE⟩ rfl (fun W hW => r_move rfl) ?_
    refine h_listed (listed' := #[T',T',T',T',T',T',F',F',F',F',F',F',F',F',F',F',F',F',F']) (by kernel_rfl) ?_
    refine h_t 6 rfl rfl (by kernel_rfl) (fun _ _ _ h => h) ⟨hK, hE⟩ rfl (fun W hW => r_indexAddr_sl rfl Tryz.underlying22 Tryz.sizeOf46 rfl hgi rfl ha han) ?_
    refine h_listed (listed' := #[T',T',T',T',T',T',T',F',F',F',F',F',F',F',F',F',F',F',F']) (by kernel_rfl) ?_
    refine h_t 7 rfl rfl (by kernel_rfl) (fun _ _ _ h => h) ⟨hK, hE⟩ rfl (fun W hW => r_load_agg (vs := nodeCells (gat g a) Ak ck Al cl) rfl Tryz.isAgg46 Tryz.sizeOf46 rfl (fun j v hj => (Ext0.cells hW.2) _ _ (hcell j v hj))) ?_
    refine h_listed (listed' := #[T',T',T',T',T',T',T',T',F',F',F',F',F',F',F',F',F',F',F']) (by kernel_rfl) ?_
    refine h_t 8 rfl rfl (by kernel_rfl) (fun _ _ _ h => h) ⟨hK, hE⟩ rfl (fun W hW => r_move rfl) ?_
    refine h_listed (listed' := #[T',T',T',T',T',T',T',T',T',F',F',F',F',F',F',F',F',F',F']) (by kernel_rfl) ?_
    refine h_t 9 rfl rfl (by kernel_rfl) (fun _ _ _ h => h) ⟨hK, hE⟩ rfl (fun W hW => r_nilCheck rfl rfl) ?_
    refine h_listed (listed' := #[T',T',T',T',T',T',T',T',T',T',F',F',F',F',F',F',F',F',F']) (by kernel_rfl) ?_
    refine h_t 10 rfl rfl (by kernel_rfl) (fun _ _ _ h => h) ⟨hK, hE⟩ rfl (fun W hW => r_fieldAddr (n := 0) rfl Tryz.underlying65 rfl Tryz.sizeOf22 rfl) ?_
    refine h_listed (listed' := #[T',T',T',T',T',T',T',T',T',T',T',F',F',F',F',F',F',F',F']) (by kernel_rfl) ?_
    refine h_t 11 rfl rfl (by kernel_rfl) (fun _ _ _ h => h) ⟨hK, hE⟩ rfl (fun W hW => r_load rfl Tryz.isAgg22 rfl (Ext0.cells hW.2 _ _ hG.c0)) ?_
    refine h_listed (listed' := #[T',T',T',T',T',T',T',T',T',T',T',T',F',F',F',F',F',F',F']) (by kernel_rfl) ?_
    refine h_t 12 rfl rfl (by kernel_rfl) (fun _ _ _ h => h) ⟨hK, hE⟩ rfl (fun W hW => r_move rfl) ?_
    refine h_listed (listed' := #[T',T',T',T',T',T',T',T',T',T',T',T',T',F',F',F',F',F',F']) (by kernel_rfl) ?_
    refine h_t 13 rfl rfl (by kernel_rfl) (fun _ _ _ h => h) ⟨hK, hE⟩ rfl (fun W hW => r_move rfl) ?_
    refine h_listed (listed' := #[T',T',T',T',T',T',T',T',T',T',T',T',T',T',F',F',F',F',F']) (by kernel_rfl) ?_
    refine h_t 14 rfl rfl (by kernel_rfl) (fun _ _ _ h => h) ⟨hK, hE⟩ rfl (fun W hW => r_indexAddr_sl rfl Tryz.underlying26 Tryz.sizeOf3 rfl hmem.is rfl (by omega) (by omega)) ?_
    refine h_listed (listed' := #[T',T',T',T',T',T',T',T',T',T',T',T',T',T',T',F',F',F',F']) (by kernel_rfl) ?_
    refine h_t 15 rfl rfl (by kernel_rfl) (fun _ _ _ h => h) ⟨hK, hE⟩ rfl (fun W hW => r_load (v := .int .i64 (iat (membersG g b) k)) rfl Tryz.isAgg3 rfl ((hmem.keep RInt.kept (Ext0.cells hW.2)).int k (by omega) (by omega))) ?_
    refine h_listed (listed' := #[T',T',T',T',T',T',T',T',T',T',T',T',T',T',T',T',F',F',F']) (by kernel_rfl) ?_
    refine h_t 16 rfl rfl (by kernel_rfl) (fun _ _ _ h => h) ⟨hK, hE⟩ rfl (fun W hW => r_indexAddr_sl rfl Tryz.underlying22 Tryz.sizeOf46 rfl hgi rfl hin.1 hin.2.1) ?_
    refine h_listed (listed' := #[T',T',T',T',T',T',T',T',T',T',T',T',T',T',T',T',T',F',F']) (by kernel_rfl) ?_
    refine h_t 17 rfl rfl (by kernel_rfl) (fun _ _ _ h => h) ⟨hK, hE⟩ rfl (fun W hW => r_load_agg (vs := nodeCells (gat g (iat (membersG g b) k)) Bk dk Bl dl) rfl Tryz.isAgg46 Tryz.sizeOf46 rfl (fun j v hj => (Ext0.cells hW.2) _ _ (hcell2 j v hj))) ?_
    refine h_listed (listed' := #[T',T',T',T',T',T',T',T',T',T',T',T',T',T',T',T',T',T',F']) (by kernel_rfl) ?_
    refine h_by 18 rfl rfl (by kernel_rfl) rfl (r_call rfl rfl Tryz.func101 rfl rfl) (does_rcalls _ (hG.keep (Ext0.cells hE)) (gat g a) Ak ck Al cl (hsk.keep RStr.kept (Ext0.cells hE)) (hsl.keep RInt.kept (Ext0.cells hE)) (gat g (iat (membersG g b) k)) Bk dk Bl dl (htk.keep RStr.kept (Ext0.cells hE)) (htl.keep RInt.kept (Ext0.cells hE)) hs (SideOk.of hok (gat_mem' hin.1 hin.2.1) hin.2.2)) ?_
    rintro _ w ⟨rfl, hX⟩
    replace hL := hL.ext0 hX
    replace hE := hE.step0 hX
    have hK := hL
    refine ⟨_, rfl, ⟨hK, hE⟩, ?_⟩
    refine h_listed (listed' := #[T',T',T',T',T',T',T',T',T',T',T',T',T',T',T',T',T',T',T']) (by kernel_rfl) ?_
    refine h_done (by kernel_rfl) ?_
    refine c_cond rfl (fun hb => ?_) (fun hb => ?_)
    · have hr39 := hb
      refine c_seq ?_
   
      refine c_ops ?_
      refine l_val rfl rfl rfl (r_move rfl) ?_
      refine l_val rfl rfl rfl (r_assign rfl) ?_
      refine l_nil ?_
      refine c_ret ?_
      exact ⟨ret_int rfl (pickX_hit (by rw [hfind, hstep, hb]; rfl)).symm, hE0.trans hE⟩
    · have hr39 := hb
      refine c_skip ?_
   
      refine c_ops ?_
      refine l_val rfl rfl rfl (r_move rfl) ?_
      refine l_val rfl rfl rfl (r_add rfl rfl rfl) ?_
      refine l_val rfl rfl rfl (r_assign rfl) ?_
      refine l_nil ?_
      refine ⟨by repeat (first | exact Agree.over _ _ _ | exact Agree.refl _ _ | (refine Agree.puto ?_ _ _ rfl) | (refine Agree.put ?_ _ _ rfl) | (refine Agree.sub ?_ rfl)), ?_⟩
      exact ⟨(membersG g b).length - (k + 1), by omega, k + 1, by omega, rfl, by show Value.int .i64 (IntKind.i64.wrap ((k : Int) + 1)) = _; rw [wrap_succ hklt hmem.max], by rw [hfind, hstep, hb]; rfl, hE⟩
  · have hr18 := hb
    replace hb := of_decide_eq_false hb
    have hmiss := pickX_miss (hfind.trans (findX_end _ _ _ (by omega)))
    refine c_exit ?_
    refine c_seq ?_
    refine c_seq ?_
 
    refine c_draw mixed (hL) hE ?_
    replace hL := hL.drew
    replace hE := hE.drew
    have hK := hL
    refine h_t 0 rfl rfl (by kernel_rfl) (fun _ _ _ h => h) ⟨hK, hE⟩ rfl (fun W hW => r_move rfl) ?_
    refine h_listed (listed' := #[T',F',F',F',F',F',F',F',F',F',F',F',F',F',F',F',F',F',F',F',F',F',F',F',F',F',F',F',F',F']) (by kernel_rfl) ?_
    refine h_t 1 rfl rfl (by kernel_rfl) (fun _ _ _ h => h) ⟨hK, hE⟩ rfl (fun W hW => r_nilCheck rfl rfl) ?_
    refine h_listed (listed' := #[T',T',F',F',F',F',F',F',F',F',F',F',F',F',F',F',F',F',F',F',F',F',F',F',F',F',F',F',F',F']) (by kernel_rfl) ?_
    refine h_t 2 rfl rfl (by kernel_rfl) (fun _ _ _ h => h) ⟨hK, hE⟩ rfl (fun W hW => r_fieldAddr (n := 0) rfl Tryz.underlying65 rfl Tryz.sizeOf22 rfl) ?_
    refine h_listed (listed' := #[T',T',T',F',F',F',F',F',F',F',F',F',F',F',F',F',F',F',F',F',F',F',F',F',F',F',F',F',F',F']) (by kernel_rfl) ?_
    refine h_t 3 rfl rfl (by kernel_rfl) (fun _ _ _ h => h) ⟨hK, hE⟩ rfl (fun W hW => r_load rfl Tryz.isAgg22 rfl (Ext0.cells hW.2 _ _ hG.c0)) ?_
    refine h_listed (listed' := #[T',T',T',T',F',F',F',F',F',F',F',F',F',F',F',F',F',F',F',F',F',F',F',F',F',F',F',F',F',F']) (by kernel_rfl) ?_
    refine h_t 4 rfl rfl (by kernel_rfl) (fun _ _ _ h => h) ⟨hK, hE⟩ rfl (fun W hW => r_move rfl) ?_
    refine h_listed (listed' := #[T',T',T',T',T',F',F',F',F',F',F',F',F',F',F',F',F',F',F',F',F',F',F',F',F',F',F',F',F',F']) (by kernel_rfl) ?_
    refine h_t 5 rfl rfl (by kernel_rfl) (fun _ _ _ h => h) ⟨hK, hE⟩ rfl (fun W hW => r_indexAddr_sl rfl Tryz.underlying22 Tryz.sizeOf46 rfl hgi rfl ha han) ?_
    refine h_listed (listed' := #[T',T',T',T',T',T',F',F',F',F',F',F',F',F',F',F',F',F',F',F',F',F',F',F',F',F',F',F',F',F']) (by kernel_rfl) ?_
    refine h_t 6 rfl rfl (by kernel_rfl) (fun _ _ _ h => h) ⟨hK, hE⟩ rfl (fun W hW => r_fieldAddr (n := 0) rfl Tryz.underlying46 rfl Tryz.sizeOf3 rfl) ?_
    refine h_listed (listed' := #[T',T',T',T',T',T',T',F',F',F',F',F',F',F',F',F',F',F',F',F',F',F',F',F',F',F',F',F',F',F']) (by kernel_rfl) ?_
    refine h_t 7 rfl rfl (by kernel_rfl) (fun _ _ _ h => h) ⟨hK, hE⟩ rfl (fun W hW => r_load rfl Tryz.isAgg3 rfl (Ext0.cells hW.2 _ _ (hcell 0 _ rfl))) ?_
    refine h_listed (listed' := #[T',T',T',T',T',T',T',T',F',F',F',F',F',F',F',F',F',F',F',F',F',F',F',F',F',F',F',F',F',F']) (by kernel_rfl) ?_
    refine h_t 8 rfl rfl (by kernel_rfl) (fun _ _ _ h => h) ⟨hK, hE⟩ rfl (fun W hW => r_eql rfl rfl rfl) ?_
    refine h_listed (listed' := #[T',T',T',T',T',T',T',T',T',F',F',F',F',F',F',F',F',F',F',F',F',F',F',F',F',F',F',F',F',F']) (by kernel_rfl) ?_
    refine h_t 9 rfl rfl (by kernel_rfl) (fun _ _ _ h => h) ⟨hK, hE⟩ rfl (fun W hW => r_move rfl) ?_
    refine h_listed (listed' := #[T',T',T',T',T',T',T',T',T',T',F',F',F',F',F',F',F',F',F',F',F',F',F',F',F',F',F',F',F',F']) (by kernel_rfl) ?_
    refine h_case 50 rfl (fun hb => ?_) (fun hb => ?_)
    · have hr50 := hb
      replace hb := of_decide_eq_true hb
      have h9 : (gat g a).kind = 9 := hb
      have hs9 := hs.first h9
      obtain ⟨Ar, cr, hr0, hr1, hr2⟩ := hG.row (iat (gat g a).l 0) hs9.1 hs9.2
      refine h_listed (listed' := #[T',T',T',T',T',T',T',T',T',T',F',F',F',F',F',F',F',F',F',F',F',F',F',F',F',F',F',F',F',F']) (by kernel_rfl) ?_
      refine h_t 10 rfl rfl (by kernel_rfl) (fun _ _ _ h => h) ⟨hK, hE⟩ rfl (fun W hW => r_move rfl) ?_
      refine h_listed (listed' := #[T',T',T',T',T',T',T',T',T',T',T',F',F',F',F',F',F',F',F',F',F',F',F',F',F',F',F',F',F',F']) (by kernel_rfl) ?_
      refine h_t 11 rfl rfl (by kernel_rfl) (fun _ _ _ h => h) ⟨hK, hE⟩ rfl (fun W hW => r_nilCheck rfl rfl) ?_
      refine h_listed (listed' := #[T',T',T',T',T',T',T',T',T',T',T',T',F',F',F',F',F',F',F',F',F',F',F',F',F',F',F',F',F',F']) (by kernel_rfl) ?_
      refine h_t 12 rfl rfl (by kernel_rfl) (fun _ _ _ h => h) ⟨hK, hE⟩ rfl (fun W hW => r_fieldAddr (n := 0) rfl Tryz.underlying65 rfl Tryz.sizeOf63 rfl) ?_
      refine h_listed (listed' := #[T',T',T',T',T',T',T',T',T',T',T',T',T',F',F',F',F',F',F',F',F',F',F',F',F',F',F',F',F',F']) (by kernel_rfl) ?_
      refine h_t 13 rfl rfl (by kernel_rfl) (fun _ _ _ h => h) ⟨hK, hE⟩ rfl (fun W hW => r_load rfl Tryz.isAgg63 rfl (Ext0.cells hW.2 _ _ hG.c2)) ?_
      refine h_listed (listed' := #[T',T',T',T',T',T',T',T',T',T',T',T',T',T',F',F',F',F',F',F',F',F',F',F',F',F',F',F',F',F']) (by kernel_rfl) ?_
      refine h_t 14 rfl rfl (by kernel_rfl) (fun _ _ _ h => h) ⟨hK, hE⟩ rfl (fun W hW => r_move rfl) ?_
      refine h_listed (listed' := #[T',T',T',T',T',T',T',T',T',T',T',T',T',T',T',F',F',F',F',F',F',F',F',F',F',F',F',F',F',F']) (by kernel_rfl) ?_
      refine h_t 15 rfl rfl (by kernel_rfl) (fun _ _ _ h => h) ⟨hK, hE⟩ rfl (fun W hW => r_nilCheck rfl rfl) ?_
      refine h_listed (listed' := #[T',T',T',T',T',T',T',T',T',T',T',T',T',T',T',T',F',F',F',F',F',F',F',F',F',F',F',F',F',F']) (by kernel_rfl) ?_
      refine h_t 16 rfl rfl (by kernel_rfl) (fun _ _ _ h => h) ⟨hK, hE⟩ rfl (fun W hW => r_fieldAddr (n := 0) rfl Tryz.underlying65 rfl Tryz.sizeOf22 rfl) ?_
      refine h_listed (listed' := #[T',T',T',T',T',T',T',T',T',T',T',T',T',T',T',T',T',F',F',F',F',F',F',F',F',F',F',F',F',F']) (by kernel_rfl) ?_
      refine h_t 17 rfl rfl (by kernel_rfl) (fun _ _ _ h => h) ⟨hK, hE⟩ rfl (fun W hW => r_load rfl Tryz.isAgg22 rfl (Ext0.cells hW.2 _ _ hG.c0)) ?_
      refine h_listed (listed' := #[T',T',T',T',T',T',T',T',T',T',T',T',T',T',T',T',T',T',F',F',F',F',F',F',F',F',F',F',F',F']) (by kernel_rfl) ?_
      refine h_t 18 rfl rfl (by kernel_rfl) (fun _ _ _ h => h) ⟨hK, hE⟩ rfl (fun W hW => r_move rfl) ?_
      refine h_listed (listed' := #[T',T',T',T',T',T',T',T',T',T',T',T',T',T',T',T',T',T',T',F',F',F',F',F',F',F',F',F',F',F']) (by kernel_rfl) ?_
      refine h_t 19 rfl rfl (by kernel_rfl) (fun _ _ _ h => h) ⟨hK, hE⟩ rfl (fun W hW => r_indexAddr_sl rfl Tryz.underlying22 Tryz.sizeOf46 rfl hgi rfl ha han) ?_
      refine h_listed (listed' := #[T',T',T',T',T',T',T',T',T',T',T',T',T',T',T',T',T',T',T',T',F',F',F',F',F',F',F',F',F',F']) (by kernel_rfl) ?_
      refine h_t 20 rfl rfl (by kernel_rfl) (fun _ _ _ h => h) ⟨hK, hE⟩ rfl (fun W hW => r_fieldAddr (n := 0) rfl Tryz.underlying46 rfl Tryz.sizeOf26 rfl) ?_
      refine h_listed (listed' := #[T',T',T',T',T',T',T',T',T',T',T',T',T',T',T',T',T',T',T',T',T',F',F',F',F',F',F',F',F',F']) (by kernel_rfl) ?_
      refine h_t 21 rfl rfl (by kernel_rfl) (fun _ _ _ h => h) ⟨hK, hE⟩ rfl (fun W hW => r_load rfl Tryz.isAgg26 rfl (Ext0.cells hW.2 _ _ (hcell 4 _ rfl))) ?_
      refine h_listed (listed' := #[T',T',T',T',T',T',T',T',T',T',T',T',T',T',T',T',T',T',T',T',T',T',F',F',F',F',F',F',F',F']) (by kernel_rfl) ?_
      refine h_t 22 rfl rfl (by kernel_rfl) (fun _ _ _ h => h) ⟨hK, hE⟩ rfl (fun W hW => r_indexAddr_sl rfl Tryz.underlying26 Tryz.sizeOf3 rfl hsl.is rfl (by decide) (by have := hs.var h9; omega)) ?_
      refine h_listed (listed' := #[T',T',T',T',T',T',T',T',T',T',T',T',T',T',T',T',T',T',T',T',T',T',T',F',F',F',F',F',F',F']) (by kernel_rfl) ?_
      refine h_t 23 rfl rfl (by kernel_rfl) (fun _ _ _ h => h) ⟨hK, hE⟩ rfl (fun W hW => r_load (v := .int .i64 (iat (gat g a).l 0)) rfl Tryz.isAgg3 rfl ((hsl.keep RInt.kept (Ext0.cells hW.2)).int 0 (by decide) (by have := hs.var h9; omega))) ?_
      refine h_listed (listed' := #[T',T',T',T',T',T',T',T',T',T',T',T',T',T',T',T',T',T',T',T',T',T',T',T',F',F',F',F',F',F']) (by kernel_rfl) ?_
      refine h_t 24 rfl rfl (by kernel_rfl) (fun _ _ _ h => h) ⟨hK, hE⟩ rfl (fun W hW => r_indexAddr_sl rfl Tryz.underlying63 Tryz.sizeOf62 rfl hG.is rfl hs9.1 hs9.2) ?_
      refine h_listed (listed' := #[T',T',T',T',T',T',T',T',T',T',T',T',T',T',T',T',T',T',T',T',T',T',T',T',T',F',F',F',F',F']) (by kernel_rfl) ?_
      refine h_t 25 rfl rfl (by kernel_rfl) (fun _ _ _ h => h) ⟨hK, hE⟩ rfl (fun W hW => r_load (v := .slice Ar g.length cr) rfl Tryz.isAgg62 rfl (Ext0.cells hW.2 _ _ hr0)) ?_
      refine h_listed (listed' := #[T',T',T',T',T',T',T',T',T',T',T',T',T',T',T',T',T',T',T',T',T',T',T',T',T',T',F',F',F',F']) (by kernel_rfl) ?_
      refine h_t 26 rfl rfl (by kernel_rfl) (fun _ _ _ h => h) ⟨hK, hE⟩ rfl (fun W hW => r_move rfl) ?_
      refine h_listed (listed' := #[T',T',T',T',T',T',T',T',T',T',T',T',T',T',T',T',T',T',T',T',T',T',T',T',T',T',T',F',F',F']) (by kernel_rfl) ?_
      refine h_t 27 rfl rfl (by kernel_rfl) (fun _ _ _ h => h) ⟨hK, hE⟩ rfl (fun W hW => r_indexAddr_sl rfl Tryz.underlying62 Tryz.sizeOf4 rfl hr1 rfl hb0 hbn) ?_
      refine h_listed (listed' := #[T',T',T',T',T',T',T',T',T',T',T',T',T',T',T',T',T',T',T',T',T',T',T',T',T',T',T',T',F',F']) (by kernel_rfl) ?_
      refine h_t 28 rfl rfl (by kernel_rfl) (fun _ _ _ h => h) ⟨hK, hE⟩ rfl (fun W hW => r_load (v := .bool (X (iat (gat g a).l 0, b))) rfl Tryz.isAgg4 rfl (Ext0.cells hW.2 _ _ (hr2 b hb0 hbn))) ?_
      refine h_listed (listed' := #[T',T',T',T',T',T',T',T',T',T',T',T',T',T',T',T',T',T',T',T',T',T',T',T',T',T',T',T',T',F']) (by kernel_rfl) ?_
      refine h_t 29 rfl rfl (by kernel_rfl) (fun _ _ _ h => h) ⟨hK, hE⟩ rfl (fun W hW => r_pick rfl rfl) ?_
      refine h_listed (listed' := #[T',T',T',T',T',T',T',T',T',T',T',T',T',T',T',T',T',T',T',T',T',T',T',T',T',T',T',T',T',T']) (by kernel_rfl) ?_
      refine h_done (by kernel_rfl) ?_
      refine c_cond rfl (fun hb => ?_) (fun hb => ?_)
      · have hr70 := hb
        rw [if_pos h9, if_pos hb] at hmiss
        refine c_seq ?_
     
        refine c_ops ?_
        refine l_val rfl rfl rfl (r_assign rfl) ?_
        refine l_nil ?_
        refine c_ret ?_
        exact ⟨ret_int rfl hmiss.symm, hE0.trans hE⟩
      · have hr70 := hb
        rw [if_pos h9, if_neg (by rw [hb]; decide)] at hmiss
        refine c_skip ?_
        refine c_seq ?_
     
        refine c_ops ?_
        refine l_val rfl rfl rfl (r_assign rfl) ?_
        refine l_nil ?_
        refine c_ret ?_
        exact ⟨ret_int rfl hmiss.symm, hE0.trans hE⟩
    · have hr50 := hb
      replace hb := of_decide_eq_false hb
      rw [if_neg hb] at hmiss
      refine h_listed (listed' := #[T',T',T',T',T',T',T',T',T',T',F',F',F',F',F',F',F',F',F',F',F',F',F',F',F',F',F',F',F',F']) (by kernel_rfl) ?_
      refine h_n 10 rfl rfl (by kernel_rfl) (fun _ _ _ h => h) ⟨hK, hE⟩ rfl ?_
      refine h_listed (listed' := #[T',T',T',T',T',T',T',T',T',T',T',F',F',F',F',F',F',F',F',F',F',F',F',F',F',F',F',F',F',F']) (by kernel_rfl) ?_
      refine h_n 11 rfl rfl (by kernel_rfl) (fun _ _ _ h => h) ⟨hK, hE⟩ rfl ?_
      refine h_listed (listed' := #[T',T',T',T',T',T',T',T',T',T',T',T',F',F',F',F',F',F',F',F',F',F',F',F',F',F',F',F',F',F']) (by kernel_rfl) ?_
      refine h_n 12 rfl rfl (by kernel_rfl) (fun _ _ _ h => h) ⟨hK, hE⟩ rfl ?_
      refine h_listed (listed' := #[T',T',T',T',T',T',T',T',T',T',T',T',T',F',F',F',F',F',F',F',F',F',F',F',F',F',F',F',F',F']) (by kernel_rfl) ?_
      refine h_n 13 rfl rfl (by kernel_rfl) (fun _ _ _ h => h) ⟨hK, hE⟩ rfl ?_
      refine h_listed (listed' := #[T',T',T',T',T',T',T',T',T',T',T',T',T',T',F',F',F',F',F',F',F',F',F',F',F',F',F',F',F',F']) (by kernel_rfl) ?_
      refine h_n 14 rfl rfl (by kernel_rfl) (fun _ _ _ h => h) ⟨hK, hE⟩ rfl ?_
      refine h_listed (listed' := #[T',T',T',T',T',T',T',T',T',T',T',T',T',T',T',F',F',F',F',F',F',F',F',F',F',F',F',F',F',F']) (by kernel_rfl) ?_
      refine h_n 15 rfl rfl (by kernel_rfl) (fun _ _ _ h => h) ⟨hK, hE⟩ rfl ?_
      refine h_listed (listed' := #[T',T',T',T',T',T',T',T',T',T',T',T',T',T',T',T',F',F',F',F',F',F',F',F',F',F',F',F',F',F']) (by kernel_rfl) ?_
      refine h_n 16 rfl rfl (by kernel_rfl) (fun _ _ _ h => h) ⟨hK, hE⟩ rfl ?_
      refine h_listed (listed' := #[T',T',T',T',T',T',T',T',T',T',T',T',T',T',T',T',T',F',F',F',F',F',F',F',F',F',F',F',F',F']) (by kernel_rfl) ?_
      refine h_n 17 rfl rfl (by kernel_rfl) (fun _ _ _ h => h) ⟨hK, hE⟩ rfl ?_
      refine h_listed (listed' := #[T',T',T',T',T',T',T',T',T',T',T',T',T',T',T',T',T',T',F',F',F',F',F',F',F',F',F',F',F',F']) (by kernel_rfl) ?_
      refine h_n 18 rfl rfl (by kernel_rfl) (fun _ _ _ h => h) ⟨hK, hE⟩ rfl ?_
      refine h_listed (listed' := #[T',T',T',T',T',T',T',T',T',T',T',T',T',T',T',T',T',T',T',F',F',F',F',F',F',F',F',F',F',F']) (by kernel_rfl) ?_
      refine h_n 19 rfl rfl (by kernel_rfl) (fun _ _ _ h => h) ⟨hK, hE⟩ rfl ?_
      refine h_listed (listed' := #[T',T',T',T',T',T',T',T',T',T',T',T',T',T',T',T',T',T',T',T',F',F',F',F',F',F',F',F',F',F']) (by kernel_rfl) ?_
      refine h_n 20 rfl rfl (by kernel_rfl) (fun _ _ _ h => h) ⟨hK, hE⟩ rfl ?_
      refine h_listed (listed' := #[T',T',T',T',T',T',T',T',T',T',T',T',T',T',T',T',T',T',T',T',T',F',F',F',F',F',F',F',F',F']) (by kernel_rfl) ?_
      refine h_n 21 rfl rfl (by kernel_rfl) (fun _ _ _ h => h) ⟨hK, hE⟩ rfl ?_
      refine h_listed (listed' := #[T',T',T',T',T',T',T',T',T',T',T',T',T',T',T',T',T',T',T',T',T',T',F',F',F',F',F',F',F',F']) (by kernel_rfl) ?_
      refine h_n 22 rfl rfl (by kernel_rfl) (fun _ _ _ h => h) ⟨hK, hE⟩ rfl ?_
      refine h_listed (listed' := #[T',T',T',T',T',T',T',T',T',T',T',T',T',T',T',T',T',T',T',T',T',T',T',F',F',F',F',F',F',F']) (by kernel_rfl) ?_
      refine h_n 23 rfl rfl (by kernel_rfl) (fun _ _ _ h => h) ⟨hK, hE⟩ rfl ?_
      refine h_listed (listed' := #[T',T',T',T',T',T',T',T',T',T',T',T',T',T',T',T',T',T',T',T',T',T',T',T',F',F',F',F',F',F']) (by kernel_rfl) ?_
      refine h_n 24 rfl rfl (by kernel_rfl) (fun _ _ _ h => h) ⟨hK, hE⟩ rfl ?_
      refine h_listed (listed' := #[T',T',T',T',T',T',T',T',T',T',T',T',T',T',T',T',T',T',T',T',T',T',T',T',T',F',F',F',F',F']) (by kernel_rfl) ?_
      refine h_n 25 rfl rfl (by kernel_rfl) (fun _ _ _ h => h) ⟨hK, hE⟩ rfl ?_
      refine h_listed (listed' := #[T',T',T',T',T',T',T',T',T',T',T',T',T',T',T',T',T',T',T',T',T',T',T',T',T',T',F',F',F',F']) (by kernel_rfl) ?_
      refine h_n 26 rfl rfl (by kernel_rfl) (fun _ _ _ h => h) ⟨hK, hE⟩ rfl ?_
      refine h_listed (listed' := #[T',T',T',T',T',T',T',T',T',T',T',T',T',T',T',T',T',T',T',T',T',T',T',T',T',T',T',F',F',F']) (by kernel_rfl) ?_
      refine h_n 27 rfl rfl (by kernel_rfl) (fun _ _ _ h => h) ⟨hK, hE⟩ rfl ?_
      refine h_listed (listed' := #[T',T',T',T',T',T',T',T',T',T',T',T',T',T',T',T',T',T',T',T',T',T',T',T',T',T',T',T',F',F']) (by kernel_rfl) ?_
      refine h_n 28 rfl rfl (by kernel_rfl) (fun _ _ _ h => h) ⟨hK, hE⟩ rfl ?_
      refine h_listed (listed' := #[T',T',T',T',T',T',T',T',T',T',T',T',T',T',T',T',T',T',T',T',T',T',T',T',T',T',T',T',T',F']) (by kernel_rfl) ?_
      refine h_t 29 rfl rfl (by kernel_rfl) (fun _ _ _ h => h) ⟨hK, hE⟩ rfl (fun W hW => r_pick rfl rfl) ?_
      refine h_listed (listed' := #[T',T',T',T',T',T',T',T',T',T',T',T',T',T',T',T',T',T',T',T',T',T',T',T',T',T',T',T',T',T']) (by kernel_rfl) ?_
      refine h_done (by kernel_rfl) ?_
      refine c_no rfl ?_
      refine c_skip ?_
      refine c_seq ?_
   
      refine c_ops ?_
      refine l_val rfl rfl rfl (r_assign rfl) ?_
      refine l_nil ?_
      refine c_ret ?_
      exact ⟨ret_int rfl hmiss.symm, hE0.trans hE⟩
theorem Pick_rcalls (w0 : World) (hG : Grid w0 xb Ag g.length cg st Ai ci X) (hg : Nodes w0 Ag cg g) (hok : GraphOk g) (a b : Int) (ha : 0 ≤ a) (han : a < g.length) (ha8 : (gat g a).kind ≠ 8) (hb0 : 0 ≤ b) (hbn : b < g.length) :
    Calls Tryz.prog 84 [.pointer (some ⟨xb, 0, none⟩), .int .i64 a, .int .i64 b].toArray w0 fun en w' => en = .returned (.int .i64 (pickX g st X a b)) ∧ Ext0 w0 w' := by
  have hE : Ext0 w0 w0 := Ext.refl _ _
  refine calls [6] Tryz.func84 rfl rfl rfl rfl ?_
  refine c_seq ?_
  refine c_ops ?_
  refine l_val rfl rfl rfl (r_assign rfl) ?_
  refine l_nil ?_
  refine c_seq ?_
  refine c_ops ?_
  refine l_val rfl rfl rfl (r_move rfl) ?_
  refine l_val rfl rfl rfl (r_move rfl) ?_
  refine l_val rfl rfl rfl (r_move rfl) ?_
  refine l_by rfl rfl rfl (r_call rfl rfl Tryz.func83 rfl rfl) (pick_rcalls _ hG hg hok a b ha han ha8 hb0 hbn) ?_
  rintro _ w ⟨rfl, hX⟩
  replace hE := hE.trans hX
  refine ⟨_, rfl, ?_⟩
  refine l_val rfl rfl rfl (r_assign rfl) ?_
  refine l_nil ?_
  refine c_ret ?_
  exact ⟨rfl, hE⟩
theorem stands_rcalls (w0 : World) (hG : Grid w0 xb Ag g.length cg st Ai ci X) (hg : Nodes w0 Ag cg g) (hok : GraphOk g) (p : Int × Int) (hp : InG g.length p) :
    Calls Tryz.prog 55 [.pointer (some ⟨xb, 0, none⟩), .int .i64 p.1, .int .i64 p.2].toArray w0 fun en w' => en = .returned (.bool (holdsX g st X p)) ∧ Ext0 w0 w' := by
  have hE : Ext0 w0 w0 := Ext.refl _ _
  have hL : Has w0 [] := trivial
  refine calls [6] Tryz.func55 rfl rfl rfl rfl ?_
  refine c_seq ?_
  refine c_ops ?_
  refine l_val rfl rfl rfl (r_assign rfl) ?_
  refine l_nil ?_
  refine c_seq ?_
  refine c_ops ?_
  refine l_val rfl rfl rfl (r_move rfl) ?_
  refine l_val rfl rfl rfl (r_nilCheck rfl rfl) ?_
  refine l_val rfl rfl rfl (r_fieldAddr (n := 0) rfl Tryz.underlying65 rfl Tryz.sizeOf22 rfl) ?_
  refine l_val rfl rfl rfl (r_load rfl Tryz.isAgg22 rfl (Ext0.cells hE _ _ hG.c0)) ?_
  refine l_val rfl rfl rfl (r_move rfl) ?_
  refine l_by rfl rfl rfl (r_call rfl rfl Tryz.func63 rfl rfl) (rMembers_calls _ Ag cg g (hg.keep RNode.kept (Ext0.cells hE)) hok.fits p.1) ?_
  rintro _ w ⟨v, rfl, hrow, hX⟩
  replace hE := hE.trans hX
  obtain ⟨Am, cm, rfl, hmem, _⟩ := Sl.ofInts hrow
  clear hrow
  obtain ⟨wa, hwa⟩ : ∃ x, x = w := ⟨_, rfl⟩
  rw [← hwa] at hmem hE
  have hE0 : Ext0 w0 wa := hE
  replace hE : Ext0 wa w := hwa ▸ Ext.refl _ _
  replace hG := hG.keep (Ext0.cells hE0)
  replace hg := hg.keep RNode.kept (Ext0.cells hE0)
  have hL : Has w [] := trivial
  refine ⟨_, rfl, ?_⟩
  refine l_val rfl rfl rfl (r_assign rfl) ?_
  refine l_nil ?_
  refine c_seq ?_
  refine c_seq ?_
  refine c_ops ?_
  refine l_val rfl rfl rfl (r_assign rfl) ?_
  refine l_nil ?_
  refine c_block ?_
  refine c_loop [6, 8, 15, 16, 17, 18, 19, 20, 21, 22, 23, 24, 25, 26, 27, 28] (fun m1 e w => ∃ (k : Nat), k ≤ (membersG g p.1).length ∧ m1 = (membersG g p.1).length - k ∧ e 8 = .int .i64 (k : Nat) ∧ (∀ j : Nat, j < k → pickX g st X (iat (membersG g p.1) j) p.2 ≠ -2) ∧ Ext0 wa w) ((membersG g p.1).length) ?_ ?_
  · exact ⟨0, Nat.zero_le _, rfl, rfl, fun j hj => absurd hj (Nat.not_lt_zero _), hE⟩
  intro m1 e w hI
  obtain ⟨k, hkl, hkm, h8s, hall, hE⟩ := hI
  refine c_know (t := 8) (by exact h8s) ?_
  have hL : Has w [] := trivial
  refine c_seq ?_
  refine c_seq ?_
  refine c_ops ?_
  refine l_val rfl rfl rfl (r_move rfl) ?_
  refine l_val rfl rfl rfl (r_move rfl) ?_
  refine l_val rfl rfl rfl (r_len rfl Tryz.underlying26 rfl) ?_
  refine l_val rfl rfl rfl (r_lss rfl rfl rfl) ?_
  refine l_nil ?_
  refine c_cond rfl (fun hb => ?_) (fun hb => ?_)
  · have hr18 := hb
    replace hb := of_decide_eq_true hb
    have hklt : k < (membersG g p.1).length := by omega
    have hk := iat_nat hklt
    have hin := hok.members (List.mem_of_getElem? hk)
    refine c_skip ?_
    refine c_seq ?_
    refine c_block ?_
    refine c_seq ?_
 
    refine c_ops ?_
    refine l_val rfl rfl rfl (r_move rfl) ?_
    refine l_val rfl rfl rfl (r_move rfl) ?_
    refine l_val rfl rfl rfl (r_move rfl) ?_
    refine l_val rfl rfl rfl (r_indexAddr_sl rfl Tryz.underlying26 Tryz.sizeOf3 rfl hmem.is rfl (by omega) (by omega)) ?_
    refine l_val rfl rfl rfl (r_load (v := .int .i64 (iat (membersG g p.1) k)) rfl Tryz.isAgg3 rfl ((hmem.keep RInt.kept (Ext0.cells hE)).int k (by omega) (by omega))) ?_
    refine l_val rfl rfl rfl (r_move rfl) ?_
    refine l_by rfl rfl rfl (r_call rfl rfl Tryz.func83 rfl rfl) (pick_rcalls _ (hG.keep (Ext0.cells hE)) (hg.keep RNode.kept (Ext0.cells hE)) hok (iat (membersG g p.1) k) p.2 hin.1 hin.2.1 hin.2.2 hp.2.2.1 hp.2.2.2) ?_
    rintro _ w ⟨rfl, hX⟩
    replace hL := hL.ext0 hX
    replace hE := hE.step0 hX
    refine ⟨_, rfl, ?_⟩
    refine l_val rfl rfl rfl (r_eql rfl rfl rfl) ?_
    refine l_nil ?_
    refine c_cond rfl (fun hb => ?_) (fun hb => ?_)
    · have hr28 := hb
      replace hb := of_decide_eq_true hb
      have hno : holdsX g st X p = false := by
        rw [Bool.eq_false_iff, Ne, holdsX_iff]
        exact fun h => h _ (List.mem_of_getElem? hk) hb
      refine c_seq ?_
   
      refine c_ops ?_
      refine l_val rfl rfl rfl (r_assign rfl) ?_
      refine l_nil ?_
      refine c_ret ?_
      exact ⟨ret_bool rfl hno.symm, hE0.trans hE⟩
    · have hr28 := hb
      replace hb := of_decide_eq_false hb
      refine c_skip ?_
   
      refine c_ops ?_
      refine l_val rfl rfl rfl (r_move rfl) ?_
      refine l_val rfl rfl rfl (r_add rfl rfl rfl) ?_
      refine l_val rfl rfl rfl (r_assign rfl) ?_
      refine l_nil ?_
      refine ⟨by repeat (first | exact Agree.over _ _ _ | exact Agree.refl _ _ | (refine Agree.puto ?_ _ _ rfl) | (refine Agree.put ?_ _ _ rfl) | (refine Agree.sub ?_ rfl)), ?_⟩
      exact ⟨(membersG g p.1).length - (k + 1), by omega, k + 1, by omega, rfl, by show Value.int .i64 (IntKind.i64.wrap ((k : Int) + 1)) = _; rw [wrap_succ hklt hmem.max], fun j hj => by rcases Nat.lt_or_eq_of_le (Nat.le_of_lt_succ hj) with h | rfl <;> first | exact hall j h | exact hb, hE⟩
  · have hr18 := hb
    replace hb := of_decide_eq_false hb
    have hyes : holdsX g st X p = true := by
      rw [holdsX_iff]
      intro s hs
      obtain ⟨j, hj⟩ := List.mem_iff_getElem?.1 hs
      have hjl := (List.getElem?_eq_some_iff.1 hj).1
      rw [iat_nat hjl] at hj
      cases hj
      exact hall j (by omega)
    refine c_exit ?_
    refine c_seq ?_
 
    refine c_ops ?_
    refine l_val rfl rfl rfl (r_assign rfl) ?_
    refine l_nil ?_
    refine c_ret ?_
    exact ⟨ret_bool rfl hyes.symm, hE0.trans hE⟩
end
end Go.Proofs.YtndophlnapjkhaaGreatDoor.Vc
namespace Go.Proofs.YtndophlnapjkhaaGreatDoor.Vc
open Go Go.RowKit
set_option linter.unusedVariables false
set_option linter.unusedSimpArgs false
abbrev RW : Type := Nat × List Bool
def rcell (n : Nat) (r : RW) : Value := .slice (some ⟨r.1, 0, none⟩) n n
def rres (r : RW) : Res := .blk r.1 (.cells (r.2.map Value.bool).toArray 4 (0, 0))
def Xof (rs : List RW) (q : Int × Int) : Bool := ((rs.getD q.1.toNat (0, [])).2).getD q.2.toNat false
def setR (rs : List RW) (i k : Nat) : List RW := rs.set i ((rs.getD i (0, [])).1, (rs.getD i (0, [])).2.set k false)
def inGB (n : Nat) (q : Int × Int) : Bool := decide (0 ≤ q.1) && decide (q.1 < n) && decide (0 ≤ q.2) && decide (q.2 < n)
theorem inGB_is {n : Nat} {q : Int × Int} : inGB n q = true ↔ InG n q := by
  unfold inGB InG
  simp [and_assoc]
theorem Xof_set {rs : List RW} {i k : Nat} (q : Int × Int) (hi : i < rs.length) (hk : k < (rs.getD i (0, [])).2.length) : Xof (setR rs i k) q = if q.1.toNat = i ∧ q.2.toNat = k then false else Xof rs q := by
  unfold Xof setR
  simp only [List.getD_eq_getElem?_getD, List.getElem?_set] at hk ⊢
  by_cases h1 : i = q.1.toNat
  · subst h1
    rw [if_pos rfl, if_pos hi]
    simp only [Option.getD_some, List.getElem?_set]
    by_cases h2 : k = q.2.toNat
    · subst h2
      rw [if_pos rfl, if_pos hk, if_pos ⟨trivial, rfl⟩]
      rfl
    · rw [if_neg h2, if_neg (fun h => h2 h.2.symm)]
  · rw [if_neg h1, if_neg (fun h => h1 h.1.symm)]
section
variable {g : List GNode} {st : Bool}
structure OfAt (g : List GNode) (st : Bool) (rs0 rs : List RW) (more : Bool) (i k : Nat) : Prop where
  len : rs.length = g.length
  rows : ∀ r ∈ rs, r.2.length = g.length
  le : ∀ q, InG g.length q → mayX g st q = true → Xof rs q = true
  le0 : manyX g.length (Xof rs) ≤ manyX g.length (Xof rs0)
  gone : more = true → manyX g.length (Xof rs) < manyX g.length (Xof rs0)
  same : more = false → rs = rs0 ∧ ∀ q, InG g.length q → (q.1 < i ∨ (q.1 = i ∧ q.2 < k)) → Xof rs0 q = true → holdsX g st (Xof rs0) q = true
theorem OfAt.row_len {rs0 rs : List RW} {more : Bool} {i k j : Nat} (h : OfAt g st rs0 rs more i k) (hj : j < g.length) : (rs.getD j (0, [])).2.length = g.length := by
  rw [List.getD_eq_getElem?_getD, List.getElem?_eq_getElem (by rw [h.len]; exact hj)]
  exact h.rows _ (List.getElem_mem _)
theorem OfAt.start {rs : List RW} (hl : rs.length = g.length) (hr : ∀ r ∈ rs, r.2.length = g.length) (hle : ∀ q, InG g.length q → mayX g st q = true → Xof rs q = true) : OfAt g st rs rs false 0 0 :=
  ⟨hl, hr, hle, Nat.le_refl _, (fun h => by cases h), fun _ => ⟨rfl, fun q hq h => by
    exact absurd h (by have := hq.1; have := hq.2.2.1; omega)⟩⟩
theorem OfAt.keep {rs0 rs : List RW} {more : Bool} {i k : Nat} (h : OfAt g st rs0 rs more i k) (hh : Xof rs ((i : Int), (k : Int)) = true → holdsX g st (Xof rs) ((i : Int), (k : Int)) = true) : OfAt g st rs0 rs more i (k + 1) :=
  ⟨h.len, h.rows, h.le, h.le0, h.gone, fun hm => ⟨(h.same hm).1, fun q hq hc hX => by
    by_cases he : q = ((i : Int), (k : Int))
    · subst he
      have := (h.same hm).1
      subst this
      exact hh hX
    · refine (h.same hm).2 q hq ?_ hX
      rcases hc with hc | ⟨h1, h2⟩
      · exact .inl hc
      · refine .inr ⟨h1, ?_⟩
        have : q.2 ≠ k := fun e => he (Prod.ext h1 e)
        omega⟩⟩
theorem OfAt.row {rs0 rs : List RW} {more : Bool} {i : Nat} (h : OfAt g st rs0 rs more i g.length) : OfAt g st rs0 rs more (i + 1) 0 :=
  ⟨h.len, h.rows, h.le, h.le0, h.gone, fun hm => ⟨(h.same hm).1, fun q hq hc hX => (h.same hm).2 q hq (by have := hq.2.2.2; have := hq.2.2.1; omega) hX⟩⟩
theorem OfAt.take {rs0 rs : List RW} {more : Bool} {i k : Nat} (hok : GraphOk g) (h : OfAt g st rs0 rs more i k) (hi : i < g.length) (hk : k < g.length) (hx : Xof rs ((i : Int), (k : Int)) = true) (hh : holdsX g st (Xof rs) ((i : Int), (k : Int)) = false) : OfAt g st rs0 (setR rs i k) true i (k + 1) := by
  have hil : i < rs.length := by rw [h.len]; exact hi
  have hkl : k < (rs.getD i (0, [])).2.length := by rw [h.row_len hi]; exact hk
  have hin : InG g.length ((i : Int), (k : Int)) := ⟨by simp, by simp; omega, by simp, by simp; omega⟩
  have hXs := fun q => Xof_set (rs := rs) (i := i) (k := k) q hil hkl
  have hle : manyX g.length (Xof (setR rs i k)) < manyX g.length (Xof rs) := by
    refine sum_lt _ _ _ (fun q _ => ?_) ⟨((i : Int), (k : Int)), mem_allP hin, ?_⟩
    · rw [hXs]
      split
      · simp
      · exact Nat.le_refl _
    · have h0 : Xof (setR rs i k) ((i : Int), (k : Int)) = false := by rw [hXs]; exact if_pos ⟨Int.toNat_natCast _, Int.toNat_natCast _⟩
      rw [h0, hx]
      decide
  refine ⟨by unfold setR; rw [List.length_set]; exact h.len, ?_, ?_, by have := h.le0; omega, (fun _ => by have := h.le0; omega), (fun hm => by cases hm)⟩
  · intro r hr
    rcases List.mem_or_eq_of_mem_set hr with hr | rfl
    · exact h.rows r hr
    · rw [List.length_set]
      exact h.row_len hi
  · intro q hq hm
    rw [hXs]
    split
    · rename_i hc
      exfalso
      have he : q = ((i : Int), (k : Int)) := by
        obtain ⟨h1, _, h3, _⟩ := hq
        exact Prod.ext (by omega) (by omega)
      subst he
      rw [may_fix hok hin] at hm
      have h1 := holdsX_mono (g := g) (st := st) (X := mayX g st) (Y := fun q => Xof rs q || !inGB g.length q) (fun q hq => by
        cases hb : inGB g.length q with
        | false => simp
        | true => rw [h.le q (inGB_is.1 hb) hq]; rfl) _ hm
      rw [holdsX_congr (Y := Xof rs) hok (fun q hq => by rw [inGB_is.2 hq]; simp) hin, hh] at h1
      cases h1
    · exact h.le q hq hm
theorem OfAt.done {rs0 rs : List RW} (hok : GraphOk g) (h : OfAt g st rs0 rs false g.length 0) : rs = rs0 ∧ ∀ q, InG g.length q → Xof rs q = mayX g st q := by
  obtain ⟨h1, h2⟩ := h.same rfl
  subst h1
  refine ⟨rfl, fun q hq => ?_⟩
  cases hm : mayX g st q with
  | true => exact h.le q hq hm
  | false =>
    cases hx : Xof rs q with
    | false => rfl
    | true =>
      have := may_great (g := g) (st := st) (R := fun q => inGB g.length q && Xof rs q) (fun q hq => by
        rw [Bool.and_eq_true, inGB_is] at hq
        rw [holdsX_congr (Y := Xof rs) hok (fun p hp => by rw [inGB_is.2 hp]; rfl) hq.1]
        exact h2 q hq.1 (.inl hq.1.2.1) hq.2) (q := q) (by rw [inGB_is.2 hq, hx]; rfl)
      rw [hm] at this
      cases this
end
abbrev OfL (xb B : Nat) (Ag : Option Addr) (n cg : Nat) (st : Bool) (isV : Value) (rs : List RW) : List Res := .blk xb (.cells #[.slice Ag n cg, .bool st, isV] 65 (0, 0)) :: .row B 62 1 isV rs.length (rs.map (rcell n)) :: rs.map rres
theorem rw_get {rs : List RW} {i : Nat} (h : i < rs.length) : rs[i]? = some (rs.getD i (0, [])) := by
  rw [List.getD_eq_getElem?_getD, List.getElem?_eq_getElem h]
  rfl
theorem bool_get {l : List Bool} {i : Nat} (h : i < l.length) : (l.map Value.bool)[i]? = some (.bool (l.getD i false)) := by
  rw [List.getElem?_map, List.getElem?_eq_getElem h, List.getD_eq_getElem?_getD, List.getElem?_eq_getElem h]
  rfl
theorem grid_of {w : World} {xb B : Nat} {Ag Ai : Option Addr} {n n' cg ci : Nat} {st : Bool} {rs : List RW} (h : Has w (OfL xb B Ag n cg st (.slice Ai n' ci) rs)) (hl : rs.length = n) (hr : ∀ r ∈ rs, r.2.length = n) : n' = n ∧ Grid w xb Ag n cg st Ai ci (Xof rs) := by
  have hb := h.get 0 rfl
  have hrow := h.row 1 rfl
  have hflat : (rs.map fun r => [rcell n r]).flatten = rs.map (rcell n) := by
    clear hl hr hrow hb h
    induction rs with
    | nil => rfl
    | cons x r ih => simpa using ih
  have hEls : Els w 1 (fun _ (r : RW) cs => cs = [rcell n r]) rs (rs.map fun r => [rcell n r]) := by
    refine ⟨by simp, fun i x cs h1 h2 => ?_⟩
    rw [List.getElem?_map, h1] at h2
    cases h2
    exact ⟨rfl, rfl⟩
  rw [← hflat] at hrow
  obtain ⟨A', c', hv, hs, _⟩ := Sl.ofRow hrow hEls rfl
  injection hv with h1 h2 h3
  subst h1; subst h3
  rw [hl] at h2
  subst h2
  refine ⟨rfl, (blk_cell hb 0).trans rfl, (blk_cell hb 1).trans rfl, (blk_cell hb 2).trans rfl, fun h0 => hs.is (by omega), fun a h0 h1 => ?_⟩
  have hal : a.toNat < rs.length := by omega
  obtain ⟨cs, _, hcs, hcell⟩ := hs.at_ a.toNat _ (rw_get hal)
  have hc0 := hcell 0 (rcell n' (rs.getD a.toNat (0, []))) (by rw [hcs]; rfl)
  rw [Nat.add_zero] at hc0
  refine ⟨_, _, hc0, fun _ => rfl, fun b hb0 hb1 => ?_⟩
  have hres := h.get (a.toNat + 2) (b := (rs.getD a.toNat (0, [])).1) (o := .cells ((rs.getD a.toNat (0, [])).2.map Value.bool).toArray 4 (0, 0)) (by
    show (rs.map rres)[a.toNat]? = _
    rw [List.getElem?_map, rw_get hal]
    rfl)
  rw [Nat.mul_one]
  show w.cell? ((⟨(rs.getD a.toNat (0, [])).1, 0, none⟩ : Addr).add b.toNat) = _
  rw [blk_add, blk_cell hres, Nat.zero_add]
  have hbl : b.toNat < (rs.getD a.toNat (0, [])).2.length := by
    have := hr _ (List.mem_of_getElem? (rw_get hal))
    omega
  exact (List.getElem?_toArray ..).trans (bool_get hbl)
theorem Grid.congr {w : World} {xb : Nat} {Ag : Option Addr} {n cg : Nat} {st : Bool} {Ai : Option Addr} {ci : Nat} {X Y : Int × Int → Bool} (h : Grid w xb Ag n cg st Ai ci X) (hX : ∀ q, InG n q → X q = Y q) : Grid w xb Ag n cg st Ai ci Y :=
  ⟨h.c0, h.c1, h.c2, h.is, fun a h0 h1 => let ⟨Ar, cr, h2, h3, h4⟩ := h.row a h0 h1; ⟨Ar, cr, h2, h3, fun b hb0 hb1 => by rw [← hX (a, b) ⟨h0, h1, hb0, hb1⟩]; exact h4 b hb0 hb1⟩⟩
def upRow (n k : Nat) : List Value := (List.range n).map fun (j : Nat) => Value.bool (decide (j < k))
theorem upRow_set {n k : Nat} (hk : k < n) : (upRow n k).set k (.bool true) = upRow n (k + 1) := by
  apply List.ext_getElem?
  intro i
  have hlen : (upRow n k).length = n := by simp [upRow]
  rw [List.getElem?_set, hlen]
  unfold upRow
  simp only [List.getElem?_map]
  by_cases h : k = i
  · subst h
    rw [if_pos rfl, if_pos hk, List.getElem?_range hk]
    simp
  · rw [if_neg h]
    rcases Nat.lt_or_ge i n with hi | hi
    · rw [List.getElem?_range hi]
      simp only [Option.map_some]
      congr 2
      exact decide_eq_decide.2 (by omega)
    · rw [List.getElem?_eq_none (by simp; exact hi)]
      rfl
theorem upRow_zero (n : Nat) : (madeCells #[Value.bool false] (n * 1)) = (upRow n 0).toArray := by
  rw [made_none]
  unfold inCells upRow
  simp
theorem upRow_full (n : Nat) : upRow n n = (List.replicate n true).map Value.bool := by
  apply List.ext_getElem?
  intro i
  unfold upRow
  simp only [List.getElem?_map, List.getElem?_replicate]
  rcases Nat.lt_or_ge i n with hi | hi
  · rw [List.getElem?_range hi, if_pos hi]
    simp [hi]
  · rw [List.getElem?_eq_none (by simp; exact hi), if_neg (by omega)]
    rfl
theorem info_bools : (Tryz.prog.info? 62).map (fun i => (i.zero, i.size, i.bytes)) = some (some (.slice none 0 0), 1, 24) := by kernel_rfl
theorem built_pairs8 (A : Option Addr) (n c : Nat) (st : Bool) : Tryz.prog.built 65 [(0, .slice A n c), (1, .bool st)] = some #[.slice A n c, .bool st, .slice none 0 0] := by kernel_rfl
theorem ofl_set {xb B : Nat} {Ag : Option Addr} {n cg : Nat} {st : Bool} {isV : Value} {rs : List RW} {i k : Nat} (hi : i < rs.length) : (OfL xb B Ag n cg st isV rs).set (i + 2) (.blk (rs.getD i (0, [])).1 (.cells (((rs.getD i (0, [])).2.map Value.bool).set k (.bool false)).toArray 4 (0, 0))) = OfL xb B Ag n cg st isV (setR rs i k) := by
  unfold OfL setR
  have h1 : (rs.set i ((rs.getD i (0, [])).1, (rs.getD i (0, [])).2.set k false)).map (rcell n) = rs.map (rcell n) := by
    rw [List.map_set]
    apply List.ext_getElem?
    intro j
    rw [List.getElem?_set]
    split
    · rename_i e
      subst e
      rw [List.length_map, if_pos hi, List.getElem?_map, rw_get hi]
      rfl
    · rfl
  rw [h1, List.length_set, List.set_cons_succ, List.set_cons_succ, List.map_set]
  congr 4
  simp [List.map_set]
theorem ofl_snoc {w : World} {xb B s : Nat} {Ag : Option Addr} {n cg : Nat} {st : Bool} {isV : Value} {rs : List RW} (h : Has w (.blk s (.cells (upRow n n).toArray 4 (0, 0)) :: .blk xb (.cells #[.slice Ag n cg, .bool st, isV] 65 (0, 0)) :: .row B 62 1 isV (rs.length + 1) (rs.map (rcell n) ++ [.slice (some ⟨s, 0, none⟩) n n]) :: rs.map rres)) : Has w (OfL xb B Ag n cg st isV (rs ++ [(s, List.replicate n true)])) := by
  unfold OfL
  rw [List.map_append, List.map_append, List.length_append]
  rw [upRow_full] at h
  exact Has.perm ((List.perm_append_comm (l₁ := [_]) (l₂ := [_, _])).append_right _ |>.trans ((List.Perm.cons _ (List.Perm.cons _ (List.perm_append_comm (l₁ := [_]) (l₂ := rs.map rres)))))) h
theorem setR_base {rs : List RW} {i k B : Nat} (h : ∀ r ∈ rs, B ≤ r.1) (hi : i < rs.length) : ∀ r ∈ setR rs i k, B ≤ r.1 := by
  intro r hr
  unfold setR at hr
  rcases List.mem_or_eq_of_mem_set hr with hr | rfl
  · exact h r hr
  · exact (show B ≤ (rs.getD i (0, [])).1 from h _ (List.mem_of_getElem? (rw_get hi)))
theorem ofl_cell {w : World} {xb B : Nat} {Ag Ai : Option Addr} {n n' cg ci : Nat} {st : Bool} {rs : List RW} (h : Has w (OfL xb B Ag n cg st (.slice Ai n' ci) rs)) {i : Nat} (hi : i < rs.length) : w.cell? ((adr Ai).add ((i : Int).toNat * 1)) = some (.slice (some ⟨(rs.getD i (0, [])).1, 0, none⟩) n n) := by
  have hrow := h.row 1 rfl
  have hflat : (rs.map fun r => [rcell n r]).flatten = rs.map (rcell n) := by
    clear hrow h hi
    induction rs with
    | nil => rfl
    | cons x r ih => simpa using ih
  have hEls : Els w 1 (fun _ (r : RW) cs => cs = [rcell n r]) rs (rs.map fun r => [rcell n r]) := by
    refine ⟨by simp, fun i x cs h1 h2 => ?_⟩
    rw [List.getElem?_map, h1] at h2
    cases h2
    exact ⟨rfl, rfl⟩
  rw [← hflat] at hrow
  obtain ⟨A', c', hv, hs, _⟩ := Sl.ofRow hrow hEls rfl
  injection hv with h1 h2 h3
  subst h1; subst h3
  obtain ⟨cs, _, hcs, hcell⟩ := hs.at_ i _ (rw_get hi)
  have hc0 := hcell 0 (rcell n (rs.getD i (0, []))) (by rw [hcs]; rfl)
  rw [Nat.add_zero] at hc0
  exact hc0
theorem ofl_bool {w : World} {xb B : Nat} {Ag : Option Addr} {n cg : Nat} {st : Bool} {isV : Value} {rs : List RW} (h : Has w (OfL xb B Ag n cg st isV rs)) {i k : Nat} (hi : i < rs.length) (hk : k < (rs.getD i (0, [])).2.length) : w.cell? ((⟨(rs.getD i (0, [])).1, 0, none⟩ : Addr).add ((k : Int).toNat * 1)) = some (.bool (Xof rs ((i : Int), (k : Int)))) := by
  have hres := h.get (i + 2) (b := (rs.getD i (0, [])).1) (o := .cells ((rs.getD i (0, [])).2.map Value.bool).toArray 4 (0, 0)) (by
    show (rs.map rres)[i]? = _
    rw [List.getElem?_map, rw_get hi]
    rfl)
  rw [Nat.mul_one, blk_add, blk_cell hres, Nat.zero_add]
  exact (List.getElem?_toArray ..).trans (bool_get hk)
theorem row_rw {xb B : Nat} {Ag : Option Addr} {n cg : Nat} {st : Bool} {isV : Value} {rs : List RW} {i : Nat} (hi : i < rs.length) : (OfL xb B Ag n cg st isV rs)[i + 2]? = some (.blk (rs.getD i (0, [])).1 (.cells ((rs.getD i (0, [])).2.map Value.bool).toArray 4 (0, 0))) := by
  show (rs.map rres)[i]? = _
  rw [List.getElem?_map, rw_get hi]
  rfl
end Go.Proofs.YtndophlnapjkhaaGreatDoor.Vc
namespace Go.Proofs.YtndophlnapjkhaaGreatDoor.Vc
open Go Go.RowKit
set_option linter.unusedVariables false
set_option linter.unusedSimpArgs false
theorem fill_one (A : Option Addr) (n c : Nat) : Instr.fill (fun i => some (i * 1, 1)) ((List.range (1 * 1)).map ((Value.slice none 0 0).cells[· % (Value.slice none 0 0).cells.size]!)).toArray [(0, .slice A n c)] = some #[.slice A n c] := by rfl
theorem Xof_true {rs : List RW} {n : Nat} (hl : rs.length = n) (hr : ∀ r ∈ rs, r.2 = List.replicate n true) {q : Int × Int} (hq : InG n q) : Xof rs q = true := by
  obtain ⟨h0, h1, h2, h3⟩ := hq
  unfold Xof
  have := hr _ (List.mem_of_getElem? (rw_get (rs := rs) (i := q.1.toNat) (by omega)))
  rw [this, List.getD_eq_getElem?_getD, List.getElem?_replicate, if_pos (by omega)]
  rfl
set_option maxHeartbeats 4000000 in
theorem Of_rcalls (w0 : World) (Ag : Option Addr) (cg : Nat) (g : List GNode) (hg : Nodes w0 Ag cg g) (hok : GraphOk g) (hn : g.length ≤ 1000000) (st : Bool) :
    Calls Tryz.prog 31 [.slice Ag g.length cg, .bool st].toArray w0 fun en w' => ∃ xb Ai ci, en = .returned (.pointer (some ⟨xb, 0, none⟩)) ∧ Grid w' xb Ag g.length cg st Ai ci (mayX g st) ∧ Ext0 w0 w' := by
  have hE : Ext0 w0 w0 := Ext.refl _ _
  have hL : Has w0 [] := trivial
  refine calls [4] Tryz.func31 rfl rfl rfl rfl ?_
  refine c_seq ?_
  refine c_ops ?_
  refine l_val rfl rfl rfl (r_assign rfl) ?_
  refine l_nil ?_
  refine c_seq ?_
  refine c_ops ?_
  refine l_val rfl rfl rfl (r_move rfl) ?_
  refine l_val rfl rfl rfl (r_move rfl) ?_
  refine l_val rfl rfl rfl (r_build rfl rfl (built_pairs8 _ _ _ _)) ?_
  refine l_new rfl rfl rfl (n_box rfl hL hE) ?_
  rintro _ w ⟨b16, rfl, hb16, hL, hE, hX⟩
  refine l_val rfl rfl rfl (r_assign rfl) ?_
  refine l_nil ?_
  refine c_seq ?_
  refine c_seq ?_
  refine c_ops ?_
  refine l_val rfl rfl rfl (r_assign rfl) ?_
  refine l_nil ?_
  refine c_block ?_
  refine c_loop0 (fun m1 e w => (e 0 = .slice Ag g.length cg ∧ e 5 = .pointer (some ⟨b16, 0, none⟩)) ∧ ∃ (i : Nat) (isV : Value) (rs : List RW), i ≤ g.length ∧ m1 = g.length - i ∧ e 6 = .int .i64 (i : Nat) ∧ rs.length = i ∧ (∀ r ∈ rs, r.2 = List.replicate g.length true ∧ w0.heap.size ≤ r.1) ∧ Has w (OfL b16 w0.heap.size Ag g.length cg st isV rs) ∧ Ext0 w0 w) (g.length) ?_ ?_
  · exact ⟨⟨rfl, rfl⟩, 0, .slice none 0 0, [], Nat.zero_le _, rfl, rfl, rfl, fun r hr => absurd hr (by simp), Has.perm (List.Perm.swap _ _ _) (hL.nilRow w0.heap.size 62 1), hE⟩
  rintro m1 e w ⟨⟨hq0, hq5⟩, hI⟩
  refine c_know (t := 0) (by exact hq0) ?_
  refine c_know (t := 5) (by exact hq5) ?_
  clear hq0 hq5
  obtain ⟨i, isV, rs, hil, him, h6s, hrl, hrs, hL, hE⟩ := hI
  refine c_know (t := 6) (by exact h6s) ?_
  refine c_seq ?_
  refine c_seq ?_
  refine c_ops ?_
  refine l_val rfl rfl rfl (r_move rfl) ?_
  refine l_val rfl rfl rfl (r_move rfl) ?_
  refine l_val rfl rfl rfl (r_len rfl Tryz.underlying22 rfl) ?_
  refine l_val rfl rfl rfl (r_lss rfl rfl rfl) ?_
  refine l_nil ?_
  refine c_cond rfl (fun hb => ?_) (fun hb => ?_)
  · have hr20 := hb
    replace hb := of_decide_eq_true hb
    have hilt : i < g.length := by omega
    refine c_skip ?_
    refine c_seq ?_
    refine c_block ?_
    refine c_seq ?_
 
    refine c_ops ?_
    refine l_val rfl rfl rfl (r_move rfl) ?_
    refine l_val rfl rfl rfl (r_len rfl Tryz.underlying22 rfl) ?_
    refine l_new rfl rfl rfl (n_make rfl Tryz.underlying62 info_bool rfl rfl hL hE (by omega) (by omega)) ?_
    rintro _ w ⟨s25, rfl, hs25, hL, hE, hX⟩
    replace hL : Has w (.blk s25 (.cells (upRow g.length 0).toArray 4 (0, 0)) :: OfL b16 w0.heap.size Ag g.length cg st isV rs) := by rw [← upRow_zero]; exact hL
    refine l_val rfl rfl rfl (r_assign rfl) ?_
    refine l_nil ?_
    refine c_seq ?_
    refine c_seq ?_
 
    refine c_ops ?_
    refine l_val rfl rfl rfl (r_assign rfl) ?_
    refine l_nil ?_
    refine c_block ?_
 
    refine c_loop0 (fun m1 e w => (e 0 = .slice Ag g.length cg ∧ e 5 = .pointer (some ⟨b16, 0, none⟩) ∧ e 6 = .int .i64 (i : Nat) ∧ e 7 = .slice (some ⟨s25, 0, none⟩) g.length g.length) ∧ ∃ (k : Nat), k ≤ g.length ∧ m1 = g.length - k ∧ e 8 = .int .i64 (k : Nat) ∧ Has w (.blk s25 (.cells (upRow g.length k).toArray 4 (0, 0)) :: OfL b16 w0.heap.size Ag g.length cg st isV rs) ∧ Ext0 w0 w) (g.length) ?_ ?_
    · exact ⟨⟨rfl, rfl, rfl, rfl⟩, 0, Nat.zero_le _, rfl, rfl, hL, hE⟩
    rintro m1 e w ⟨⟨hq0, hq5, hq6, hq7⟩, hI⟩
    refine c_know (t := 0) (by exact hq0) ?_
    refine c_know (t := 5) (by exact hq5) ?_
    refine c_know (t := 6) (by exact hq6) ?_
    refine c_know (t := 7) (by exact hq7) ?_
    clear hq0 hq5 hq6 hq7
    obtain ⟨k, hkl, hkm, h8s, hL, hE⟩ := hI
    refine c_know (t := 8) (by exact h8s) ?_
    refine c_seq ?_
    refine c_seq ?_
 
    refine c_ops ?_
    refine l_val rfl rfl rfl (r_move rfl) ?_
    refine l_val rfl rfl rfl (r_move rfl) ?_
    refine l_val rfl rfl rfl (r_len rfl Tryz.underlying22 rfl) ?_
    refine l_val rfl rfl rfl (r_lss rfl rfl rfl) ?_
    refine l_nil ?_
    refine c_cond rfl (fun hb => ?_) (fun hb => ?_)
    · have hr29 := hb
      replace hb := of_decide_eq_true hb
      have hklt : k < g.length := by omega
      refine c_skip ?_
      refine c_seq ?_
      refine c_block ?_
   
      refine c_ops ?_
      refine l_val rfl rfl rfl (r_move rfl) ?_
      refine l_val rfl rfl rfl (r_move rfl) ?_
      refine l_val rfl rfl rfl (r_indexAddr rfl Tryz.underlying62 Tryz.sizeOf4 rfl rfl (by omega) (by omega)) ?_
      refine l_new_do rfl rfl (r_store1 (v := .bool true) 0 rfl Tryz.sizeOf4 rfl rfl rfl rfl hL hE rfl (by simp [upRow]; omega) (fun h => absurd h (Nat.not_lt.2 hs25))) ?_
      rintro w ⟨hL, hE, hz, hk'⟩
      rw [Nat.mul_one, Int.toNat_natCast, upRow_set hklt] at hL
      refine l_nil ?_
   
      refine c_ops ?_
      refine l_val rfl rfl rfl (r_move rfl) ?_
      refine l_val rfl rfl rfl (r_add rfl rfl rfl) ?_
      refine l_val rfl rfl rfl (r_assign rfl) ?_
      refine l_nil ?_
      exact ⟨g.length - (k + 1), by omega, ⟨rfl, rfl, rfl, rfl⟩, k + 1, by omega, rfl, by show Value.int .i64 (IntKind.i64.wrap ((k : Int) + 1)) = _; rw [wrap_succ hklt hg.max], hL, hE⟩
    · have hr29 := hb
      replace hb := of_decide_eq_false hb
      obtain rfl : k = g.length := by omega
      refine c_exit ?_
   
      refine c_ops ?_
      refine l_val rfl rfl rfl (r_move rfl) ?_
      refine l_val rfl rfl rfl (r_move rfl) ?_
      refine l_val rfl rfl rfl (r_nilCheck rfl rfl) ?_
      refine l_val rfl rfl rfl (r_fieldAddr (n := 0) rfl Tryz.underlying65 rfl Tryz.sizeOf63 rfl) ?_
      refine l_val rfl rfl rfl (r_load_blk rfl Tryz.isAgg63 rfl (hL.get 1 rfl) rfl) ?_
      refine l_val rfl rfl rfl (r_move rfl) ?_
      refine l_new rfl rfl rfl (n_slice (cells := #[.slice (some ⟨s25, 0, none⟩) g.length g.length]) rfl Tryz.underlying63 Tryz.sizeOf62 Tryz.zeroValue62 rfl rfl (fill_one _ _ _) hL hE) ?_
      rintro _ w ⟨s41, rfl, hs41, hL, hE, hX⟩
      refine l_new rfl rfl rfl (r_append (ys := [.slice (some ⟨s25, 0, none⟩) g.length g.length]) 3 rfl Tryz.underlying63 info_bools rfl (by decide) rfl rfl hL hE rfl rfl (blk_raw (cs := #[.slice (some ⟨s25, 0, none⟩) g.length g.length]) (hL.get 0 rfl) rfl) (fun u hu => by rw [List.mem_singleton] at hu; rw [hu]; rfl) (by omega) (by omega) (Nat.le_refl _) hE.size) ?_
      rintro _ w ⟨hL, hE, hk⟩
      obtain ⟨A4, c4, rfl⟩ := ownsRow_slice (hL.row 3 rfl)
      refine l_val rfl rfl rfl (r_nilCheck rfl rfl) ?_
      refine l_val rfl rfl rfl (r_fieldAddr (n := 0) rfl Tryz.underlying65 rfl Tryz.sizeOf63 rfl) ?_
      refine l_new_do rfl rfl (r_store 2 rfl Tryz.sizeOf63 rfl hL hE rfl rfl rfl rfl (fun h => absurd h (Nat.not_lt.2 hb16))) ?_
      rintro w ⟨hL, hE, hz, hk'⟩
      refine l_nil ?_
   
      refine c_ops ?_
      refine l_val rfl rfl rfl (r_move rfl) ?_
      refine l_val rfl rfl rfl (r_add rfl rfl rfl) ?_
      refine l_val rfl rfl rfl (r_assign rfl) ?_
      refine l_nil ?_
      exact ⟨g.length - (i + 1), by omega, ⟨rfl, rfl⟩, i + 1, _, rs ++ [(s25, List.replicate g.length true)], by omega, rfl, by show Value.int .i64 (IntKind.i64.wrap ((i : Int) + 1)) = _; rw [wrap_succ hilt hg.max], by simp [hrl], fun r hr => by rcases List.mem_append.1 hr with hr | hr <;> first | exact hrs r hr | (rw [List.mem_singleton] at hr; subst hr; exact ⟨rfl, hs25⟩), ofl_snoc hL.tail, hE⟩
  · have hr20 := hb
    replace hb := of_decide_eq_false hb
    obtain ⟨Ai, ci, rfl⟩ := ownsRow_slice (hL.row 1 rfl)
    have hrl2 : rs.length = g.length := by omega
    clear hrl
    have hrl := hrl2
    rw [hrl] at hL
    refine c_exit ?_
    refine c_seq ?_
    refine c_seq ?_
 
    refine c_ops ?_
    refine l_val rfl rfl rfl (r_assign rfl) ?_
    refine l_nil ?_
    refine c_block ?_
 
    refine c_loop0 (fun m1 e w => (e 0 = .slice Ag g.length cg ∧ e 5 = .pointer (some ⟨b16, 0, none⟩)) ∧ ∃ (rs : List RW) (b : Bool), e 9 = .bool b ∧ rs.length = g.length ∧ (∀ r ∈ rs, r.2.length = g.length) ∧ (∀ r ∈ rs, w0.heap.size ≤ r.1) ∧ (∀ q, InG g.length q → mayX g st q = true → Xof rs q = true) ∧ (b = false → ∀ q, InG g.length q → Xof rs q = mayX g st q) ∧ m1 = manyX g.length (Xof rs) + b.toNat ∧ Has w (OfL b16 w0.heap.size Ag g.length cg st (.slice Ai g.length ci) rs) ∧ Ext0 w0 w) (manyX g.length (Xof rs) + 1) ?_ ?_
    · exact ⟨⟨rfl, rfl⟩, rs, true, rfl, hrl, fun r hr => by rw [(hrs r hr).1]; simp, fun r hr => (hrs r hr).2, fun q hq _ => Xof_true hrl (fun r hr => (hrs r hr).1) hq, (fun h => by cases h), rfl, hL, hE⟩
    rintro m1 e w ⟨⟨hq0, hq5⟩, hI⟩
    refine c_know (t := 0) (by exact hq0) ?_
    refine c_know (t := 5) (by exact hq5) ?_
    clear hq0 hq5
    clear hrl hrs
    obtain ⟨rs0, b, h9, hrl, hrs, hrb, hle, hdone, hm1, hL, hE⟩ := hI
    refine c_know (t := 9) (by exact h9) ?_
    refine c_seq ?_
    refine c_seq ?_
 
    refine c_ops ?_
    refine l_val rfl rfl rfl (r_move rfl) ?_
    refine l_nil ?_
    refine c_cond rfl (fun hb => ?_) (fun hb => ?_)
    · have hr45 := hb
      refine c_skip ?_
      refine c_block ?_
      refine c_seq ?_
   
      refine c_ops ?_
      refine l_val rfl rfl rfl (r_assign rfl) ?_
      refine l_nil ?_
      refine c_seq ?_
   
      refine c_ops ?_
      refine l_val rfl rfl rfl (r_assign rfl) ?_
      refine l_nil ?_
      refine c_block ?_
   
      refine c_loop0 (fun m1 e w => (e 0 = .slice Ag g.length cg ∧ e 5 = .pointer (some ⟨b16, 0, none⟩)) ∧ ∃ (i : Nat) (rs : List RW) (more : Bool), i ≤ g.length ∧ m1 = g.length - i ∧ e 10 = .int .i64 (i : Nat) ∧ e 9 = .bool more ∧ OfAt g st rs0 rs more i 0 ∧ (∀ r ∈ rs, w0.heap.size ≤ r.1) ∧ Has w (OfL b16 w0.heap.size Ag g.length cg st (.slice Ai g.length ci) rs) ∧ Ext0 w0 w) g.length ?_ ?_
      · exact ⟨⟨rfl, rfl⟩, 0, rs0, false, Nat.zero_le _, rfl, rfl, rfl, OfAt.start hrl hrs hle, hrb, hL, hE⟩
      rintro m1 e w ⟨⟨hq0, hq5⟩, hI⟩
      refine c_know (t := 0) (by exact hq0) ?_
      refine c_know (t := 5) (by exact hq5) ?_
      clear hq0 hq5
      clear hrb
      obtain ⟨i, rs, more, hil, him, h10, h9, hO, hrb, hL, hE⟩ := hI
      refine c_know (t := 9) (by exact h9) ?_
      refine c_know (t := 10) (by exact h10) ?_
      refine c_seq ?_
      refine c_seq ?_
   
      refine c_ops ?_
      refine l_val rfl rfl rfl (r_move rfl) ?_
      refine l_val rfl rfl rfl (r_move rfl) ?_
      refine l_val rfl rfl rfl (r_len rfl Tryz.underlying22 rfl) ?_
      refine l_val rfl rfl rfl (r_lss rfl rfl rfl) ?_
      refine l_nil ?_
      refine c_cond rfl (fun hb => ?_) (fun hb => ?_)
      · have hr49 := hb
        replace hb := of_decide_eq_true hb
        have hilt : i < g.length := by omega
        refine c_skip ?_
        refine c_seq ?_
        refine c_block ?_
        refine c_seq ?_
     
        refine c_ops ?_
        refine l_val rfl rfl rfl (r_assign rfl) ?_
        refine l_nil ?_
        refine c_block ?_
     
        refine c_loop0 (fun m1 e w => (e 0 = .slice Ag g.length cg ∧ e 5 = .pointer (some ⟨b16, 0, none⟩) ∧ e 10 = .int .i64 (i : Nat)) ∧ ∃ (k : Nat) (rs : List RW) (more : Bool), k ≤ g.length ∧ m1 = g.length - k ∧ e 11 = .int .i64 (k : Nat) ∧ e 9 = .bool more ∧ OfAt g st rs0 rs more i k ∧ (∀ r ∈ rs, w0.heap.size ≤ r.1) ∧ Has w (OfL b16 w0.heap.size Ag g.length cg st (.slice Ai g.length ci) rs) ∧ Ext0 w0 w) g.length ?_ ?_
        · exact ⟨⟨rfl, rfl, rfl⟩, 0, rs, more, Nat.zero_le _, rfl, rfl, rfl, hO, hrb, hL, hE⟩
        rintro m1 e w ⟨⟨hq0, hq5, hq10⟩, hI⟩
        refine c_know (t := 0) (by exact hq0) ?_
        refine c_know (t := 5) (by exact hq5) ?_
        refine c_know (t := 10) (by exact hq10) ?_
        clear hq0 hq5 hq10
        clear hO hrb
        obtain ⟨k, rs, more, hkl, hkm, h11, h9, hO, hrb, hL, hE⟩ := hI
        refine c_know (t := 9) (by exact h9) ?_
        refine c_know (t := 11) (by exact h11) ?_
        refine c_seq ?_
        refine c_seq ?_
     
        refine c_ops ?_
        refine l_val rfl rfl rfl (r_move rfl) ?_
        refine l_val rfl rfl rfl (r_move rfl) ?_
        refine l_val rfl rfl rfl (r_len rfl Tryz.underlying22 rfl) ?_
        refine l_val rfl rfl rfl (r_lss rfl rfl rfl) ?_
        refine l_nil ?_
        refine c_cond rfl (fun hb => ?_) (fun hb => ?_)
        · have hr55 := hb
          replace hb := of_decide_eq_true hb
          have hklt : k < g.length := by omega
          have hir : i < rs.length := by rw [hO.len]; exact hilt
          have hkr : k < (rs.getD i (0, [])).2.length := by rw [hO.row_len hilt]; exact hklt
          have hG := (grid_of hL hO.len hO.rows).2
          have hin : InG g.length ((i : Int), (k : Int)) := ⟨by simp, by simp; omega, by simp, by simp; omega⟩
          refine c_skip ?_
          refine c_seq ?_
          refine c_block ?_
          refine c_seq ?_
       
          refine c_ops ?_
          refine l_val rfl rfl rfl (r_move rfl) ?_
          refine l_val rfl rfl rfl (r_nilCheck rfl rfl) ?_
          refine l_val rfl rfl rfl (r_fieldAddr (n := 0) rfl Tryz.underlying65 rfl Tryz.sizeOf63 rfl) ?_
          refine l_val rfl rfl rfl (r_load_blk rfl Tryz.isAgg63 rfl (hL.get 0 rfl) rfl) ?_
          refine l_val rfl rfl rfl (r_move rfl) ?_
          refine l_val rfl rfl rfl (r_indexAddr_sl rfl Tryz.underlying63 Tryz.sizeOf62 rfl hG.is rfl (by omega) (by omega)) ?_
          refine l_val rfl rfl rfl (r_load (v := .slice (some ⟨(rs.getD i (0, [])).1, 0, none⟩) g.length g.length) rfl Tryz.isAgg62 rfl (ofl_cell hL hir)) ?_
          refine l_val rfl rfl rfl (r_move rfl) ?_
          refine l_val rfl rfl rfl (r_indexAddr rfl Tryz.underlying62 Tryz.sizeOf4 rfl rfl (by omega) (by omega)) ?_
          refine l_val rfl rfl rfl (r_load (v := .bool (Xof rs ((i : Int), (k : Int)))) rfl Tryz.isAgg4 rfl (ofl_bool hL hir hkr)) ?_
          refine l_val rfl rfl rfl (r_move rfl) ?_
          refine l_case 68 rfl (fun hb => ?_) (fun hb => ?_)
          · have hr68 := hb
            refine l_val rfl rfl rfl (r_move rfl) ?_
            refine l_val rfl rfl rfl (r_move rfl) ?_
            refine l_val rfl rfl rfl (r_move rfl) ?_
            refine l_by rfl rfl rfl (r_call rfl rfl Tryz.func55 rfl rfl) (stands_rcalls _ hG (hg.keep RNode.kept (Ext0.cells hE)) hok ((i : Int), (k : Int)) hin) ?_
            rintro _ w ⟨rfl, hX⟩
            replace hL := hL.ext0 hX
            replace hE := hE.step0 hX
            refine ⟨_, rfl, ?_⟩
            refine l_val rfl rfl rfl (r_not rfl rfl) ?_
            refine l_val rfl rfl rfl (r_pick rfl rfl) ?_
            refine l_nil ?_
            refine c_cond rfl (fun hb => ?_) (fun hb => ?_)
            · have hr74 := hb
              have hO2 := hO.take hok hilt hklt hr68 (by simpa using hb)
              refine c_seq ?_
           
              refine c_ops ?_
              refine l_val rfl rfl rfl (r_move rfl) ?_
              refine l_val rfl rfl rfl (r_nilCheck rfl rfl) ?_
              refine l_val rfl rfl rfl (r_fieldAddr (n := 0) rfl Tryz.underlying65 rfl Tryz.sizeOf63 rfl) ?_
              refine l_val rfl rfl rfl (r_load_blk rfl Tryz.isAgg63 rfl (hL.get 0 rfl) rfl) ?_
              refine l_val rfl rfl rfl (r_move rfl) ?_
              refine l_val rfl rfl rfl (r_indexAddr_sl rfl Tryz.underlying63 Tryz.sizeOf62 rfl hG.is rfl (by omega) (by omega)) ?_
              refine l_val rfl rfl rfl (r_load (v := .slice (some ⟨(rs.getD i (0, [])).1, 0, none⟩) g.length g.length) rfl Tryz.isAgg62 rfl (ofl_cell hL hir)) ?_
              refine l_val rfl rfl rfl (r_assign rfl) ?_
              refine l_nil ?_
              refine c_seq ?_
           
              refine c_ops ?_
              refine l_val rfl rfl rfl (r_move rfl) ?_
              refine l_val rfl rfl rfl (r_move rfl) ?_
              refine l_val rfl rfl rfl (r_indexAddr rfl Tryz.underlying62 Tryz.sizeOf4 rfl rfl (by omega) (by omega)) ?_
              refine l_new_do rfl rfl (r_store1 (v := .bool false) (i + 2) rfl Tryz.sizeOf4 rfl rfl rfl rfl hL hE (row_rw hir) (by rw [List.length_map, Nat.mul_one, Int.toNat_natCast]; omega) (fun h => absurd h (Nat.not_lt.2 (hrb _ (List.mem_of_getElem? (rw_get hir)))))) ?_
              rintro w ⟨hL, hE, hz, hk'⟩
              rw [Nat.mul_one, Int.toNat_natCast, ofl_set hir] at hL
              refine l_nil ?_
           
              refine c_ops ?_
              refine l_val rfl rfl rfl (r_assign rfl) ?_
              refine l_nil ?_
           
              refine c_ops ?_
              refine l_val rfl rfl rfl (r_move rfl) ?_
              refine l_val rfl rfl rfl (r_add rfl rfl rfl) ?_
              refine l_val rfl rfl rfl (r_assign rfl) ?_
              refine l_nil ?_
              first | exact ⟨g.length - (k + 1), by omega, ⟨rfl, rfl, rfl⟩, k + 1, setR rs i k, true, by omega, rfl, by show Value.int .i64 (IntKind.i64.wrap ((k : Int) + 1)) = _; rw [wrap_succ hklt hg.max], rfl, hO2, setR_base hrb hir, hL, hE⟩ | exact ⟨g.length - (k + 1), by omega, ⟨rfl, rfl, rfl⟩, k + 1, rs, more, by omega, rfl, by show Value.int .i64 (IntKind.i64.wrap ((k : Int) + 1)) = _; rw [wrap_succ hklt hg.max], rfl, hO3, hrb, hL, hE⟩
            · have hr74 := hb
              have hO3 := hO.keep (fun _ => by simpa using hb)
              refine c_skip ?_
           
              refine c_ops ?_
              refine l_val rfl rfl rfl (r_move rfl) ?_
              refine l_val rfl rfl rfl (r_add rfl rfl rfl) ?_
              refine l_val rfl rfl rfl (r_assign rfl) ?_
              refine l_nil ?_
              first | exact ⟨g.length - (k + 1), by omega, ⟨rfl, rfl, rfl⟩, k + 1, setR rs i k, true, by omega, rfl, by show Value.int .i64 (IntKind.i64.wrap ((k : Int) + 1)) = _; rw [wrap_succ hklt hg.max], rfl, hO2, setR_base hrb hir, hL, hE⟩ | exact ⟨g.length - (k + 1), by omega, ⟨rfl, rfl, rfl⟩, k + 1, rs, more, by omega, rfl, by show Value.int .i64 (IntKind.i64.wrap ((k : Int) + 1)) = _; rw [wrap_succ hklt hg.max], rfl, hO3, hrb, hL, hE⟩
          · have hr68 := hb
            have hO3 := hO.keep (fun h => by rw [hb] at h; cases h)
            refine l_not rfl rfl rfl ?_
            refine l_not rfl rfl rfl ?_
            refine l_not rfl rfl rfl ?_
            refine l_not rfl rfl rfl ?_
            refine l_not rfl rfl rfl ?_
            refine l_val rfl rfl rfl (r_pick rfl rfl) ?_
            refine l_nil ?_
            refine c_no rfl ?_
            refine c_skip ?_
         
            refine c_ops ?_
            refine l_val rfl rfl rfl (r_move rfl) ?_
            refine l_val rfl rfl rfl (r_add rfl rfl rfl) ?_
            refine l_val rfl rfl rfl (r_assign rfl) ?_
            refine l_nil ?_
            first | exact ⟨g.length - (k + 1), by omega, ⟨rfl, rfl, rfl⟩, k + 1, setR rs i k, true, by omega, rfl, by show Value.int .i64 (IntKind.i64.wrap ((k : Int) + 1)) = _; rw [wrap_succ hklt hg.max], rfl, hO2, setR_base hrb hir, hL, hE⟩ | exact ⟨g.length - (k + 1), by omega, ⟨rfl, rfl, rfl⟩, k + 1, rs, more, by omega, rfl, by show Value.int .i64 (IntKind.i64.wrap ((k : Int) + 1)) = _; rw [wrap_succ hklt hg.max], rfl, hO3, hrb, hL, hE⟩
        · have hr55 := hb
          replace hb := of_decide_eq_false hb
          obtain rfl : k = g.length := by omega
          refine c_exit ?_
       
          refine c_ops ?_
          refine l_val rfl rfl rfl (r_move rfl) ?_
          refine l_val rfl rfl rfl (r_add rfl rfl rfl) ?_
          refine l_val rfl rfl rfl (r_assign rfl) ?_
          refine l_nil ?_
          exact ⟨g.length - (i + 1), by omega, ⟨rfl, rfl⟩, i + 1, rs, more, by omega, rfl, by show Value.int .i64 (IntKind.i64.wrap ((i : Int) + 1)) = _; rw [wrap_succ hilt hg.max], rfl, hO.row, hrb, hL, hE⟩
      · have hr49 := hb
        replace hb := of_decide_eq_false hb
        obtain rfl : i = g.length := by omega
        refine c_exit ?_
        refine ⟨manyX g.length (Xof rs) + more.toNat, ?_, ⟨rfl, rfl⟩, rs, more, rfl, hO.len, hO.rows, hrb, hO.le, ?_, rfl, hL, hE⟩
        · have hh := hO.gone
          have := hO.le0
          rw [hm1, hr45]
          cases more with
          | true => have := hh rfl; simp; omega
          | false => simp; omega
        · intro hmo
          subst hmo
          exact (OfAt.done hok hO).2
    · have hr45 := hb
      have hG := (grid_of hL hrl hrs).2.congr (hdone hb)
      refine c_exit ?_
      refine c_seq ?_
   
      refine c_ops ?_
      refine l_val rfl rfl rfl (r_move rfl) ?_
      refine l_val rfl rfl rfl (r_assign rfl) ?_
      refine l_nil ?_
      refine c_ret ?_
      exact ⟨b16, Ai, ci, rfl, hG, hE⟩
end Go.Proofs.YtndophlnapjkhaaGreatDoor.Vc
