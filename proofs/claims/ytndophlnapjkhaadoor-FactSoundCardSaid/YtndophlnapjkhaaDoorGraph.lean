/- Which graphs may be, and what a type is of: functions of package graph, and of slices and cmp that they call. Conditions: those of each statement. -/
import Derived.Test.YtndophlnapjkhaaDoorLex
namespace Go.Proofs.YtndophlnapjkhaaDoor.Vc
open Go Go.RowKit
set_option linter.unusedVariables false
set_option linter.unusedSimpArgs false

theorem info_int : (Tryd.prog.info? 3).map (fun i => (i.zero, i.size, i.bytes)) = some (some (.int .i64 0), 1, 8) := by kernel_rfl
theorem isNaN_calls (w0 : World) (s : ByteArray) : Calls Tryd.prog 69 [.string s].toArray w0 fun en w' => en = .returned (.bool false) ∧ Ext0 w0 w' := by
  have hE : Ext0 w0 w0 := Ext.refl _ _
  refine calls [2] Tryd.func69 rfl rfl rfl rfl ?_
  refine c_seq ?_
  -- region 0
  refine c_ops ?_
  refine l_val rfl rfl rfl (r_assign rfl) ?_
  refine l_nil ?_
  refine c_seq ?_
  -- region 1
  refine c_ops ?_
  refine l_val rfl rfl rfl (r_move rfl) ?_
  refine l_val rfl rfl rfl (r_move rfl) ?_
  refine l_val rfl rfl rfl (r_sneq rfl rfl rfl) ?_
  refine l_val rfl rfl rfl (r_assign rfl) ?_
  refine l_nil ?_
  refine c_ret ?_
  exact ⟨ret_bool rfl (by simp), hE⟩
def ltB (a b : ByteArray) : Bool := Op.bytesLess a.toList b.toList
def cmpB (a b : ByteArray) : Int := if ltB a b then -1 else if a = b then 0 else 1
theorem Compare_calls (w0 : World) (a b : ByteArray) : Calls Tryd.prog 60 [.string a, .string b].toArray w0 fun en w' => en = .returned (.int .i64 (cmpB a b)) ∧ Ext0 w0 w' := by
  have hE : Ext0 w0 w0 := Ext.refl _ _
  refine calls [4] Tryd.func60 rfl rfl rfl rfl ?_
  refine c_seq ?_
  -- region 0
  refine c_ops ?_
  refine l_val rfl rfl rfl (r_assign rfl) ?_
  refine l_nil ?_
  refine c_seq ?_
  -- region 1
  refine c_ops ?_
  refine l_val rfl rfl rfl (r_move rfl) ?_
  refine l_by rfl rfl rfl (r_call rfl rfl Tryd.func69 rfl rfl) (isNaN_calls _ _) ?_   -- cmp.go:41 slot 8 := (call {callee=(value (func 69)), args=[(tmp 7)], argTypes=[9]})
  rintro _ w ⟨rfl, hX⟩
  replace hE := hE.trans hX
  refine ⟨_, rfl, ?_⟩
  refine l_val rfl rfl rfl (r_assign rfl) ?_
  refine l_nil ?_
  refine c_seq ?_
  -- region 2
  refine c_ops ?_
  refine l_val rfl rfl rfl (r_move rfl) ?_
  refine l_by rfl rfl rfl (r_call rfl rfl Tryd.func69 rfl rfl) (isNaN_calls _ _) ?_   -- cmp.go:42 slot 10 := (call {callee=(value (func 69)), args=[(tmp 9)], argTypes=[9]})
  rintro _ w ⟨rfl, hX⟩
  replace hE := hE.trans hX
  refine ⟨_, rfl, ?_⟩
  refine l_val rfl rfl rfl (r_assign rfl) ?_
  refine l_nil ?_
  refine c_seq ?_
  refine c_seq ?_
  -- region 3
  refine c_ops ?_
  refine l_val rfl rfl rfl (r_move rfl) ?_
  refine l_nil ?_
  refine c_no rfl ?_
  refine c_skip ?_
  refine c_seq ?_
  refine c_seq ?_
  -- region 7
  refine c_ops ?_
  refine l_val rfl rfl rfl (r_move rfl) ?_
  refine l_nil ?_
  refine c_no rfl ?_
  refine c_skip ?_
  refine c_seq ?_
  refine c_seq ?_
  -- region 9
  refine c_ops ?_
  refine l_val rfl rfl rfl (r_move rfl) ?_
  refine l_val rfl rfl rfl (r_move rfl) ?_
  refine l_val rfl rfl rfl (r_slss rfl rfl rfl) ?_
  refine l_nil ?_
  refine c_cond rfl (fun hb => ?_) (fun hb => ?_)
  · -- True
    have hr16 := hb
    refine c_seq ?_
    -- region 10
    refine c_ops ?_
    refine l_val rfl rfl rfl (r_assign rfl) ?_
    refine l_nil ?_
    refine c_ret ?_
    exact ⟨ret_int rfl (by unfold cmpB ltB; rw [hb]; rfl), hE⟩
  · -- False
    have hr16 := hb
    refine c_skip ?_
    refine c_seq ?_
    refine c_seq ?_
    -- region 11
    refine c_ops ?_
    refine l_val rfl rfl rfl (r_move rfl) ?_
    refine l_val rfl rfl rfl (r_move rfl) ?_
    refine l_val rfl rfl rfl (r_sgtr rfl rfl rfl) ?_
    refine l_nil ?_
    refine c_cond rfl (fun hb => ?_) (fun hb => ?_)
    · -- True
      have hr19 := hb
      refine c_seq ?_
      -- region 12
      refine c_ops ?_
      refine l_val rfl rfl rfl (r_assign rfl) ?_
      refine l_nil ?_
      refine c_ret ?_
      exact ⟨ret_int rfl (by unfold cmpB ltB; rename_i h1; rw [h1] at hb ⊢; simp at hb; rw [if_neg hb]; rfl), hE⟩
    · -- False
      have hr19 := hb
      refine c_skip ?_
      refine c_seq ?_
      -- region 13
      refine c_ops ?_
      refine l_val rfl rfl rfl (r_assign rfl) ?_
      refine l_nil ?_
      refine c_ret ?_
      exact ⟨ret_int rfl (by unfold cmpB ltB; rename_i h1; rw [h1] at hb ⊢; simp at hb; rw [if_pos hb]; rfl), hE⟩
/-- 'a == b' tells -1, so that what is twice there does not rise. -/
def cmp2 (a b : ByteArray) : Int := if a = b then -1 else cmpB a b
def risesB (l : List ByteArray) : Bool := (List.range l.length).all fun i => decide (i = 0) || !decide (cmp2 (l.getD i ByteArray.empty) (l.getD (i - 1) ByteArray.empty) < 0)
theorem may2_calls (w0 : World) (a b : ByteArray) : Calls Tryd.prog 59 [.string a, .string b].toArray w0 fun en w' => en = .returned (.int .i64 (cmp2 a b)) ∧ Ext0 w0 w' := by
  have hE : Ext0 w0 w0 := Ext.refl _ _
  refine calls [4] Tryd.func59 rfl rfl rfl rfl ?_
  refine c_seq ?_
  -- region 0
  refine c_ops ?_
  refine l_val rfl rfl rfl (r_assign rfl) ?_
  refine l_nil ?_
  refine c_seq ?_
  refine c_seq ?_
  -- region 1
  refine c_ops ?_
  refine l_val rfl rfl rfl (r_move rfl) ?_
  refine l_val rfl rfl rfl (r_move rfl) ?_
  refine l_val rfl rfl rfl (r_seql rfl rfl rfl) ?_
  refine l_nil ?_
  refine c_cond rfl (fun hb => ?_) (fun hb => ?_)
  · -- True
    have hr7 := hb
    replace hb := of_decide_eq_true hb
    refine c_seq ?_
    -- region 2
    refine c_ops ?_
    refine l_val rfl rfl rfl (r_assign rfl) ?_
    refine l_nil ?_
    refine c_ret ?_
    exact ⟨ret_int rfl (by unfold cmp2; rw [if_pos hb]), hE⟩
  · -- False
    have hr7 := hb
    replace hb := of_decide_eq_false hb
    refine c_skip ?_
    refine c_seq ?_
    -- region 3
    refine c_ops ?_
    refine l_val rfl rfl rfl (r_move rfl) ?_
    refine l_val rfl rfl rfl (r_move rfl) ?_
    refine l_by rfl rfl rfl (r_call rfl rfl Tryd.func60 rfl rfl) (Compare_calls _ _ _) ?_   -- graph.go:42 slot 10 := (call {callee=(value (func 60)), args=[(tmp 8), (tmp 9)], argTypes=[9, 9]})
    rintro _ w ⟨rfl, hX⟩
    replace hE := hE.trans hX
    refine ⟨_, rfl, ?_⟩
    refine l_val rfl rfl rfl (r_assign rfl) ?_
    refine l_nil ?_
    refine c_ret ?_
    exact ⟨ret_int rfl (by unfold cmp2; rw [if_neg hb]), hE⟩
theorem risesB_no {l : List ByteArray} (i : Nat) (h0 : 0 < i) (hi : i < l.length) (h : cmp2 (l.getD i ByteArray.empty) (l.getD (i - 1) ByteArray.empty) < 0) : risesB l = false := by
  unfold risesB
  rw [List.all_eq_false]
  refine ⟨i, List.mem_range.2 hi, ?_⟩
  have : ¬ i = 0 := by omega
  simp only [h, this, decide_true, decide_false]
  decide
theorem risesB_yes {l : List ByteArray} (h : ∀ i, 0 < i → i < l.length → ¬ cmp2 (l.getD i ByteArray.empty) (l.getD (i - 1) ByteArray.empty) < 0) : risesB l = true := by
  unfold risesB
  rw [List.all_eq_true]
  intro i hi
  rcases Nat.eq_zero_or_pos i with h0 | h0
  · simp [h0]
  · have := h i h0 (List.mem_range.1 hi)
    simp only [this, decide_false]
    simp
theorem IsSorted_calls (w0 : World) (A : Option Addr) (n c : Nat) (xs : List ByteArray) (hx : Sl w0 1 RStr A n c xs) : Calls Tryd.prog 58 [.slice A n c, .func (.func 59) #[] #[]].toArray w0 fun en w' => en = .returned (.bool (risesB xs)) ∧ Ext0 w0 w' := by
  have hE : Ext0 w0 w0 := Ext.refl _ _
  have hL : Has w0 [] := trivial
  have hlen : xs.length = n := hx.len
  have hmax := hx.max
  have hsome := hx.is
  refine calls [4] Tryd.func58 rfl rfl rfl rfl ?_
  refine c_seq ?_
  -- region 0
  refine c_ops ?_
  refine l_val rfl rfl rfl (r_assign rfl) ?_
  refine l_nil ?_
  refine c_seq ?_
  refine c_seq ?_
  -- region 1
  refine c_ops ?_
  refine l_val rfl rfl rfl (r_move rfl) ?_
  refine l_val rfl rfl rfl (r_len rfl Tryd.underlying43 rfl) ?_
  refine l_val rfl rfl rfl (r_sub rfl rfl rfl) ?_
  refine l_val rfl rfl rfl (r_assign rfl) ?_
  refine l_nil ?_
  refine c_block ?_
  -- loop 0: slots that it writes and that are read in it ahead of that: [5]
  refine c_loop [4, 5, 9, 10, 11, 12, 13, 14, 15, 16, 17, 18, 19, 20, 21, 22, 23, 24] (fun m e w => ∃ i : Int, -1 ≤ i ∧ i < n ∧ m = (i + 1).toNat ∧ e 5 = .int .i64 i ∧ (∀ j : Nat, i < j → 0 < j → j < xs.length → ¬ cmp2 (xs.getD j ByteArray.empty) (xs.getD (j - 1) ByteArray.empty) < 0) ∧ Ext0 w0 w) n ?_ ?_
  · exact ⟨(n : Int) - 1, by omega, by omega, by omega, by show Value.int .i64 (IntKind.i64.wrap ((n : Int) - 1)) = _; rw [wrap_small (by omega) (by omega)], fun j h1 _ h2 => by omega, hE⟩
  intro m e w hI
  obtain ⟨i, hi, hin, hm, h5, hall, hE⟩ := hI
  refine c_know h5 ?_
  refine c_seq ?_
  refine c_seq ?_
  -- region 2
  refine c_ops ?_
  refine l_val rfl rfl rfl (r_move rfl) ?_
  refine l_val rfl rfl rfl (r_gtr rfl rfl rfl) ?_
  refine l_nil ?_
  refine c_cond rfl (fun hb => ?_) (fun hb => ?_)
  · -- True
    have hr10 := hb
    replace hb := of_decide_eq_true hb
    have hxw : Sl w.drew 1 RStr A n c xs := hx.keep RStr.kept (Ext0.cells hE.drew)
    have hsub : IntKind.i64.wrap (i - 1) = i - 1 := wrap_small (by omega) (by omega)
    have hL : Has w [] := trivial
    refine c_skip ?_
    refine c_seq ?_
    refine c_block ?_
    refine c_seq ?_
    -- region 4
    refine c_draw mixed (hL) hE ?_
    replace hL := hL.drew
    replace hE := hE.drew
    have hK := hL
    refine h_t 0 rfl rfl (by kernel_rfl) (fun _ _ _ h => h) ⟨hK, hE⟩ rfl (fun W hW => r_move rfl) ?_
    refine h_t 1 rfl rfl (by kernel_rfl) (fun _ _ _ h => h) ⟨hK, hE⟩ rfl (fun W hW => r_move rfl) ?_
    refine h_t 2 rfl rfl (by kernel_rfl) (fun _ _ _ h => h) ⟨hK, hE⟩ rfl (fun W hW => r_move rfl) ?_
    refine h_t 3 rfl rfl (by kernel_rfl) (fun _ _ _ h => h) ⟨hK, hE⟩ rfl (fun W hW => r_indexAddr_sl rfl Tryd.underlying43 Tryd.sizeOf9 rfl hsome rfl (by omega) (by omega)) ?_
    refine h_t 4 rfl rfl (by kernel_rfl) (fun _ _ _ h => h) ⟨hK, hE⟩ rfl (fun W hW => r_load rfl Tryd.isAgg9 rfl ((hx.keep RStr.kept (Ext0.cells hW.2)).str i (by omega) (by omega))) ?_
    refine h_t 5 rfl rfl (by kernel_rfl) (fun _ _ _ h => h) ⟨hK, hE⟩ rfl (fun W hW => r_move rfl) ?_
    refine h_t 6 rfl rfl (by kernel_rfl) (fun _ _ _ h => h) ⟨hK, hE⟩ rfl (fun W hW => r_move rfl) ?_
    refine h_t 7 rfl rfl (by kernel_rfl) (fun _ _ _ h => h) ⟨hK, hE⟩ rfl (fun W hW => (r_sub rfl rfl rfl).trans (by rw [hsub])) ?_
    refine h_t 8 rfl rfl (by kernel_rfl) (fun _ _ _ h => h) ⟨hK, hE⟩ rfl (fun W hW => r_indexAddr_sl rfl Tryd.underlying43 Tryd.sizeOf9 rfl hsome rfl (by omega) (by omega)) ?_
    refine h_t 9 rfl rfl (by kernel_rfl) (fun _ _ _ h => h) ⟨hK, hE⟩ rfl (fun W hW => r_load rfl Tryd.isAgg9 rfl ((hx.keep RStr.kept (Ext0.cells hW.2)).str (i - 1) (by omega) (by omega))) ?_
    refine h_by 10 rfl rfl (by kernel_rfl) rfl (r_call rfl rfl Tryd.func59 rfl rfl) (may2_calls _ _ _) ?_   -- sort.go:55 slot 23 := (call {callee=(value (tmp 13)), args=[(tmp 17), (tmp 22)], argTypes=[9, 9]})
    rintro _ w ⟨rfl, hX⟩
    replace hE := hE.trans hX
    have hL : Has w [] := trivial
    have hK := hL
    refine ⟨_, rfl, ⟨hK, hE⟩, ?_⟩
    refine h_t 11 rfl rfl (by kernel_rfl) (fun _ _ _ h => h) ⟨hK, hE⟩ rfl (fun W hW => r_lss rfl rfl rfl) ?_
    refine h_done (by kernel_rfl) ?_
    refine c_cond rfl (fun hb => ?_) (fun hb => ?_)
    · -- True
      have hr24 := hb
      replace hb := of_decide_eq_true hb
      refine c_seq ?_
      -- region 5
      refine c_ops ?_
      refine l_val rfl rfl rfl (r_assign rfl) ?_
      refine l_nil ?_
      refine c_ret ?_
      exact ⟨ret_bool rfl (risesB_no i.toNat (by omega) (by omega) (by rw [show i.toNat - 1 = (i - 1).toNat by omega]; exact hb)).symm, hE⟩
    · -- False
      have hr24 := hb
      replace hb := of_decide_eq_false hb
      have hall2 : ∀ j : Nat, i - 1 < j → 0 < j → j < xs.length → ¬ cmp2 (xs.getD j ByteArray.empty) (xs.getD (j - 1) ByteArray.empty) < 0 := by
        intro j h1 h0 h2
        rcases Int.lt_or_eq_of_le (show i ≤ j by omega) with h | h
        · exact hall j h h0 h2
        · obtain rfl : j = i.toNat := by omega
          rw [show i.toNat - 1 = (i - 1).toNat by omega]
          exact hb
      refine c_skip ?_
      -- region 3
      refine c_ops ?_
      refine l_val rfl rfl rfl (r_move rfl) ?_
      refine l_val rfl rfl rfl (r_sub rfl rfl rfl) ?_
      refine l_val rfl rfl rfl (r_assign rfl) ?_
      refine l_nil ?_
      refine ⟨by repeat (first | exact Agree.over _ _ _ | exact Agree.refl _ _ | (refine Agree.puto ?_ _ _ rfl) | (refine Agree.put ?_ _ _ rfl) | (refine Agree.sub ?_ rfl)), ?_⟩
      exact ⟨i.toNat, by omega, i - 1, by omega, by omega, by omega, by show Value.int .i64 (IntKind.i64.wrap (i - 1)) = _; rw [wrap_small (by omega) (by omega)], hall2, hE⟩
  · -- False
    have hr10 := hb
    replace hb := of_decide_eq_false hb
    refine c_exit ?_
    refine c_seq ?_
    -- region 6
    refine c_ops ?_
    refine l_val rfl rfl rfl (r_assign rfl) ?_
    refine l_nil ?_
    refine c_ret ?_
    exact ⟨ret_bool rfl (risesB_yes (fun j h0 h1 => hall j (by omega) h0 h1)).symm, hE⟩
theorem Sl.and {α : Type} {w : World} {sz n c : Nat} {R : World → α → List Value → Prop} {A : Option Addr} {xs : List α} (h : Sl w sz R A n c xs) {q : α → Prop} (hq : ∀ x ∈ xs, q x) : Sl w sz (fun W x cs => R W x cs ∧ q x) A n c xs :=
  ⟨h.len, h.cap, h.max, h.is, fun i x hi => let ⟨cs, h1, h2, h3⟩ := h.at_ i x hi; ⟨cs, h1, ⟨h2, hq x (List.mem_of_getElem? hi)⟩, h3⟩⟩
def outB (n : Nat) (k : Int) : Bool := decide (k < 0) || decide ((n : Int) ≤ k)
def oddB (n : Nat) (x : GNode) : Bool := x.l.any (outB n) || (!decide (x.num = 0) && !decide (x.kind = 9)) || (!decide (x.name = ⟨#[]⟩) && !decide (x.kind = 5)) || (decide (0 < (x.keys.length : Int)) && !decide (x.kind = 7))
/-- A row of numbers without two of the same. -/
def diffB (l : List Int) : Bool := decide l.Nodup
def bareB (x : GNode) : Bool := decide (x.kind = 1 ∨ x.kind = 2 ∨ x.kind = 3 ∨ x.kind = 4)
def kindB (g : List GNode) (x : GNode) : Bool :=
  cond (bareB x) (decide ((x.l.length : Int) = 0))
  (cond (decide (x.kind = 5)) (decide ((x.l.length : Int) = 0) && (isNameB x.name || isKeyB x.name))
  (cond (decide (x.kind = 7)) (decide ((x.l.length : Int) = x.keys.length) && decide ((x.keys.length : Int) ≤ 16) && risesB x.keys && !x.keys.any (fun s => !isNameB s))
  (cond (decide (x.kind = 8)) (x.l.all (fun k => !decide ((gat g k).kind = 8)) && decide (2 ≤ (x.l.length : Int)) && diffB x.l)
  (cond (decide (x.kind = 9)) (decide (0 ≤ x.num) && decide (x.num < 16) && decide ((x.l.length : Int) = 1)) false))))
def mayB (g : List GNode) (x : GNode) : Bool := !oddB g.length x && kindB g x
def hadM (m : List (Int × Int)) (k : Int) : List (Int × Int) := setM m k (IntKind.i64.wrap ((getM m k).getD 0 + 1))
theorem setM_keys : ∀ (m : List (Int × Int)) (k v : Int), (setM m k v).map (·.1) = if k ∈ m.map (·.1) then m.map (·.1) else m.map (·.1) ++ [k]
  | [], _, _ => rfl
  | p :: r, k, v => by
    by_cases hp : p.1 = k
    · simp [setM, hp]
    · have ih := setM_keys r k v
      simp only [setM, hp, if_false, List.map_cons, ih, List.mem_cons]
      have : ¬ k = p.1 := fun e => hp e.symm
      simp only [this, false_or]
      split <;> simp
/-- What the map of a union's members is, of those up to k. -/
structure Had (l : List Int) (k : Nat) (m : List (Int × Int)) : Prop where
  mem : ∀ x, x ∈ l.take k ↔ x ∈ m.map (·.1)
  dup : (l.take k).Nodup ↔ m.length = k
  le : m.length ≤ k
theorem Had.zero (l : List Int) : Had l 0 [] := ⟨by simp, by simp, by simp⟩
theorem Had.succ {l : List Int} {k : Nat} {m : List (Int × Int)} (h : Had l k m) {x : Int} (hx : l[k]? = some x) : Had l (k + 1) (hadM m x) := by
  have hk := (List.getElem?_eq_some_iff.1 hx).1
  have ht : l.take (k + 1) = l.take k ++ [x] := by rw [List.take_add_one, hx]; rfl
  have hlen : ∀ m' : List (Int × Int), m'.length = (m'.map (·.1)).length := fun _ => by simp
  have hkeys : (hadM m x).map (·.1) = if x ∈ m.map (·.1) then m.map (·.1) else m.map (·.1) ++ [x] := setM_keys m x _
  have hle := h.le
  by_cases hm : x ∈ m.map (·.1)
  · rw [if_pos hm] at hkeys
    have hl : (hadM m x).length = m.length := by rw [hlen, hkeys, ← hlen]
    refine ⟨fun y => ?_, ?_, by omega⟩
    · rw [hkeys, ht, List.mem_append, h.mem, List.mem_singleton]
      exact ⟨fun h => h.elim id (fun e => e ▸ hm), .inl⟩
    · rw [hl, ht, List.nodup_append]
      constructor
      · rintro ⟨_, _, h3⟩
        exact absurd rfl (h3 x ((h.mem x).2 hm) x (by simp))
      · intro e; omega
  · rw [if_neg hm] at hkeys
    have hl : (hadM m x).length = m.length + 1 := by rw [hlen, hkeys, List.length_append, ← hlen]; rfl
    refine ⟨fun y => ?_, ?_, by omega⟩
    · rw [hkeys, ht, List.mem_append, List.mem_append, h.mem]
    · rw [hl, ht, List.nodup_append, h.dup]
      constructor
      · rintro ⟨h1, _, _⟩; omega
      · intro e
        refine ⟨by omega, by simp, ?_⟩
        rintro a ha b hb rfl
        rw [List.mem_singleton] at hb
        subst hb
        exact hm ((h.mem _).1 ha)
theorem may1_calls (w0 : World) (b : Nat) (A : Option Addr) (n c : Nat) (t : TypeId) (k : Int) (hL : Has w0 [.blk b (.cells #[.slice A n c] t (0, 0))]) : Calls Tryd.prog 55 [.int .i64 k, .pointer (some ⟨b, 0, none⟩)].toArray w0 fun en w' => en = .returned (.bool (outB n k)) ∧ Ext0 w0 w' := by
  have hE : Ext0 w0 w0 := Ext.refl _ _
  refine calls [3] Tryd.func55 rfl rfl rfl rfl ?_
  refine c_seq ?_
  -- region 0
  refine c_ops ?_
  refine l_val rfl rfl rfl (r_assign rfl) ?_
  refine l_nil ?_
  refine c_seq ?_
  -- region 1
  refine c_ops ?_
  refine l_val rfl rfl rfl (r_move rfl) ?_
  refine l_val rfl rfl rfl (r_lss rfl rfl rfl) ?_
  refine l_val rfl rfl rfl (r_move rfl) ?_
  refine l_case 6 rfl (fun hb => ?_) (fun hb => ?_)
  · -- slot 6 is True
    have hr6 := hb
    replace hb := of_decide_eq_true hb
    refine l_not rfl rfl rfl ?_
    refine l_not rfl rfl rfl ?_
    refine l_not rfl rfl rfl ?_
    refine l_not rfl rfl rfl ?_
    refine l_val rfl rfl rfl (r_pick rfl rfl) ?_
    refine l_val rfl rfl rfl (r_assign rfl) ?_
    refine l_nil ?_
    refine c_ret ?_
    exact ⟨ret_bool rfl (by simp only [outB, hr6, Bool.true_and, Bool.and_true, Bool.false_and, Bool.and_false, Bool.true_or, Bool.or_true, Bool.false_or, Bool.or_false, Bool.not_true, Bool.not_false, cond_true, cond_false]), hE⟩
  · -- slot 6 is False
    have hr6 := hb
    replace hb := of_decide_eq_false hb
    refine l_val rfl rfl rfl (r_move rfl) ?_
    refine l_val rfl rfl rfl (r_load_blk rfl Tryd.isAgg22 rfl (hL.get 0 rfl) rfl) ?_
    refine l_val rfl rfl rfl (r_len rfl Tryd.underlying22 rfl) ?_
    refine l_val rfl rfl rfl (r_geq rfl rfl rfl) ?_
    refine l_val rfl rfl rfl (r_pick rfl rfl) ?_
    refine l_val rfl rfl rfl (r_assign rfl) ?_
    refine l_nil ?_
    refine c_ret ?_
    exact ⟨ret_bool rfl (by simp only [outB, hr6, Bool.true_and, Bool.and_true, Bool.false_and, Bool.and_false, Bool.true_or, Bool.or_true, Bool.false_or, Bool.or_false, Bool.not_true, Bool.not_false, cond_true, cond_false]), hE⟩
theorem may3_calls (w0 : World) (s : ByteArray) (hk0 : KeysLaid w0) (hmax : s.size ≤ 9223372036854775807) : Calls Tryd.prog 62 [.string s].toArray w0 fun en w' => en = .returned (.bool (!isNameB s)) ∧ Ext0 w0 w' := by
  have hE : Ext0 w0 w0 := Ext.refl _ _
  refine calls [2] Tryd.func62 rfl rfl rfl rfl ?_
  refine c_seq ?_
  -- region 0
  refine c_ops ?_
  refine l_val rfl rfl rfl (r_assign rfl) ?_
  refine l_nil ?_
  refine c_seq ?_
  -- region 1
  refine c_ops ?_
  refine l_val rfl rfl rfl (r_move rfl) ?_
  refine l_by rfl rfl rfl (r_call rfl rfl Tryd.func56 rfl rfl) (IsName_calls _ _ hk0 hmax) ?_   -- graph.go:44 slot 4 := (call {callee=(value (func 56)), args=[(tmp 3)], argTypes=[9]})
  rintro _ w ⟨rfl, hX⟩
  replace hE := hE.trans hX
  refine ⟨_, rfl, ?_⟩
  refine l_val rfl rfl rfl (r_not rfl rfl) ?_
  refine l_val rfl rfl rfl (r_assign rfl) ?_
  refine l_nil ?_
  refine c_ret ?_
  exact ⟨rfl, hE⟩
end Go.Proofs.YtndophlnapjkhaaDoor.Vc
