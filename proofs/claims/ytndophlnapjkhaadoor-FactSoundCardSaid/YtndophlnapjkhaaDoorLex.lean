/- Which texts are names, keys, tags: the functions of package lex. Conditions: those of each statement. -/
import Derived.Test.YtndophlnapjkhaaDoorSlices
namespace Go.Proofs.YtndophlnapjkhaaDoor.Vc
open Go Go.RowKit
set_option linter.unusedVariables false
set_option linter.unusedSimpArgs false

/-- What a text's bytes are. -/
def bytesL (s : ByteArray) : List Int := s.data.toList.map fun c => (c.toNat : Int)
def smallB (c : Int) : Bool := decide (97 ≤ c) && decide (c ≤ 122)
def greatB (c : Int) : Bool := decide (65 ≤ c) && decide (c ≤ 90)
def digitB (c : Int) : Bool := decide (48 ≤ c) && decide (c ≤ 57)
def scoreB (c : Int) : Bool := decide (c = 95)
def str (l : List UInt8) : ByteArray := ⟨l.toArray⟩
def keysL : List ByteArray := [str [109, 111, 100, 117, 108, 101], str [105, 109, 112, 111, 114, 116], str [116, 121, 112, 101], str [102, 110], str [108, 101, 116], str [105, 110], str [105, 102], str [116, 104, 101, 110], str [101, 108, 115, 101], str [105, 115], str [97, 115], str [116, 114, 117, 101], str [102, 97, 108, 115, 101], str [110, 117, 108, 108], str [100, 121, 110], str [98, 111, 111, 108], str [105, 110, 116], str [114, 101, 99]]
def isKeyB (s : ByteArray) : Bool := keysL.any (· = s)
def formedB (s : ByteArray) (first : Int → Bool) (others : List (Int → Bool)) : Bool := decide (s.size ≠ 0) && decide (s.size ≤ 16) && first ((bytesL s).getD 0 0) && (bytesL s).all fun c => others.any (· c)
def taggedB (s : ByteArray) : Bool := formedB s smallB [smallB, digitB, scoreB]
def isNameB (s : ByteArray) : Bool := taggedB s && !isKeyB s
/-- The variable that holds the keys. -/
def KeysLaid (w : World) : Prop := ∀ (i : Nat) s, keysL[i]? = some s → w.cell? ⟨0, i, none⟩ = some (.string s)
theorem KeysLaid.keep {w W : World} (h : KeysLaid w) (hc : Cells w W) : KeysLaid W := fun i s hs => hc _ _ (h i s hs)
theorem byte_at (s : ByteArray) (i : Nat) (h : i < s.size) : ∃ c, s[i]? = some c ∧ (c.toNat : Int) = (bytesL s).getD i 0 ∧ (bytesL s)[i]? = some (c.toNat : Int) := by
  have h1 : s[i]? = some (s[i]'h) := by simp [h]
  have hl : i < s.data.toList.length := by rw [Array.length_toList]; exact h
  have h2 : s.data.toList[i]? = some (s[i]'h) := by
    rw [List.getElem?_eq_getElem hl, Array.getElem_toList]
    rfl
  have h3 : (bytesL s)[i]? = some ((s[i]'h).toNat : Int) := by unfold bytesL; rw [List.getElem?_map, h2]; rfl
  exact ⟨_, h1, by rw [List.getD_eq_getElem?_getD, h3]; rfl, h3⟩
theorem bytesL_length (s : ByteArray) : (bytesL s).length = s.size := by
  unfold bytesL
  rw [List.length_map, Array.length_toList]
  rfl

theorem small_calls (w0 : World) (c : Int) : Calls Tryd.prog 77 [.int .u8 c].toArray w0 fun en w' => en = .returned (.bool (smallB c)) ∧ Ext0 w0 w' := by
  have hE : Ext0 w0 w0 := Ext.refl _ _
  refine calls [2] Tryd.func77 rfl rfl rfl rfl ?_
  refine c_seq ?_
  -- region 0
  refine c_ops ?_
  refine l_val rfl rfl rfl (r_assign rfl) ?_
  refine l_nil ?_
  refine c_seq ?_
  -- region 1
  refine c_ops ?_
  refine l_val rfl rfl rfl (r_move rfl) ?_
  refine l_val rfl rfl rfl (r_geq rfl rfl rfl) ?_
  refine l_val rfl rfl rfl (r_move rfl) ?_
  refine l_case 5 rfl (fun hb => ?_) (fun hb => ?_)
  · -- slot 5 is True
    replace hb := of_decide_eq_true hb
    refine l_val rfl rfl rfl (r_move rfl) ?_
    refine l_val rfl rfl rfl (r_leq rfl rfl rfl) ?_
    refine l_val rfl rfl rfl (r_pick rfl rfl) ?_
    refine l_val rfl rfl rfl (r_assign rfl) ?_
    refine l_nil ?_
    refine c_ret ?_
    exact ⟨ret_bool rfl (by simp [smallB, hb]), hE⟩
  · -- slot 5 is False
    replace hb := of_decide_eq_false hb
    refine l_not rfl rfl rfl ?_
    refine l_not rfl rfl rfl ?_
    refine l_val rfl rfl rfl (r_pick rfl rfl) ?_
    refine l_val rfl rfl rfl (r_assign rfl) ?_
    refine l_nil ?_
    refine c_ret ?_
    exact ⟨ret_bool rfl (by simp [smallB, hb]), hE⟩
theorem digit_calls (w0 : World) (c : Int) : Calls Tryd.prog 78 [.int .u8 c].toArray w0 fun en w' => en = .returned (.bool (digitB c)) ∧ Ext0 w0 w' := by
  have hE : Ext0 w0 w0 := Ext.refl _ _
  refine calls [2] Tryd.func78 rfl rfl rfl rfl ?_
  refine c_seq ?_
  -- region 0
  refine c_ops ?_
  refine l_val rfl rfl rfl (r_assign rfl) ?_
  refine l_nil ?_
  refine c_seq ?_
  -- region 1
  refine c_ops ?_
  refine l_val rfl rfl rfl (r_move rfl) ?_
  refine l_val rfl rfl rfl (r_geq rfl rfl rfl) ?_
  refine l_val rfl rfl rfl (r_move rfl) ?_
  refine l_case 5 rfl (fun hb => ?_) (fun hb => ?_)
  · -- slot 5 is True
    replace hb := of_decide_eq_true hb
    refine l_val rfl rfl rfl (r_move rfl) ?_
    refine l_val rfl rfl rfl (r_leq rfl rfl rfl) ?_
    refine l_val rfl rfl rfl (r_pick rfl rfl) ?_
    refine l_val rfl rfl rfl (r_assign rfl) ?_
    refine l_nil ?_
    refine c_ret ?_
    exact ⟨ret_bool rfl (by simp [digitB, hb]), hE⟩
  · -- slot 5 is False
    replace hb := of_decide_eq_false hb
    refine l_not rfl rfl rfl ?_
    refine l_not rfl rfl rfl ?_
    refine l_val rfl rfl rfl (r_pick rfl rfl) ?_
    refine l_val rfl rfl rfl (r_assign rfl) ?_
    refine l_nil ?_
    refine c_ret ?_
    exact ⟨ret_bool rfl (by simp [digitB, hb]), hE⟩
theorem score_calls (w0 : World) (c : Int) : Calls Tryd.prog 79 [.int .u8 c].toArray w0 fun en w' => en = .returned (.bool (scoreB c)) ∧ Ext0 w0 w' := by
  have hE : Ext0 w0 w0 := Ext.refl _ _
  refine calls [2] Tryd.func79 rfl rfl rfl rfl ?_
  refine c_seq ?_
  -- region 0
  refine c_ops ?_
  refine l_val rfl rfl rfl (r_assign rfl) ?_
  refine l_nil ?_
  refine c_seq ?_
  -- region 1
  refine c_ops ?_
  refine l_val rfl rfl rfl (r_move rfl) ?_
  refine l_val rfl rfl rfl (r_eql rfl rfl rfl) ?_
  refine l_val rfl rfl rfl (r_assign rfl) ?_
  refine l_nil ?_
  refine c_ret ?_
  exact ⟨rfl, hE⟩
/-- A function value that is a test of bytes. -/
def ByteTest (v : Value) (q : Int → Bool) : Prop :=
  ∃ g fs cs fn c, v = .func (.func g) fs cs ∧ Tryd.prog.funcs[g]? = some fn ∧ (fn.name == "runtime.NumGoroutine") = false ∧ fn.body = some c ∧
    ∀ b W, Calls Tryd.prog g (fs.toList ++ ([Value.int .u8 b] ++ cs.toList)).toArray W fun en w' => en = .returned (.bool (q b)) ∧ Ext0 W w'
def RTest (_ : World) (q : Int → Bool) (cs : List Value) : Prop := ∃ v, cs = [v] ∧ ByteTest v q
theorem RTest.kept : Kept RTest := fun _ _ _ _ _ h => h
theorem small_test : ByteTest (.func (.func 77) #[] #[]) smallB := ⟨_, _, _, _, _, rfl, Tryd.func77, rfl, rfl, fun b W => small_calls W b⟩
theorem digit_test : ByteTest (.func (.func 78) #[] #[]) digitB := ⟨_, _, _, _, _, rfl, Tryd.func78, rfl, rfl, fun b W => digit_calls W b⟩
theorem score_test : ByteTest (.func (.func 79) #[] #[]) scoreB := ⟨_, _, _, _, _, rfl, Tryd.func79, rfl, rfl, fun b W => score_calls W b⟩
theorem formed1_calls (w0 : World) (v : Value) (q : Int → Bool) (hq : ByteTest v q) (sb ib : Nat) (s : ByteArray) (i : Nat) (ts ti : TypeId) (hi : i < s.size) (hL : Has w0 [.blk ib (.cells #[.int .i64 i] ti (0, 0)), .blk sb (.cells #[.string s] ts (0, 0))]) :
    Calls Tryd.prog 86 [v, .pointer (some ⟨sb, 0, none⟩), .pointer (some ⟨ib, 0, none⟩)].toArray w0 fun en w' => en = .returned (.bool (q ((bytesL s).getD i 0))) ∧ Ext0 w0 w' := by
  have hE : Ext0 w0 w0 := Ext.refl _ _
  obtain ⟨g, fs, cs, fn, cd, rfl, hfn, hname, hbody, hcall⟩ := hq
  obtain ⟨c, hc, hci, _⟩ := byte_at s i hi
  refine calls [4] Tryd.func86 rfl rfl rfl rfl ?_
  refine c_seq ?_
  -- region 0
  refine c_ops ?_
  refine l_val rfl rfl rfl (r_assign rfl) ?_
  refine l_nil ?_
  refine c_seq ?_
  -- region 1
  refine c_ops ?_
  refine l_val rfl rfl rfl (r_move rfl) ?_
  refine l_val rfl rfl rfl (r_load_blk rfl Tryd.isAgg9 rfl (hL.get 1 rfl) rfl) ?_
  refine l_val rfl rfl rfl (r_load_blk rfl Tryd.isAgg3 rfl (hL.get 0 rfl) rfl) ?_
  refine l_val rfl rfl rfl (r_index_str rfl Tryd.underlying9 rfl rfl (Int.natCast_nonneg _) hc) ?_   -- lex.go:41 slot 8 := (index 9 (tmp 6) (tmp 7))
  refine l_by rfl rfl rfl (r_call rfl rfl hfn hname hbody) (hcall _ w0) ?_   -- lex.go:41 slot 9 := (call {callee=(value (tmp 5)), args=[(tmp 8)], argTypes=[5]})
  rintro _ w ⟨rfl, hX⟩
  replace hE := hE.step0 hX
  refine ⟨_, rfl, ?_⟩
  refine l_val rfl rfl rfl (r_assign rfl) ?_
  refine l_nil ?_
  refine c_ret ?_
  exact ⟨ret_bool rfl (by rw [hci]), hE⟩
theorem formedB_no {s : ByteArray} {q : Int → Bool} {qs : List (Int → Bool)} (j : Nat) (hj : j < s.size) (h : qs.any (· ((bytesL s).getD j 0)) = false) : formedB s q qs = false := by
  have hl := bytesL_length s
  have : (bytesL s).all (fun c => qs.any (· c)) = false := by
    rw [List.all_eq_false]
    refine ⟨(bytesL s).getD j 0, ?_, by rw [h]; simp⟩
    rw [List.getD_eq_getElem?_getD, List.getElem?_eq_getElem (by omega)]
    exact List.getElem_mem _
  simp [formedB, this]
theorem formedB_yes {s : ByteArray} {q : Int → Bool} {qs : List (Int → Bool)} (h0 : 0 < s.size) (h1 : s.size ≤ 16) (h2 : q ((bytesL s).getD 0 0) = true) (h : ∀ j, j < s.size → qs.any (· ((bytesL s).getD j 0)) = true) : formedB s q qs = true := by
  have hl := bytesL_length s
  have : (bytesL s).all (fun c => qs.any (· c)) = true := by
    rw [List.all_eq_true]
    intro c hc
    obtain ⟨j, hj⟩ := List.mem_iff_getElem?.1 hc
    have hjl := (List.getElem?_eq_some_iff.1 hj).1
    have := h j (by omega)
    rw [List.getD_eq_getElem?_getD, hj] at this
    exact this
  have h3 : s.size ≠ 0 := by omega
  unfold formedB
  rw [this, h2]
  simp [h1, h3]
theorem formed_calls (w0 : World) (s : ByteArray) (v : Value) (q : Int → Bool) (hq : ByteTest v q) (A : Option Addr) (n c : Nat) (qs : List (Int → Bool)) (hqs : Sl w0 1 RTest A n c qs) (hmax : s.size ≤ 9223372036854775807) :
    Calls Tryd.prog 76 [.string s, v, .slice A n c].toArray w0 fun en w' => en = .returned (.bool (formedB s q qs)) ∧ Ext0 w0 w' := by
  have hE : Ext0 w0 w0 := Ext.refl _ _
  have hL : Has w0 [] := trivial
  obtain ⟨g, fs, cs, fn, cd, rfl, hfn, hname, hbody, hcall⟩ := hq
  refine calls [6] Tryd.func76 rfl rfl rfl rfl ?_
  refine c_seq ?_
  -- region 0
  refine c_ops ?_
  refine l_new rfl rfl rfl (n_box rfl hL hE) ?_
  rintro _ w ⟨b3, rfl, hb3, hL, hE, hX⟩
  refine l_val rfl rfl rfl (r_assign rfl) ?_
  refine l_nil ?_
  refine c_seq ?_
  refine c_seq ?_
  -- region 1
  refine c_ops ?_
  refine l_val rfl rfl rfl (r_load_blk rfl Tryd.isAgg9 rfl (hL.get 0 rfl) rfl) ?_
  refine l_val rfl rfl rfl (r_seql rfl rfl rfl) ?_
  refine l_val rfl rfl rfl (r_move rfl) ?_
  refine l_case 10 rfl (fun hb => ?_) (fun hb => ?_)
  · -- slot 10 is True
    replace hb := of_decide_eq_true hb
    refine l_not rfl rfl rfl ?_
    refine l_not rfl rfl rfl ?_
    refine l_not rfl rfl rfl ?_
    refine l_val rfl rfl rfl (r_pick rfl rfl) ?_
    refine l_val rfl rfl rfl (r_move rfl) ?_
    refine l_not rfl rfl rfl ?_
    refine l_not rfl rfl rfl ?_
    refine l_not rfl rfl rfl ?_
    refine l_not rfl rfl rfl ?_
    refine l_not rfl rfl rfl ?_
    refine l_val rfl rfl rfl (r_pick rfl rfl) ?_
    refine l_nil ?_
    refine c_yes rfl ?_
    refine c_seq ?_
    -- region 2
    refine c_ops ?_
    refine l_val rfl rfl rfl (r_assign rfl) ?_
    refine l_nil ?_
    refine c_ret ?_
    exact ⟨ret_bool rfl (by rw [hb]; rfl), hE⟩
  · -- slot 10 is False
    replace hb := of_decide_eq_false hb
    have hsz : 0 < s.size := by
      rcases Nat.eq_zero_or_pos s.size with h | h
      · exact absurd (ByteArray.ext (Array.eq_empty_of_size_eq_zero h)) hb
      · exact h
    refine l_val rfl rfl rfl (r_load_blk rfl Tryd.isAgg9 rfl (hL.get 0 rfl) rfl) ?_
    refine l_val rfl rfl rfl (r_len_str rfl Tryd.underlying9 rfl) ?_
    refine l_val rfl rfl rfl (r_gtr rfl rfl rfl) ?_
    refine l_val rfl rfl rfl (r_pick rfl rfl) ?_
    refine l_val rfl rfl rfl (r_move rfl) ?_
    refine l_case 15 rfl (fun hb => ?_) (fun hb => ?_)
    · -- slot 15 is True
      replace hb := of_decide_eq_true hb
      refine l_not rfl rfl rfl ?_
      refine l_not rfl rfl rfl ?_
      refine l_not rfl rfl rfl ?_
      refine l_not rfl rfl rfl ?_
      refine l_not rfl rfl rfl ?_
      refine l_val rfl rfl rfl (r_pick rfl rfl) ?_
      refine l_nil ?_
      refine c_yes rfl ?_
      refine c_seq ?_
      -- region 2
      refine c_ops ?_
      refine l_val rfl rfl rfl (r_assign rfl) ?_
      refine l_nil ?_
      refine c_ret ?_
      exact ⟨ret_bool rfl (by have : ¬ s.size ≤ 16 := by omega
                              simp [formedB, this]), hE⟩
    · -- slot 15 is False
      replace hb := of_decide_eq_false hb
      have h16 : s.size ≤ 16 := by omega
      obtain ⟨c0, hc0, hci0, _⟩ := byte_at s 0 hsz
      refine l_val rfl rfl rfl (r_move rfl) ?_
      refine l_val rfl rfl rfl (r_load_blk rfl Tryd.isAgg9 rfl (hL.get 0 rfl) rfl) ?_
      refine l_val rfl rfl rfl (r_index_str rfl Tryd.underlying9 rfl rfl (Int.le_refl _) hc0) ?_
      refine l_by rfl rfl rfl (r_call rfl rfl hfn hname hbody) (hcall _ _) ?_   -- lex.go:37 slot 19 := (call {callee=(value (tmp 16)), args=[(tmp 18)], argTypes=[5]})
      rintro _ w ⟨rfl, hX⟩
      replace hL := hL.ext0 hX
      replace hE := hE.step0 hX
      refine ⟨_, rfl, ?_⟩
      refine l_val rfl rfl rfl (r_not rfl rfl) ?_
      refine l_val rfl rfl rfl (r_pick rfl rfl) ?_
      refine l_nil ?_
      refine c_cond rfl (fun hb => ?_) (fun hb => ?_)
      · -- True
        refine c_seq ?_
        -- region 2
        refine c_ops ?_
        refine l_val rfl rfl rfl (r_assign rfl) ?_
        refine l_nil ?_
        refine c_ret ?_
        exact ⟨ret_bool rfl (by rw [hci0] at hb; simp only [Bool.not_eq_true'] at hb; unfold formedB; rw [hb]; simp), hE⟩
      · -- False
        have hfirst : q ((bytesL s).getD 0 0) = true := by rw [← hci0]; simpa using hb
        refine c_skip ?_
        refine c_seq ?_
        refine c_seq ?_
        -- region 3
        refine c_ops ?_
        refine l_val rfl rfl rfl (r_load_blk rfl Tryd.isAgg9 rfl (hL.get 0 rfl) rfl) ?_
        refine l_val rfl rfl rfl (r_len_str rfl Tryd.underlying9 rfl) ?_
        refine l_val rfl rfl rfl (r_move rfl) ?_
        refine l_nil ?_
        refine c_block ?_
        -- loop 0: slots that it writes and that are read in it ahead of that: [24]
        refine c_loop [6, 7, 24, 25, 26, 27, 28, 29, 30, 31] (fun m e w => ∃ k, k ≤ s.size ∧ m = s.size - k ∧ e 24 = .int .i64 (k : Nat) ∧ (∀ j, j < k → qs.any (· ((bytesL s).getD j 0)) = true) ∧ Has w [.blk b3 (.cells #[.string s] 9 (0, 0))] ∧ Ext0 w0 w) s.size ?_ ?_
        · exact ⟨0, Nat.zero_le _, rfl, rfl, fun j hj => absurd hj (Nat.not_lt_zero _), hL, hE⟩
        intro m e w hI
        obtain ⟨k, hk, hm, h24, hall, hL, hE⟩ := hI
        refine c_know h24 ?_
        refine c_seq ?_
        -- region 4
        refine c_ops ?_
        refine l_val rfl rfl rfl (r_lss rfl rfl rfl) ?_
        refine l_nil ?_
        refine c_seq ?_
        refine c_cond rfl (fun hb => ?_) (fun hb => ?_)
        · -- True
          replace hb := of_decide_eq_true hb
          have hkn : k < s.size := by omega
          refine c_skip ?_
          refine c_seq ?_
          refine c_block ?_
          refine c_seq ?_
          -- region 5
          refine c_ops ?_
          refine l_val rfl rfl rfl (r_move rfl) ?_
          refine l_new rfl rfl rfl (n_alloc rfl Tryd.zeroValue3 hL hE) ?_
          rintro _ w ⟨b7, rfl, hb7, hL, hE, hX⟩
          refine l_new_do rfl rfl (r_store 0 rfl Tryd.sizeOf3 rfl hL hE rfl rfl rfl rfl (fun h => absurd h (Nat.not_lt.2 hb7))) ?_
          rintro w ⟨hL, hE, hz, hk⟩
          refine l_nil ?_
          refine c_seq ?_
          -- region 6
          refine c_ops ?_
          refine l_val rfl rfl rfl (r_move rfl) ?_
          refine l_val rfl rfl rfl (r_makeFunc rfl) ?_
          have hT : Tests Tryd.prog (fun (_ : Unit) W => Has W [.blk b7 (.cells #[.int .i64 (k : Nat)] 3 (0, 0)), .blk b3 (.cells #[.string s] 9 (0, 0))]) (fun _ => False) (D1 RTest) (fun _ q => (q ((bytesL s).getD k 0), ())) (.func (.func 86) #[] #[.pointer (some ⟨b3, 0, none⟩), .pointer (some ⟨b7, 0, none⟩)]) := ⟨_, _, _, _, _, rfl, Tryd.func86, rfl, rfl, fun _ x v W hs ⟨v', hv, hq⟩ => (formed1_calls W v x (by injection hv with hv _; rw [hv]; exact hq) b3 b7 s k _ _ hkn hs).mono (fun en w' ⟨h1, h2⟩ => ⟨h1, h2, hs.ext0 h2⟩)⟩
          refine l_by rfl rfl rfl (r_call rfl rfl Tryd.func85 rfl rfl) (ContainsFunc_fn (fun (_ : Unit) W => Has W [.blk b7 (.cells #[.int .i64 (k : Nat)] 3 (0, 0)), .blk b3 (.cells #[.string s] 9 (0, 0))]) (fun _ => False) RTest (fun _ q => (q ((bytesL s).getD k 0), ())) _ _ _ _ qs _ () (fun W hW => hqs.keep RTest.kept (Ext0.cells (hE.trans hW))) hT hL) ?_   -- lex.go:41 slot 29 := (call {callee=(value (func 85)), args=[(tmp 27), (tmp 28)], argTypes=[118, 120]})
          rintro _ w ⟨rfl, hX, hL⟩
          replace hE := hE.trans hX
          refine ⟨_, rfl, ?_⟩
          refine l_val rfl rfl rfl (r_not rfl rfl) ?_
          refine l_nil ?_
          refine c_cond rfl (fun hb => ?_) (fun hb => ?_)
          · -- True
            have hno : qs.any (· ((bytesL s).getD k 0)) = false := by rw [← findS_pure (fun q => q ((bytesL s).getD k 0)) () 0 qs]; simpa using hb
            refine c_seq ?_
            -- region 7
            refine c_ops ?_
            refine l_val rfl rfl rfl (r_assign rfl) ?_
            refine l_nil ?_
            refine c_ret ?_
            exact ⟨ret_bool rfl (formedB_no k hkn hno).symm, hE⟩
          · -- False
            have hyes : qs.any (· ((bytesL s).getD k 0)) = true := by rw [← findS_pure (fun q => q ((bytesL s).getD k 0)) () 0 qs]; simpa using hb
            refine c_skip ?_
            -- region 8
            refine c_ops ?_
            refine l_val rfl rfl rfl (r_add rfl rfl rfl) ?_
            refine l_val rfl rfl rfl (r_move rfl) ?_
            refine l_nil ?_
            refine ⟨by repeat (first | exact Agree.over _ _ _ | (refine Agree.puto ?_ _ _ rfl) | (refine Agree.put ?_ _ _ rfl) | (refine Agree.sub ?_ rfl)), ?_⟩
            exact ⟨s.size - (k + 1), by omega, k + 1, by omega, rfl, by show Value.int .i64 (IntKind.i64.wrap ((k : Int) + 1)) = _; rw [wrap_succ hkn hmax], fun j hj => by rcases Nat.lt_or_eq_of_le (Nat.le_of_lt_succ hj) with h | rfl <;> first | exact hall j h | exact hyes, hL.tail, hE⟩
        · -- False
          replace hb := of_decide_eq_false hb
          have hkn : s.size ≤ k := by omega
          refine c_exit ?_
          refine c_seq ?_
          -- region 9
          refine c_ops ?_
          refine l_val rfl rfl rfl (r_assign rfl) ?_
          refine l_nil ?_
          refine c_ret ?_
          exact ⟨ret_bool rfl (formedB_yes hsz h16 hfirst (fun j hj => hall j (by omega))).symm, hE⟩
theorem tagged_calls (w0 : World) (s : ByteArray) (hmax : s.size ≤ 9223372036854775807) :
    Calls Tryd.prog 68 [.string s].toArray w0 fun en w' => en = .returned (.bool (taggedB s)) ∧ Ext0 w0 w' := by
  have hE : Ext0 w0 w0 := Ext.refl _ _
  have hL : Has w0 [] := trivial
  refine calls [2] Tryd.func68 rfl rfl rfl rfl ?_
  refine c_seq ?_
  -- region 0
  refine c_ops ?_
  refine l_val rfl rfl rfl (r_assign rfl) ?_
  refine l_nil ?_
  refine c_seq ?_
  -- region 1
  refine c_ops ?_
  refine l_val rfl rfl rfl (r_move rfl) ?_
  refine l_new rfl rfl rfl (n_slice rfl Tryd.underlying118 Tryd.sizeOf113 Tryd.zeroValue113 rfl rfl rfl hL hE) ?_
  rintro _ w ⟨s4, rfl, hs4, hL, hE, hX⟩
  have hqs : Sl w 1 RTest (some ⟨s4, 0, none⟩) 3 3 [smallB, digitB, scoreB] := Sl.ofBlk1 (hL.get 0 rfl) rfl (Nat.le_refl _) (by omega) (fun i x hi => by
    match i, hi with
    | 0, hi => cases hi; exact ⟨_, rfl, _, rfl, small_test⟩
    | 1, hi => cases hi; exact ⟨_, rfl, _, rfl, digit_test⟩
    | 2, hi => cases hi; exact ⟨_, rfl, _, rfl, score_test⟩)
  refine l_by rfl rfl rfl (r_call rfl rfl Tryd.func76 rfl rfl) (formed_calls _ s _ smallB small_test _ _ _ _ hqs hmax) ?_   -- lex.go:51 slot 5 := (call {callee=(value (func 76)), args=[(tmp 3), (func 77), (tmp 4)], argTypes=[9, 113, 118]})
  rintro _ w ⟨rfl, hX⟩
  replace hE := hE.trans hX
  refine ⟨_, rfl, ?_⟩
  refine l_val rfl rfl rfl (r_assign rfl) ?_
  refine l_nil ?_
  refine c_ret ?_
  exact ⟨rfl, hE⟩
theorem isKeyB_no {s : ByteArray} (h : ∀ j, j < 18 → keysL.getD j ByteArray.empty ≠ s) : isKeyB s = false := by
  unfold isKeyB
  rw [List.any_eq_false]
  intro x hx
  obtain ⟨j, hj⟩ := List.mem_iff_getElem?.1 hx
  have hjl : j < 18 := (List.getElem?_eq_some_iff.1 hj).1
  have := h j hjl
  rw [List.getD_eq_getElem?_getD, hj] at this
  simpa using this
theorem isKeyB_yes {s : ByteArray} (j : Nat) (hj : j < 18) (h : keysL.getD j ByteArray.empty = s) : isKeyB s = true := by
  unfold isKeyB
  rw [List.any_eq_true]
  refine ⟨keysL.getD j ByteArray.empty, ?_, by simpa using h⟩
  rw [List.getD_eq_getElem?_getD, List.getElem?_eq_getElem (show j < keysL.length from hj)]
  exact List.getElem_mem _
theorem IsKey_calls (w0 : World) (s : ByteArray) (hk0 : KeysLaid w0) :
    Calls Tryd.prog 57 [.string s].toArray w0 fun en w' => en = .returned (.bool (isKeyB s)) ∧ Ext0 w0 w' := by
  have hE : Ext0 w0 w0 := Ext.refl _ _
  refine calls [2] Tryd.func57 rfl rfl rfl rfl ?_
  refine c_seq ?_
  -- region 0
  refine c_ops ?_
  refine l_val rfl rfl rfl (r_assign rfl) ?_
  refine l_nil ?_
  refine c_seq ?_
  refine c_seq ?_
  -- region 1
  refine c_ops ?_
  refine l_val rfl rfl rfl (r_move rfl) ?_
  refine l_nil ?_
  refine c_block ?_
  -- loop 0: slots that it writes and that are read in it ahead of that: [4]
  refine c_loop [2, 3, 4, 5, 6, 7, 8, 9, 10, 11, 12] (fun m e w => ∃ k : Nat, k ≤ 18 ∧ m = 18 - k ∧ e 4 = .int .i64 k ∧ (∀ j, j < k → keysL.getD j ByteArray.empty ≠ s) ∧ Ext0 w0 w) 18 ?_ ?_
  · exact ⟨0, Nat.zero_le _, rfl, rfl, fun j hj => absurd hj (Nat.not_lt_zero _), hE⟩
  intro m e w hI
  obtain ⟨k, hk, hm, h4, hall, hE⟩ := hI
  refine c_know h4 ?_
  refine c_seq ?_
  -- region 2
  refine c_ops ?_
  refine l_val rfl rfl rfl (r_lss rfl rfl rfl) ?_
  refine l_nil ?_
  refine c_seq ?_
  refine c_cond rfl (fun hb => ?_) (fun hb => ?_)
  · -- True
    replace hb := of_decide_eq_true hb
    have hkn : k < 18 := by omega
    have hck : w.cell? ((⟨0, 0, none⟩ : Addr).add ((k : Int).toNat * 1)) = some (.string (keysL.getD k ByteArray.empty)) := by
          rw [Int.toNat_natCast, blk_add]
          have := (hk0.keep (Ext0.cells hE)) k (keysL.getD k ByteArray.empty) (by rw [List.getD_eq_getElem?_getD, List.getElem?_eq_getElem (show k < keysL.length from hkn)]; rfl)
          simpa using this
    refine c_skip ?_
    refine c_seq ?_
    refine c_block ?_
    refine c_seq ?_
    -- region 3
    refine c_ops ?_
    refine l_val rfl rfl rfl (r_move rfl) ?_
    refine l_val rfl rfl rfl (r_assign rfl) ?_
    refine l_nil ?_
    refine c_seq ?_
    -- region 4
    refine c_ops ?_
    refine l_val rfl rfl rfl (r_move rfl) ?_
    refine l_val rfl rfl rfl (r_indexAddr_arr rfl Tryd.underlying109 Tryd.sizeOf9 rfl rfl (Int.natCast_nonneg _) (by omega)) ?_
    refine l_val rfl rfl rfl (r_load rfl Tryd.isAgg9 rfl hck) ?_
    refine l_val rfl rfl rfl (r_move rfl) ?_
    refine l_val rfl rfl rfl (r_seql rfl rfl rfl) ?_
    refine l_nil ?_
    refine c_cond rfl (fun hb => ?_) (fun hb => ?_)
    · -- True
      replace hb := of_decide_eq_true hb
      refine c_seq ?_
      -- region 5
      refine c_ops ?_
      refine l_val rfl rfl rfl (r_assign rfl) ?_
      refine l_nil ?_
      refine c_ret ?_
      exact ⟨ret_bool rfl (isKeyB_yes k hkn hb).symm, hE⟩
    · -- False
      replace hb := of_decide_eq_false hb
      refine c_skip ?_
      -- region 6
      refine c_ops ?_
      refine l_val rfl rfl rfl (r_add rfl rfl rfl) ?_
      refine l_val rfl rfl rfl (r_move rfl) ?_
      refine l_nil ?_
      refine ⟨by repeat (first | exact Agree.over _ _ _ | (refine Agree.puto ?_ _ _ rfl) | (refine Agree.put ?_ _ _ rfl) | (refine Agree.sub ?_ rfl)), ?_⟩
      exact ⟨18 - (k + 1), by omega, k + 1, by omega, rfl, by show Value.int .i64 (IntKind.i64.wrap ((k : Int) + 1)) = _; rw [wrap_succ hkn (by omega)], fun j hj => by rcases Nat.lt_or_eq_of_le (Nat.le_of_lt_succ hj) with h | rfl <;> first | exact hall j h | exact hb, hE⟩
  · -- False
    replace hb := of_decide_eq_false hb
    have hkn : 18 ≤ k := by omega
    refine c_exit ?_
    refine c_seq ?_
    -- region 7
    refine c_ops ?_
    refine l_val rfl rfl rfl (r_assign rfl) ?_
    refine l_nil ?_
    refine c_ret ?_
    exact ⟨ret_bool rfl (isKeyB_no (fun j hj => hall j (by omega))).symm, hE⟩
theorem IsName_calls (w0 : World) (s : ByteArray) (hk0 : KeysLaid w0) (hmax : s.size ≤ 9223372036854775807) :
    Calls Tryd.prog 56 [.string s].toArray w0 fun en w' => en = .returned (.bool (isNameB s)) ∧ Ext0 w0 w' := by
  have hE : Ext0 w0 w0 := Ext.refl _ _
  refine calls [2] Tryd.func56 rfl rfl rfl rfl ?_
  refine c_seq ?_
  -- region 0
  refine c_ops ?_
  refine l_val rfl rfl rfl (r_assign rfl) ?_
  refine l_nil ?_
  refine c_seq ?_
  -- region 1
  refine c_ops ?_
  refine l_val rfl rfl rfl (r_move rfl) ?_
  refine l_by rfl rfl rfl (r_call rfl rfl Tryd.func68 rfl rfl) (tagged_calls _ s hmax) ?_   -- lex.go:54 slot 4 := (call {callee=(value (func 68)), args=[(tmp 3)], argTypes=[9]})
  rintro _ w ⟨rfl, hX⟩
  replace hE := hE.trans hX
  refine ⟨_, rfl, ?_⟩
  refine l_val rfl rfl rfl (r_move rfl) ?_
  refine l_case 5 rfl (fun hb => ?_) (fun hb => ?_)
  · -- slot 5 is True
    refine l_val rfl rfl rfl (r_move rfl) ?_
    refine l_by rfl rfl rfl (r_call rfl rfl Tryd.func57 rfl rfl) (IsKey_calls _ s (hk0.keep (Ext0.cells hE))) ?_   -- lex.go:54 slot 7 := (call {callee=(value (func 57)), args=[(tmp 6)], argTypes=[9]})
    rintro _ w ⟨rfl, hX⟩
    replace hE := hE.trans hX
    refine ⟨_, rfl, ?_⟩
    refine l_val rfl rfl rfl (r_not rfl rfl) ?_
    refine l_val rfl rfl rfl (r_pick rfl rfl) ?_
    refine l_val rfl rfl rfl (r_assign rfl) ?_
    refine l_nil ?_
    refine c_ret ?_
    exact ⟨ret_bool rfl (by unfold isNameB; rw [hb]; rfl), hE⟩
  · -- slot 5 is False
    refine l_not rfl rfl rfl ?_
    refine l_not rfl rfl rfl ?_
    refine l_not rfl rfl rfl ?_
    refine l_val rfl rfl rfl (r_pick rfl rfl) ?_
    refine l_val rfl rfl rfl (r_assign rfl) ?_
    refine l_nil ?_
    refine c_ret ?_
    exact ⟨ret_bool rfl (by unfold isNameB; rw [hb]; rfl), hE⟩
end Go.Proofs.YtndophlnapjkhaaDoor.Vc
