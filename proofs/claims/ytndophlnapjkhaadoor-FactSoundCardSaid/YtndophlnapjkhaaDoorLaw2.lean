/- The chapter's graph and the chapter's facts: works gives true. Conditions: those of each statement. -/
import Derived.Test.YtndophlnapjkhaaDoorSmall
import Derived.Test.YtndophlnapjkhaaDoorFact11
namespace Go.Proofs.YtndophlnapjkhaaDoor.Vc
open Go Go.RowKit
set_option linter.unusedVariables false
set_option linter.unusedSimpArgs false

theorem Els.cons {α : Type} {w : World} {sz : Nat} {R : World → α → List Value → Prop} {l : List α} {css : List (List Value)} {x : α} {cs : List Value} (hl : cs.length = sz) (hx : R w x cs) (h : Els w sz R l css) : Els w sz R (x :: l) (cs :: css) := by
  refine ⟨by simp [h.many], fun i y ds h1 h2 => ?_⟩
  cases i with
  | zero =>
    cases h1; cases h2
    exact ⟨hl, hx⟩
  | succ i => exact h.each i y ds (by simpa using h1) (by simpa using h2)
theorem Sl.ofBlkN {α : Type} {R : World → α → List Value → Prop} {w : World} {sz b n c : Nat} {cs : Array Value} {t : TypeId} {fr : Nat × Nat} {l : List α} {css : List (List Value)} (hb : w.heap[b]? = some (.cells cs t fr)) (hE : Els w sz R l css) (hcs : cs.toList = css.flatten) (hn : l.length = n) (hc : n ≤ c) (hm : n ≤ 9223372036854775807) : Sl w sz R (some ⟨b, 0, none⟩) n c l := by
  refine ⟨hn, hc, hm, fun _ => rfl, fun i x hi => ?_⟩
  have hil : i < css.length := by rw [hE.many]; exact (List.getElem?_eq_some_iff.1 hi).1
  obtain ⟨h1, h2⟩ := hE.each i x _ hi (List.getElem?_eq_getElem hil)
  refine ⟨_, h1, h2, fun j u hj => ?_⟩
  have hjl : j < sz := by rw [← h1]; exact (List.getElem?_eq_some_iff.1 hj).1
  have hf := flat_get hE.all i j _ (List.getElem?_eq_getElem hil) hjl
  rw [hj, ← hcs] at hf
  rw [show (adr (some (⟨b, 0, none⟩ : Addr))) = ⟨b, 0, none⟩ from rfl, blk_add, blk_cell hb, Nat.zero_add]
  simpa using hf
theorem lit_ints {w : World} {b n : Nat} {cs : Array Value} {t : TypeId} {fr : Nat × Nat} {l : List Int} (hb : w.heap[b]? = some (.cells cs t fr)) (hcs : cs.toList = l.map (Value.int .i64)) (hn : l.length = n) (hm : n ≤ 9223372036854775807) : Sl w 1 RInt (some ⟨b, 0, none⟩) n n l :=
  Sl.ofBlkN hb (Els.ints w l) (by rw [hcs, flat_ints]) hn (Nat.le_refl _) hm
theorem lit_str {w : World} {b : Nat} {s : ByteArray} {t : TypeId} {fr : Nat × Nat} (hb : w.heap[b]? = some (.cells #[.string s] t fr)) : Sl w 1 RStr (some ⟨b, 0, none⟩) 1 1 [s] :=
  Sl.ofBlkN hb (Els.strs w [s]) rfl rfl (Nat.le_refl _) (by decide)
theorem lit_pairs {w : World} {b n : Nat} {cs : Array Value} {t : TypeId} {fr : Nat × Nat} {l : FP} (hb : w.heap[b]? = some (.cells cs t fr)) (hcs : cs.toList = (l.map cells2).flatten) (hn : l.length = n) (hm : n ≤ 9223372036854775807) : Sl w 2 RPair (some ⟨b, 0, none⟩) n n l :=
  Sl.ofBlkN hb (Els.pairs w l) hcs hn (Nat.le_refl _) hm
theorem FindOut.known {w0 w' : World} {g : List GNode} {ps : FP} {en : Ending} {at_ : List Int} {l : List Fact} (h : FindOut w0 g ps en w') (h0 : findErr g ps = 0) (ha : allF g ps = (at_, l)) :
    ∃ A c Ai ci, en = .returned (.tuple #[.slice A l.length c, .slice Ai at_.length ci, .int .i64 0]) ∧ FactsAt w' A c l ∧ Ints w' Ai ci at_ ∧ Ext0 w0 w' := by
  have hf : foundF g ps = (at_, l) := by unfold foundF; rw [if_pos h0, ha]
  unfold FindOut at h
  rw [hf, h0] at h
  exact h
theorem FindOut.err {w0 w' : World} {g : List GNode} {ps : FP} {en : Ending} {k : Int} (h : FindOut w0 g ps en w') (hk : k ≠ 0) (h0 : findErr g ps = k) :
    ∃ A c Ai ci, en = .returned (.tuple #[.slice A 0 c, .slice Ai 0 ci, .int .i64 k]) ∧ Ext0 w0 w' := by
  have hf : foundF g ps = ([], []) := by unfold foundF; rw [if_neg (by rw [h0]; exact hk)]
  unfold FindOut at h
  rw [hf, h0] at h
  obtain ⟨A, c, Ai, ci, h1, _, _, h2⟩ := h
  exact ⟨A, c, Ai, ci, h1, h2⟩
theorem Same_true (w0 : World) (A : Option Addr) (c : Nat) (a : List Fact) (ha : FactsAt w0 A c a) (B : Option Addr) (d : Nat) (hb' : FactsAt w0 B d a) :
    Calls Tryd.prog 15 [.slice A a.length c, .slice B a.length d].toArray w0 fun en w' => en = .returned (.bool true) ∧ Ext0 w0 w' :=
  (Same_calls w0 A c a ha B d a hb').mono fun en w' h => ⟨by rw [h.1, decide_eq_true rfl], h.2⟩
theorem EqInts_true (w0 : World) (A : Option Addr) (c : Nat) (a : List Int) (ha : Ints w0 A c a) (B : Option Addr) (d : Nat) (hb' : Ints w0 B d a) :
    Calls Tryd.prog 16 [.slice A a.length c, .slice B a.length d].toArray w0 fun en w' => en = .returned (.bool true) ∧ Ext0 w0 w' :=
  (EqInts_calls w0 A c a ha B d a hb').mono fun en w' h => ⟨by rw [h.1, decide_eq_true rfl], h.2⟩
theorem fits_small : Fits smallL := by
  refine ⟨fun x hx => ⟨?_, fun s hs => ?_⟩, fun x hx => ?_⟩
  · have : ∀ x ∈ smallL, x.name.size ≤ 9223372036854775807 := by decide
    exact this x hx
  · have : ∀ x ∈ smallL, ∀ s ∈ x.keys, s.size ≤ 9223372036854775807 := by decide
    exact this x hx s hs
  · have : ∀ x ∈ smallL, x.l.length ≤ 1000000000000 := by decide
    exact this x hx
theorem built_n0 (k : Int) : Tryd.prog.built 45 [(0, .int .i64 k)] = some #[.int .i64 k, .int .i64 0, .string ⟨#[]⟩, .slice none 0 0, .slice none 0 0] := by kernel_rfl
theorem built_nl (k : Int) (A : Option Addr) (n c : Nat) : Tryd.prog.built 45 [(0, .int .i64 k), (4, .slice A n c)] = some #[.int .i64 k, .int .i64 0, .string ⟨#[]⟩, .slice none 0 0, .slice A n c] := by kernel_rfl
theorem built_nkl (k : Int) (A B : Option Addr) (n c m d : Nat) : Tryd.prog.built 45 [(0, .int .i64 k), (3, .slice B m d), (4, .slice A n c)] = some #[.int .i64 k, .int .i64 0, .string ⟨#[]⟩, .slice B m d, .slice A n c] := by kernel_rfl
theorem built_f3 (a b : Int) (A : Option Addr) (n c : Nat) : Tryd.prog.built 37 [(0, .int .i64 a), (1, .int .i64 b), (2, .slice A n c)] = some #[.int .i64 a, .int .i64 b, .slice A n c] := by kernel_rfl
theorem built_p2 (a b : Int) : Tryd.prog.built 28 [(0, .int .i64 a), (1, .int .i64 b)] = some #[.int .i64 a, .int .i64 b] := by kernel_rfl
theorem fill_int2 (a b : Int) : Instr.fill (fun i => some (i * 1, 1)) ((List.range (2 * 1)).map ((Value.int .i64 0).cells[· % (Value.int .i64 0).cells.size]!)).toArray [(0, .int .i64 a), (1, .int .i64 b)] = some #[.int .i64 a, .int .i64 b] := by kernel_rfl
theorem fill_pair2 (a b c d : Int) : Instr.fill (fun i => some (i * 2, 2)) ((List.range (2 * 2)).map ((Value.agg #[.int .i64 0, .int .i64 0]).cells[· % (Value.agg #[.int .i64 0, .int .i64 0]).cells.size]!)).toArray [(0, .agg #[.int .i64 a, .int .i64 b]), (1, .agg #[.int .i64 c, .int .i64 d])] = some #[.int .i64 a, .int .i64 b, .int .i64 c, .int .i64 d] := by kernel_rfl
theorem fill_fact2 (a0 b0 : Int) (v0 : Value) (a1 b1 : Int) (v1 : Value) : Instr.fill (fun i => some (i * 3, 3)) ((List.range (2 * 3)).map ((Value.agg #[.int .i64 0, .int .i64 0, .slice none 0 0]).cells[· % (Value.agg #[.int .i64 0, .int .i64 0, .slice none 0 0]).cells.size]!)).toArray [(0, .agg #[.int .i64 a0, .int .i64 b0, v0]), (1, .agg #[.int .i64 a1, .int .i64 b1, v1])] = some #[.int .i64 a0, .int .i64 b0, v0, .int .i64 a1, .int .i64 b1, v1] := by kernel_rfl
theorem fill_fact6 (a0 b0 : Int) (v0 : Value) (a1 b1 : Int) (v1 : Value) (a2 b2 : Int) (v2 : Value) (a3 b3 : Int) (v3 : Value) (a4 b4 : Int) (v4 : Value) (a5 b5 : Int) (v5 : Value) : Instr.fill (fun i => some (i * 3, 3)) ((List.range (6 * 3)).map ((Value.agg #[.int .i64 0, .int .i64 0, .slice none 0 0]).cells[· % (Value.agg #[.int .i64 0, .int .i64 0, .slice none 0 0]).cells.size]!)).toArray [(0, .agg #[.int .i64 a0, .int .i64 b0, v0]), (1, .agg #[.int .i64 a1, .int .i64 b1, v1]), (2, .agg #[.int .i64 a2, .int .i64 b2, v2]), (3, .agg #[.int .i64 a3, .int .i64 b3, v3]), (4, .agg #[.int .i64 a4, .int .i64 b4, v4]), (5, .agg #[.int .i64 a5, .int .i64 b5, v5])] = some #[.int .i64 a0, .int .i64 b0, v0, .int .i64 a1, .int .i64 b1, v1, .int .i64 a2, .int .i64 b2, v2, .int .i64 a3, .int .i64 b3, v3, .int .i64 a4, .int .i64 b4, v4, .int .i64 a5, .int .i64 b5, v5] := by kernel_rfl
abbrev nd (k : Int) (B : Option Addr) (m : Nat) (A : Option Addr) (n : Nat) : Array Value := #[.int .i64 k, .int .i64 0, .string ⟨#[]⟩, .slice B m m, .slice A n n]
abbrev sb (s : Nat) : Option Addr := some ⟨s, 0, none⟩
set_option maxHeartbeats 2000000 in
theorem smallG_calls (w0 : World) : Calls Tryd.prog 27 ([] : List Value).toArray w0 fun en w' => ∃ A c, en = .returned (.slice A smallL.length c) ∧ Nodes w' A c smallL ∧ Ext0 w0 w' := by
  have hE : Ext0 w0 w0 := Ext.refl _ _
  have hL : Has w0 [] := trivial
  refine calls [0] Tryd.func27 rfl rfl rfl rfl ?_
  refine c_seq ?_
  -- region 0
  refine c_ops ?_
  refine l_val rfl rfl rfl (r_assign rfl) ?_
  refine l_nil ?_
  refine c_seq ?_
  -- region 1
  refine c_ops ?_
  refine l_val rfl rfl rfl (r_build rfl rfl (built_n0 _)) ?_   -- outright.go:15 slot 1 := (build 45 [(0, (const (int IntKind.i64 4)))])
  refine l_val rfl rfl rfl (r_build rfl rfl (built_n0 _)) ?_   -- outright.go:15 slot 2 := (build 45 [(0, (const (int IntKind.i64 2)))])
  refine l_new rfl rfl rfl (n_slice rfl Tryd.underlying30 Tryd.sizeOf3 Tryd.zeroValue3 rfl rfl (fill_int2 _ _) hL hE) ?_
  rintro _ w ⟨s3, rfl, hs3, hL, hE, hX⟩
  refine l_val rfl rfl rfl (r_build rfl rfl (built_nl _ _ _ _)) ?_   -- outright.go:15 slot 4 := (build 45 [(0, (const (int IntKind.i64 8))), (4, (tmp 3))])
  refine l_new rfl rfl rfl (n_slice rfl Tryd.underlying43 Tryd.sizeOf9 Tryd.zeroValue9 rfl rfl rfl hL hE) ?_
  rintro _ w ⟨s5, rfl, hs5, hL, hE, hX⟩
  refine l_new rfl rfl rfl (n_slice rfl Tryd.underlying30 Tryd.sizeOf3 Tryd.zeroValue3 rfl rfl (fill_int1 _) hL hE) ?_
  rintro _ w ⟨s6, rfl, hs6, hL, hE, hX⟩
  refine l_val rfl rfl rfl (r_build rfl rfl (built_nkl _ _ _ _ _ _ _)) ?_   -- outright.go:15 slot 7 := (build 45 [(0, (const (int IntKind.i64 7))), (3, (tmp 5)), (4, (tmp 6))])
  refine l_new rfl rfl rfl (n_slice rfl Tryd.underlying43 Tryd.sizeOf9 Tryd.zeroValue9 rfl rfl rfl hL hE) ?_
  rintro _ w ⟨s8, rfl, hs8, hL, hE, hX⟩
  refine l_new rfl rfl rfl (n_slice rfl Tryd.underlying30 Tryd.sizeOf3 Tryd.zeroValue3 rfl rfl (fill_int1 _) hL hE) ?_
  rintro _ w ⟨s9, rfl, hs9, hL, hE, hX⟩
  refine l_val rfl rfl rfl (r_build rfl rfl (built_nkl _ _ _ _ _ _ _)) ?_   -- outright.go:15 slot 10 := (build 45 [(0, (const (int IntKind.i64 7))), (3, (tmp 8)), (4, (tmp 9))])
  refine l_val rfl rfl rfl (r_build rfl rfl (built_n0 _)) ?_   -- outright.go:15 slot 11 := (build 45 [(0, (const (int IntKind.i64 1)))])
  refine l_new rfl rfl rfl (n_slice rfl Tryd.underlying30 Tryd.sizeOf3 Tryd.zeroValue3 rfl rfl (fill_int1 _) hL hE) ?_
  rintro _ w ⟨s12, rfl, hs12, hL, hE, hX⟩
  refine l_val rfl rfl rfl (r_build rfl rfl (built_nl _ _ _ _)) ?_   -- outright.go:15 slot 13 := (build 45 [(0, (const (int IntKind.i64 9))), (4, (tmp 12))])
  refine l_new rfl rfl rfl (n_slice (cells := #[.int .i64 4, .int .i64 0, .string ⟨#[]⟩, .slice none 0 0, .slice none 0 0, .int .i64 2, .int .i64 0, .string ⟨#[]⟩, .slice none 0 0, .slice none 0 0, .int .i64 8, .int .i64 0, .string ⟨#[]⟩, .slice none 0 0, .slice (sb s3) 2 2, .int .i64 7, .int .i64 0, .string ⟨#[]⟩, .slice (sb s5) 1 1, .slice (sb s6) 1 1, .int .i64 7, .int .i64 0, .string ⟨#[]⟩, .slice (sb s8) 1 1, .slice (sb s9) 1 1, .int .i64 1, .int .i64 0, .string ⟨#[]⟩, .slice none 0 0, .slice none 0 0, .int .i64 9, .int .i64 0, .string ⟨#[]⟩, .slice none 0 0, .slice (sb s12) 1 1]) rfl Tryd.underlying22 Tryd.sizeOf45 Tryd.zeroValue45 rfl rfl (by kernel_rfl) hL hE) ?_
  rintro _ w ⟨s14, rfl, hs14, hL, hE, hX⟩
  refine l_val rfl rfl rfl (r_assign rfl) ?_
  refine l_nil ?_
  refine c_ret ?_
  exact ⟨some ⟨s14, 0, none⟩, 7, rfl, Sl.ofBlkN (hL.get 0 rfl) (Els.cons rfl ⟨none, 0, none, 0, rfl, Sl.nil _ _ _ _ _, Sl.nil _ _ _ _ _⟩ (Els.cons rfl ⟨none, 0, none, 0, rfl, Sl.nil _ _ _ _ _, Sl.nil _ _ _ _ _⟩ (Els.cons rfl ⟨none, 0, _, 2, rfl, Sl.nil _ _ _ _ _, lit_ints (hL.get 6 rfl) rfl rfl (by decide)⟩ (Els.cons rfl ⟨_, 1, _, 1, rfl, lit_str (hL.get 5 rfl), lit_ints (hL.get 4 rfl) rfl rfl (by decide)⟩ (Els.cons rfl ⟨_, 1, _, 1, rfl, lit_str (hL.get 3 rfl), lit_ints (hL.get 2 rfl) rfl rfl (by decide)⟩ (Els.cons rfl ⟨none, 0, none, 0, rfl, Sl.nil _ _ _ _ _, Sl.nil _ _ _ _ _⟩ (Els.cons rfl ⟨none, 0, _, 1, rfl, Sl.nil _ _ _ _ _, lit_ints (hL.get 1 rfl) rfl rfl (by decide)⟩ (Els.nil _ _ _)))))))) rfl rfl (Nat.le_refl _) (by decide), hE⟩
theorem finds_calls (w0 : World) (hk0 : KeysLaid w0) (Ap : Option Addr) (cp : Nat) (ps : FP) (hp : PairsAt w0 Ap cp ps) (hps : ps.length ≤ 1000000) (Aw : Option Addr) (cw : Nat) (want : List Fact) (hw : FactsAt w0 Aw cw want) (Ai : Option Addr) (ci : Nat) (at_ : List Int) (hat : Ints w0 Ai ci at_) (h0 : findErr smallL ps = 0) (ha : allF smallL ps = (at_, want)) :
    Calls Tryd.prog 26 [.slice Ap ps.length cp, .slice Aw want.length cw, .slice Ai at_.length ci].toArray w0 fun en w' => en = .returned (.bool true) ∧ Ext0 w0 w' := by
  have hE : Ext0 w0 w0 := Ext.refl _ _
  have hL : Has w0 [] := trivial
  refine calls [6] Tryd.func26 rfl rfl rfl rfl ?_
  refine c_seq ?_
  -- region 0
  refine c_ops ?_
  refine l_val rfl rfl rfl (r_assign rfl) ?_
  refine l_nil ?_
  refine c_seq ?_
  -- region 1
  refine c_ops ?_
  refine l_by rfl rfl rfl (r_call rfl rfl Tryd.func27 rfl rfl) (smallG_calls _) ?_   -- outright.go:20 slot 11 := (call {callee=(value (func 27)), args=[], argTypes=[]})
  rintro _ w ⟨A0, c0, rfl, hg, hX⟩
  replace hE := hE.trans hX
  refine ⟨_, rfl, ?_⟩
  refine l_val rfl rfl rfl (r_move rfl) ?_
  refine l_by rfl rfl rfl (r_call rfl rfl Tryd.func12 rfl rfl) (Find_calls _ A0 c0 smallL hg fits_small (by decide) (hk0.keep (Ext0.cells hE)) Ap cp ps (hp.keep RPair.kept (Ext0.cells hE)) hps) ?_   -- outright.go:20 slot 13 := (call {callee=(value (func 12)), args=[(tmp 11), (tmp 12)], argTypes=[22, 23]})
  rintro _ w hF
  obtain ⟨A1, c1, A2, c2, rfl, hf1, hi1, hX⟩ := hF.known h0 ha
  replace hE := hE.trans hX
  refine ⟨_, rfl, ?_⟩
  refine l_val rfl rfl rfl (r_move rfl) ?_
  refine l_val rfl rfl rfl (r_extract rfl rfl rfl) ?_
  refine l_val rfl rfl rfl (r_extract rfl rfl rfl) ?_
  refine l_val rfl rfl rfl (r_extract rfl rfl rfl) ?_
  refine l_val rfl rfl rfl (r_assign rfl) ?_
  refine l_val rfl rfl rfl (r_assign rfl) ?_
  refine l_val rfl rfl rfl (r_assign rfl) ?_
  refine l_nil ?_
  refine c_seq ?_
  -- region 2
  refine c_ops ?_
  refine l_val rfl rfl rfl (r_move rfl) ?_
  refine l_val rfl rfl rfl (r_eql rfl rfl rfl) ?_
  refine l_val rfl rfl rfl (r_move rfl) ?_
  refine l_val rfl rfl rfl (r_move rfl) ?_
  refine l_val rfl rfl rfl (r_move rfl) ?_
  refine l_by rfl rfl rfl (r_call rfl rfl Tryd.func15 rfl rfl) (Same_true _ A1 c1 want hf1 Aw cw (hw.keep RFact.kept (Ext0.cells hE))) ?_   -- outright.go:21 slot 22 := (call {callee=(value (func 15)), args=[(tmp 20), (tmp 21)], argTypes=[29, 29]})
  rintro _ w ⟨rfl, hX⟩
  replace hE := hE.trans hX
  replace hi1 := hi1.keep RInt.kept (Ext0.cells hX)
  refine ⟨_, rfl, ?_⟩
  refine l_val rfl rfl rfl (r_pick rfl rfl) ?_
  refine l_val rfl rfl rfl (r_move rfl) ?_
  refine l_val rfl rfl rfl (r_move rfl) ?_
  refine l_val rfl rfl rfl (r_move rfl) ?_
  refine l_by rfl rfl rfl (r_call rfl rfl Tryd.func16 rfl rfl) (EqInts_true _ A2 c2 at_ hi1 Ai ci (hat.keep RInt.kept (Ext0.cells hE))) ?_   -- outright.go:21 slot 27 := (call {callee=(value (func 16)), args=[(tmp 25), (tmp 26)], argTypes=[30, 30]})
  rintro _ w ⟨rfl, hX⟩
  replace hE := hE.trans hX
  refine ⟨_, rfl, ?_⟩
  refine l_val rfl rfl rfl (r_pick rfl rfl) ?_
  refine l_val rfl rfl rfl (r_assign rfl) ?_
  refine l_nil ?_
  refine c_ret ?_
  exact ⟨rfl, hE⟩
theorem Ext0.diff {w0 w w' : World} (h : Ext0 w0 w) (k : Ext0 w0 w') : Ext0 w0 w' := k
theorem reach_none {g : List GNode} {l : List Fact} {k j : Int} (h : Reach g l k j) (h0 : onF g (fat l k) = []) : j = k := by
  induction h with
  | refl => rfl
  | step _ hj ih => rw [ih, h0] at hj; simp at hj
set_option maxHeartbeats 8000000 in
theorem works_calls (w0 : World) (hk0 : KeysLaid w0) : Calls Tryd.prog 9 ([] : List Value).toArray w0 fun en w' => en = .returned (.bool true) ∧ Ext0 w0 w' := by
  have hE : Ext0 w0 w0 := Ext.refl _ _
  have hL : Has w0 [] := trivial
  refine calls [0] Tryd.func9 rfl rfl rfl rfl ?_
  refine c_seq ?_
  -- region 0
  refine c_ops ?_
  refine l_val rfl rfl rfl (r_assign rfl) ?_
  refine l_nil ?_
  refine c_seq ?_
  refine c_seq ?_
  -- region 1
  refine c_ops ?_
  refine l_val rfl rfl rfl (r_build rfl rfl (built_p2 _ _)) ?_   -- outright.go:26 slot 11 := (build 28 [(0, (const (int IntKind.i64 0))), (1, (const (int IntKind.i64 2)))])
  refine l_new rfl rfl rfl (n_slice rfl Tryd.underlying23 Tryd.sizeOf28 Tryd.zeroValue28 rfl rfl (fill_pair _ _) hL hE) ?_
  rintro _ w ⟨s12, rfl, hs12, hL, hE, hX⟩
  first | replace hg := hg.keep RNode.kept (Ext0.cells hX) | skip
  refine l_new rfl rfl rfl (n_slice rfl Tryd.underlying30 Tryd.sizeOf3 Tryd.zeroValue3 rfl rfl (fill_int1 _) hL hE) ?_
  rintro _ w ⟨s13, rfl, hs13, hL, hE, hX⟩
  first | replace hg := hg.keep RNode.kept (Ext0.cells hX) | skip
  refine l_val rfl rfl rfl (r_build rfl rfl (built_f3 _ _ _ _ _)) ?_   -- outright.go:26 slot 14 := (build 37 [(0, (const (int IntKind.i64 0))), (1, (const (int IntKind.i64 2))), (2, (tmp 13))])
  refine l_new rfl rfl rfl (n_slice rfl Tryd.underlying29 Tryd.sizeOf37 Tryd.zeroValue37 rfl rfl (fill_fact _ _ _) hL hE) ?_
  rintro _ w ⟨s15, rfl, hs15, hL, hE, hX⟩
  first | replace hg := hg.keep RNode.kept (Ext0.cells hX) | skip
  refine l_new rfl rfl rfl (n_slice rfl Tryd.underlying30 Tryd.sizeOf3 Tryd.zeroValue3 rfl rfl (fill_int1 _) hL hE) ?_
  rintro _ w ⟨s16, rfl, hs16, hL, hE, hX⟩
  first | replace hg := hg.keep RNode.kept (Ext0.cells hX) | skip
  refine l_by rfl rfl rfl (r_call rfl rfl Tryd.func26 rfl rfl) (finds_calls _ (hk0.keep (Ext0.cells hE)) _ 1 [(0, 2)] (lit_pairs (hL.get 3 rfl) rfl rfl (by decide)) (by decide) _ 1 [⟨0, 2, [0]⟩] (Sl.ofBlkN (hL.get 1 rfl) (Els.cons rfl ⟨_, 1, rfl, lit_ints (hL.get 2 rfl) rfl rfl (by decide)⟩ (Els.nil _ _ _)) rfl rfl (Nat.le_refl _) (by decide)) _ 1 [0] (lit_ints (hL.get 0 rfl) rfl rfl (by decide)) small1.1 small1.2) ?_   -- outright.go:26 slot 17 := (call {callee=(value (func 26)), args=[(tmp 12), (tmp 15), (tmp 16)], argTypes=[23, 29, 30]})
  rintro _ w ⟨rfl, hX⟩
  replace hL := hL.ext0 hX
  replace hE := hE.trans hX
  refine ⟨_, rfl, ?_⟩
  refine l_val rfl rfl rfl (r_not rfl rfl) ?_
  refine l_val rfl rfl rfl (r_move rfl) ?_
  refine l_val rfl rfl rfl (r_build rfl rfl (built_p2 _ _)) ?_   -- outright.go:26 slot 20 := (build 28 [(0, (const (int IntKind.i64 3))), (1, (const (int IntKind.i64 4)))])
  refine l_new rfl rfl rfl (n_slice rfl Tryd.underlying23 Tryd.sizeOf28 Tryd.zeroValue28 rfl rfl (fill_pair _ _) hL hE) ?_
  rintro _ w ⟨s21, rfl, hs21, hL, hE, hX⟩
  first | replace hg := hg.keep RNode.kept (Ext0.cells hX) | skip
  refine l_new rfl rfl rfl (n_slice rfl Tryd.underlying30 Tryd.sizeOf3 Tryd.zeroValue3 rfl rfl (fill_int2 _ _) hL hE) ?_
  rintro _ w ⟨s22, rfl, hs22, hL, hE, hX⟩
  first | replace hg := hg.keep RNode.kept (Ext0.cells hX) | skip
  refine l_val rfl rfl rfl (r_build rfl rfl (built_f3 _ _ _ _ _)) ?_   -- outright.go:26 slot 23 := (build 37 [(0, (const (int IntKind.i64 3))), (1, (const (int IntKind.i64 4))), (2, (tmp 22))])
  refine l_new rfl rfl rfl (n_slice rfl Tryd.underlying30 Tryd.sizeOf3 Tryd.zeroValue3 rfl rfl (fill_int1 _) hL hE) ?_
  rintro _ w ⟨s24, rfl, hs24, hL, hE, hX⟩
  first | replace hg := hg.keep RNode.kept (Ext0.cells hX) | skip
  refine l_val rfl rfl rfl (r_build rfl rfl (built_f3 _ _ _ _ _)) ?_   -- outright.go:26 slot 25 := (build 37 [(0, (const (int IntKind.i64 0))), (1, (const (int IntKind.i64 2))), (2, (tmp 24))])
  refine l_new rfl rfl rfl (n_slice rfl Tryd.underlying29 Tryd.sizeOf37 Tryd.zeroValue37 rfl rfl (fill_fact2 _ _ _ _ _ _) hL hE) ?_
  rintro _ w ⟨s26, rfl, hs26, hL, hE, hX⟩
  first | replace hg := hg.keep RNode.kept (Ext0.cells hX) | skip
  refine l_new rfl rfl rfl (n_slice rfl Tryd.underlying30 Tryd.sizeOf3 Tryd.zeroValue3 rfl rfl (fill_int1 _) hL hE) ?_
  rintro _ w ⟨s27, rfl, hs27, hL, hE, hX⟩
  first | replace hg := hg.keep RNode.kept (Ext0.cells hX) | skip
  refine l_by rfl rfl rfl (r_call rfl rfl Tryd.func26 rfl rfl) (finds_calls _ (hk0.keep (Ext0.cells hE)) _ 1 [(3, 4)] (lit_pairs (hL.get 4 rfl) rfl rfl (by decide)) (by decide) _ 2 [⟨3, 4, [0, 1]⟩, ⟨0, 2, [0]⟩] (Sl.ofBlkN (hL.get 1 rfl) (Els.cons rfl ⟨_, 2, rfl, lit_ints (hL.get 3 rfl) rfl rfl (by decide)⟩ (Els.cons rfl ⟨_, 1, rfl, lit_ints (hL.get 2 rfl) rfl rfl (by decide)⟩ (Els.nil _ _ _))) rfl rfl (Nat.le_refl _) (by decide)) _ 1 [0] (lit_ints (hL.get 0 rfl) rfl rfl (by decide)) small2.1 small2.2) ?_   -- outright.go:26 slot 28 := (call {callee=(value (func 26)), args=[(tmp 21), (tmp 26), (tmp 27)], argTypes=[23, 29, 30]})
  rintro _ w ⟨rfl, hX⟩
  replace hL := hL.ext0 hX
  replace hE := hE.trans hX
  refine ⟨_, rfl, ?_⟩
  refine l_val rfl rfl rfl (r_not rfl rfl) ?_
  refine l_val rfl rfl rfl (r_pick rfl rfl) ?_
  refine l_nil ?_
  refine c_no rfl ?_
  refine c_skip ?_
  refine c_seq ?_
  refine c_seq ?_
  -- region 3
  refine c_ops ?_
  refine l_val rfl rfl rfl (r_build rfl rfl (built_p2 _ _)) ?_   -- outright.go:29 slot 31 := (build 28 [(0, (const (int IntKind.i64 6))), (1, (const (int IntKind.i64 4)))])
  refine l_val rfl rfl rfl (r_build rfl rfl (built_p2 _ _)) ?_   -- outright.go:29 slot 32 := (build 28 [(0, (const (int IntKind.i64 2))), (1, (const (int IntKind.i64 5)))])
  refine l_new rfl rfl rfl (n_slice rfl Tryd.underlying23 Tryd.sizeOf28 Tryd.zeroValue28 rfl rfl (fill_pair2 _ _ _ _) hL hE) ?_
  rintro _ w ⟨s33, rfl, hs33, hL, hE, hX⟩
  first | replace hg := hg.keep RNode.kept (Ext0.cells hX) | skip
  refine l_new rfl rfl rfl (n_slice rfl Tryd.underlying30 Tryd.sizeOf3 Tryd.zeroValue3 rfl rfl (fill_int2 _ _) hL hE) ?_
  rintro _ w ⟨s34, rfl, hs34, hL, hE, hX⟩
  first | replace hg := hg.keep RNode.kept (Ext0.cells hX) | skip
  refine l_val rfl rfl rfl (r_build rfl rfl (built_f3 _ _ _ _ _)) ?_   -- outright.go:29 slot 35 := (build 37 [(0, (const (int IntKind.i64 6))), (1, (const (int IntKind.i64 4))), (2, (tmp 34))])
  refine l_new rfl rfl rfl (n_slice rfl Tryd.underlying30 Tryd.sizeOf3 Tryd.zeroValue3 rfl rfl (fill_int2 _ _) hL hE) ?_
  rintro _ w ⟨s36, rfl, hs36, hL, hE, hX⟩
  first | replace hg := hg.keep RNode.kept (Ext0.cells hX) | skip
  refine l_val rfl rfl rfl (r_build rfl rfl (built_f3 _ _ _ _ _)) ?_   -- outright.go:29 slot 37 := (build 37 [(0, (const (int IntKind.i64 3))), (1, (const (int IntKind.i64 4))), (2, (tmp 36))])
  refine l_new rfl rfl rfl (n_slice rfl Tryd.underlying30 Tryd.sizeOf3 Tryd.zeroValue3 rfl rfl (fill_int1 _) hL hE) ?_
  rintro _ w ⟨s38, rfl, hs38, hL, hE, hX⟩
  first | replace hg := hg.keep RNode.kept (Ext0.cells hX) | skip
  refine l_val rfl rfl rfl (r_build rfl rfl (built_f3 _ _ _ _ _)) ?_   -- outright.go:29 slot 39 := (build 37 [(0, (const (int IntKind.i64 0))), (1, (const (int IntKind.i64 2))), (2, (tmp 38))])
  refine l_new rfl rfl rfl (n_slice rfl Tryd.underlying30 Tryd.sizeOf3 Tryd.zeroValue3 rfl rfl (fill_int2 _ _) hL hE) ?_
  rintro _ w ⟨s40, rfl, hs40, hL, hE, hX⟩
  first | replace hg := hg.keep RNode.kept (Ext0.cells hX) | skip
  refine l_val rfl rfl rfl (r_build rfl rfl (built_f3 _ _ _ _ _)) ?_   -- outright.go:29 slot 41 := (build 37 [(0, (const (int IntKind.i64 2))), (1, (const (int IntKind.i64 5))), (2, (tmp 40))])
  refine l_new rfl rfl rfl (n_slice rfl Tryd.underlying30 Tryd.sizeOf3 Tryd.zeroValue3 rfl rfl (fill_int1 _) hL hE) ?_
  rintro _ w ⟨s42, rfl, hs42, hL, hE, hX⟩
  first | replace hg := hg.keep RNode.kept (Ext0.cells hX) | skip
  refine l_val rfl rfl rfl (r_build rfl rfl (built_f3 _ _ _ _ _)) ?_   -- outright.go:29 slot 43 := (build 37 [(0, (const (int IntKind.i64 0))), (1, (const (int IntKind.i64 5))), (2, (tmp 42))])
  refine l_new rfl rfl rfl (n_slice rfl Tryd.underlying30 Tryd.sizeOf3 Tryd.zeroValue3 rfl rfl (fill_int1 _) hL hE) ?_
  rintro _ w ⟨s44, rfl, hs44, hL, hE, hX⟩
  first | replace hg := hg.keep RNode.kept (Ext0.cells hX) | skip
  refine l_val rfl rfl rfl (r_build rfl rfl (built_f3 _ _ _ _ _)) ?_   -- outright.go:29 slot 45 := (build 37 [(0, (const (int IntKind.i64 1))), (1, (const (int IntKind.i64 5))), (2, (tmp 44))])
  refine l_new rfl rfl rfl (n_slice rfl Tryd.underlying29 Tryd.sizeOf37 Tryd.zeroValue37 rfl rfl (fill_fact6 _ _ _ _ _ _ _ _ _ _ _ _ _ _ _ _ _ _) hL hE) ?_
  rintro _ w ⟨s46, rfl, hs46, hL, hE, hX⟩
  first | replace hg := hg.keep RNode.kept (Ext0.cells hX) | skip
  refine l_new rfl rfl rfl (n_slice rfl Tryd.underlying30 Tryd.sizeOf3 Tryd.zeroValue3 rfl rfl (fill_int2 _ _) hL hE) ?_
  rintro _ w ⟨s47, rfl, hs47, hL, hE, hX⟩
  first | replace hg := hg.keep RNode.kept (Ext0.cells hX) | skip
  refine l_by rfl rfl rfl (r_call rfl rfl Tryd.func26 rfl rfl) (finds_calls _ (hk0.keep (Ext0.cells hE)) _ 2 [(6, 4), (2, 5)] (lit_pairs (hL.get 8 rfl) rfl rfl (by decide)) (by decide) _ 6 [⟨6, 4, [-1, 1]⟩, ⟨3, 4, [0, 2]⟩, ⟨0, 2, [0]⟩, ⟨2, 5, [4, 5]⟩, ⟨0, 5, [0]⟩, ⟨1, 5, [0]⟩] (Sl.ofBlkN (hL.get 1 rfl) (Els.cons rfl ⟨_, 2, rfl, lit_ints (hL.get 7 rfl) rfl rfl (by decide)⟩ (Els.cons rfl ⟨_, 2, rfl, lit_ints (hL.get 6 rfl) rfl rfl (by decide)⟩ (Els.cons rfl ⟨_, 1, rfl, lit_ints (hL.get 5 rfl) rfl rfl (by decide)⟩ (Els.cons rfl ⟨_, 2, rfl, lit_ints (hL.get 4 rfl) rfl rfl (by decide)⟩ (Els.cons rfl ⟨_, 1, rfl, lit_ints (hL.get 3 rfl) rfl rfl (by decide)⟩ (Els.cons rfl ⟨_, 1, rfl, lit_ints (hL.get 2 rfl) rfl rfl (by decide)⟩ (Els.nil _ _ _))))))) rfl rfl (Nat.le_refl _) (by decide)) _ 2 [0, 3] (lit_ints (hL.get 0 rfl) rfl rfl (by decide)) small3.1 small3.2) ?_   -- outright.go:29 slot 48 := (call {callee=(value (func 26)), args=[(tmp 33), (tmp 46), (tmp 47)], argTypes=[23, 29, 30]})
  rintro _ w ⟨rfl, hX⟩
  replace hL := hL.ext0 hX
  replace hE := hE.trans hX
  refine ⟨_, rfl, ?_⟩
  refine l_val rfl rfl rfl (r_not rfl rfl) ?_
  refine l_nil ?_
  refine c_no rfl ?_
  refine c_skip ?_
  refine c_seq ?_
  -- region 5
  refine c_ops ?_
  refine l_by rfl rfl rfl (r_call rfl rfl Tryd.func27 rfl rfl) (smallG_calls _) ?_   -- outright.go:32 slot 51 := (call {callee=(value (func 27)), args=[], argTypes=[]})
  rintro _ w ⟨A0, c0, rfl, hg, hX⟩
  replace hL := hL.ext0 hX
  replace hE := hE.trans hX
  refine ⟨_, rfl, ?_⟩
  refine l_val rfl rfl rfl (r_build rfl rfl (built_p2 _ _)) ?_   -- outright.go:32 slot 52 := (build 28 [(0, (const (int IntKind.i64 2))), (1, (const (int IntKind.i64 0)))])
  refine l_new rfl rfl rfl (n_slice rfl Tryd.underlying23 Tryd.sizeOf28 Tryd.zeroValue28 rfl rfl (fill_pair _ _) hL hE) ?_
  rintro _ w ⟨s53, rfl, hs53, hL, hE, hX⟩
  first | replace hg := hg.keep RNode.kept (Ext0.cells hX) | skip
  refine l_by rfl rfl rfl (r_call rfl rfl Tryd.func12 rfl rfl) (Find_calls _ A0 c0 smallL hg fits_small (by decide) (hk0.keep (Ext0.cells hE)) _ 1 [(2, 0)] (lit_pairs (hL.get 0 rfl) rfl rfl (by decide)) (by decide)) ?_   -- outright.go:32 slot 54 := (call {callee=(value (func 12)), args=[(tmp 51), (tmp 53)], argTypes=[22, 23]})
  rintro _ w hF
  obtain ⟨A1, c1, A2, c2, rfl, hX⟩ := hF.err (by decide) small4
  replace hL := hL.ext0 hX
  replace hE := hE.trans hX
  refine ⟨_, rfl, ?_⟩
  refine l_val rfl rfl rfl (r_move rfl) ?_
  refine l_val rfl rfl rfl (r_extract rfl rfl rfl) ?_
  refine l_val rfl rfl rfl (r_extract rfl rfl rfl) ?_
  refine l_val rfl rfl rfl (r_extract rfl rfl rfl) ?_
  refine l_val rfl rfl rfl (r_assign rfl) ?_
  refine l_val rfl rfl rfl (r_assign rfl) ?_
  refine l_val rfl rfl rfl (r_assign rfl) ?_
  refine l_nil ?_
  refine c_seq ?_
  -- region 6
  refine c_ops ?_
  refine l_by rfl rfl rfl (r_call rfl rfl Tryd.func27 rfl rfl) (smallG_calls _) ?_   -- outright.go:33 slot 59 := (call {callee=(value (func 27)), args=[], argTypes=[]})
  rintro _ w ⟨A0, c0, rfl, hg, hX⟩
  replace hL := hL.ext0 hX
  replace hE := hE.trans hX
  refine ⟨_, rfl, ?_⟩
  refine l_val rfl rfl rfl (r_build rfl rfl (built_p2 _ _)) ?_   -- outright.go:33 slot 60 := (build 28 [(0, (const (int IntKind.i64 7))), (1, (const (int IntKind.i64 0)))])
  refine l_new rfl rfl rfl (n_slice rfl Tryd.underlying23 Tryd.sizeOf28 Tryd.zeroValue28 rfl rfl (fill_pair _ _) hL hE) ?_
  rintro _ w ⟨s61, rfl, hs61, hL, hE, hX⟩
  first | replace hg := hg.keep RNode.kept (Ext0.cells hX) | skip
  refine l_by rfl rfl rfl (r_call rfl rfl Tryd.func12 rfl rfl) (Find_calls _ A0 c0 smallL hg fits_small (by decide) (hk0.keep (Ext0.cells hE)) _ 1 [(7, 0)] (lit_pairs (hL.get 0 rfl) rfl rfl (by decide)) (by decide)) ?_   -- outright.go:33 slot 62 := (call {callee=(value (func 12)), args=[(tmp 59), (tmp 61)], argTypes=[22, 23]})
  rintro _ w hF
  obtain ⟨A1, c1, A2, c2, rfl, hX⟩ := hF.err (by decide) small5
  replace hL := hL.ext0 hX
  replace hE := hE.trans hX
  refine ⟨_, rfl, ?_⟩
  refine l_val rfl rfl rfl (r_move rfl) ?_
  refine l_val rfl rfl rfl (r_extract rfl rfl rfl) ?_
  refine l_val rfl rfl rfl (r_extract rfl rfl rfl) ?_
  refine l_val rfl rfl rfl (r_extract rfl rfl rfl) ?_
  refine l_val rfl rfl rfl (r_assign rfl) ?_
  refine l_val rfl rfl rfl (r_assign rfl) ?_
  refine l_val rfl rfl rfl (r_assign rfl) ?_
  refine l_nil ?_
  refine c_seq ?_
  -- region 7
  refine c_ops ?_
  refine l_by rfl rfl rfl (r_call rfl rfl Tryd.func27 rfl rfl) (smallG_calls _) ?_   -- outright.go:34 slot 67 := (call {callee=(value (func 27)), args=[], argTypes=[]})
  rintro _ w ⟨A0, c0, rfl, hg, hX⟩
  replace hL := hL.ext0 hX
  replace hE := hE.trans hX
  refine ⟨_, rfl, ?_⟩
  refine l_new rfl rfl rfl (n_slice rfl Tryd.underlying30 Tryd.sizeOf3 Tryd.zeroValue3 rfl rfl (fill_int1 _) hL hE) ?_
  rintro _ w ⟨s68, rfl, hs68, hL, hE, hX⟩
  first | replace hg := hg.keep RNode.kept (Ext0.cells hX) | skip
  refine l_val rfl rfl rfl (r_build rfl rfl (built_f3 _ _ _ _ _)) ?_   -- outright.go:34 slot 69 := (build 37 [(0, (const (int IntKind.i64 0))), (1, (const (int IntKind.i64 1))), (2, (tmp 68))])
  refine l_new rfl rfl rfl (n_slice rfl Tryd.underlying29 Tryd.sizeOf37 Tryd.zeroValue37 rfl rfl (fill_fact _ _ _) hL hE) ?_
  rintro _ w ⟨s70, rfl, hs70, hL, hE, hX⟩
  first | replace hg := hg.keep RNode.kept (Ext0.cells hX) | skip
  refine l_by rfl rfl rfl (r_call rfl rfl Tryd.func13 rfl rfl) ((First_calls _ A0 c0 smallL hg fits_small (hk0.keep (Ext0.cells hE)) _ 1 [⟨0, 1, [0]⟩] (Sl.ofBlkN (hL.get 0 rfl) (Els.cons rfl ⟨_, 1, rfl, lit_ints (hL.get 1 rfl) rfl rfl (by decide)⟩ (Els.nil _ _ _)) rfl rfl (Nat.le_refl _) (by decide)))) ?_   -- outright.go:34 slot 71 := (call {callee=(value (func 13)), args=[(tmp 67), (tmp 70)], argTypes=[22, 29]})
  rintro _ w ⟨hen, hX⟩
  rw [if_pos small6.1, small6.1, small6.2] at hen
  subst hen
  replace hL := hL.ext0 hX
  replace hE := hE.trans hX
  refine ⟨_, rfl, ?_⟩
  refine l_val rfl rfl rfl (r_move rfl) ?_
  refine l_val rfl rfl rfl (r_extract rfl rfl rfl) ?_
  refine l_val rfl rfl rfl (r_extract rfl rfl rfl) ?_
  refine l_val rfl rfl rfl (r_assign rfl) ?_
  refine l_val rfl rfl rfl (r_assign rfl) ?_
  refine l_nil ?_
  refine c_seq ?_
  -- region 8
  refine c_ops ?_
  refine l_by rfl rfl rfl (r_call rfl rfl Tryd.func27 rfl rfl) (smallG_calls _) ?_   -- outright.go:35 slot 75 := (call {callee=(value (func 27)), args=[], argTypes=[]})
  rintro _ w ⟨A0, c0, rfl, hg, hX⟩
  replace hL := hL.ext0 hX
  replace hE := hE.trans hX
  refine ⟨_, rfl, ?_⟩
  refine l_new rfl rfl rfl (n_slice rfl Tryd.underlying30 Tryd.sizeOf3 Tryd.zeroValue3 rfl rfl (fill_int2 _ _) hL hE) ?_
  rintro _ w ⟨s76, rfl, hs76, hL, hE, hX⟩
  first | replace hg := hg.keep RNode.kept (Ext0.cells hX) | skip
  refine l_val rfl rfl rfl (r_build rfl rfl (built_f3 _ _ _ _ _)) ?_   -- outright.go:35 slot 77 := (build 37 [(0, (const (int IntKind.i64 3))), (1, (const (int IntKind.i64 4))), (2, (tmp 76))])
  refine l_new rfl rfl rfl (n_slice rfl Tryd.underlying29 Tryd.sizeOf37 Tryd.zeroValue37 rfl rfl (fill_fact _ _ _) hL hE) ?_
  rintro _ w ⟨s78, rfl, hs78, hL, hE, hX⟩
  first | replace hg := hg.keep RNode.kept (Ext0.cells hX) | skip
  refine l_by rfl rfl rfl (r_call rfl rfl Tryd.func13 rfl rfl) ((First_calls _ A0 c0 smallL hg fits_small (hk0.keep (Ext0.cells hE)) _ 1 [⟨3, 4, [0, 0]⟩] (Sl.ofBlkN (hL.get 0 rfl) (Els.cons rfl ⟨_, 2, rfl, lit_ints (hL.get 1 rfl) rfl rfl (by decide)⟩ (Els.nil _ _ _)) rfl rfl (Nat.le_refl _) (by decide)))) ?_   -- outright.go:35 slot 79 := (call {callee=(value (func 13)), args=[(tmp 75), (tmp 78)], argTypes=[22, 29]})
  rintro _ w ⟨hen, hX⟩
  rw [if_pos small7.1, small7.1, small7.2] at hen
  subst hen
  replace hL := hL.ext0 hX
  replace hE := hE.trans hX
  refine ⟨_, rfl, ?_⟩
  refine l_val rfl rfl rfl (r_move rfl) ?_
  refine l_val rfl rfl rfl (r_extract rfl rfl rfl) ?_
  refine l_val rfl rfl rfl (r_extract rfl rfl rfl) ?_
  refine l_val rfl rfl rfl (r_assign rfl) ?_
  refine l_val rfl rfl rfl (r_assign rfl) ?_
  refine l_nil ?_
  refine c_seq ?_
  -- region 9
  refine c_ops ?_
  refine l_val rfl rfl rfl (r_move rfl) ?_
  refine l_val rfl rfl rfl (r_eql rfl rfl rfl) ?_
  refine l_know (t := 83) (v := .bool true) rfl ?_
  refine l_val rfl rfl rfl (r_move rfl) ?_
  refine l_val rfl rfl rfl (r_move rfl) ?_
  refine l_val rfl rfl rfl (r_eql rfl rfl rfl) ?_
  refine l_know (t := 86) (v := .bool true) rfl ?_
  refine l_val rfl rfl rfl (r_pick rfl rfl) ?_
  refine l_know (t := 87) (v := .bool true) rfl ?_
  refine l_val rfl rfl rfl (r_move rfl) ?_
  refine l_by rfl rfl rfl (r_call rfl rfl Tryd.func27 rfl rfl) (smallG_calls _) ?_   -- outright.go:36 slot 89 := (call {callee=(value (func 27)), args=[], argTypes=[]})
  rintro _ w ⟨A0, c0, rfl, hg, hX⟩
  replace hL := hL.ext0 hX
  replace hE := hE.trans hX
  refine ⟨_, rfl, ?_⟩
  refine l_new rfl rfl rfl (n_slice rfl Tryd.underlying30 Tryd.sizeOf3 Tryd.zeroValue3 rfl rfl (fill_int1 _) hL hE) ?_
  rintro _ w ⟨s90, rfl, hs90, hL, hE, hX⟩
  first | replace hg := hg.keep RNode.kept (Ext0.cells hX) | skip
  refine l_val rfl rfl rfl (r_build rfl rfl (built_f3 _ _ _ _ _)) ?_   -- outright.go:36 slot 91 := (build 37 [(0, (const (int IntKind.i64 5))), (1, (const (int IntKind.i64 0))), (2, (tmp 90))])
  refine l_new rfl rfl rfl (n_slice rfl Tryd.underlying29 Tryd.sizeOf37 Tryd.zeroValue37 rfl rfl (fill_fact _ _ _) hL hE) ?_
  rintro _ w ⟨s92, rfl, hs92, hL, hE, hX⟩
  first | replace hg := hg.keep RNode.kept (Ext0.cells hX) | skip
  refine l_by rfl rfl rfl (r_call rfl rfl Tryd.func18 rfl rfl) ((Casts_calls _ A0 c0 smallL hg fits_small (hk0.keep (Ext0.cells hE)) _ 1 [⟨5, 0, [0]⟩] (Sl.ofBlkN (hL.get 0 rfl) (Els.cons rfl ⟨_, 1, rfl, lit_ints (hL.get 1 rfl) rfl rfl (by decide)⟩ (Els.nil _ _ _)) rfl rfl (Nat.le_refl _) (by decide)) 0)) ?_   -- outright.go:36 slot 93 := (call {callee=(value (func 18)), args=[(tmp 89), (tmp 92), (const (int IntKind.i64 0))], argTypes=[22, 29, 3]})
  rintro _ w ⟨cb, hen, hcb, hX⟩
  have h8 : cb = true := hcb.2 ⟨small8.1, by decide, by decide, 0, .refl, small8.2⟩
  rw [h8] at hen
  subst hen
  replace hL := hL.ext0 hX
  replace hE := hE.trans hX
  refine ⟨_, rfl, ?_⟩
  refine l_val rfl rfl rfl (r_pick rfl rfl) ?_
  refine l_know (t := 94) (v := .bool true) rfl ?_
  refine l_val rfl rfl rfl (r_move rfl) ?_
  refine l_by rfl rfl rfl (r_call rfl rfl Tryd.func27 rfl rfl) (smallG_calls _) ?_   -- outright.go:36 slot 96 := (call {callee=(value (func 27)), args=[], argTypes=[]})
  rintro _ w ⟨A0, c0, rfl, hg, hX⟩
  replace hL := hL.ext0 hX
  replace hE := hE.trans hX
  refine ⟨_, rfl, ?_⟩
  refine l_new rfl rfl rfl (n_slice rfl Tryd.underlying30 Tryd.sizeOf3 Tryd.zeroValue3 rfl rfl (fill_int1 _) hL hE) ?_
  rintro _ w ⟨s97, rfl, hs97, hL, hE, hX⟩
  first | replace hg := hg.keep RNode.kept (Ext0.cells hX) | skip
  refine l_val rfl rfl rfl (r_build rfl rfl (built_f3 _ _ _ _ _)) ?_   -- outright.go:36 slot 98 := (build 37 [(0, (const (int IntKind.i64 0))), (1, (const (int IntKind.i64 5))), (2, (tmp 97))])
  refine l_new rfl rfl rfl (n_slice rfl Tryd.underlying29 Tryd.sizeOf37 Tryd.zeroValue37 rfl rfl (fill_fact _ _ _) hL hE) ?_
  rintro _ w ⟨s99, rfl, hs99, hL, hE, hX⟩
  first | replace hg := hg.keep RNode.kept (Ext0.cells hX) | skip
  refine l_by rfl rfl rfl (r_call rfl rfl Tryd.func18 rfl rfl) ((Casts_calls _ A0 c0 smallL hg fits_small (hk0.keep (Ext0.cells hE)) _ 1 [⟨0, 5, [0]⟩] (Sl.ofBlkN (hL.get 0 rfl) (Els.cons rfl ⟨_, 1, rfl, lit_ints (hL.get 1 rfl) rfl rfl (by decide)⟩ (Els.nil _ _ _)) rfl rfl (Nat.le_refl _) (by decide)) 0)) ?_   -- outright.go:36 slot 100 := (call {callee=(value (func 18)), args=[(tmp 96), (tmp 99), (const (int IntKind.i64 0))], argTypes=[22, 29, 3]})
  rintro _ w ⟨cb, hen, hcb, hX⟩
  have h8 : cb = false := Bool.eq_false_iff.2 (fun h => by obtain ⟨_, _, _, j, hj, hh⟩ := hcb.1 h; rw [reach_none hj small9.2.2, small9.2.1] at hh; cases hh)
  rw [h8] at hen
  subst hen
  replace hL := hL.ext0 hX
  replace hE := hE.trans hX
  refine ⟨_, rfl, ?_⟩
  refine l_val rfl rfl rfl (r_not rfl rfl) ?_
  refine l_know (t := 101) (v := .bool true) rfl ?_
  refine l_val rfl rfl rfl (r_pick rfl rfl) ?_
  refine l_know (t := 102) (v := .bool true) rfl ?_
  refine l_val rfl rfl rfl (r_move rfl) ?_
  refine l_val rfl rfl rfl (r_move rfl) ?_
  refine l_val rfl rfl rfl (r_eql rfl rfl rfl) ?_
  refine l_know (t := 105) (v := .bool true) rfl ?_
  refine l_val rfl rfl rfl (r_pick rfl rfl) ?_
  refine l_know (t := 106) (v := .bool true) rfl ?_
  refine l_val rfl rfl rfl (r_move rfl) ?_
  refine l_val rfl rfl rfl (r_move rfl) ?_
  refine l_val rfl rfl rfl (r_eql rfl rfl rfl) ?_
  refine l_know (t := 109) (v := .bool true) rfl ?_
  refine l_val rfl rfl rfl (r_pick rfl rfl) ?_
  refine l_know (t := 110) (v := .bool true) rfl ?_
  refine l_val rfl rfl rfl (r_move rfl) ?_
  refine l_val rfl rfl rfl (r_move rfl) ?_
  refine l_val rfl rfl rfl (r_eql rfl rfl rfl) ?_
  refine l_know (t := 113) (v := .bool true) rfl ?_
  refine l_val rfl rfl rfl (r_pick rfl rfl) ?_
  refine l_know (t := 114) (v := .bool true) rfl ?_
  refine l_val rfl rfl rfl (r_move rfl) ?_
  refine l_val rfl rfl rfl (r_move rfl) ?_
  refine l_val rfl rfl rfl (r_eql rfl rfl rfl) ?_
  refine l_know (t := 117) (v := .bool true) rfl ?_
  refine l_val rfl rfl rfl (r_pick rfl rfl) ?_
  refine l_know (t := 118) (v := .bool true) rfl ?_
  refine l_val rfl rfl rfl (r_assign rfl) ?_
  refine l_nil ?_
  refine c_ret ?_
  exact ⟨rfl, hE⟩
end Go.Proofs.YtndophlnapjkhaaDoor.Vc
