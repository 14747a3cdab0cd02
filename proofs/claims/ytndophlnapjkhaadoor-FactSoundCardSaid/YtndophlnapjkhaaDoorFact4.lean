/- Why a type may stand for another one: the rule of all else. Conditions: those of each statement. -/
import Derived.Test.YtndophlnapjkhaaDoorFact3
namespace Go.Proofs.YtndophlnapjkhaaDoor.Vc
open Go Go.RowKit
set_option linter.unusedVariables false
set_option linter.unusedSimpArgs false

def plainOn (s : GNode) : List (ByteArray × Int) → Option FP
  | [] => some []
  | (key, tl) :: r => if idxV (idxS s.keys key) < 0 then none else (plainOn s r).map ((iat s.l (idxV (idxS s.keys key)), tl) :: ·)
def oddF (s t : GNode) : Bool := !decide (s.kind = t.kind) || !decide (s.name = t.name) || !decide (s.num = t.num)
def plainR (s t : GNode) : FP × Bool :=
  if oddF s t then ([], false) else if s.kind = 9 then ([(iat s.l 0, iat t.l 0)], true)
  else match plainOn s (t.keys.zip t.l) with
    | none => ([], false)
    | some on => (on, true)
def plainF (g : List GNode) (f : Fact) : Bool × FP × Bool := (true, (plainR (gat g f.a) (chosenF g f)).1, (plainR (gat g f.a) (chosenF g f)).2)
theorem NodeIs.keys {g : List GNode} {x : GNode} (h : NodeIs g x) {k : Nat} (hk : k < x.keys.length) : x.l.length = x.keys.length ∧ x.kind = 7 ∧ risesB x.keys = true := by
  rcases h with ⟨_, _, hk1, _⟩ | ⟨_, _, hk1, _⟩ | ⟨h, hl, hr, _⟩ | ⟨_, _, _, _, hk1, _⟩ | ⟨_, _, hk1, _⟩
  · rw [hk1] at hk; simp at hk
  · rw [hk1] at hk; simp at hk
  · exact ⟨hl, h, hr⟩
  · rw [hk1] at hk; simp at hk
  · rw [hk1] at hk; simp at hk
theorem plainOn_step (s : GNode) {ks : List ByteArray} {l : List Int} {k : Nat} {key : ByteArray} {x : Int} (h1 : ks[k]? = some key) (h2 : l[k]? = some x) : plainOn s ((ks.zip l).drop k) = if idxV (idxS s.keys key) < 0 then none else (plainOn s ((ks.zip l).drop (k + 1))).map ((iat s.l (idxV (idxS s.keys key)), x) :: ·) := by
  rw [zip_at h1 h2, plainOn]
theorem plain_calls (w0 : World) (xb : Nat) (Ag : Option Addr) (cg : Nat) (g : List GNode) (hg : Nodes w0 Ag cg g) (hok : GraphOk g) (hx0 : w0.cell? ⟨xb, 0, none⟩ = some (.slice Ag g.length cg)) (f : Fact) (Aw : Option Addr) (cw : Nat) (hw : Ints w0 Aw cw f.why) (hf : FactOk g f) (h8 : (gat g f.a).kind ≠ 8) (hi : 0 ≤ iat f.why 0 ∧ iat f.why 0 < (membersG g f.b).length) (hpos : 0 < f.why.length) :
    Calls Tryd.prog 75 [.pointer (some ⟨xb, 0, none⟩), .agg (factCells f Aw cw).toArray].toArray w0 (RuleRes w0 (plainF g f)) := by
  have hE : Ext0 w0 w0 := Ext.refl _ _
  have hL : Has w0 [] := trivial
  have hch := chosen_in hok hi
  have his := hok.is (gat_mem' hf.a.1 hf.a.2)
  have hit := hok.is (gat_mem' hch.1 hch.2.1)
  have hbig := hok.fits.lists _ (gat_mem' hch.1 hch.2.1)
  obtain ⟨s, hs⟩ : ∃ s, s = gat g f.a := ⟨_, rfl⟩
  obtain ⟨t, ht⟩ : ∃ t, t = chosenF g f := ⟨_, rfl⟩
  obtain ⟨Ak, ck, Al, cl, hcell, hsk, hsl⟩ := hg.node f.a hf.a.1 hf.a.2
  unfold plainF
  rw [← hs] at hcell hsk hsl his h8 ⊢
  rw [show gat g (iat (membersG g f.b) (iat f.why 0)) = t from ht.symm] at hit hbig
  have ht8 : t.kind ≠ 8 := by rw [ht]; exact hch.2.2
  rw [← ht]
  obtain ⟨Bk, dk, Bl, dl, hcell2, htk, htl⟩ := hg.node _ hch.1 hch.2.1
  rw [show gat g (iat (membersG g f.b) (iat f.why 0)) = t from ht.symm] at hcell2 htk htl
  have hps := his.plain h8
  have hpt := hit.plain ht8
  refine calls [4, 5, 6] Tryd.func75 rfl rfl rfl rfl ?_
  refine c_seq ?_
  -- region 0
  refine c_ops ?_
  refine l_new rfl rfl rfl (n_box rfl hL hE) ?_
  rintro _ w ⟨b3, rfl, hb3, hL, hE, hX⟩
  refine l_val rfl rfl rfl (r_assign rfl) ?_
  refine l_val rfl rfl rfl (r_assign rfl) ?_
  refine l_val rfl rfl rfl (r_assign rfl) ?_
  refine l_nil ?_
  refine c_merge [7, 8, 13, 14, 15, 16, 17, 18, 19, 20, 21, 22, 23] (fun e w => ∃ b7 b8, e 7 = .pointer (some ⟨b7, 0, none⟩) ∧ e 8 = .pointer (some ⟨b8, 0, none⟩) ∧ Has w [.blk b8 (.cells (nodeCells t Bk dk Bl dl).toArray 45 (0, 0)), .blk b7 (.cells (nodeCells s Ak ck Al cl).toArray 45 (0, 0)), .blk b3 (.cells (factCells f Aw cw).toArray 37 (0, 0))] ∧ Ext0 w0 w) ?_ ?_
  · -- merged
    -- region 1
    refine c_draw mixed (hL) hE ?_
    replace hL := hL.drew
    replace hE := hE.drew
    have hK := hL
    refine h_t 0 rfl rfl (by kernel_rfl) (fun _ _ _ h => h) ⟨hK, hE⟩ rfl (fun W hW => r_move rfl) ?_
    refine h_t 1 rfl rfl (by kernel_rfl) (fun _ _ _ h => h) ⟨hK, hE⟩ rfl (fun W hW => r_nilCheck rfl rfl) ?_
    refine h_t 2 rfl rfl (by kernel_rfl) (fun _ _ _ h => h) ⟨hK, hE⟩ rfl (fun W hW => r_fieldAddr (n := 0) rfl Tryd.underlying65 rfl Tryd.sizeOf22 rfl) ?_
    refine h_t 3 rfl rfl (by kernel_rfl) (fun _ _ _ h => h) ⟨hK, hE⟩ rfl (fun W hW => r_load rfl Tryd.isAgg22 rfl (Ext0.cells hW.2 _ _ hx0)) ?_
    refine h_t 4 rfl rfl (by kernel_rfl) (fun _ _ _ h => h) ⟨hK, hE⟩ rfl (fun W hW => r_fieldAddr (n := 0) rfl Tryd.underlying37 rfl Tryd.sizeOf3 rfl) ?_
    refine h_t 5 rfl rfl (by kernel_rfl) (fun _ _ _ h => h) ⟨hK, hE⟩ rfl (fun W hW => r_load_blk rfl Tryd.isAgg3 rfl (hW.1.get 0 rfl) rfl) ?_
    refine h_t 6 rfl rfl (by kernel_rfl) (fun _ _ _ h => h) ⟨hK, hE⟩ rfl (fun W hW => r_indexAddr_sl rfl Tryd.underlying22 Tryd.sizeOf45 rfl hg.is rfl hf.a.1 hf.a.2) ?_
    refine h_t 7 rfl rfl (by kernel_rfl) (fun _ _ _ h => h) ⟨hK, hE⟩ rfl (fun W hW => r_load_agg (vs := nodeCells s Ak ck Al cl) rfl Tryd.isAgg45 Tryd.sizeOf45 rfl (fun j v hj => Ext0.cells hW.2 _ _ (hcell j v hj))) ?_
    refine h_t 8 rfl rfl (by kernel_rfl) (fun _ _ _ h => h) ⟨hK, hE⟩ rfl (fun W hW => r_move rfl) ?_
    refine h_t 9 rfl rfl (by kernel_rfl) (fun _ _ _ h => h) ⟨hK, hE⟩ rfl (fun W hW => r_load_blk_agg rfl Tryd.isAgg37 Tryd.sizeOf37 rfl (hW.1.get 0 rfl) rfl) ?_
    refine h_many [10, 11, 12] (by kernel_rfl) ⟨?_, ?_, ?_, trivial⟩
    · -- operation 10 first
      refine o_by 10 rfl rfl rfl rfl (r_call rfl rfl Tryd.func65 rfl rfl) (chosen_calls _ xb Ag cg g (hg.keep RNode.kept (Ext0.cells hE)) hok (Ext0.cells hE _ _ hx0) f Aw cw (hw.keep RInt.kept (Ext0.cells hE)) hf hi hpos Bk dk Bl dl (fun j v hj => by rw [← ht] at hj; exact Ext0.cells hE _ _ (hcell2 j v hj))) ?_   -- fact.go:56 slot 23 := (call {callee=(value (func 65)), args=[(tmp 21), (tmp 22)], argTypes=[73, 37]})
      rintro _ w ⟨rfl, hX⟩
      replace hL := hL.ext0 hX
      replace hE := hE.trans hX
      rw [← ht]
      have hK := hL
      refine ⟨_, rfl, ⟨hK, hE⟩, ?_⟩
      refine h_many [11, 12] (by kernel_rfl) ⟨?_, ?_, trivial⟩
      · -- operation 11 first
        refine o_new 11 rfl rfl rfl rfl (n_alloc rfl Tryd.zeroValue45 hL hE) ?_
        rintro _ w ⟨b7, rfl, hb7, hL, hE, hX⟩
        have hK := hL.sub (.cons _ (.cons_cons _ .slnil))
        refine ⟨⟨hK, hE⟩, ?_⟩
        refine h_new 12 rfl rfl (by kernel_rfl) rfl (n_alloc rfl Tryd.zeroValue45 hL hE) ?_
        rintro _ w ⟨b8, rfl, hb8, hL, hE, hX⟩
        have hK := hL.sub (.cons _ (.cons _ (.cons_cons _ .slnil)))
        refine ⟨⟨hK, hE⟩, ?_⟩
        refine h_new_do 13 rfl rfl (by kernel_rfl) rfl (r_store 1 rfl Tryd.sizeOf45 rfl hL hE rfl rfl rfl rfl (fun h => absurd h (Nat.not_lt.2 hb7))) ?_
        rintro w ⟨hL, hE, hz, hk⟩
        have hK := hL.sub (.cons _ (.cons _ (.cons_cons _ .slnil)))
        refine ⟨⟨hK, hE⟩, ?_⟩
        refine h_new_do 14 rfl rfl (by kernel_rfl) rfl (r_store 0 rfl Tryd.sizeOf45 rfl hL hE rfl rfl rfl rfl (fun h => absurd h (Nat.not_lt.2 hb8))) ?_
        rintro w ⟨hL, hE, hz, hk⟩
        have hK := hL.sub (.cons _ (.cons _ (.cons_cons _ .slnil)))
        refine ⟨⟨hK, hE⟩, ?_⟩
        refine h_done (by kernel_rfl) ?_
        refine ⟨by repeat (first | exact Agree.over _ _ _ | exact Agree.refl _ _ | (refine Agree.puto ?_ _ _ rfl) | (refine Agree.put ?_ _ _ rfl) | (refine Agree.sub ?_ rfl)), ?_⟩
        exact ⟨b7, b8, rfl, rfl, (((hL.front 2 rfl).front 2 rfl).front 2 rfl), hE⟩
      · -- operation 12 first
        refine o_new 12 rfl rfl rfl rfl (n_alloc rfl Tryd.zeroValue45 hL hE) ?_
        rintro _ w ⟨b8, rfl, hb8, hL, hE, hX⟩
        have hK := hL.sub (.cons _ (.cons_cons _ .slnil))
        refine ⟨⟨hK, hE⟩, ?_⟩
        refine h_new 11 rfl rfl (by kernel_rfl) rfl (n_alloc rfl Tryd.zeroValue45 hL hE) ?_
        rintro _ w ⟨b7, rfl, hb7, hL, hE, hX⟩
        have hK := hL.sub (.cons _ (.cons _ (.cons_cons _ .slnil)))
        refine ⟨⟨hK, hE⟩, ?_⟩
        refine h_new_do 13 rfl rfl (by kernel_rfl) rfl (r_store 0 rfl Tryd.sizeOf45 rfl hL hE rfl rfl rfl rfl (fun h => absurd h (Nat.not_lt.2 hb7))) ?_
        rintro w ⟨hL, hE, hz, hk⟩
        have hK := hL.sub (.cons _ (.cons _ (.cons_cons _ .slnil)))
        refine ⟨⟨hK, hE⟩, ?_⟩
        refine h_new_do 14 rfl rfl (by kernel_rfl) rfl (r_store 1 rfl Tryd.sizeOf45 rfl hL hE rfl rfl rfl rfl (fun h => absurd h (Nat.not_lt.2 hb8))) ?_
        rintro w ⟨hL, hE, hz, hk⟩
        have hK := hL.sub (.cons _ (.cons _ (.cons_cons _ .slnil)))
        refine ⟨⟨hK, hE⟩, ?_⟩
        refine h_done (by kernel_rfl) ?_
        refine ⟨by repeat (first | exact Agree.over _ _ _ | exact Agree.refl _ _ | (refine Agree.puto ?_ _ _ rfl) | (refine Agree.put ?_ _ _ rfl) | (refine Agree.sub ?_ rfl)), ?_⟩
        exact ⟨b7, b8, rfl, rfl, (((hL.front 2 rfl).front 1 rfl).front 2 rfl), hE⟩
    · -- operation 11 first
      refine o_new 11 rfl rfl rfl rfl (n_alloc rfl Tryd.zeroValue45 hL hE) ?_
      rintro _ w ⟨b7, rfl, hb7, hL, hE, hX⟩
      have hK := hL.sub (.cons _ (.cons_cons _ .slnil))
      refine ⟨⟨hK, hE⟩, ?_⟩
      refine h_many [10, 12] (by kernel_rfl) ⟨?_, ?_, trivial⟩
      · -- operation 10 first
        refine o_by 10 rfl rfl rfl rfl (r_call rfl rfl Tryd.func65 rfl rfl) (chosen_calls _ xb Ag cg g (hg.keep RNode.kept (Ext0.cells hE)) hok (Ext0.cells hE _ _ hx0) f Aw cw (hw.keep RInt.kept (Ext0.cells hE)) hf hi hpos Bk dk Bl dl (fun j v hj => by rw [← ht] at hj; exact Ext0.cells hE _ _ (hcell2 j v hj))) ?_   -- fact.go:56 slot 23 := (call {callee=(value (func 65)), args=[(tmp 21), (tmp 22)], argTypes=[73, 37]})
        rintro _ w ⟨rfl, hX⟩
        replace hL := hL.ext0 hX
        replace hE := hE.trans hX
        rw [← ht]
        have hK := hL.sub (.cons _ (.cons_cons _ .slnil))
        refine ⟨_, rfl, ⟨hK, hE⟩, ?_⟩
        refine h_new 12 rfl rfl (by kernel_rfl) rfl (n_alloc rfl Tryd.zeroValue45 hL hE) ?_
        rintro _ w ⟨b8, rfl, hb8, hL, hE, hX⟩
        have hK := hL.sub (.cons _ (.cons _ (.cons_cons _ .slnil)))
        refine ⟨⟨hK, hE⟩, ?_⟩
        refine h_new_do 13 rfl rfl (by kernel_rfl) rfl (r_store 1 rfl Tryd.sizeOf45 rfl hL hE rfl rfl rfl rfl (fun h => absurd h (Nat.not_lt.2 hb7))) ?_
        rintro w ⟨hL, hE, hz, hk⟩
        have hK := hL.sub (.cons _ (.cons _ (.cons_cons _ .slnil)))
        refine ⟨⟨hK, hE⟩, ?_⟩
        refine h_new_do 14 rfl rfl (by kernel_rfl) rfl (r_store 0 rfl Tryd.sizeOf45 rfl hL hE rfl rfl rfl rfl (fun h => absurd h (Nat.not_lt.2 hb8))) ?_
        rintro w ⟨hL, hE, hz, hk⟩
        have hK := hL.sub (.cons _ (.cons _ (.cons_cons _ .slnil)))
        refine ⟨⟨hK, hE⟩, ?_⟩
        refine h_done (by kernel_rfl) ?_
        refine ⟨by repeat (first | exact Agree.over _ _ _ | exact Agree.refl _ _ | (refine Agree.puto ?_ _ _ rfl) | (refine Agree.put ?_ _ _ rfl) | (refine Agree.sub ?_ rfl)), ?_⟩
        exact ⟨b7, b8, rfl, rfl, (((hL.front 2 rfl).front 2 rfl).front 2 rfl), hE⟩
      · -- operation 12 first
        refine o_new 12 rfl rfl rfl rfl (n_alloc rfl Tryd.zeroValue45 hL hE) ?_
        rintro _ w ⟨b8, rfl, hb8, hL, hE, hX⟩
        have hK := hL.sub (.cons _ (.cons _ (.cons_cons _ .slnil)))
        refine ⟨⟨hK, hE⟩, ?_⟩
        refine h_by 10 rfl rfl (by kernel_rfl) rfl (r_call rfl rfl Tryd.func65 rfl rfl) (chosen_calls _ xb Ag cg g (hg.keep RNode.kept (Ext0.cells hE)) hok (Ext0.cells hE _ _ hx0) f Aw cw (hw.keep RInt.kept (Ext0.cells hE)) hf hi hpos Bk dk Bl dl (fun j v hj => by rw [← ht] at hj; exact Ext0.cells hE _ _ (hcell2 j v hj))) ?_   -- fact.go:56 slot 23 := (call {callee=(value (func 65)), args=[(tmp 21), (tmp 22)], argTypes=[73, 37]})
        rintro _ w ⟨rfl, hX⟩
        replace hL := hL.ext0 hX
        replace hE := hE.trans hX
        rw [← ht]
        have hK := hL.sub (.cons _ (.cons _ (.cons_cons _ .slnil)))
        refine ⟨_, rfl, ⟨hK, hE⟩, ?_⟩
        refine h_new_do 13 rfl rfl (by kernel_rfl) rfl (r_store 1 rfl Tryd.sizeOf45 rfl hL hE rfl rfl rfl rfl (fun h => absurd h (Nat.not_lt.2 hb7))) ?_
        rintro w ⟨hL, hE, hz, hk⟩
        have hK := hL.sub (.cons _ (.cons _ (.cons_cons _ .slnil)))
        refine ⟨⟨hK, hE⟩, ?_⟩
        refine h_new_do 14 rfl rfl (by kernel_rfl) rfl (r_store 0 rfl Tryd.sizeOf45 rfl hL hE rfl rfl rfl rfl (fun h => absurd h (Nat.not_lt.2 hb8))) ?_
        rintro w ⟨hL, hE, hz, hk⟩
        have hK := hL.sub (.cons _ (.cons _ (.cons_cons _ .slnil)))
        refine ⟨⟨hK, hE⟩, ?_⟩
        refine h_done (by kernel_rfl) ?_
        refine ⟨by repeat (first | exact Agree.over _ _ _ | exact Agree.refl _ _ | (refine Agree.puto ?_ _ _ rfl) | (refine Agree.put ?_ _ _ rfl) | (refine Agree.sub ?_ rfl)), ?_⟩
        exact ⟨b7, b8, rfl, rfl, (((hL.front 2 rfl).front 2 rfl).front 2 rfl), hE⟩
    · -- operation 12 first
      refine o_new 12 rfl rfl rfl rfl (n_alloc rfl Tryd.zeroValue45 hL hE) ?_
      rintro _ w ⟨b8, rfl, hb8, hL, hE, hX⟩
      have hK := hL.sub (.cons _ (.cons_cons _ .slnil))
      refine ⟨⟨hK, hE⟩, ?_⟩
      refine h_many [10, 11] (by kernel_rfl) ⟨?_, ?_, trivial⟩
      · -- operation 10 first
        refine o_by 10 rfl rfl rfl rfl (r_call rfl rfl Tryd.func65 rfl rfl) (chosen_calls _ xb Ag cg g (hg.keep RNode.kept (Ext0.cells hE)) hok (Ext0.cells hE _ _ hx0) f Aw cw (hw.keep RInt.kept (Ext0.cells hE)) hf hi hpos Bk dk Bl dl (fun j v hj => by rw [← ht] at hj; exact Ext0.cells hE _ _ (hcell2 j v hj))) ?_   -- fact.go:56 slot 23 := (call {callee=(value (func 65)), args=[(tmp 21), (tmp 22)], argTypes=[73, 37]})
        rintro _ w ⟨rfl, hX⟩
        replace hL := hL.ext0 hX
        replace hE := hE.trans hX
        rw [← ht]
        have hK := hL.sub (.cons _ (.cons_cons _ .slnil))
        refine ⟨_, rfl, ⟨hK, hE⟩, ?_⟩
        refine h_new 11 rfl rfl (by kernel_rfl) rfl (n_alloc rfl Tryd.zeroValue45 hL hE) ?_
        rintro _ w ⟨b7, rfl, hb7, hL, hE, hX⟩
        have hK := hL.sub (.cons _ (.cons _ (.cons_cons _ .slnil)))
        refine ⟨⟨hK, hE⟩, ?_⟩
        refine h_new_do 13 rfl rfl (by kernel_rfl) rfl (r_store 0 rfl Tryd.sizeOf45 rfl hL hE rfl rfl rfl rfl (fun h => absurd h (Nat.not_lt.2 hb7))) ?_
        rintro w ⟨hL, hE, hz, hk⟩
        have hK := hL.sub (.cons _ (.cons _ (.cons_cons _ .slnil)))
        refine ⟨⟨hK, hE⟩, ?_⟩
        refine h_new_do 14 rfl rfl (by kernel_rfl) rfl (r_store 1 rfl Tryd.sizeOf45 rfl hL hE rfl rfl rfl rfl (fun h => absurd h (Nat.not_lt.2 hb8))) ?_
        rintro w ⟨hL, hE, hz, hk⟩
        have hK := hL.sub (.cons _ (.cons _ (.cons_cons _ .slnil)))
        refine ⟨⟨hK, hE⟩, ?_⟩
        refine h_done (by kernel_rfl) ?_
        refine ⟨by repeat (first | exact Agree.over _ _ _ | exact Agree.refl _ _ | (refine Agree.puto ?_ _ _ rfl) | (refine Agree.put ?_ _ _ rfl) | (refine Agree.sub ?_ rfl)), ?_⟩
        exact ⟨b7, b8, rfl, rfl, (((hL.front 2 rfl).front 1 rfl).front 2 rfl), hE⟩
      · -- operation 11 first
        refine o_new 11 rfl rfl rfl rfl (n_alloc rfl Tryd.zeroValue45 hL hE) ?_
        rintro _ w ⟨b7, rfl, hb7, hL, hE, hX⟩
        have hK := hL.sub (.cons _ (.cons _ (.cons_cons _ .slnil)))
        refine ⟨⟨hK, hE⟩, ?_⟩
        refine h_by 10 rfl rfl (by kernel_rfl) rfl (r_call rfl rfl Tryd.func65 rfl rfl) (chosen_calls _ xb Ag cg g (hg.keep RNode.kept (Ext0.cells hE)) hok (Ext0.cells hE _ _ hx0) f Aw cw (hw.keep RInt.kept (Ext0.cells hE)) hf hi hpos Bk dk Bl dl (fun j v hj => by rw [← ht] at hj; exact Ext0.cells hE _ _ (hcell2 j v hj))) ?_   -- fact.go:56 slot 23 := (call {callee=(value (func 65)), args=[(tmp 21), (tmp 22)], argTypes=[73, 37]})
        rintro _ w ⟨rfl, hX⟩
        replace hL := hL.ext0 hX
        replace hE := hE.trans hX
        rw [← ht]
        have hK := hL.sub (.cons _ (.cons _ (.cons_cons _ .slnil)))
        refine ⟨_, rfl, ⟨hK, hE⟩, ?_⟩
        refine h_new_do 13 rfl rfl (by kernel_rfl) rfl (r_store 0 rfl Tryd.sizeOf45 rfl hL hE rfl rfl rfl rfl (fun h => absurd h (Nat.not_lt.2 hb7))) ?_
        rintro w ⟨hL, hE, hz, hk⟩
        have hK := hL.sub (.cons _ (.cons _ (.cons_cons _ .slnil)))
        refine ⟨⟨hK, hE⟩, ?_⟩
        refine h_new_do 14 rfl rfl (by kernel_rfl) rfl (r_store 1 rfl Tryd.sizeOf45 rfl hL hE rfl rfl rfl rfl (fun h => absurd h (Nat.not_lt.2 hb8))) ?_
        rintro w ⟨hL, hE, hz, hk⟩
        have hK := hL.sub (.cons _ (.cons _ (.cons_cons _ .slnil)))
        refine ⟨⟨hK, hE⟩, ?_⟩
        refine h_done (by kernel_rfl) ?_
        refine ⟨by repeat (first | exact Agree.over _ _ _ | exact Agree.refl _ _ | (refine Agree.puto ?_ _ _ rfl) | (refine Agree.put ?_ _ _ rfl) | (refine Agree.sub ?_ rfl)), ?_⟩
        exact ⟨b7, b8, rfl, rfl, (((hL.front 2 rfl).front 1 rfl).front 2 rfl), hE⟩
  rintro e w hI
  obtain ⟨b7, b8, h7, h8, hL, hE⟩ := hI
  refine c_know h7 ?_
  refine c_know (t := 8) (by exact h8) ?_
  refine c_seq ?_
  refine c_merge [24, 25, 26, 27, 28, 29, 30, 31, 32, 33, 34, 35, 36, 37, 38, 39, 40, 41, 42] (fun e w => e 42 = .bool (oddF s t) ∧ Has w [.blk b8 (.cells (nodeCells t Bk dk Bl dl).toArray 45 (0, 0)), .blk b7 (.cells (nodeCells s Ak ck Al cl).toArray 45 (0, 0)), .blk b3 (.cells (factCells f Aw cw).toArray 37 (0, 0))] ∧ Ext0 w0 w) ?_ ?_
  · -- merged
    -- region 2
    refine c_ops ?_
    refine l_val rfl rfl rfl (r_fieldAddr (n := 0) rfl Tryd.underlying45 rfl Tryd.sizeOf3 rfl) ?_
    refine l_val rfl rfl rfl (r_load_blk rfl Tryd.isAgg3 rfl (hL.get 1 rfl) rfl) ?_
    refine l_val rfl rfl rfl (r_fieldAddr (n := 0) rfl Tryd.underlying45 rfl Tryd.sizeOf3 rfl) ?_
    refine l_val rfl rfl rfl (r_load_blk rfl Tryd.isAgg3 rfl (hL.get 0 rfl) rfl) ?_
    refine l_val rfl rfl rfl (r_neq rfl rfl rfl) ?_
    refine l_val rfl rfl rfl (r_move rfl) ?_
    refine l_case 29 rfl (fun hb => ?_) (fun hb => ?_)
    · -- slot 29 is True
      have hr29 := hb
      replace hb := of_decide_eq_false (by simpa using hb)
      refine l_not rfl rfl rfl ?_
      refine l_not rfl rfl rfl ?_
      refine l_not rfl rfl rfl ?_
      refine l_not rfl rfl rfl ?_
      refine l_not rfl rfl rfl ?_
      refine l_val rfl rfl rfl (r_pick rfl rfl) ?_
      refine l_val rfl rfl rfl (r_move rfl) ?_
      refine l_not rfl rfl rfl ?_
      refine l_not rfl rfl rfl ?_
      refine l_not rfl rfl rfl ?_
      refine l_not rfl rfl rfl ?_
      refine l_not rfl rfl rfl ?_
      refine l_val rfl rfl rfl (r_pick rfl rfl) ?_
      refine l_nil ?_
      refine ⟨by repeat (first | exact Agree.over _ _ _ | exact Agree.refl _ _ | (refine Agree.puto ?_ _ _ rfl) | (refine Agree.put ?_ _ _ rfl) | (refine Agree.sub ?_ rfl)), ?_⟩
      exact ⟨congrArg Value.bool (by simp only [oddF, hr29, Bool.true_and, Bool.and_true, Bool.false_and, Bool.and_false, Bool.true_or, Bool.or_true, Bool.false_or, Bool.or_false, Bool.not_true, Bool.not_false, cond_true, cond_false]), hL, hE⟩
    · -- slot 29 is False
      have hr29 := hb
      replace hb := of_decide_eq_true (by simpa using hb)
      refine l_val rfl rfl rfl (r_fieldAddr (n := 0) rfl Tryd.underlying45 rfl Tryd.sizeOf9 rfl) ?_
      refine l_val rfl rfl rfl (r_load_blk rfl Tryd.isAgg9 rfl (hL.get 1 rfl) rfl) ?_
      refine l_val rfl rfl rfl (r_fieldAddr (n := 0) rfl Tryd.underlying45 rfl Tryd.sizeOf9 rfl) ?_
      refine l_val rfl rfl rfl (r_load_blk rfl Tryd.isAgg9 rfl (hL.get 0 rfl) rfl) ?_
      refine l_val rfl rfl rfl (r_sneq rfl rfl rfl) ?_
      refine l_val rfl rfl rfl (r_pick rfl rfl) ?_
      refine l_val rfl rfl rfl (r_move rfl) ?_
      refine l_case 36 rfl (fun hb => ?_) (fun hb => ?_)
      · -- slot 36 is True
        have hr36 := hb
        replace hb := of_decide_eq_false (by simpa using hb)
        refine l_not rfl rfl rfl ?_
        refine l_not rfl rfl rfl ?_
        refine l_not rfl rfl rfl ?_
        refine l_not rfl rfl rfl ?_
        refine l_not rfl rfl rfl ?_
        refine l_val rfl rfl rfl (r_pick rfl rfl) ?_
        refine l_nil ?_
        refine ⟨by repeat (first | exact Agree.over _ _ _ | exact Agree.refl _ _ | (refine Agree.puto ?_ _ _ rfl) | (refine Agree.put ?_ _ _ rfl) | (refine Agree.sub ?_ rfl)), ?_⟩
        exact ⟨congrArg Value.bool (by simp only [oddF, hr29, hr36, Bool.true_and, Bool.and_true, Bool.false_and, Bool.and_false, Bool.true_or, Bool.or_true, Bool.false_or, Bool.or_false, Bool.not_true, Bool.not_false, cond_true, cond_false]), hL, hE⟩
      · -- slot 36 is False
        have hr36 := hb
        replace hb := of_decide_eq_true (by simpa using hb)
        refine l_val rfl rfl rfl (r_fieldAddr (n := 0) rfl Tryd.underlying45 rfl Tryd.sizeOf3 rfl) ?_
        refine l_val rfl rfl rfl (r_load_blk rfl Tryd.isAgg3 rfl (hL.get 1 rfl) rfl) ?_
        refine l_val rfl rfl rfl (r_fieldAddr (n := 0) rfl Tryd.underlying45 rfl Tryd.sizeOf3 rfl) ?_
        refine l_val rfl rfl rfl (r_load_blk rfl Tryd.isAgg3 rfl (hL.get 0 rfl) rfl) ?_
        refine l_val rfl rfl rfl (r_neq rfl rfl rfl) ?_
        refine l_val rfl rfl rfl (r_pick rfl rfl) ?_
        refine l_nil ?_
        refine ⟨by repeat (first | exact Agree.over _ _ _ | exact Agree.refl _ _ | (refine Agree.puto ?_ _ _ rfl) | (refine Agree.put ?_ _ _ rfl) | (refine Agree.sub ?_ rfl)), ?_⟩
        exact ⟨congrArg Value.bool (by simp only [oddF, hr29, hr36, Bool.true_and, Bool.and_true, Bool.false_and, Bool.and_false, Bool.true_or, Bool.or_true, Bool.false_or, Bool.or_false, Bool.not_true, Bool.not_false, cond_true, cond_false]), hL, hE⟩
  rintro e w hI
  obtain ⟨h42, hL, hE⟩ := hI
  refine c_know h42 ?_
  refine c_cond rfl (fun hb => ?_) (fun hb => ?_)
  · -- True
    have hr42 := hb
    have hp : plainR s t = ([], false) := by unfold plainR; rw [if_pos hb]
    refine c_seq ?_
    -- region 3
    refine c_ops ?_
    refine l_val rfl rfl rfl (r_assign rfl) ?_
    refine l_val rfl rfl rfl (r_assign rfl) ?_
    refine l_val rfl rfl rfl (r_assign rfl) ?_
    refine l_nil ?_
    refine c_ret ?_
    exact RuleRes.of (r' := (true, [], false)) (by rw [hp]) ⟨_, rfl, nil_row _ _ _ _, hE⟩
  · -- False
    have hr42 := hb
    have hst : s.kind = t.kind := by
      unfold oddF at hb
      rw [Bool.or_eq_false_iff, Bool.or_eq_false_iff] at hb
      simpa using hb.1.1
    have hp : plainR s t = if s.kind = 9 then ([(iat s.l 0, iat t.l 0)], true) else match plainOn s (t.keys.zip t.l) with
      | none => ([], false)
      | some on => (on, true) := by unfold plainR; rw [if_neg (by rw [hb]; decide)]
    refine c_skip ?_
    refine c_seq ?_
    refine c_seq ?_
    -- region 4
    refine c_ops ?_
    refine l_val rfl rfl rfl (r_fieldAddr (n := 0) rfl Tryd.underlying45 rfl Tryd.sizeOf3 rfl) ?_
    refine l_val rfl rfl rfl (r_load_blk rfl Tryd.isAgg3 rfl (hL.get 1 rfl) rfl) ?_
    refine l_val rfl rfl rfl (r_eql rfl rfl rfl) ?_
    refine l_nil ?_
    refine c_cond rfl (fun hb => ?_) (fun hb => ?_)
    · -- True
      have hr45 := hb
      replace hb := of_decide_eq_true hb
      rw [if_pos hb] at hp
      have hl1 : s.l.length = 1 := by rcases hps with h | h | h | h | h | ⟨h, h1⟩ | ⟨h, h1⟩ <;> first | exact h1 | omega
      have hl2 : t.l.length = 1 := by rcases hpt with h | h | h | h | h | ⟨h, h1⟩ | ⟨h, h1⟩ <;> first | exact h1 | omega
      refine c_seq ?_
      -- region 5
      refine c_draw mixed (hL) hE ?_
      replace hL := hL.drew
      replace hE := hE.drew
      have hK := hL
      refine h_t 0 rfl rfl (by kernel_rfl) (fun _ _ _ h => h) ⟨hK, hE⟩ rfl (fun W hW => r_fieldAddr (n := 0) rfl Tryd.underlying45 rfl Tryd.sizeOf30 rfl) ?_
      refine h_t 1 rfl rfl (by kernel_rfl) (fun _ _ _ h => h) ⟨hK, hE⟩ rfl (fun W hW => r_load_blk rfl Tryd.isAgg30 rfl (hW.1.get 1 rfl) rfl) ?_
      refine h_t 2 rfl rfl (by kernel_rfl) (fun _ _ _ h => h) ⟨hK, hE⟩ rfl (fun W hW => r_indexAddr_sl rfl Tryd.underlying30 Tryd.sizeOf3 rfl hsl.is rfl (by omega) (by omega)) ?_
      refine h_t 3 rfl rfl (by kernel_rfl) (fun _ _ _ h => h) ⟨hK, hE⟩ rfl (fun W hW => r_load rfl Tryd.isAgg3 rfl ((hsl.keep RInt.kept (Ext0.cells hW.2)).int 0 (by omega) (by omega))) ?_
      refine h_t 4 rfl rfl (by kernel_rfl) (fun _ _ _ h => h) ⟨hK, hE⟩ rfl (fun W hW => r_fieldAddr (n := 0) rfl Tryd.underlying45 rfl Tryd.sizeOf30 rfl) ?_
      refine h_t 5 rfl rfl (by kernel_rfl) (fun _ _ _ h => h) ⟨hK, hE⟩ rfl (fun W hW => r_load_blk rfl Tryd.isAgg30 rfl (hW.1.get 0 rfl) rfl) ?_
      refine h_t 6 rfl rfl (by kernel_rfl) (fun _ _ _ h => h) ⟨hK, hE⟩ rfl (fun W hW => r_indexAddr_sl rfl Tryd.underlying30 Tryd.sizeOf3 rfl htl.is rfl (by omega) (by omega)) ?_
      refine h_t 7 rfl rfl (by kernel_rfl) (fun _ _ _ h => h) ⟨hK, hE⟩ rfl (fun W hW => r_load rfl Tryd.isAgg3 rfl ((htl.keep RInt.kept (Ext0.cells hW.2)).int 0 (by omega) (by omega))) ?_
      refine h_t 8 rfl rfl (by kernel_rfl) (fun _ _ _ h => h) ⟨hK, hE⟩ rfl (fun W hW => r_build rfl rfl (built_fpair _ _)) ?_   -- fact.go:61 slot 54 := (build 72 [(0, (tmp 49)), (1, (tmp 53))])
      refine h_t 10 rfl rfl (by kernel_rfl) (fun _ _ _ h => h) ⟨hK, hE⟩ rfl (fun W hW => r_assign rfl) ?_
      refine h_new 9 rfl rfl (by kernel_rfl) rfl (n_slice (cells := #[.int .i64 (iat s.l 0), .int .i64 (iat t.l 0)]) rfl Tryd.underlying93 Tryd.sizeOf72 Tryd.zeroValue72 rfl rfl (fill_pair _ _) hL hE) ?_
      rintro _ w ⟨s55, rfl, hs55, hL, hE, hX⟩
      have hK := hL.sub (.cons _ (.cons_cons _ (.cons_cons _ (.cons_cons _ .slnil))))
      refine ⟨⟨hK, hE⟩, ?_⟩
      refine h_t 11 rfl rfl (by kernel_rfl) (fun _ _ _ h => h) ⟨hK, hE⟩ rfl (fun W hW => r_assign rfl) ?_
      refine h_t 12 rfl rfl (by kernel_rfl) (fun _ _ _ h => h) ⟨hK, hE⟩ rfl (fun W hW => r_assign rfl) ?_
      refine h_done (by kernel_rfl) ?_
      refine c_ret ?_
      exact RuleRes.of (r' := (true, [(iat s.l 0, iat t.l 0)], true)) (by rw [hp]) ⟨_, rfl, (Has.asRow (n := 1) (sz := 2) hL hs55 rfl (by decide)).row 0 rfl, hE⟩
    · -- False
      have hr45 := hb
      replace hb := of_decide_eq_false hb
      rw [if_neg hb] at hp
      replace hL := hL.nilRow w0.heap.size 72 2
      refine c_skip ?_
      refine c_seq ?_
      refine c_seq ?_
      -- region 6
      refine c_ops ?_
      refine l_val rfl rfl rfl (r_fieldAddr (n := 0) rfl Tryd.underlying45 rfl Tryd.sizeOf43 rfl) ?_
      refine l_val rfl rfl rfl (r_load_blk rfl Tryd.isAgg43 rfl (hL.get 1 rfl) rfl) ?_
      refine l_val rfl rfl rfl (r_len rfl Tryd.underlying43 rfl) ?_
      refine l_val rfl rfl rfl (r_move rfl) ?_
      refine l_nil ?_
      refine c_block ?_
      -- loop 0: slots that it writes and that are read in it ahead of that: [59]
      refine c_loop [4, 5, 6, 9, 10, 11, 12, 59, 60, 61, 62, 63, 64, 65, 66, 67, 68, 69, 70, 71, 72, 73, 74, 75, 76, 77, 78, 79, 80, 81, 82, 83, 84, 85, 86, 87] (fun m1 e w => ∃ (k : Nat) (A5 : Option Addr) (c5 : Nat) (on : FP), k ≤ t.keys.length ∧ m1 = t.keys.length - k ∧ e 59 = .int .i64 k ∧ e 5 = .slice A5 on.length c5 ∧ on.length = k ∧ plainOn s (t.keys.zip t.l) = (plainOn s ((t.keys.zip t.l).drop k)).map (on ++ ·) ∧ Has w [.row w0.heap.size 72 2 (.slice A5 on.length c5) on.length (on.map cells2).flatten, .blk b8 (.cells (nodeCells t Bk dk Bl dl).toArray 45 (0, 0)), .blk b7 (.cells (nodeCells s Ak ck Al cl).toArray 45 (0, 0)), .blk b3 (.cells (factCells f Aw cw).toArray 37 (0, 0))] ∧ Ext0 w0 w) t.keys.length ?_ ?_
      · exact ⟨0, none, 0, [], Nat.zero_le _, rfl, rfl, rfl, rfl, by simp, hL, hE⟩
      intro m1 e w hI
      obtain ⟨k, A5, c5, on, hk, hm, h59, h5, honl, hon, hL, hE⟩ := hI
      refine c_know h59 ?_
      refine c_know (t := 5) (by exact h5) ?_
      refine c_seq ?_
      -- region 7
      refine c_ops ?_
      refine l_val rfl rfl rfl (r_lss rfl rfl rfl) ?_
      refine l_nil ?_
      refine c_seq ?_
      refine c_cond rfl (fun hb => ?_) (fun hb => ?_)
      · -- True
        have hr60 := hb
        replace hb := of_decide_eq_true hb
        have hkn : k < t.keys.length := by omega
        have hky := hit.keys hkn
        have hsr : risesB s.keys = true ∧ s.l.length = s.keys.length := by
          rcases his with ⟨h, _⟩ | ⟨h, _⟩ | ⟨h, hl, hr, _⟩ | ⟨h, _⟩ | ⟨h, _⟩
          · omega
          · omega
          · exact ⟨hr, hl⟩
          · omega
          · omega
        obtain ⟨hsr, hsll⟩ := hsr
        have hsb := hok.fits.lists _ (gat_mem' hf.a.1 hf.a.2)
        rw [← hs] at hsb
        obtain ⟨key, hkey⟩ : ∃ key, key = t.keys.getD (k : Int).toNat ByteArray.empty := ⟨_, rfl⟩
        have hstep := plainOn_step s (sat_nat hkn) (iat_nat (show k < t.l.length by omega))
        rw [← hkey] at hstep
        have hlt := idxS_lt s.keys key
        refine c_skip ?_
        refine c_seq ?_
        refine c_block ?_
        refine c_seq ?_
        -- region 8
        refine c_ops ?_
        refine l_val rfl rfl rfl (r_move rfl) ?_
        refine l_val rfl rfl rfl (r_indexAddr_sl rfl Tryd.underlying43 Tryd.sizeOf9 rfl htk.is rfl (by omega) (by omega)) ?_
        refine l_val rfl rfl rfl (r_load (v := .string key) rfl Tryd.isAgg9 rfl (by rw [hkey]; exact (htk.keep RStr.kept (Ext0.cells hE)).str k (by omega) (by omega))) ?_
        refine l_val rfl rfl rfl (r_assign rfl) ?_
        refine l_val rfl rfl rfl (r_assign rfl) ?_
        refine l_nil ?_
        refine c_seq ?_
        -- region 9
        refine c_ops ?_
        refine l_val rfl rfl rfl (r_fieldAddr (n := 0) rfl Tryd.underlying45 rfl Tryd.sizeOf43 rfl) ?_
        refine l_val rfl rfl rfl (r_load_blk rfl Tryd.isAgg43 rfl (hL.get 2 rfl) rfl) ?_
        refine l_val rfl rfl rfl (r_move rfl) ?_
        refine l_by rfl rfl rfl (r_call rfl rfl Tryd.func84 rfl rfl) (Binary_calls _ _ _ _ s.keys key (hsk.keep RStr.kept (Ext0.cells hE)) hsr (by omega)) ?_   -- fact.go:64 slot 68 := (call {callee=(value (func 84)), args=[(tmp 66), (tmp 67)], argTypes=[43, 9]})
        rintro _ w ⟨bi, rfl, hbi, hX⟩
        replace hL := hL.ext0 hX
        replace hE := hE.trans hX
        refine ⟨_, rfl, ?_⟩
        refine l_val rfl rfl rfl (r_move rfl) ?_
        refine l_val rfl rfl rfl (r_extract rfl rfl rfl) ?_
        refine l_val rfl rfl rfl (r_extract rfl rfl rfl) ?_
        refine l_val rfl rfl rfl (r_assign rfl) ?_
        refine l_val rfl rfl rfl (r_assign rfl) ?_
        refine l_nil ?_
        refine c_seq ?_
        refine c_seq ?_
        -- region 10
        refine c_ops ?_
        refine l_val rfl rfl rfl (r_move rfl) ?_
        refine l_val rfl rfl rfl (r_not rfl rfl) ?_
        refine l_nil ?_
        refine c_cond rfl (fun hb => ?_) (fun hb => ?_)
        · -- True
          have hr72 := hb
          have hneg : idxV (idxS s.keys key) < 0 := by simpa using hr72
          have hp2 : plainR s t = ([], false) := by rw [hp, hon, hstep, if_pos hneg]; rfl
          refine c_seq ?_
          -- region 11
          refine c_ops ?_
          refine l_val rfl rfl rfl (r_assign rfl) ?_
          refine l_val rfl rfl rfl (r_assign rfl) ?_
          refine l_val rfl rfl rfl (r_assign rfl) ?_
          refine l_nil ?_
          refine c_ret ?_
          exact RuleRes.of (r' := (true, [], false)) (by rw [hp2]) ⟨_, rfl, nil_row _ _ _ _, hE⟩
        · -- False
          have hr72 := hb
          have hge : 0 ≤ idxV (idxS s.keys key) := by simpa using hr72
          obtain rfl := hbi hge
          have hon2 : plainOn s (t.keys.zip t.l) = (plainOn s ((t.keys.zip t.l).drop (k + 1))).map ((on ++ [(iat s.l (idxV (idxS s.keys key)), iat t.l k)]) ++ ·) := by
            rw [hon, hstep, if_neg (by omega), Option.map_map]
            congr 1
            funext l
            simp
          refine c_skip ?_
          -- region 12
          refine c_draw mixed (hL.sub (.cons _ (.cons_cons _ (.cons_cons _ (.cons_cons _ .slnil))))) hE ?_
          replace hL := hL.drew
          replace hE := hE.drew
          have hK := hL.sub (.cons _ (.cons_cons _ (.cons_cons _ (.cons_cons _ .slnil))))
          refine h_t 0 rfl rfl (by kernel_rfl) (fun _ _ _ h => h) ⟨hK, hE⟩ rfl (fun W hW => r_move rfl) ?_
          refine h_t 1 rfl rfl (by kernel_rfl) (fun _ _ _ h => h) ⟨hK, hE⟩ rfl (fun W hW => r_fieldAddr (n := 0) rfl Tryd.underlying45 rfl Tryd.sizeOf30 rfl) ?_
          refine h_t 2 rfl rfl (by kernel_rfl) (fun _ _ _ h => h) ⟨hK, hE⟩ rfl (fun W hW => r_load_blk rfl Tryd.isAgg30 rfl (hW.1.get 1 rfl) rfl) ?_
          refine h_t 3 rfl rfl (by kernel_rfl) (fun _ _ _ h => h) ⟨hK, hE⟩ rfl (fun W hW => r_move rfl) ?_
          refine h_t 4 rfl rfl (by kernel_rfl) (fun _ _ _ h => h) ⟨hK, hE⟩ rfl (fun W hW => r_indexAddr_sl rfl Tryd.underlying30 Tryd.sizeOf3 rfl hsl.is rfl (by omega) (by omega)) ?_
          refine h_t 5 rfl rfl (by kernel_rfl) (fun _ _ _ h => h) ⟨hK, hE⟩ rfl (fun W hW => r_load (v := .int .i64 (iat s.l (idxV (idxS s.keys key)))) rfl Tryd.isAgg3 rfl (by skip; exact (hsl.keep RInt.kept (Ext0.cells hW.2)).int _ (by omega) (by omega))) ?_
          refine h_t 6 rfl rfl (by kernel_rfl) (fun _ _ _ h => h) ⟨hK, hE⟩ rfl (fun W hW => r_fieldAddr (n := 0) rfl Tryd.underlying45 rfl Tryd.sizeOf30 rfl) ?_
          refine h_t 7 rfl rfl (by kernel_rfl) (fun _ _ _ h => h) ⟨hK, hE⟩ rfl (fun W hW => r_load_blk rfl Tryd.isAgg30 rfl (hW.1.get 0 rfl) rfl) ?_
          refine h_t 8 rfl rfl (by kernel_rfl) (fun _ _ _ h => h) ⟨hK, hE⟩ rfl (fun W hW => r_move rfl) ?_
          refine h_t 9 rfl rfl (by kernel_rfl) (fun _ _ _ h => h) ⟨hK, hE⟩ rfl (fun W hW => r_indexAddr_sl rfl Tryd.underlying30 Tryd.sizeOf3 rfl htl.is rfl (by omega) (by omega)) ?_
          refine h_t 10 rfl rfl (by kernel_rfl) (fun _ _ _ h => h) ⟨hK, hE⟩ rfl (fun W hW => r_load rfl Tryd.isAgg3 rfl ((htl.keep RInt.kept (Ext0.cells hW.2)).int k (by omega) (by omega))) ?_
          refine h_t 11 rfl rfl (by kernel_rfl) (fun _ _ _ h => h) ⟨hK, hE⟩ rfl (fun W hW => r_build rfl rfl (built_fpair _ _)) ?_   -- fact.go:68 slot 84 := (build 72 [(0, (tmp 78)), (1, (tmp 83))])
          refine h_new 12 rfl rfl (by kernel_rfl) rfl (n_slice (cells := #[.int .i64 (iat s.l (idxV (idxS s.keys key))), .int .i64 (iat t.l k)]) rfl Tryd.underlying93 Tryd.sizeOf72 Tryd.zeroValue72 rfl rfl (fill_pair _ _) hL hE) ?_
          rintro _ w ⟨s85, rfl, hs85, hL, hE, hX⟩
          have hK := hL.sub (.cons _ (.cons _ (.cons_cons _ (.cons_cons _ (.cons_cons _ .slnil)))))
          refine ⟨⟨hK, hE⟩, ?_⟩
          refine h_new 13 rfl rfl (by kernel_rfl) rfl (r_append (ys := cells2 (iat s.l (idxV (idxS s.keys key)), iat t.l k)) 1 rfl Tryd.underlying93 info_fpair rfl (by decide) rfl rfl hL hE rfl rfl (blk_raw (cs := #[.int .i64 (iat s.l (idxV (idxS s.keys key))), .int .i64 (iat t.l k)]) (hL.get 0 rfl) rfl) (fun u hu => by simp [cells2] at hu; rcases hu with rfl | rfl <;> rfl) (by omega) (by omega) (Nat.le_refl _) hE.size) ?_
          rintro _ w ⟨hL, hE, hk⟩
          obtain ⟨A8, c8, rfl⟩ := ownsRow_slice (hL.row 1 rfl)
          replace hL : Has w ([.blk s85 (.cells #[.int .i64 (iat s.l (idxV (idxS s.keys key))), .int .i64 (iat t.l k)] 72 (0, 0)), .row w0.heap.size 72 2 (.slice A8 (on ++ [(iat s.l (idxV (idxS s.keys key)), iat t.l k)]).length c8) (on ++ [(iat s.l (idxV (idxS s.keys key)), iat t.l k)]).length ((on ++ [(iat s.l (idxV (idxS s.keys key)), iat t.l k)]).map cells2).flatten, .blk b8 (.cells (nodeCells t Bk dk Bl dl).toArray 45 (0, 0)), .blk b7 (.cells (nodeCells s Ak ck Al cl).toArray 45 (0, 0)), .blk b3 (.cells (factCells f Aw cw).toArray 37 (0, 0))]) := by rw [← pairs_snoc, List.length_append]; exact hL
          have hK := hL.sub (.cons _ (.cons _ (.cons_cons _ (.cons_cons _ (.cons_cons _ .slnil)))))
          refine ⟨⟨hK, hE⟩, ?_⟩
          refine h_t 14 rfl rfl (by kernel_rfl) (fun _ _ _ h => h) ⟨hK, hE⟩ rfl (fun W hW => r_assign rfl) ?_
          refine h_done (by kernel_rfl) ?_
          -- region 13
          refine c_ops ?_
          refine l_val rfl rfl rfl (r_add rfl rfl rfl) ?_
          refine l_val rfl rfl rfl (r_move rfl) ?_
          refine l_nil ?_
          refine ⟨by repeat (first | exact Agree.over _ _ _ | exact Agree.refl _ _ | (refine Agree.puto ?_ _ _ rfl) | (refine Agree.put ?_ _ _ rfl) | (refine Agree.sub ?_ rfl)), ?_⟩
          exact ⟨t.keys.length - (k + 1), by omega, k + 1, A8, c8, on ++ [(iat s.l (idxV (idxS s.keys key)), iat t.l k)], by omega, rfl, by show Value.int .i64 (IntKind.i64.wrap ((k : Int) + 1)) = _; rw [wrap_succ hkn htk.max], congrArg (fun n => Value.slice A8 n c8) (by simp), by simp [honl], hon2, hL.tail, hE⟩
      · -- False
        have hr60 := hb
        replace hb := of_decide_eq_false hb
        obtain rfl : k = t.keys.length := by omega
        rw [List.drop_eq_nil_of_le (by simp; omega)] at hon
        have hp2 : plainR s t = (on, true) := by rw [hp, hon]; simp [plainOn]
        refine c_exit ?_
        refine c_seq ?_
        -- region 14
        refine c_ops ?_
        refine l_val rfl rfl rfl (r_move rfl) ?_
        refine l_val rfl rfl rfl (r_assign rfl) ?_
        refine l_val rfl rfl rfl (r_assign rfl) ?_
        refine l_val rfl rfl rfl (r_assign rfl) ?_
        refine l_nil ?_
        refine c_ret ?_
        exact RuleRes.of (r' := (true, on, true)) (by rw [hp2]) ⟨_, rfl, hL.row 0 rfl, hE⟩
end Go.Proofs.YtndophlnapjkhaaDoor.Vc
